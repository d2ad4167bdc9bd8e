-- Made by pack.py of the texts that the law reaches.
import Derived.Deep.RegionLaw
import Derived.RegionTactic
import Derived.Test.YtgoiifpimpnlpaaV2
section
namespace Go.Proofs.Ytgoiifpimpnlpaa.PAll
open Go.RowKit Go.Proofs.YtgoiifpimpnlpaaW.PrintWords Go.Proofs.YtgoiifpimpnlpaaW.PrintLast Go.Proofs.YtgoiifpimpnlpaaW.PrintMore
attribute [local go_sem] max2_int min2_int max_two min_two max_three min_three max_four min_four   -- for this text's walks alone
set_option linter.unusedVariables false
set_option linter.unusedSimpArgs false
def spec_l6Start.f  : Option (Bool × Int × Int × Int × (List (S147)) × (List (S150)) × (List (S153))) := some (false, 0, (-1), (-1), ([] : List (S147)), ([] : List (S150)), ([] : List (S153)))
set_option maxHeartbeats 8000000 in
set_option maxRecDepth 100000 in
theorem spec_l6Start.calls  (r1 : Bool) (r2 : Int) (r3 : Int) (r4 : Int) (r5 : List (S147)) (r6 : List (S150)) (r7 : List (S153)) (w : World) (h : spec_l6Start.f  = some (r1, r2, r3, r4, r5, r6, r7)) :
    Calls Try.prog 78 #[] w fun e w' => ∃ v4_ v5_ v6_ : Value, e = .returned (.agg #[.bool r1, .int .i64 r2, .int .i64 r3, .int .i64 r4, v4_, v5_, v6_]) ∧ Kd.R k147 147 w' w.heap.size (fun _ => True) v4_ r5 ∧ Kd.R k150 150 w' w.heap.size (fun _ => True) v5_ r6 ∧ Kd.R k153 153 w' w.heap.size (fun _ => True) v6_ r7 ∧ Below w.heap.size w w' := by
  have hu55 := Try.underlying55
  have HB := ab_ (Below.refl w.heap.size w)
  have H : (some (false, 0, (-1), (-1), ([] : List (S147)), ([] : List (S150)), ([] : List (S153)))) = some (r1, r2, r3, r4, r5, r6, r7) := h
  clear h
  simp only [Option.some.injEq, Prod.mk.injEq] at H
  obtain ⟨rfl, rfl, rfl, rfl, rfl, rfl, rfl⟩ := H
  go_enter Try.func78, Try.ntmps78
  go_wp2_with (first | ((with_reducible refine gate_dst (N := 0) rfl ?_); refine box_event ?hg (N := 0) ?hd (cs := #[.bool false, .int .i64 0, .int .i64 0, .int .i64 0, .slice none 0 0, .slice none 0 0, .slice none 0 0]) (t := 55) ?hr ?_; (case hd => rfl); (case hg => rfl); (case hr => first | (go_simp; done) | (go_simp; rfl)); intro gb956 hg w1 hbox hb; have n0_ := ab_ (ao_ (by repeat (first | (with_reducible first | exact HB.out | apply ai_ | apply ag_ | apply ah_) | exact HB.out)) hb); have n1_ := ab_ (hbox); have n2_ := ab_ ((by rw [hg]; exact (below_size (by repeat (first | (with_reducible first | exact HB.out | apply ai_ | apply ag_ | apply ah_) | exact HB.out))) : w.heap.size ≤ gb956)); have n3_ := ab_ ((by rw [hg]; exact (below_size (by repeat (first | (with_reducible first | exact HB.out | apply ai_ | apply ag_ | apply ah_) | exact HB.out))) : w.heap.size ≤ gb956)); clear HB; have HB := n0_; have BK956 := n1_; have GW956 := n2_; have GE956 := n3_; clear n0_ n1_ n2_ n3_; clear hb hbox hg; have hcz2_0 : w1.cell? ⟨gb956, 0, none⟩ = some (.bool false) := (am_ BK956.out 0).trans rfl; have hcz2_1 : w1.cell? ⟨gb956, 1, none⟩ = some (.int .i64 0) := (am_ BK956.out 1).trans rfl; have hcz2_2 : w1.cell? ⟨gb956, 2, none⟩ = some (.int .i64 0) := (am_ BK956.out 2).trans rfl; have hcz2_3 : w1.cell? ⟨gb956, 3, none⟩ = some (.int .i64 0) := (am_ BK956.out 3).trans rfl; have hcz2_4 : w1.cell? ⟨gb956, 4, none⟩ = some (.slice none 0 0) := (am_ BK956.out 4).trans rfl; have hcz2_5 : w1.cell? ⟨gb956, 5, none⟩ = some (.slice none 0 0) := (am_ BK956.out 5).trans rfl; have hcz2_6 : w1.cell? ⟨gb956, 6, none⟩ = some (.slice none 0 0) := (am_ BK956.out 6).trans rfl; have hfz2_0 := al_ BK956.out 0; have hfz2_1 := al_ BK956.out 1; have hfz2_2 := al_ BK956.out 2; have hfz2_3 := al_ BK956.out 3; have hfz2_4 := al_ BK956.out 4; have hfz2_5 := al_ BK956.out 5; have hfz2_6 := al_ BK956.out 6))
  refine bodyPost_ret (results_cell_row rfl _ _ gb956 55 #[.bool false, .int .i64 0, .int .i64 (-1), .int .i64 (-1), .slice none 0 0, .slice none 0 0, .slice none 0 0] (0, 0) _ rfl (by (with_reducible repeat (first | refine ac_ ?_ _ | refine ae_ ?_ | refine ad_ ?_ _)); refine blk_put (cs := #[.bool false, .int .i64 0, .int .i64 (-1), .int .i64 (-1), .slice none 0 0, .slice none 0 0, .slice none 0 0]) ?_ 6 _ rfl; (with_reducible repeat (first | refine ac_ ?_ _ | refine ae_ ?_ | refine ad_ ?_ _)); refine blk_put (cs := #[.bool false, .int .i64 0, .int .i64 (-1), .int .i64 (-1), .slice none 0 0, .slice none 0 0, .slice none 0 0]) ?_ 5 _ rfl; (with_reducible repeat (first | refine ac_ ?_ _ | refine ae_ ?_ | refine ad_ ?_ _)); refine blk_put (cs := #[.bool false, .int .i64 0, .int .i64 (-1), .int .i64 (-1), .slice none 0 0, .slice none 0 0, .slice none 0 0]) ?_ 4 _ rfl; (with_reducible repeat (first | refine ac_ ?_ _ | refine ae_ ?_ | refine ad_ ?_ _)); refine blk_put (cs := #[.bool false, .int .i64 0, .int .i64 (-1), .int .i64 0, .slice none 0 0, .slice none 0 0, .slice none 0 0]) ?_ 3 _ rfl; (with_reducible repeat (first | refine ac_ ?_ _ | refine ae_ ?_ | refine ad_ ?_ _)); refine blk_put (cs := #[.bool false, .int .i64 0, .int .i64 0, .int .i64 0, .slice none 0 0, .slice none 0 0, .slice none 0 0]) ?_ 2 _ rfl; (with_reducible repeat (first | refine ac_ ?_ _ | refine ae_ ?_ | refine ad_ ?_ _)); refine blk_put (cs := #[.bool false, .int .i64 0, .int .i64 0, .int .i64 0, .slice none 0 0, .slice none 0 0, .slice none 0 0]) ?_ 1 _ rfl; (with_reducible repeat (first | refine ac_ ?_ _ | refine ae_ ?_ | refine ad_ ?_ _)); refine blk_put (cs := #[.bool false, .int .i64 0, .int .i64 0, .int .i64 0, .slice none 0 0, .slice none 0 0, .slice none 0 0]) ?_ 0 _ rfl; (with_reducible repeat (first | refine ac_ ?_ _ | refine ae_ ?_ | refine ad_ ?_ _)); exact BK956.out) Try.underlying55 rfl (by kernel_rfl)) rfl ?_
  exact ⟨_, _, _, by first | rfl | (simp [errW_none, errW_some] <;> rfl) | (simp [*, errW_none, errW_some] <;> rfl), by first | exact Kd.R_nil _ _ _ _ _ | exact Kd.N_nil _ _ _ _ _ | exact Kd.V_nil _ _ _ _ _ | exact Kd.Q_nil _ _ _ _ _ | exact Kd.S_nil _ _ _ _ _, by first | exact Kd.R_nil _ _ _ _ _ | exact Kd.N_nil _ _ _ _ _ | exact Kd.V_nil _ _ _ _ _ | exact Kd.Q_nil _ _ _ _ _ | exact Kd.S_nil _ _ _ _ _, by first | exact Kd.R_nil _ _ _ _ _ | exact Kd.N_nil _ _ _ _ _ | exact Kd.V_nil _ _ _ _ _ | exact Kd.Q_nil _ _ _ _ _ | exact Kd.S_nil _ _ _ _ _, by repeat (first | (with_reducible first | exact HB.out | apply ai_ | apply ag_ | apply ah_ | refine af_ ?_ GE956.out) | exact HB.out)⟩
def laws_eqFrame.f (a0_0 : Int) (a0_1 : Int) (a0_2 : Int) (a0_3 : Int) (a1_0 : Int) (a1_1 : Int) (a1_2 : Int) (a1_3 : Int) : Option (Bool) := if a0_0 = a1_0 then (if a0_1 = a1_1 then (if a0_2 = a1_2 then (if a0_3 = a1_3 then (some true) else (some false)) else (some false)) else (some false)) else (some false)
set_option maxHeartbeats 8000000 in
set_option maxRecDepth 100000 in
theorem laws_eqFrame.calls (a0_0 : Int) (a0_1 : Int) (a0_2 : Int) (a0_3 : Int) (a1_0 : Int) (a1_1 : Int) (a1_2 : Int) (a1_3 : Int) (r : Bool) (w : World) (h : laws_eqFrame.f a0_0 a0_1 a0_2 a0_3 a1_0 a1_1 a1_2 a1_3 = some r) :
    Calls Try.prog 124 #[.agg #[.int .i64 a0_0, .int .i64 a0_1, .int .i64 a0_2, .int .i64 a0_3], .agg #[.int .i64 a1_0, .int .i64 a1_1, .int .i64 a1_2, .int .i64 a1_3]] w fun e w' => e = .returned (.bool r) ∧ Below w.heap.size w w' := by
  have hu147 := Try.underlying147
  have HB := ab_ (Below.refl w.heap.size w)
  have H : (if a0_0 = a1_0 then (if a0_1 = a1_1 then (if a0_2 = a1_2 then (if a0_3 = a1_3 then (some true) else (some false)) else (some false)) else (some false)) else (some false)) = some r := h
  clear h
  by_cases c3 : a0_0 = a1_0
  · rw [if_pos c3] at H
    have c3b0 : (a0_0 == a1_0) = true := beq_iff_eq.mpr c3
    have c3b1 : (a0_0 != a1_0) = false := bne_eq_false_iff_eq.mpr c3
    clear c3
    by_cases c4 : a0_1 = a1_1
    · rw [if_pos c4] at H
      have c4b0 : (a0_1 == a1_1) = true := beq_iff_eq.mpr c4
      have c4b1 : (a0_1 != a1_1) = false := bne_eq_false_iff_eq.mpr c4
      clear c4
      by_cases c5 : a0_2 = a1_2
      · rw [if_pos c5] at H
        have c5b0 : (a0_2 == a1_2) = true := beq_iff_eq.mpr c5
        have c5b1 : (a0_2 != a1_2) = false := bne_eq_false_iff_eq.mpr c5
        clear c5
        by_cases c6 : a0_3 = a1_3
        · rw [if_pos c6] at H
          have c6b0 : (a0_3 == a1_3) = true := beq_iff_eq.mpr c6
          have c6b1 : (a0_3 != a1_3) = false := bne_eq_false_iff_eq.mpr c6
          clear c6
          obtain rfl := Option.some.inj H
          go_enter Try.func124, Try.ntmps124
          go_wp2_with (first | ((with_reducible refine gate_dst (N := 2) rfl ?_); refine box_event ?hg (N := 2) ?hd (cs := #[.int .i64 a0_0, .int .i64 a0_1, .int .i64 a0_2, .int .i64 a0_3]) (t := 147) ?hr ?_; (case hd => rfl); (case hg => rfl); (case hr => first | (go_simp; done) | (go_simp; rfl)); intro gb959 hg w7 hbox hb; have n0_ := ab_ (ao_ (by repeat (first | (with_reducible first | exact HB.out | apply ai_ | apply ag_ | apply ah_) | exact HB.out)) hb); have n1_ := ab_ (hbox); have n2_ := ab_ ((by rw [hg]; exact (below_size (by repeat (first | (with_reducible first | exact HB.out | apply ai_ | apply ag_ | apply ah_) | exact HB.out))) : w.heap.size ≤ gb959)); have n3_ := ab_ ((by rw [hg]; exact (below_size (by repeat (first | (with_reducible first | exact HB.out | apply ai_ | apply ag_ | apply ah_) | exact HB.out))) : w.heap.size ≤ gb959)); clear HB; have HB := n0_; have BK959 := n1_; have GW959 := n2_; have GE959 := n3_; clear n0_ n1_ n2_ n3_; clear hb hbox hg) | ((with_reducible refine gate_dst (N := 3) rfl ?_); refine box_event ?hg (N := 3) ?hd (cs := #[.int .i64 a1_0, .int .i64 a1_1, .int .i64 a1_2, .int .i64 a1_3]) (t := 147) ?hr ?_; (case hd => rfl); (case hg => rfl); (case hr => first | (go_simp; done) | (go_simp; rfl)); intro gb960 hg w8 hbox hb; have n0_ := ab_ (blk_below (g := gb959) (o := .cells #[.int .i64 a0_0, .int .i64 a0_1, .int .i64 a0_2, .int .i64 a0_3] 147 (0, 0)) (by (with_reducible repeat (first | refine ac_ ?_ _ | refine ae_ ?_ | refine ad_ ?_ _)); exact BK959.out) hb); have n1_ := ab_ (ao_ (by repeat (first | (with_reducible first | exact HB.out | apply ai_ | apply ag_ | apply ah_ | refine af_ ?_ GE959.out) | exact HB.out)) hb); have n2_ := ab_ (hbox); have n3_ := ab_ ((by rw [hg]; exact (below_size (by repeat (first | (with_reducible first | exact HB.out | apply ai_ | apply ag_ | apply ah_ | refine af_ ?_ GE959.out) | exact HB.out))) : w.heap.size ≤ gb960)); have n4_ := ab_ ((by rw [hg]; exact (below_size (by repeat (first | (with_reducible first | exact HB.out | apply ai_ | apply ag_ | apply ah_ | refine af_ ?_ GE959.out) | exact HB.out))) : w.heap.size ≤ gb960)); have n5_ := ab_ ((by rw [hg]; exact ak_ (blk_lt (g := gb959) (o := .cells #[.int .i64 a0_0, .int .i64 a0_1, .int .i64 a0_2, .int .i64 a0_3] 147 (0, 0)) (by (with_reducible repeat (first | refine ac_ ?_ _ | refine ae_ ?_ | refine ad_ ?_ _)); exact BK959.out)) : gb959 ≠ gb960)); have n6_ := ab_ ((by rw [hg]; exact Nat.ne_of_gt (blk_lt (g := gb959) (o := .cells #[.int .i64 a0_0, .int .i64 a0_1, .int .i64 a0_2, .int .i64 a0_3] 147 (0, 0)) (by (with_reducible repeat (first | refine ac_ ?_ _ | refine ae_ ?_ | refine ad_ ?_ _)); exact BK959.out)) : gb960 ≠ gb959)); clear BK959; clear HB; have BK959 := n0_; have HB := n1_; have BK960 := n2_; have GW960 := n3_; have GE960 := n4_; have NB959_960 := n5_; have NB960_959 := n6_; clear n0_ n1_ n2_ n3_ n4_ n5_ n6_; clear hb hbox hg; have hnb9 := NB959_960.out; have hnc9 := NB960_959.out; have hcz10_0 : w8.cell? ⟨gb959, 0, none⟩ = some (.int .i64 a0_0) := (am_ BK959.out 0).trans rfl; have hcz10_1 : w8.cell? ⟨gb959, 1, none⟩ = some (.int .i64 a0_1) := (am_ BK959.out 1).trans rfl; have hcz10_2 : w8.cell? ⟨gb959, 2, none⟩ = some (.int .i64 a0_2) := (am_ BK959.out 2).trans rfl; have hcz10_3 : w8.cell? ⟨gb959, 3, none⟩ = some (.int .i64 a0_3) := (am_ BK959.out 3).trans rfl; have hfz10_0 := al_ BK959.out 0; have hfz10_1 := al_ BK959.out 1; have hfz10_2 := al_ BK959.out 2; have hfz10_3 := al_ BK959.out 3; have hcz11_0 : w8.cell? ⟨gb960, 0, none⟩ = some (.int .i64 a1_0) := (am_ BK960.out 0).trans rfl; have hcz11_1 : w8.cell? ⟨gb960, 1, none⟩ = some (.int .i64 a1_1) := (am_ BK960.out 1).trans rfl; have hcz11_2 : w8.cell? ⟨gb960, 2, none⟩ = some (.int .i64 a1_2) := (am_ BK960.out 2).trans rfl; have hcz11_3 : w8.cell? ⟨gb960, 3, none⟩ = some (.int .i64 a1_3) := (am_ BK960.out 3).trans rfl; have hfz11_0 := al_ BK960.out 0; have hfz11_1 := al_ BK960.out 1; have hfz11_2 := al_ BK960.out 2; have hfz11_3 := al_ BK960.out 3))
          go_ret
          exact ⟨by first | rfl | (simp [errW_none, errW_some] <;> rfl) | (simp [*, errW_none, errW_some] <;> rfl), by repeat (first | (with_reducible first | exact HB.out | apply ai_ | apply ag_ | apply ah_ | refine af_ ?_ GE959.out | refine af_ ?_ GE960.out) | exact HB.out)⟩
        · rw [if_neg c6] at H
          have c6b0 : (a0_3 == a1_3) = false := beq_eq_false_iff_ne.mpr c6
          have c6b1 : (a0_3 != a1_3) = true := bne_iff_ne.mpr c6
          obtain rfl := Option.some.inj H
          go_enter Try.func124, Try.ntmps124
          go_wp2_with (first | ((with_reducible refine gate_dst (N := 2) rfl ?_); refine box_event ?hg (N := 2) ?hd (cs := #[.int .i64 a0_0, .int .i64 a0_1, .int .i64 a0_2, .int .i64 a0_3]) (t := 147) ?hr ?_; (case hd => rfl); (case hg => rfl); (case hr => first | (go_simp; done) | (go_simp; rfl)); intro gb959 hg w12 hbox hb; have n0_ := ab_ (ao_ (by repeat (first | (with_reducible first | exact HB.out | apply ai_ | apply ag_ | apply ah_) | exact HB.out)) hb); have n1_ := ab_ (hbox); have n2_ := ab_ ((by rw [hg]; exact (below_size (by repeat (first | (with_reducible first | exact HB.out | apply ai_ | apply ag_ | apply ah_) | exact HB.out))) : w.heap.size ≤ gb959)); have n3_ := ab_ ((by rw [hg]; exact (below_size (by repeat (first | (with_reducible first | exact HB.out | apply ai_ | apply ag_ | apply ah_) | exact HB.out))) : w.heap.size ≤ gb959)); clear HB; have HB := n0_; have BK959 := n1_; have GW959 := n2_; have GE959 := n3_; clear n0_ n1_ n2_ n3_; clear hb hbox hg) | ((with_reducible refine gate_dst (N := 3) rfl ?_); refine box_event ?hg (N := 3) ?hd (cs := #[.int .i64 a1_0, .int .i64 a1_1, .int .i64 a1_2, .int .i64 a1_3]) (t := 147) ?hr ?_; (case hd => rfl); (case hg => rfl); (case hr => first | (go_simp; done) | (go_simp; rfl)); intro gb960 hg w13 hbox hb; have n0_ := ab_ (blk_below (g := gb959) (o := .cells #[.int .i64 a0_0, .int .i64 a0_1, .int .i64 a0_2, .int .i64 a0_3] 147 (0, 0)) (by (with_reducible repeat (first | refine ac_ ?_ _ | refine ae_ ?_ | refine ad_ ?_ _)); exact BK959.out) hb); have n1_ := ab_ (ao_ (by repeat (first | (with_reducible first | exact HB.out | apply ai_ | apply ag_ | apply ah_ | refine af_ ?_ GE959.out) | exact HB.out)) hb); have n2_ := ab_ (hbox); have n3_ := ab_ ((by rw [hg]; exact (below_size (by repeat (first | (with_reducible first | exact HB.out | apply ai_ | apply ag_ | apply ah_ | refine af_ ?_ GE959.out) | exact HB.out))) : w.heap.size ≤ gb960)); have n4_ := ab_ ((by rw [hg]; exact (below_size (by repeat (first | (with_reducible first | exact HB.out | apply ai_ | apply ag_ | apply ah_ | refine af_ ?_ GE959.out) | exact HB.out))) : w.heap.size ≤ gb960)); have n5_ := ab_ ((by rw [hg]; exact ak_ (blk_lt (g := gb959) (o := .cells #[.int .i64 a0_0, .int .i64 a0_1, .int .i64 a0_2, .int .i64 a0_3] 147 (0, 0)) (by (with_reducible repeat (first | refine ac_ ?_ _ | refine ae_ ?_ | refine ad_ ?_ _)); exact BK959.out)) : gb959 ≠ gb960)); have n6_ := ab_ ((by rw [hg]; exact Nat.ne_of_gt (blk_lt (g := gb959) (o := .cells #[.int .i64 a0_0, .int .i64 a0_1, .int .i64 a0_2, .int .i64 a0_3] 147 (0, 0)) (by (with_reducible repeat (first | refine ac_ ?_ _ | refine ae_ ?_ | refine ad_ ?_ _)); exact BK959.out)) : gb960 ≠ gb959)); clear BK959; clear HB; have BK959 := n0_; have HB := n1_; have BK960 := n2_; have GW960 := n3_; have GE960 := n4_; have NB959_960 := n5_; have NB960_959 := n6_; clear n0_ n1_ n2_ n3_ n4_ n5_ n6_; clear hb hbox hg; have hnb14 := NB959_960.out; have hnc14 := NB960_959.out; have hcz15_0 : w13.cell? ⟨gb959, 0, none⟩ = some (.int .i64 a0_0) := (am_ BK959.out 0).trans rfl; have hcz15_1 : w13.cell? ⟨gb959, 1, none⟩ = some (.int .i64 a0_1) := (am_ BK959.out 1).trans rfl; have hcz15_2 : w13.cell? ⟨gb959, 2, none⟩ = some (.int .i64 a0_2) := (am_ BK959.out 2).trans rfl; have hcz15_3 : w13.cell? ⟨gb959, 3, none⟩ = some (.int .i64 a0_3) := (am_ BK959.out 3).trans rfl; have hfz15_0 := al_ BK959.out 0; have hfz15_1 := al_ BK959.out 1; have hfz15_2 := al_ BK959.out 2; have hfz15_3 := al_ BK959.out 3; have hcz16_0 : w13.cell? ⟨gb960, 0, none⟩ = some (.int .i64 a1_0) := (am_ BK960.out 0).trans rfl; have hcz16_1 : w13.cell? ⟨gb960, 1, none⟩ = some (.int .i64 a1_1) := (am_ BK960.out 1).trans rfl; have hcz16_2 : w13.cell? ⟨gb960, 2, none⟩ = some (.int .i64 a1_2) := (am_ BK960.out 2).trans rfl; have hcz16_3 : w13.cell? ⟨gb960, 3, none⟩ = some (.int .i64 a1_3) := (am_ BK960.out 3).trans rfl; have hfz16_0 := al_ BK960.out 0; have hfz16_1 := al_ BK960.out 1; have hfz16_2 := al_ BK960.out 2; have hfz16_3 := al_ BK960.out 3))
          go_ret
          exact ⟨by first | rfl | (simp [errW_none, errW_some] <;> rfl) | (simp [*, errW_none, errW_some] <;> rfl), by repeat (first | (with_reducible first | exact HB.out | apply ai_ | apply ag_ | apply ah_ | refine af_ ?_ GE959.out | refine af_ ?_ GE960.out) | exact HB.out)⟩
      · rw [if_neg c5] at H
        have c5b0 : (a0_2 == a1_2) = false := beq_eq_false_iff_ne.mpr c5
        have c5b1 : (a0_2 != a1_2) = true := bne_iff_ne.mpr c5
        obtain rfl := Option.some.inj H
        go_enter Try.func124, Try.ntmps124
        go_wp2_with (first | ((with_reducible refine gate_dst (N := 2) rfl ?_); refine box_event ?hg (N := 2) ?hd (cs := #[.int .i64 a0_0, .int .i64 a0_1, .int .i64 a0_2, .int .i64 a0_3]) (t := 147) ?hr ?_; (case hd => rfl); (case hg => rfl); (case hr => first | (go_simp; done) | (go_simp; rfl)); intro gb959 hg w17 hbox hb; have n0_ := ab_ (ao_ (by repeat (first | (with_reducible first | exact HB.out | apply ai_ | apply ag_ | apply ah_) | exact HB.out)) hb); have n1_ := ab_ (hbox); have n2_ := ab_ ((by rw [hg]; exact (below_size (by repeat (first | (with_reducible first | exact HB.out | apply ai_ | apply ag_ | apply ah_) | exact HB.out))) : w.heap.size ≤ gb959)); have n3_ := ab_ ((by rw [hg]; exact (below_size (by repeat (first | (with_reducible first | exact HB.out | apply ai_ | apply ag_ | apply ah_) | exact HB.out))) : w.heap.size ≤ gb959)); clear HB; have HB := n0_; have BK959 := n1_; have GW959 := n2_; have GE959 := n3_; clear n0_ n1_ n2_ n3_; clear hb hbox hg) | ((with_reducible refine gate_dst (N := 3) rfl ?_); refine box_event ?hg (N := 3) ?hd (cs := #[.int .i64 a1_0, .int .i64 a1_1, .int .i64 a1_2, .int .i64 a1_3]) (t := 147) ?hr ?_; (case hd => rfl); (case hg => rfl); (case hr => first | (go_simp; done) | (go_simp; rfl)); intro gb960 hg w18 hbox hb; have n0_ := ab_ (blk_below (g := gb959) (o := .cells #[.int .i64 a0_0, .int .i64 a0_1, .int .i64 a0_2, .int .i64 a0_3] 147 (0, 0)) (by (with_reducible repeat (first | refine ac_ ?_ _ | refine ae_ ?_ | refine ad_ ?_ _)); exact BK959.out) hb); have n1_ := ab_ (ao_ (by repeat (first | (with_reducible first | exact HB.out | apply ai_ | apply ag_ | apply ah_ | refine af_ ?_ GE959.out) | exact HB.out)) hb); have n2_ := ab_ (hbox); have n3_ := ab_ ((by rw [hg]; exact (below_size (by repeat (first | (with_reducible first | exact HB.out | apply ai_ | apply ag_ | apply ah_ | refine af_ ?_ GE959.out) | exact HB.out))) : w.heap.size ≤ gb960)); have n4_ := ab_ ((by rw [hg]; exact (below_size (by repeat (first | (with_reducible first | exact HB.out | apply ai_ | apply ag_ | apply ah_ | refine af_ ?_ GE959.out) | exact HB.out))) : w.heap.size ≤ gb960)); have n5_ := ab_ ((by rw [hg]; exact ak_ (blk_lt (g := gb959) (o := .cells #[.int .i64 a0_0, .int .i64 a0_1, .int .i64 a0_2, .int .i64 a0_3] 147 (0, 0)) (by (with_reducible repeat (first | refine ac_ ?_ _ | refine ae_ ?_ | refine ad_ ?_ _)); exact BK959.out)) : gb959 ≠ gb960)); have n6_ := ab_ ((by rw [hg]; exact Nat.ne_of_gt (blk_lt (g := gb959) (o := .cells #[.int .i64 a0_0, .int .i64 a0_1, .int .i64 a0_2, .int .i64 a0_3] 147 (0, 0)) (by (with_reducible repeat (first | refine ac_ ?_ _ | refine ae_ ?_ | refine ad_ ?_ _)); exact BK959.out)) : gb960 ≠ gb959)); clear BK959; clear HB; have BK959 := n0_; have HB := n1_; have BK960 := n2_; have GW960 := n3_; have GE960 := n4_; have NB959_960 := n5_; have NB960_959 := n6_; clear n0_ n1_ n2_ n3_ n4_ n5_ n6_; clear hb hbox hg; have hnb19 := NB959_960.out; have hnc19 := NB960_959.out; have hcz20_0 : w18.cell? ⟨gb959, 0, none⟩ = some (.int .i64 a0_0) := (am_ BK959.out 0).trans rfl; have hcz20_1 : w18.cell? ⟨gb959, 1, none⟩ = some (.int .i64 a0_1) := (am_ BK959.out 1).trans rfl; have hcz20_2 : w18.cell? ⟨gb959, 2, none⟩ = some (.int .i64 a0_2) := (am_ BK959.out 2).trans rfl; have hcz20_3 : w18.cell? ⟨gb959, 3, none⟩ = some (.int .i64 a0_3) := (am_ BK959.out 3).trans rfl; have hfz20_0 := al_ BK959.out 0; have hfz20_1 := al_ BK959.out 1; have hfz20_2 := al_ BK959.out 2; have hfz20_3 := al_ BK959.out 3; have hcz21_0 : w18.cell? ⟨gb960, 0, none⟩ = some (.int .i64 a1_0) := (am_ BK960.out 0).trans rfl; have hcz21_1 : w18.cell? ⟨gb960, 1, none⟩ = some (.int .i64 a1_1) := (am_ BK960.out 1).trans rfl; have hcz21_2 : w18.cell? ⟨gb960, 2, none⟩ = some (.int .i64 a1_2) := (am_ BK960.out 2).trans rfl; have hcz21_3 : w18.cell? ⟨gb960, 3, none⟩ = some (.int .i64 a1_3) := (am_ BK960.out 3).trans rfl; have hfz21_0 := al_ BK960.out 0; have hfz21_1 := al_ BK960.out 1; have hfz21_2 := al_ BK960.out 2; have hfz21_3 := al_ BK960.out 3))
        go_ret
        exact ⟨by first | rfl | (simp [errW_none, errW_some] <;> rfl) | (simp [*, errW_none, errW_some] <;> rfl), by repeat (first | (with_reducible first | exact HB.out | apply ai_ | apply ag_ | apply ah_ | refine af_ ?_ GE959.out | refine af_ ?_ GE960.out) | exact HB.out)⟩
    · rw [if_neg c4] at H
      have c4b0 : (a0_1 == a1_1) = false := beq_eq_false_iff_ne.mpr c4
      have c4b1 : (a0_1 != a1_1) = true := bne_iff_ne.mpr c4
      obtain rfl := Option.some.inj H
      go_enter Try.func124, Try.ntmps124
      go_wp2_with (first | ((with_reducible refine gate_dst (N := 2) rfl ?_); refine box_event ?hg (N := 2) ?hd (cs := #[.int .i64 a0_0, .int .i64 a0_1, .int .i64 a0_2, .int .i64 a0_3]) (t := 147) ?hr ?_; (case hd => rfl); (case hg => rfl); (case hr => first | (go_simp; done) | (go_simp; rfl)); intro gb959 hg w22 hbox hb; have n0_ := ab_ (ao_ (by repeat (first | (with_reducible first | exact HB.out | apply ai_ | apply ag_ | apply ah_) | exact HB.out)) hb); have n1_ := ab_ (hbox); have n2_ := ab_ ((by rw [hg]; exact (below_size (by repeat (first | (with_reducible first | exact HB.out | apply ai_ | apply ag_ | apply ah_) | exact HB.out))) : w.heap.size ≤ gb959)); have n3_ := ab_ ((by rw [hg]; exact (below_size (by repeat (first | (with_reducible first | exact HB.out | apply ai_ | apply ag_ | apply ah_) | exact HB.out))) : w.heap.size ≤ gb959)); clear HB; have HB := n0_; have BK959 := n1_; have GW959 := n2_; have GE959 := n3_; clear n0_ n1_ n2_ n3_; clear hb hbox hg) | ((with_reducible refine gate_dst (N := 3) rfl ?_); refine box_event ?hg (N := 3) ?hd (cs := #[.int .i64 a1_0, .int .i64 a1_1, .int .i64 a1_2, .int .i64 a1_3]) (t := 147) ?hr ?_; (case hd => rfl); (case hg => rfl); (case hr => first | (go_simp; done) | (go_simp; rfl)); intro gb960 hg w23 hbox hb; have n0_ := ab_ (blk_below (g := gb959) (o := .cells #[.int .i64 a0_0, .int .i64 a0_1, .int .i64 a0_2, .int .i64 a0_3] 147 (0, 0)) (by (with_reducible repeat (first | refine ac_ ?_ _ | refine ae_ ?_ | refine ad_ ?_ _)); exact BK959.out) hb); have n1_ := ab_ (ao_ (by repeat (first | (with_reducible first | exact HB.out | apply ai_ | apply ag_ | apply ah_ | refine af_ ?_ GE959.out) | exact HB.out)) hb); have n2_ := ab_ (hbox); have n3_ := ab_ ((by rw [hg]; exact (below_size (by repeat (first | (with_reducible first | exact HB.out | apply ai_ | apply ag_ | apply ah_ | refine af_ ?_ GE959.out) | exact HB.out))) : w.heap.size ≤ gb960)); have n4_ := ab_ ((by rw [hg]; exact (below_size (by repeat (first | (with_reducible first | exact HB.out | apply ai_ | apply ag_ | apply ah_ | refine af_ ?_ GE959.out) | exact HB.out))) : w.heap.size ≤ gb960)); have n5_ := ab_ ((by rw [hg]; exact ak_ (blk_lt (g := gb959) (o := .cells #[.int .i64 a0_0, .int .i64 a0_1, .int .i64 a0_2, .int .i64 a0_3] 147 (0, 0)) (by (with_reducible repeat (first | refine ac_ ?_ _ | refine ae_ ?_ | refine ad_ ?_ _)); exact BK959.out)) : gb959 ≠ gb960)); have n6_ := ab_ ((by rw [hg]; exact Nat.ne_of_gt (blk_lt (g := gb959) (o := .cells #[.int .i64 a0_0, .int .i64 a0_1, .int .i64 a0_2, .int .i64 a0_3] 147 (0, 0)) (by (with_reducible repeat (first | refine ac_ ?_ _ | refine ae_ ?_ | refine ad_ ?_ _)); exact BK959.out)) : gb960 ≠ gb959)); clear BK959; clear HB; have BK959 := n0_; have HB := n1_; have BK960 := n2_; have GW960 := n3_; have GE960 := n4_; have NB959_960 := n5_; have NB960_959 := n6_; clear n0_ n1_ n2_ n3_ n4_ n5_ n6_; clear hb hbox hg; have hnb24 := NB959_960.out; have hnc24 := NB960_959.out; have hcz25_0 : w23.cell? ⟨gb959, 0, none⟩ = some (.int .i64 a0_0) := (am_ BK959.out 0).trans rfl; have hcz25_1 : w23.cell? ⟨gb959, 1, none⟩ = some (.int .i64 a0_1) := (am_ BK959.out 1).trans rfl; have hcz25_2 : w23.cell? ⟨gb959, 2, none⟩ = some (.int .i64 a0_2) := (am_ BK959.out 2).trans rfl; have hcz25_3 : w23.cell? ⟨gb959, 3, none⟩ = some (.int .i64 a0_3) := (am_ BK959.out 3).trans rfl; have hfz25_0 := al_ BK959.out 0; have hfz25_1 := al_ BK959.out 1; have hfz25_2 := al_ BK959.out 2; have hfz25_3 := al_ BK959.out 3; have hcz26_0 : w23.cell? ⟨gb960, 0, none⟩ = some (.int .i64 a1_0) := (am_ BK960.out 0).trans rfl; have hcz26_1 : w23.cell? ⟨gb960, 1, none⟩ = some (.int .i64 a1_1) := (am_ BK960.out 1).trans rfl; have hcz26_2 : w23.cell? ⟨gb960, 2, none⟩ = some (.int .i64 a1_2) := (am_ BK960.out 2).trans rfl; have hcz26_3 : w23.cell? ⟨gb960, 3, none⟩ = some (.int .i64 a1_3) := (am_ BK960.out 3).trans rfl; have hfz26_0 := al_ BK960.out 0; have hfz26_1 := al_ BK960.out 1; have hfz26_2 := al_ BK960.out 2; have hfz26_3 := al_ BK960.out 3))
      go_ret
      exact ⟨by first | rfl | (simp [errW_none, errW_some] <;> rfl) | (simp [*, errW_none, errW_some] <;> rfl), by repeat (first | (with_reducible first | exact HB.out | apply ai_ | apply ag_ | apply ah_ | refine af_ ?_ GE959.out | refine af_ ?_ GE960.out) | exact HB.out)⟩
  · rw [if_neg c3] at H
    have c3b0 : (a0_0 == a1_0) = false := beq_eq_false_iff_ne.mpr c3
    have c3b1 : (a0_0 != a1_0) = true := bne_iff_ne.mpr c3
    obtain rfl := Option.some.inj H
    go_enter Try.func124, Try.ntmps124
    go_wp2_with (first | ((with_reducible refine gate_dst (N := 2) rfl ?_); refine box_event ?hg (N := 2) ?hd (cs := #[.int .i64 a0_0, .int .i64 a0_1, .int .i64 a0_2, .int .i64 a0_3]) (t := 147) ?hr ?_; (case hd => rfl); (case hg => rfl); (case hr => first | (go_simp; done) | (go_simp; rfl)); intro gb959 hg w27 hbox hb; have n0_ := ab_ (ao_ (by repeat (first | (with_reducible first | exact HB.out | apply ai_ | apply ag_ | apply ah_) | exact HB.out)) hb); have n1_ := ab_ (hbox); have n2_ := ab_ ((by rw [hg]; exact (below_size (by repeat (first | (with_reducible first | exact HB.out | apply ai_ | apply ag_ | apply ah_) | exact HB.out))) : w.heap.size ≤ gb959)); have n3_ := ab_ ((by rw [hg]; exact (below_size (by repeat (first | (with_reducible first | exact HB.out | apply ai_ | apply ag_ | apply ah_) | exact HB.out))) : w.heap.size ≤ gb959)); clear HB; have HB := n0_; have BK959 := n1_; have GW959 := n2_; have GE959 := n3_; clear n0_ n1_ n2_ n3_; clear hb hbox hg) | ((with_reducible refine gate_dst (N := 3) rfl ?_); refine box_event ?hg (N := 3) ?hd (cs := #[.int .i64 a1_0, .int .i64 a1_1, .int .i64 a1_2, .int .i64 a1_3]) (t := 147) ?hr ?_; (case hd => rfl); (case hg => rfl); (case hr => first | (go_simp; done) | (go_simp; rfl)); intro gb960 hg w28 hbox hb; have n0_ := ab_ (blk_below (g := gb959) (o := .cells #[.int .i64 a0_0, .int .i64 a0_1, .int .i64 a0_2, .int .i64 a0_3] 147 (0, 0)) (by (with_reducible repeat (first | refine ac_ ?_ _ | refine ae_ ?_ | refine ad_ ?_ _)); exact BK959.out) hb); have n1_ := ab_ (ao_ (by repeat (first | (with_reducible first | exact HB.out | apply ai_ | apply ag_ | apply ah_ | refine af_ ?_ GE959.out) | exact HB.out)) hb); have n2_ := ab_ (hbox); have n3_ := ab_ ((by rw [hg]; exact (below_size (by repeat (first | (with_reducible first | exact HB.out | apply ai_ | apply ag_ | apply ah_ | refine af_ ?_ GE959.out) | exact HB.out))) : w.heap.size ≤ gb960)); have n4_ := ab_ ((by rw [hg]; exact (below_size (by repeat (first | (with_reducible first | exact HB.out | apply ai_ | apply ag_ | apply ah_ | refine af_ ?_ GE959.out) | exact HB.out))) : w.heap.size ≤ gb960)); have n5_ := ab_ ((by rw [hg]; exact ak_ (blk_lt (g := gb959) (o := .cells #[.int .i64 a0_0, .int .i64 a0_1, .int .i64 a0_2, .int .i64 a0_3] 147 (0, 0)) (by (with_reducible repeat (first | refine ac_ ?_ _ | refine ae_ ?_ | refine ad_ ?_ _)); exact BK959.out)) : gb959 ≠ gb960)); have n6_ := ab_ ((by rw [hg]; exact Nat.ne_of_gt (blk_lt (g := gb959) (o := .cells #[.int .i64 a0_0, .int .i64 a0_1, .int .i64 a0_2, .int .i64 a0_3] 147 (0, 0)) (by (with_reducible repeat (first | refine ac_ ?_ _ | refine ae_ ?_ | refine ad_ ?_ _)); exact BK959.out)) : gb960 ≠ gb959)); clear BK959; clear HB; have BK959 := n0_; have HB := n1_; have BK960 := n2_; have GW960 := n3_; have GE960 := n4_; have NB959_960 := n5_; have NB960_959 := n6_; clear n0_ n1_ n2_ n3_ n4_ n5_ n6_; clear hb hbox hg; have hnb29 := NB959_960.out; have hnc29 := NB960_959.out; have hcz30_0 : w28.cell? ⟨gb959, 0, none⟩ = some (.int .i64 a0_0) := (am_ BK959.out 0).trans rfl; have hcz30_1 : w28.cell? ⟨gb959, 1, none⟩ = some (.int .i64 a0_1) := (am_ BK959.out 1).trans rfl; have hcz30_2 : w28.cell? ⟨gb959, 2, none⟩ = some (.int .i64 a0_2) := (am_ BK959.out 2).trans rfl; have hcz30_3 : w28.cell? ⟨gb959, 3, none⟩ = some (.int .i64 a0_3) := (am_ BK959.out 3).trans rfl; have hfz30_0 := al_ BK959.out 0; have hfz30_1 := al_ BK959.out 1; have hfz30_2 := al_ BK959.out 2; have hfz30_3 := al_ BK959.out 3; have hcz31_0 : w28.cell? ⟨gb960, 0, none⟩ = some (.int .i64 a1_0) := (am_ BK960.out 0).trans rfl; have hcz31_1 : w28.cell? ⟨gb960, 1, none⟩ = some (.int .i64 a1_1) := (am_ BK960.out 1).trans rfl; have hcz31_2 : w28.cell? ⟨gb960, 2, none⟩ = some (.int .i64 a1_2) := (am_ BK960.out 2).trans rfl; have hcz31_3 : w28.cell? ⟨gb960, 3, none⟩ = some (.int .i64 a1_3) := (am_ BK960.out 3).trans rfl; have hfz31_0 := al_ BK960.out 0; have hfz31_1 := al_ BK960.out 1; have hfz31_2 := al_ BK960.out 2; have hfz31_3 := al_ BK960.out 3))
    go_ret
    exact ⟨by first | rfl | (simp [errW_none, errW_some] <;> rfl) | (simp [*, errW_none, errW_some] <;> rfl), by repeat (first | (with_reducible first | exact HB.out | apply ai_ | apply ag_ | apply ah_ | refine af_ ?_ GE959.out | refine af_ ?_ GE960.out) | exact HB.out)⟩
end Go.Proofs.Ytgoiifpimpnlpaa.PAll

end

section
namespace Go.Proofs.Ytgoiifpimpnlpaa.PAll
open Go.RowKit Go.Proofs.YtgoiifpimpnlpaaW.PrintWords Go.Proofs.YtgoiifpimpnlpaaW.PrintLast Go.Proofs.YtgoiifpimpnlpaaW.PrintMore
set_option linter.unusedVariables false
set_option linter.unusedSimpArgs false
theorem if_some {p : Prop} [Decidable p] {α : Type} {a : Option α} {b : α} (h : (if p then a else none) = some b) : p ∧ a = some b := by
  by_cases hp : p
  · rw [if_pos hp] at h; exact ⟨hp, h⟩
  · rw [if_neg hp] at h; cases h
end Go.Proofs.Ytgoiifpimpnlpaa.PAll

end

section
namespace Go.Proofs.Ytgoiifpimpnlpaa.PAll
open Go.RowKit Go.Proofs.YtgoiifpimpnlpaaW.PrintWords Go.Proofs.YtgoiifpimpnlpaaW.PrintLast Go.Proofs.YtgoiifpimpnlpaaW.PrintMore
set_option linter.unusedVariables false
set_option linter.unusedSimpArgs false
def startB (l : List S66) : Bool := match tmof l with
  | none => false
  | some t => decide (freeS t = [])
def EngP (b : Bool) (n : Nat) (A : Option Addr) (c : Nat) (w : World) (e : Ending) (w' : World) : Prop := Below w.heap.size w w' ∧ (b = true → ∃ ge gs gb, e = .returned (ptr ge) ∧ EngSt ge gs gb A n c w') ∧ (b = false → e = .returned (.pointer none))
theorem mkids_cells {f : List S66 → Option (Tm × List S66)} (hf : ∀ l t r, f l = some (t, r) → l = tcells t ++ r) : ∀ m l ts r, mkids f m l = some (ts, r) → l = lcells ts ++ r := by
  intro m
  induction m with
  | zero => intro l ts r h; simp [mkids] at h; obtain ⟨rfl, rfl⟩ := h; simp [lcells]
  | succ m ih =>
    intro l ts r h
    simp only [mkids] at h
    cases h1 : f l with
    | none => rw [h1] at h; simp at h
    | some p =>
      obtain ⟨t, r1⟩ := p
      rw [h1] at h
      simp only at h
      cases h2 : mkids f m r1 with
      | none => rw [h2] at h; simp at h
      | some q =>
        obtain ⟨ts', r2⟩ := q
        rw [h2] at h
        simp at h
        obtain ⟨rfl, rfl⟩ := h
        have e1 := hf _ _ _ h1
        have e2 := ih _ _ _ h2
        rw [e1, e2]
        simp [lcells]
theorem mparse_cells' : ∀ (k : Nat) (l : List S66) (t : Tm) (r : List S66), mparse k l = some (t, r) → l = tcells t ++ r := by
  intro k
  induction k with
  | zero => intro l t r h; simp [mparse] at h
  | succ k ih =>
    intro l t r h
    cases l with
    | nil => simp [mparse] at h
    | cons x l =>
      simp only [mparse] at h
      split at h
      · cases h1 : mkids (mparse k) (arI x.f0).toNat l with
        | none => rw [h1] at h; simp at h
        | some p =>
          obtain ⟨ts, r1⟩ := p
          rw [h1] at h
          simp at h
          obtain ⟨rfl, rfl⟩ := h
          have := mkids_cells ih _ _ _ _ h1
          rw [tcells_mk, List.cons_append, ← this]
      · simp at h
theorem tmof_cells' {l : List S66} {t : Tm} (h : tmof l = some t) : l = tcells t := by
  unfold tmof at h
  split at h
  · split at h
    · rename_i h0 _ _ h1; injection h with h; subst h; have := mparse_cells' _ _ _ _ h1; simpa using this
    · cases h
  · cases h
theorem EngSt.new {ge gs gb : Nat} {A : Option Addr} {n c : Nat} {W : World} (h1 : W.heap[ge]? = some (.cells (engC A n c gs gb) 108 (0, 0))) (h2 : W.heap[gs]? = some (.cells (madeCells #[.int .i64 0] n) 3 (0, 0))) (h3 : W.heap[gb]? = some (.cells (madeCells #[.int .i64 0] n) 3 (0, 0))) (hne : gs ≠ gb) : EngSt ge gs gb A n c W :=
  ⟨h1, ⟨_, h2, size_madeCells _ _⟩, ⟨_, h3, size_madeCells _ _⟩, hne⟩
theorem eng_new1 (W : World) (A : Option Addr) (n c : Nat) : EngSt (W.heap.size + 1 + 1) W.heap.size (W.heap.size + 1) A n c (((W.alloc (.cells (madeCells #[.int .i64 0] n) 3)).alloc (.cells (madeCells #[.int .i64 0] n) 3)).alloc (.cells (engC A n c W.heap.size (W.heap.size + 1)) 108)).drew :=
  EngSt.new (ae_ (by simpa using blk_new ((W.alloc (.cells (madeCells #[.int .i64 0] n) 3)).alloc (.cells (madeCells #[.int .i64 0] n) 3)) (.cells (engC A n c W.heap.size (W.heap.size + 1)) 108))) (ae_ (ad_ (ad_ (blk_new W _) _) _)) (ae_ (ad_ (by simpa using blk_new (W.alloc (.cells (madeCells #[.int .i64 0] n) 3)) (.cells (madeCells #[.int .i64 0] n) 3)) _)) (by omega)
theorem eng_new2 (W : World) (A : Option Addr) (n c : Nat) : EngSt (W.heap.size + 1 + 1) (W.heap.size + 1) W.heap.size A n c (((W.alloc (.cells (madeCells #[.int .i64 0] n) 3)).alloc (.cells (madeCells #[.int .i64 0] n) 3)).alloc (.cells (engC A n c (W.heap.size + 1) W.heap.size) 108)).drew :=
  EngSt.new (ae_ (by simpa using blk_new ((W.alloc (.cells (madeCells #[.int .i64 0] n) 3)).alloc (.cells (madeCells #[.int .i64 0] n) 3)) (.cells (engC A n c (W.heap.size + 1) W.heap.size) 108))) (ae_ (ad_ (by simpa using blk_new (W.alloc (.cells (madeCells #[.int .i64 0] n) 3)) (.cells (madeCells #[.int .i64 0] n) 3)) _)) (ae_ (ad_ (ad_ (blk_new W _) _) _)) (by omega)
set_option maxRecDepth 100000 in
set_option maxHeartbeats 4000000 in
theorem newEngine_calls (l : List S66) (A : Option Addr) (c : Nat) (w : World) (hr : Kd.C k66 w A l.length l) (hc : l.length ≤ c) :
    Calls Try.prog 79 #[.slice A l.length c] w (EngP (startB l) l.length A c w) := by
  cases hq : tmof l with
  | none =>
    have HQ := Lib.hid hq
    rw [show startB l = false by simp [startB, hq]]
    clear hq
    go_enter Try.func79, Try.ntmps79
    go_wp2_with (go_at_call 49; refine (termOf_calls l A c _ hr hc).mono ?_; rw [HQ.out]; rintro e w1 ⟨hb, rfl⟩)
    go_ret
    exact ⟨hb, fun h => by (cases h), fun _ => rfl⟩
  | some t =>
    have HW := Lib.hid (tmof_wf hq)
    have HV := Lib.hid (tmof_vb hq)
    have HQ := Lib.hid hq
    have HR := Lib.hid hr
    have HL := Lib.hid (tmof_cells' hq)
    have HST := Lib.hid (show startB l = decide (freeS t = []) by simp [startB, hq])
    clear hq hr
    have F := Lib.hid (fun (W : World) (g : Nat) (hT : TAt (fun _ => True) W g t) => free_calls 99 (by omega) t g W HV.out.1 HW.out (by have := HV.out.2; omega) hT)
    by_cases h0 : freeS t = []
    · rw [show startB l = true by rw [HST.out]; exact an_ h0]
      rw [h0] at F
      clear h0
      have hlen : l.length = t.cnt := by rw [HL.out, tcells_len]
      have hpos := cnt_pos t
      have hlt : l.length ≤ 600 := by have := HV.out.2; omega
      have hl1 : 0 < l.length := by omega
      clear hlen hpos
      have hmk : ∀ W, (Instr.makeSlice 46 (.int .i64 (l.length : Int)) (.int .i64 (l.length : Int))).run Try.prog W = .ok (.slice (some ⟨W.heap.size, 0, none⟩) l.length l.length) (W.alloc (.cells (madeCells #[.int .i64 0] l.length) 3)) := run_make_row' 46 3 (.int .i64 0) 8 Try.underlying46 info3f rfl .i64 .i64 l.length (by omega) (by omega)
      go_enter Try.func79, Try.ntmps79
      go_wp2_with fail
      refine (termOf_calls l A c _ HR.out hc).mono ?_
      rw [HQ.out]
      rintro e w1 ⟨hb, g, rfl, ha⟩
      have HB := Lib.hid hb
      have C := Lib.hid (F.out w1 g (TAt.step (fun _ _ _ => rfl) (fun _ _ _ => trivial) ha))
      clear ha hb
      unfold ptr at C ⊢
      go_wp2_with fail
      refine C.out.mono ?_
      rintro e w2 ⟨v, rfl, hR, hb2⟩
      obtain ⟨Af, cf, hv⟩ := Kd.R_slice hR
      subst hv
      have HB2 := Lib.hid (ao_ HB.out hb2)
      clear hR hb2
      have M1 := measure_calls l w2 (w2.heap.size + 1 + 1) w2.heap.size (w2.heap.size + 1) A c (by omega) (Kd.C_below HR.out HB2.out) (by omega) (by omega) (by omega) t 0 0 [] _ HW.out (by rw [List.drop_zero, List.append_nil]; exact HL.out) (by omega) (by have := HV.out.2; omega) (eng_new1 w2 A l.length c) (by repeat (first | exact Below.refl _ _ | apply ah_ | apply ai_))
      have M2 := measure_calls l w2 (w2.heap.size + 1 + 1) (w2.heap.size + 1) w2.heap.size A c (by omega) (Kd.C_below HR.out HB2.out) (by omega) (by omega) (by omega) t 0 0 [] _ HW.out (by rw [List.drop_zero, List.append_nil]; exact HL.out) (by omega) (by have := HV.out.2; omega) (eng_new2 w2 A l.length c) (by repeat (first | exact Below.refl _ _ | apply ah_ | apply ai_))
      simp only [Int.cast_ofNat_Int] at M1 M2
      unfold ptr engC at M1 M2
      have M1 := Lib.hid M1
      have M2 := Lib.hid M2
      go_wp2
      go_region
      all_goals
        go_wp2_with fail
        first
        | ((with_reducible refine M1.out.mono ?_); rintro e w3 ⟨rfl, hE, hB3, _⟩; have HE := Lib.hid hE; have HB3 := Lib.hid (ao_ HB2.out hB3); clear hE hB3)
        | ((with_reducible refine M2.out.mono ?_); rintro e w3 ⟨rfl, hE, hB3, _⟩; have HE := Lib.hid hE; have HB3 := Lib.hid (ao_ HB2.out hB3); clear hE hB3)
        go_wp2
        go_ret
        exact ⟨HB3.out, fun _ => ⟨_, _, _, rfl, HE.out⟩, fun h => by (cases h)⟩
    · have hl0 : decide (0 < (freeS t).length) = true := an_ (List.length_pos_iff.2 h0)
      rw [show startB l = false by rw [HST.out]; exact decide_eq_false h0]
      clear h0
      go_enter Try.func79, Try.ntmps79
      go_wp2_with fail
      refine (termOf_calls l A c _ HR.out hc).mono ?_
      rw [HQ.out]
      rintro e w1 ⟨hb, g, rfl, ha⟩
      have HB := Lib.hid hb
      have C := Lib.hid (F.out w1 g (TAt.step (fun _ _ _ => rfl) (fun _ _ _ => trivial) ha))
      clear ha hb
      unfold ptr at C ⊢
      go_wp2_with fail
      refine C.out.mono ?_
      rintro e w2 ⟨v, rfl, hR, hb2⟩
      obtain ⟨Af, cf, hv⟩ := Kd.R_slice hR
      subst hv
      have HB2 := Lib.hid (ao_ HB.out hb2)
      clear hR hb2
      go_wp2
      go_ret
      exact ⟨HB2.out, fun h => by (cases h), fun _ => rfl⟩
end Go.Proofs.Ytgoiifpimpnlpaa.PAll

end

section
namespace Go.Proofs.Ytgoiifpimpnlpaa.PAll
open Go.RowKit Go.Proofs.YtgoiifpimpnlpaaW.PrintWords Go.Proofs.YtgoiifpimpnlpaaW.PrintLast Go.Proofs.YtgoiifpimpnlpaaW.PrintMore
set_option linter.unusedVariables false
set_option linter.unusedSimpArgs false
def StP (b : Bool) (w : World) (e : Ending) (w' : World) : Prop := e = .returned (.tuple #[.agg #[.bool false, .int .i64 0, .int .i64 (if b = true then -1 else 0), .int .i64 (if b = true then -1 else 0), .slice none 0 0, .slice none 0 0, .slice none 0 0], .bool b]) ∧ Below w.heap.size w w'
def put7 (w : World) (o : Nat) (m : Int) : World := (((((((w.setCell ⟨o, 0, none⟩ (.bool false)).setCell ⟨o, 1, none⟩ (.int .i64 0)).setCell ⟨o, 2, none⟩ (.int .i64 m)).setCell ⟨o, 3, none⟩ (.int .i64 m)).setCell ⟨o, 4, none⟩ (.slice none 0 0)).setCell ⟨o, 5, none⟩ (.slice none 0 0)).setCell ⟨o, 6, none⟩ (.slice none 0 0))
theorem put7_blk {w : World} {o : Nat} (m : Int) (h : w.heap[o]? = some (.cells #[.bool false, .int .i64 0, .int .i64 0, .int .i64 0, .slice none 0 0, .slice none 0 0, .slice none 0 0] 55 (0, 0))) : (put7 w o m).heap[o]? = some (.cells #[.bool false, .int .i64 0, .int .i64 m, .int .i64 m, .slice none 0 0, .slice none 0 0, .slice none 0 0] 55 (0, 0)) := by
  have := blk_set (blk_set (blk_set (blk_set (blk_set (blk_set (blk_set h 0 (.bool false)) 1 (.int .i64 0)) 2 (.int .i64 m)) 3 (.int .i64 m)) 4 (.slice none 0 0)) 5 (.slice none 0 0)) 6 (.slice none 0 0)
  unfold put7
  simpa using this
theorem put7_below {w0 w : World} {o : Nat} (m : Int) (h : Below w0.heap.size w0 w) (ho : w0.heap.size ≤ o) : Below w0.heap.size w0 (put7 w o m) :=
  af_ (af_ (af_ (af_ (af_ (af_ (af_ h ho) ho) ho) ho) ho) ho) ho
set_option maxRecDepth 100000 in
set_option maxHeartbeats 4000000 in
theorem StartMachine_calls (l : List S66) (A : Option Addr) (c : Nat) (w : World) (hr : Kd.C k66 w A l.length l) (hc : l.length ≤ c) :
    Calls Try.prog 43 #[.slice A l.length c] w (StP (startB l) w) := by
  have C := Lib.hid (fun (W : World) (hb : Below w.heap.size w W) => newEngine_calls l A c W (Kd.C_below hr hb) hc)
  clear hr
  by_cases hs : startB l = true
  · rw [hs] at C ⊢
    clear hs
    go_enter Try.func43, Try.ntmps43
    go_wp2_with fail
    refine (C.out _ (ai_ (Below.refl _ _) _)).mono ?_
    rintro e w1 ⟨hb, ht, _⟩
    obtain ⟨ge, gs, gb, rfl, hE⟩ := ht rfl
    have e3 : w1.cell? ⟨ge, 3, none⟩ = some (.bool false) := (am_ hE.1 3).trans rfl
    have e4 : w1.cell? ⟨ge, 4, none⟩ = some (.int .i64 0) := (am_ hE.1 4).trans rfl
    have e5 : w1.cell? ⟨ge, 5, none⟩ = some (.int .i64 (-1)) := (am_ hE.1 5).trans rfl
    have e6 : w1.cell? ⟨ge, 6, none⟩ = some (.int .i64 (-1)) := (am_ hE.1 6).trans rfl
    have e7 : w1.cell? ⟨ge, 7, none⟩ = some (.slice none 0 0) := (am_ hE.1 7).trans rfl
    have e8 : w1.cell? ⟨ge, 8, none⟩ = some (.slice none 0 0) := (am_ hE.1 8).trans rfl
    have e9 : w1.cell? ⟨ge, 9, none⟩ = some (.slice none 0 0) := (am_ hE.1 9).trans rfl
    obtain ⟨o, ho⟩ : ∃ o, o = w.heap.size := ⟨_, rfl⟩
    rw [← ho]
    have hbk : w1.heap[o]? = some (.cells #[.bool false, .int .i64 0, .int .i64 0, .int .i64 0, .slice none 0 0, .slice none 0 0, .slice none 0 0] 55 (0, 0)) := by rw [ho]; exact blk_below (blk_new w _) hb
    have k0 : w1.cell? ⟨o, 0, none⟩ = some (.bool false) := (am_ hbk 0).trans rfl
    have k1 : w1.cell? ⟨o, 1, none⟩ = some (.int .i64 0) := (am_ hbk 1).trans rfl
    have k2 : w1.cell? ⟨o, 2, none⟩ = some (.int .i64 0) := (am_ hbk 2).trans rfl
    have k3 : w1.cell? ⟨o, 3, none⟩ = some (.int .i64 0) := (am_ hbk 3).trans rfl
    have k4 : w1.cell? ⟨o, 4, none⟩ = some (.slice none 0 0) := (am_ hbk 4).trans rfl
    have k5 : w1.cell? ⟨o, 5, none⟩ = some (.slice none 0 0) := (am_ hbk 5).trans rfl
    have k6 : w1.cell? ⟨o, 6, none⟩ = some (.slice none 0 0) := (am_ hbk 6).trans rfl
    have z0 : w1.frozen? ⟨o, 0, none⟩ = false := al_ hbk 0
    have z1 : w1.frozen? ⟨o, 1, none⟩ = false := al_ hbk 1
    have z2 : w1.frozen? ⟨o, 2, none⟩ = false := al_ hbk 2
    have z3 : w1.frozen? ⟨o, 3, none⟩ = false := al_ hbk 3
    have z4 : w1.frozen? ⟨o, 4, none⟩ = false := al_ hbk 4
    have z5 : w1.frozen? ⟨o, 5, none⟩ = false := al_ hbk 5
    have z6 : w1.frozen? ⟨o, 6, none⟩ = false := al_ hbk 6
    have hw0 : w.heap.size ≤ o := by omega
    have HO := Lib.hid ho
    have HK := Lib.hid hbk
    have HB0 := Lib.hid (show Below w.heap.size w w1 from ao_ (ai_ (Below.refl _ _) _) hb)
    clear ho hbk
    clear hb hE ht
    unfold ptr
    go_wp2
    obtain ⟨w9, hw9⟩ : ∃ w9, w9 = put7 w1 o (-1) := ⟨_, rfl⟩
    have hbk9 : w9.heap[o]? = some (.cells #[.bool false, .int .i64 0, .int .i64 (-1), .int .i64 (-1), .slice none 0 0, .slice none 0 0, .slice none 0 0] 55 (0, 0)) := by rw [hw9]; exact put7_blk (-1) HK.out
    have hb9 : Below w.heap.size w w9 := by rw [hw9]; exact put7_below (-1) HB0.out hw0
    unfold put7 at hw9
    rw [← hw9]
    clear hw9
    have c0 : w9.cell? ⟨o, 0, none⟩ = some (.bool false) := (am_ hbk9 0).trans rfl
    have c1 : w9.cell? ⟨o, 1, none⟩ = some (.int .i64 0) := (am_ hbk9 1).trans rfl
    have c2 : w9.cell? ⟨o, 2, none⟩ = some (.int .i64 (-1)) := (am_ hbk9 2).trans rfl
    have c3 : w9.cell? ⟨o, 3, none⟩ = some (.int .i64 (-1)) := (am_ hbk9 3).trans rfl
    have c4 : w9.cell? ⟨o, 4, none⟩ = some (.slice none 0 0) := (am_ hbk9 4).trans rfl
    have c5 : w9.cell? ⟨o, 5, none⟩ = some (.slice none 0 0) := (am_ hbk9 5).trans rfl
    have c6 : w9.cell? ⟨o, 6, none⟩ = some (.slice none 0 0) := (am_ hbk9 6).trans rfl
    exact bodyPost_ret (v := .tuple #[.agg #[.bool false, .int .i64 0, .int .i64 (-1), .int .i64 (-1), .slice none 0 0, .slice none 0 0, .slice none 0 0], .bool true]) (by simp [results, Try.results43, go_sem, c0, c1, c2, c3, c4, c5, c6]) rfl ⟨rfl, hb9⟩
  · have hs : startB l = false := by simpa using hs
    rw [hs] at C ⊢
    clear hs
    go_enter Try.func43, Try.ntmps43
    go_wp2_with fail
    refine (C.out _ (ai_ (Below.refl _ _) _)).mono ?_
    rintro e w1 ⟨hb, _, ht⟩
    obtain rfl := ht rfl
    obtain ⟨o, ho⟩ : ∃ o, o = w.heap.size := ⟨_, rfl⟩
    rw [← ho]
    have hbk : w1.heap[o]? = some (.cells #[.bool false, .int .i64 0, .int .i64 0, .int .i64 0, .slice none 0 0, .slice none 0 0, .slice none 0 0] 55 (0, 0)) := by rw [ho]; exact blk_below (blk_new w _) hb
    have k0 : w1.cell? ⟨o, 0, none⟩ = some (.bool false) := (am_ hbk 0).trans rfl
    have k1 : w1.cell? ⟨o, 1, none⟩ = some (.int .i64 0) := (am_ hbk 1).trans rfl
    have k2 : w1.cell? ⟨o, 2, none⟩ = some (.int .i64 0) := (am_ hbk 2).trans rfl
    have k3 : w1.cell? ⟨o, 3, none⟩ = some (.int .i64 0) := (am_ hbk 3).trans rfl
    have k4 : w1.cell? ⟨o, 4, none⟩ = some (.slice none 0 0) := (am_ hbk 4).trans rfl
    have k5 : w1.cell? ⟨o, 5, none⟩ = some (.slice none 0 0) := (am_ hbk 5).trans rfl
    have k6 : w1.cell? ⟨o, 6, none⟩ = some (.slice none 0 0) := (am_ hbk 6).trans rfl
    have z0 : w1.frozen? ⟨o, 0, none⟩ = false := al_ hbk 0
    have z1 : w1.frozen? ⟨o, 1, none⟩ = false := al_ hbk 1
    have z2 : w1.frozen? ⟨o, 2, none⟩ = false := al_ hbk 2
    have z3 : w1.frozen? ⟨o, 3, none⟩ = false := al_ hbk 3
    have z4 : w1.frozen? ⟨o, 4, none⟩ = false := al_ hbk 4
    have z5 : w1.frozen? ⟨o, 5, none⟩ = false := al_ hbk 5
    have z6 : w1.frozen? ⟨o, 6, none⟩ = false := al_ hbk 6
    have hw0 : w.heap.size ≤ o := by omega
    have HO := Lib.hid ho
    have HK := Lib.hid hbk
    have HB0 := Lib.hid (show Below w.heap.size w w1 from ao_ (ai_ (Below.refl _ _) _) hb)
    clear ho hbk
    clear hb ht
    go_wp2
    obtain ⟨w9, hw9⟩ : ∃ w9, w9 = put7 w1 o (0) := ⟨_, rfl⟩
    have hbk9 : w9.heap[o]? = some (.cells #[.bool false, .int .i64 0, .int .i64 (0), .int .i64 (0), .slice none 0 0, .slice none 0 0, .slice none 0 0] 55 (0, 0)) := by rw [hw9]; exact put7_blk (0) HK.out
    have hb9 : Below w.heap.size w w9 := by rw [hw9]; exact put7_below (0) HB0.out hw0
    unfold put7 at hw9
    rw [← hw9]
    clear hw9
    have c0 : w9.cell? ⟨o, 0, none⟩ = some (.bool false) := (am_ hbk9 0).trans rfl
    have c1 : w9.cell? ⟨o, 1, none⟩ = some (.int .i64 0) := (am_ hbk9 1).trans rfl
    have c2 : w9.cell? ⟨o, 2, none⟩ = some (.int .i64 (0)) := (am_ hbk9 2).trans rfl
    have c3 : w9.cell? ⟨o, 3, none⟩ = some (.int .i64 (0)) := (am_ hbk9 3).trans rfl
    have c4 : w9.cell? ⟨o, 4, none⟩ = some (.slice none 0 0) := (am_ hbk9 4).trans rfl
    have c5 : w9.cell? ⟨o, 5, none⟩ = some (.slice none 0 0) := (am_ hbk9 5).trans rfl
    have c6 : w9.cell? ⟨o, 6, none⟩ = some (.slice none 0 0) := (am_ hbk9 6).trans rfl
    exact bodyPost_ret (v := .tuple #[.agg #[.bool false, .int .i64 0, .int .i64 (0), .int .i64 (0), .slice none 0 0, .slice none 0 0, .slice none 0 0], .bool false]) (by simp [results, Try.results43, go_sem, c0, c1, c2, c3, c4, c5, c6]) rfl ⟨rfl, hb9⟩
end Go.Proofs.Ytgoiifpimpnlpaa.PAll

end

section
namespace Go.Proofs.Ytgoiifpimpnlpaa.PAll
open Go.RowKit Go.Proofs.YtgoiifpimpnlpaaW.PrintWords Go.Proofs.YtgoiifpimpnlpaaW.PrintLast Go.Proofs.YtgoiifpimpnlpaaW.PrintMore
set_option linter.unusedVariables false
set_option linter.unusedSimpArgs false
def codC (A : Option Addr) (n c gk gv : Nat) : Array Value := #[.slice A n c, .slice (some ⟨gk, 0, none⟩) n n, .slice (some ⟨gv, 0, none⟩) n n]
def CodSt (ge gk gv : Nat) (A : Option Addr) (n c : Nat) (arr : Array Value) (W : World) : Prop :=
  W.heap[ge]? = some (.cells (codC A n c gk gv) 142 (0, 0)) ∧ (W.heap[gk]? = some (.cells arr 46 (0, 0)) ∧ arr.size = n) ∧ (∃ arv, W.heap[gv]? = some (.cells arv 3 (0, 0)) ∧ arv.size = n)
theorem CodSt.below {ge gk gv : Nat} {A : Option Addr} {n c : Nat} {arr : Array Value} {W W' : World} (h : CodSt ge gk gv A n c arr W) (hb : Below W.heap.size W W') : CodSt ge gk gv A n c arr W' := by
  obtain ⟨h1, ⟨h2, s2⟩, ⟨a3, h3, s3⟩⟩ := h
  exact ⟨blk_below h1 hb, ⟨blk_below h2 hb, s2⟩, ⟨a3, blk_below h3 hb, s3⟩⟩
theorem CodSt.cell {ge gk gv : Nat} {A : Option Addr} {n c : Nat} {arr : Array Value} {W : World} (h : CodSt ge gk gv A n c arr W) : W.cell? ⟨ge, 0, none⟩ = some (.slice A n c) ∧ W.cell? ⟨ge, 1, none⟩ = some (.slice (some ⟨gk, 0, none⟩) n n) ∧ W.cell? ⟨ge, 2, none⟩ = some (.slice (some ⟨gv, 0, none⟩) n n) :=
  ⟨(am_ h.1 0).trans rfl, (am_ h.1 1).trans rfl, (am_ h.1 2).trans rfl⟩
theorem CodSt.setv {ge gk gv i : Nat} {A : Option Addr} {n c : Nat} {arr : Array Value} {W : World} {v : Value} (h : CodSt ge gk gv A n c arr W) : CodSt ge gk gv A n c arr (W.setCell ⟨gv, i, none⟩ v) := by
  obtain ⟨h1, ⟨h2, s2⟩, ⟨a3, h3, s3⟩⟩ := h
  exact ⟨blk_far h1 (p := ⟨gv, i, none⟩) (blk_ne h1 h3 (by decide)) v, ⟨blk_far h2 (p := ⟨gv, i, none⟩) (blk_ne h2 h3 (by decide)) v, s2⟩, ⟨_, blk_set h3 i v, by simpa using s3⟩⟩
theorem CodSt.setk {ge gk gv i : Nat} {A : Option Addr} {n c : Nat} {arr : Array Value} {W : World} {v : Value} (h : CodSt ge gk gv A n c arr W) : CodSt ge gk gv A n c (arr.setIfInBounds i v) (W.setCell ⟨gk, i, none⟩ v) := by
  obtain ⟨h1, ⟨h2, s2⟩, ⟨a3, h3, s3⟩⟩ := h
  exact ⟨blk_far h1 (p := ⟨gk, i, none⟩) (blk_ne h1 h2 (by decide)) v, ⟨blk_set h2 i v, by simpa using s2⟩, ⟨a3, blk_far h3 (p := ⟨gk, i, none⟩) (blk_ne h3 h2 (by decide)) v, s3⟩⟩
theorem CodSt.grown {ge gk gv : Nat} {A : Option Addr} {n c : Nat} {arr : Array Value} {W W' : World} {row : Option Nat} (h : CodSt ge gk gv A n c arr W) (hg : W.grownBy W' row) (h1 : some ge ≠ row) (h2 : some gk ≠ row) (h3 : some gv ≠ row) : CodSt ge gk gv A n c arr W' := by
  obtain ⟨e1, ⟨e2, s2⟩, ⟨a3, e3, s3⟩⟩ := h
  exact ⟨blk_grown e1 hg h1, ⟨blk_grown e2 hg h2, s2⟩, ⟨a3, blk_grown e3 hg h3, s3⟩⟩
theorem CodSt.gv {ge gk gv : Nat} {A : Option Addr} {n c : Nat} {arr : Array Value} {W : World} (h : CodSt ge gk gv A n c arr W) {i : Nat} (hi : i < n) : (∃ v, W.cell? ⟨gv, i, none⟩ = some v) ∧ W.frozen? ⟨gv, i, none⟩ = false := by
  obtain ⟨_, _, ⟨a2, h2, s2⟩⟩ := h
  exact ⟨⟨_, (am_ h2 i).trans (Array.getElem?_eq_getElem (by omega))⟩, al_ h2 i⟩
theorem CodSt.gk {ge gk gv : Nat} {A : Option Addr} {n c : Nat} {arr : Array Value} {W : World} (h : CodSt ge gk gv A n c arr W) {i : Nat} {v : Value} (hv : arr[i]? = some v) : W.cell? ⟨gk, i, none⟩ = some v ∧ W.frozen? ⟨gk, i, none⟩ = false :=
  ⟨(am_ h.2.1.1 i).trans hv, al_ h.2.1.1 i⟩
def KeptG (gk gv : Nat) (W W' : World) : Prop := W.heap.size ≤ W'.heap.size ∧ ∀ k, k < W.heap.size → k ≠ gk → k ≠ gv → W'.heap[k]? = W.heap[k]?
def WkP (W0 W : World) (ge gk gv : Nat) (A : Option Addr) (n c p m : Nat) (arr : Array Value) (e : Ending) (W' : World) : Prop := e = .returned (.int .i64 ((p + m : Nat) : Int)) ∧ Below W0.heap.size W0 W' ∧ KeptG gk gv W W' ∧ ∃ arr', CodSt ge gk gv A n c arr' W' ∧ ∀ i, (i < p ∨ p + m ≤ i) → arr'[i]? = arr[i]?
def WkSt (W0 W : World) (ge gk gv : Nat) (A : Option Addr) (n c p : Nat) (ks : List Tm) (arr : Array Value) (j : Nat) (wr : World) : Prop :=
  Below W0.heap.size W0 wr ∧ KeptG gk gv W wr ∧ ∃ (arr' : Array Value) (v : Value) (xs : List Int), CodSt ge gk gv A n c arr' wr ∧ arr'[p]? = some v ∧ xs.length = j ∧ Kd.R (Kd.int .i64) 3 wr W0.heap.size (fun k => k ≠ ge ∧ k ≠ gk ∧ k ≠ gv ∧ W.heap.size ≤ k) v xs ∧ ∀ i, (i < p ∨ p + 1 + cnts (ks.take j) ≤ i) → arr'[i]? = arr[i]?
theorem KeptG.trans {gk gv : Nat} {W W1 W2 : World} (h1 : KeptG gk gv W W1) (h2 : KeptG gk gv W1 W2) : KeptG gk gv W W2 :=
  ⟨Nat.le_trans h1.1 h2.1, fun k hk a b => (h2.2 k (aj_ hk h1.1) a b).trans (h1.2 k hk a b)⟩
theorem KeptG.of_below {gk gv : Nat} {W W1 : World} (h : Below W.heap.size W W1) : KeptG gk gv W W1 := ⟨h.size, fun k hk _ _ => h.block k hk⟩
theorem WkSt.below {W0 W : World} {ge gk gv : Nat} {A : Option Addr} {n c p : Nat} {ks : List Tm} {arr : Array Value} {j : Nat} {wr w1 : World} (h : WkSt W0 W ge gk gv A n c p ks arr j wr) (hb : Below wr.heap.size wr w1) : WkSt W0 W ge gk gv A n c p ks arr j w1 := by
  obtain ⟨h1, h2, arr', v, xs, h3, h4, h5, h6, h7⟩ := h
  exact ⟨ao_ h1 hb, h2.trans (.of_below hb), arr', v, xs, h3.below hb, h4, h5, Kd.R_below h6 hb, h7⟩
theorem WkSt.next {W0 W : World} {ge gk gv : Nat} {A : Option Addr} {n c p : Nat} {ks : List Tm} {arr arr' : Array Value} {j q : Nat} {w1 w2 w3 w4 : World} {v v1 : Value} {xs : List Int} {t : Tm} {e : Ending} (h3 : w3.heap = (w2.setCell ⟨gk, p, none⟩ v1).heap)
    (hgv : gv < W.heap.size) (hgk : gk < W.heap.size) (hge : ge < W.heap.size) (hpn : p < n) (hB : Below W0.heap.size W0 w1) (hgk0 : W0.heap.size ≤ gk) (hK : KeptG gk gv W w1) (hE : CodSt ge gk gv A n c arr' w1) (hxl : xs.length = j)
    (hR : Kd.R (Kd.int .i64) 3 w1 W0.heap.size (fun k => k ≠ ge ∧ k ≠ gk ∧ k ≠ gv ∧ W.heap.size ≤ k) v xs) (hout : ∀ i, (i < p ∨ p + 1 + cnts (ks.take j) ≤ i) → arr'[i]? = arr[i]?) (hq : q = p + 1 + cnts (ks.take j)) (ht : ks[j]? = some t)
    (hg : w1.drew.grownBy w2 v.ownBlock) (hb2 : Below W0.heap.size W0 w2) (hu : Kd.R (Kd.int .i64) 3 w2 W0.heap.size (fun k => k ≠ ge ∧ k ≠ gk ∧ k ≠ gv ∧ W.heap.size ≤ k) v1 (xs ++ [(q : Int)])) (hw : WkP W0 w3 ge gk gv A n c q t.cnt (arr'.setIfInBounds p v1) e w4) :
    e = .returned (.int .i64 ((p + 1 + cnts (ks.take (j + 1)) : Nat) : Int)) ∧ WkSt W0 W ge gk gv A n c p ks arr (j + 1) w4 := by
  obtain ⟨rfl, hB4, hK4, arr4, hE4, ha4⟩ := hw
  have htk := cnts_take_succ ks j t ht
  have hpa : p < arr'.size := by rw [hE.2.1.2]; exact hpn
  refine ⟨by rw [htk, hq]; simp [Nat.add_assoc], hB4, ?_, arr4, v1, xs ++ [(q : Int)], hE4, ?_, by simp [hxl], ?_, ?_⟩
  · have hs : w3.heap.size = w2.heap.size := by rw [h3]; simp
    have hz : w1.heap.size ≤ w2.heap.size := hg.size
    refine ⟨by have := hK.1; have := hK4.1; omega, fun k hk h1 h2 => ?_⟩
    have hk1 := aj_ hk hK.1
    rw [hK4.2 k (by omega) h1 h2, h3, Below.heap_setCell w2 ⟨gk, p, none⟩ v1 k h1, hg.block k hk1 (fun e => by have := (hR.1 k e.symm).2.2.2; omega)]
    exact hK.2 k hk h1 h2
  · rw [ha4 p (.inl (by omega)), Array.getElem?_setIfInBounds_self_of_lt hpa]
  · refine Kd.R_step (Kd.R_far hu (p := ⟨gk, p, none⟩) (fun k hk => hk.2.1) v1) (fun k hk hlt => by rw [← h3] at hlt ⊢; exact hK4.2 k hlt hk.2.1 hk.2.2.1)
  · intro i hi
    rw [ha4 i (by omega), Array.getElem?_setIfInBounds_ne (by omega)]
    exact hout i (by omega)
set_option maxRecDepth 100000 in
set_option maxHeartbeats 4000000 in
theorem walk_calls (l : List S66) (W0 : World) (ge gk gv : Nat) (A : Option Addr) (c : Nat) (hl : l.length ≤ 1000) (hr : Kd.C k66 W0 A l.length l) (hge : W0.heap.size ≤ ge) (hgk : W0.heap.size ≤ gk) (hgv : W0.heap.size ≤ gv) (t : Tm) :
    ∀ (p : Nat) (bnd : Int) (r : List S66) (W : World) (arr : Array Value), t.wf → l.drop p = tcells t ++ r → 0 ≤ bnd → bnd + t.cnt ≤ 1000000000 → CodSt ge gk gv A l.length c arr W → Below W0.heap.size W0 W → (∀ i, p ≤ i → i < p + t.cnt → arr[i]? = some (.slice none 0 0)) →
    Calls Try.prog 122 #[ptr ge, .int .i64 p, .int .i64 bnd] W (WkP W0 W ge gk gv A l.length c p t.cnt arr) := by
  have HR := Lib.hid hr
  clear hr
  induction t using Tm.ind with
  | h k n ks ih =>
    intro p bnd r W arr hw hd hb0 hb1 hE hB harr
    simp only [Tm.wf] at hw
    rw [cnt_mk] at hb1 harr
    rw [tcells_mk, List.cons_append] at hd
    have hk3 : ks.length ≤ 3 := by have := arI_bd k; omega
    have hdl := congrArg List.length hd
    rw [List.length_drop, List.length_cons, List.length_append, lcells_len] at hdl
    have hpl : p < l.length := by omega
    have hrd : rd_T66 l (p : Int) = ⟨k, n⟩ := by
      have e := List.drop_eq_getElem_cons hpl
      rw [hd] at e
      injection e with e1 _
      simp [rd_T66, List.getD_eq_getElem?_getD, List.getElem?_eq_getElem hpl, ← e1]
    obtain ⟨ad, rfl, hk, _⟩ := at_T66 HR.out (p : Int) (by omega) (by omega)
    rw [hrd, Int.toNat_natCast] at hk
    have hkW : ∀ W', Below W0.heap.size W0 W' → W'.cell? (ad.add (p * 2)) = some (.int .i64 k) := fun W' hb => (hb.cell (aa_ W0 _ hk)).trans hk
    have hgvlt : gv < W.heap.size := by obtain ⟨_, _, ⟨_, h3, _⟩⟩ := hE; exact blk_lt h3
    have hgklt : gk < W.heap.size := blk_lt hE.2.1.1
    have hgelt : ge < W.heap.size := blk_lt hE.1
    have hst0 : WkSt W0 W ge gk gv (some ad) l.length c p ks arr 0 (W.setCell ⟨gv, p, none⟩ (.int .i64 bnd)) := by
      refine ⟨af_ hB hgv, ⟨by simp, fun k _ _ h3 => Below.heap_setCell W ⟨gv, p, none⟩ _ k h3⟩, arr, .slice none 0 0, [], hE.setv, harr p (Nat.le_refl _) (by omega), rfl, Kd.R_nil _ _ _ _ _, fun _ _ => rfl⟩
    obtain ⟨e0, e1, e2⟩ := hE.cell
    obtain ⟨⟨vb, x0⟩, x1⟩ := hE.gv hpl
    have hpi : (p : Int) < (l.length : Int) := by omega
    have HST := Lib.hid hst0
    have HKW := Lib.hid hkW
    have HD := Lib.hid hd
    have HWS := Lib.hid hw.2
    have HAR := Lib.hid hw.1
    have HARR := Lib.hid harr
    have IH := Lib.hid ih
    have AR := Lib.hid (fun (W' : World) => spec_l3Arity.calls 5 k (ks.length : Int) W' (by rw [arity_eq k 5 (by omega), hw.1]))
    clear hE hB hst0 hkW hd hw ih hk hrd harr
    rw [cnt_mk]
    unfold ptr
    go_enter Try.func122, Try.ntmps122
    go_wp2
    go_loopw [7, 8] (fun v7 v8 wr => ∃ j : Nat, j ≤ ks.length ∧ v8 = .int .i64 j ∧ v7 = .int .i64 ((p + 1 + cnts (ks.take j) : Nat) : Int) ∧ WkSt W0 W ge gk gv (some ad) l.length c p ks arr j wr) (fun _ v8 _ => ks.length - (intOf v8).toNat)
    case atStart => exact ⟨0, Nat.zero_le _, rfl, by simp [cnts], HST.out⟩
    case round =>
      obtain ⟨j, hj, rfl, rfl, hst⟩ := hrel
      clear HST e0 e1 e2 x0 x1
      have HST := Lib.hid hst
      clear hst
      obtain ⟨hB, hK, arr', v, xs, hE, hv, hxl, hR, hout⟩ := HST.out
      obtain ⟨e0, e1, e2⟩ := hE.cell
      have fk := HKW.out wr hB
      by_cases hlt : j < ks.length
      · obtain ⟨t, ht⟩ : ∃ t, ks[j]? = some t := ⟨ks[j], by simp [hlt]⟩
        have hmem := List.mem_of_getElem? ht
        have hcn := cnts_take_le' ks j t ht
        have hbi := bindsI_bd k j
        obtain ⟨q, hq⟩ : ∃ q : Nat, q = p + 1 + cnts (ks.take j) := ⟨_, rfl⟩
        have hqd : l.drop q = tcells t ++ (lcells (ks.drop (j + 1)) ++ r) := by
          have e1 : l.drop q = (l.drop p).drop (1 + cnts (ks.take j)) := by rw [List.drop_drop, hq]; congr 1; omega
          have e2 : lcells ks = lcells (ks.take j) ++ (tcells t ++ lcells (ks.drop (j + 1))) := by
            have hlt' : j < ks.length := hlt
            rw [List.getElem?_eq_getElem hlt'] at ht
            have : ks = ks.take j ++ (t :: ks.drop (j + 1)) := by
              rw [← Option.some.inj ht, ← List.drop_eq_getElem_cons hlt', List.take_append_drop]
            conv => lhs; rw [this]
            rw [lcells_append]
            simp [lcells]
          rw [e1, HD.out, Nat.add_comm 1, List.drop_succ_cons, e2, List.append_assoc, List.drop_left' (by rw [lcells_len]), List.append_assoc]
        have hql : q < l.length := by
          have := congrArg List.length hqd
          have := cnt_pos t
          rw [List.length_drop, List.length_append, tcells_len] at *
          omega
        have hp9 : p ≤ 1000 := by omega
        have hq9 : q ≤ 1000 := by omega
        rw [← hq]
        have C := Lib.hid (fun (W1 : World) (arr1 : Array Value) (hE1 : CodSt ge gk gv (some ad) l.length c arr1 W1) (hB1 : Below W0.heap.size W0 W1) (ha1 : ∀ i, q ≤ i → i < q + t.cnt → arr1[i]? = some (.slice none 0 0)) => IH.out t hmem q (bnd + bindsI k j) (lcells (ks.drop (j + 1)) ++ r) W1 arr1 (wfs_get HWS.out t hmem) hqd (by omega) (by omega) hE1 hB1 ha1)
        unfold ptr at C
        have HQ := Lib.hid hq
        have HT := Lib.hid ht
        clear hE hv hR hout hxl hmem hqd hq ht
        go_wp2_with fail
        refine (AR.out wr).mono ?_
        rintro e w1 ⟨rfl, ⟨nd, rfl⟩⟩
        have HS1 := Lib.hid (HST.out.below (ag_ (Below.refl wr.heap.size wr) nd))
        generalize hw1 : wr.drewN nd = w1 at HS1
        clear hw1 e0 e1 e2 fk hB hK
        obtain ⟨hB, hK, arr', v, xs, hE, hv, hxl, hR, hout⟩ := HS1.out
        obtain ⟨e0, e1, e2⟩ := hE.cell
        have fk := HKW.out w1 hB
        obtain ⟨Av, cv, hvs⟩ := Kd.R_slice hR
        obtain ⟨x0, x1⟩ := hE.gk hv
        have HV := Lib.hid hv
        have HXL := Lib.hid hxl
        have HVS := Lib.hid hvs
        have HR1 := Lib.hid hR
        have HE1 := Lib.hid hE
        have HOUT := Lib.hid hout
        have HB := Lib.hid hB
        have HK := Lib.hid hK
        have HLN := Lib.hid (show (xs.length + 1) * 8 ≤ 140737488355328 by omega)
        have HSZ := Lib.hid hK.1
        have HKK := Lib.hid hK
        have a0 : ∀ o, (w1.alloc o).cell? ⟨ge, 0, none⟩ = some (.slice (some ad) l.length c) := fun o => (World.cell?_alloc_lt _ _ _ (aa_ w1 _ e0)).trans e0
        have a1 : ∀ o, (w1.alloc o).cell? ⟨ge, 1, none⟩ = some (.slice (some ⟨gk, 0, none⟩) l.length l.length) := fun o => (World.cell?_alloc_lt _ _ _ (aa_ w1 _ e1)).trans e1
        have a2 : ∀ o, (w1.alloc o).cell? ⟨gk, p, none⟩ = some v := fun o => (World.cell?_alloc_lt _ _ _ (aa_ w1 _ x0)).trans x0
        have hwq : IntKind.i64.wrap (bnd + bindsI k j) = bnd + bindsI k j := by rw [IntKind.wrap_i64]; omega
        clear hE hv hxl hR hout hB hvs hK hwq
        go_wp2
        go_region_law (refine Kd.R_append_step (Kd.int .i64) (w0 := W0) (W := w1.drew) W0.heap.size (by first | rfl | simp) (.tmp 42) (.tmp 44) 46 3 (.int .i64 0) 8 (by rfl) Try.underlying46 info3f rfl (by decide) (by omega) v xs (q : Int) [.int .i64 q] (fun k => k ≠ ge ∧ k ≠ gk ∧ k ≠ gv ∧ W.heap.size ≤ k) (fun _ => False) (by simp [Act.eval, Act.put]) (by simp [Act.eval, Act.put]) rfl (fun _ h => h.elim) (fun k hk => by have h1 : w1.heap.size ≤ k := hk; have h2 := HSZ.out; omega) (Kd.R_drew HR1.out) (ah_ HB.out) (by have h1 : w1.drew.heap.size = w1.heap.size := rfl; have h2 := HB.out.size; omega) HLN.out ?_; intro v1 w2 hu hb2 hg hat; obtain ⟨A1, cc1, e1'⟩ := Kd.R_slice hu; rw [show (xs ++ [(q : Int)]).length = xs.length + 1 by simp] at e1'; subst e1'; have HU := Lib.hid hu; have HB2 := Lib.hid hb2; have HG := Lib.hid hg; have hE2 := HE1.out.grown (W' := w2) (row := v.ownBlock) ⟨hg.os, hg.tape, hg.output, hg.size, fun k hk hne => hg.block k hk hne⟩ (fun e => (HR1.out.1 _ e.symm).1 rfl) (fun e => (HR1.out.1 _ e.symm).2.1 rfl) (fun e => (HR1.out.1 _ e.symm).2.2.1 rfl); have HE2 := Lib.hid hE2; have y0 : w2.cell? ⟨ge, 0, none⟩ = some (.slice (some ad) l.length c) := hE2.cell.1; have y1 : w2.cell? ⟨ge, 1, none⟩ = some (.slice (some ⟨gk, 0, none⟩) l.length l.length) := hE2.cell.2.1; have y2 := (hE2.gk HV.out).1; have y3 := (hE2.gk HV.out).2; clear hu hb2 hg hat hE2)
        all_goals
          have hE3 := HE2.out.setk (i := p) (v := .slice A1 (xs.length + 1) cc1)
          have hB3 : Below W0.heap.size W0 (w2.setCell ⟨gk, p, none⟩ (.slice A1 (xs.length + 1) cc1)) := af_ HB2.out hgk
          have z0 := hE3.cell.1
          have fk3 := HKW.out _ hB3
          have HE3 := Lib.hid hE3
          have HB3 := Lib.hid hB3
          clear hE3 hB3 y0 y1 y2 y3
          go_wp2_with fail
          refine (bindsSp_calls k j _).mono ?_
          rintro e w5 ⟨rfl, ⟨n5, rfl⟩⟩
          have HQ2 := HQ.out
          have C2 := Lib.hid (C.out ((w2.setCell ⟨gk, p, none⟩ (.slice A1 (xs.length + 1) cc1)).drewN n5) _ (HE3.out.below (ag_ (Below.refl _ _) n5)) (ao_ HB3.out (ag_ (Below.refl _ _) n5)) (fun i h1 h2 => by rw [Array.getElem?_setIfInBounds_ne (by omega), HOUT.out i (by omega)]; exact HARR.out i (by omega) (by omega)))
          clear HQ2
          go_wp2_with fail
          refine C2.out.mono ?_
          intro e w6 hpost
          obtain ⟨he, hst2⟩ := WkSt.next (w3 := (w2.setCell ⟨gk, p, none⟩ (.slice A1 (xs.length + 1) cc1)).drewN n5) rfl hgvlt hgklt hgelt hpl HB.out hgk HKK.out HE1.out HXL.out HR1.out HOUT.out HQ.out HT.out HG.out HB2.out HU.out hpost
          subst he
          have HST2 := Lib.hid hst2
          clear hpost hst2
          go_wp2
          go_roundw
          case rel => exact ⟨j + 1, by omega, by go_num, rfl, HST2.out⟩
          case measure => simp [intOf]; omega
      · obtain rfl : j = ks.length := by omega
        clear hE hv hR hout hxl
        go_wp2_with (go_at_call 90; refine (AR.out _).mono ?_; rintro e w1 ⟨rfl, ⟨nd, rfl⟩⟩)
        go_ret
        obtain ⟨hB, hK, arr', v, xs, hE, _, _, _, hout⟩ := HST.out.below (ag_ (Below.refl wr.heap.size wr) nd)
        rw [List.take_length] at hout
        refine ⟨by simp [Int.add_assoc], hB, hK, arr', hE, fun i hi => hout i (by omega)⟩
end Go.Proofs.Ytgoiifpimpnlpaa.PAll

end

section
namespace Go.Proofs.Ytgoiifpimpnlpaa.PAll
open Go.RowKit Go.Proofs.YtgoiifpimpnlpaaW.PrintWords Go.Proofs.YtgoiifpimpnlpaaW.PrintLast Go.Proofs.YtgoiifpimpnlpaaW.PrintMore
set_option linter.unusedVariables false
set_option linter.unusedSimpArgs false
def startS (l : List S66) : Bool := match tmof l with
  | none => false
  | some t => decide ((freeT t 0).foldl ins [] = [])
def OfP (b : Bool) (w : World) (e : Ending) (w' : World) : Prop := Below w.heap.size w w' ∧ (b = true → ∃ ge, e = .returned (.tuple #[ptr ge, .bool true])) ∧ (b = false → e = .returned (.tuple #[.pointer none, .bool false]))
theorem info46k : (Try.prog.info? 46).map (fun i => (i.zero, i.size, i.bytes)) = some (some (.slice none 0 0), 1, 24) := by kernel_rfl
theorem CodSt.new {ge gk gv : Nat} {A : Option Addr} {n c : Nat} {W : World} (h1 : W.heap[ge]? = some (.cells (codC A n c gk gv) 142 (0, 0))) (h2 : W.heap[gk]? = some (.cells (madeCells #[.slice none 0 0] n) 46 (0, 0))) (h3 : W.heap[gv]? = some (.cells (madeCells #[.int .i64 0] n) 3 (0, 0))) : CodSt ge gk gv A n c (madeCells #[.slice none 0 0] n) W :=
  ⟨h1, ⟨h2, size_madeCells _ _⟩, ⟨_, h3, size_madeCells _ _⟩⟩
theorem cod_new1 (W : World) (A : Option Addr) (n c : Nat) : CodSt (W.heap.size + 1 + 1) W.heap.size (W.heap.size + 1) A n c (madeCells #[.slice none 0 0] n) (((W.alloc (.cells (madeCells #[.slice none 0 0] n) 46)).alloc (.cells (madeCells #[.int .i64 0] n) 3)).alloc (.cells (codC A n c W.heap.size (W.heap.size + 1)) 142)).drew :=
  CodSt.new (ae_ (by simpa using blk_new ((W.alloc (.cells (madeCells #[.slice none 0 0] n) 46)).alloc (.cells (madeCells #[.int .i64 0] n) 3)) (.cells (codC A n c W.heap.size (W.heap.size + 1)) 142))) (ae_ (ad_ (ad_ (blk_new W _) _) _)) (ae_ (ad_ (by simpa using blk_new (W.alloc (.cells (madeCells #[.slice none 0 0] n) 46)) (.cells (madeCells #[.int .i64 0] n) 3)) _))
theorem cod_new2 (W : World) (A : Option Addr) (n c : Nat) : CodSt (W.heap.size + 1 + 1) (W.heap.size + 1) W.heap.size A n c (madeCells #[.slice none 0 0] n) (((W.alloc (.cells (madeCells #[.int .i64 0] n) 3)).alloc (.cells (madeCells #[.slice none 0 0] n) 46)).alloc (.cells (codC A n c (W.heap.size + 1) W.heap.size) 142)).drew :=
  CodSt.new (ae_ (by simpa using blk_new ((W.alloc (.cells (madeCells #[.int .i64 0] n) 3)).alloc (.cells (madeCells #[.slice none 0 0] n) 46)) (.cells (codC A n c (W.heap.size + 1) W.heap.size) 142))) (ae_ (ad_ (by simpa using blk_new (W.alloc (.cells (madeCells #[.int .i64 0] n) 3)) (.cells (madeCells #[.slice none 0 0] n) 46)) _)) (ae_ (ad_ (ad_ (blk_new W _) _) _))
theorem made_at (v : Value) (n i : Nat) (h : i < n) : (madeCells #[v] n)[i]? = some v := by
  simp [madeCells, Nat.mod_one, h]
set_option maxRecDepth 100000 in
set_option maxHeartbeats 4000000 in
theorem l6Of_calls (l : List S66) (A : Option Addr) (c : Nat) (w : World) (hr : Kd.C k66 w A l.length l) (hc : l.length ≤ c) :
    Calls Try.prog 77 #[.slice A l.length c] w (OfP (startS l) w) := by
  have h := l3Tree_eq l 3606 (Nat.le_refl _)
  cases hq : tmof l with
  | none =>
    rw [hq] at h
    obtain ⟨b, n, ks, h⟩ := h
    have C := Lib.hid (spec_l3Tree.calls 3606 A c l b n ks false w hr hc h)
    rw [show startS l = false by simp [startS, hq]]
    clear h hq hr
    go_enter Try.func77, Try.ntmps77
    go_wp2_with fail
    refine C.out.mono ?_
    rintro e w1 ⟨v, rfl, hR, hb⟩
    obtain ⟨A1, c1, hv⟩ := Kd.R_slice hR
    subst hv
    have HB := Lib.hid hb
    clear hR hb
    go_wp2
    go_ret2
    exact ⟨ao_ HB.out (ai_ (Below.refl _ _) _), fun h => by (cases h), fun _ => rfl⟩
  | some t =>
    rw [hq] at h
    simp only at h
    have HW := Lib.hid (tmof_wf hq)
    have HV := Lib.hid (tmof_vb hq)
    have HL := Lib.hid (tmof_cells' hq)
    have HR := Lib.hid hr
    have HST := Lib.hid (show startS l = decide ((freeT t 0).foldl ins [] = []) by simp [startS, hq])
    have C := Lib.hid (spec_l3Tree.calls 3606 A c l _ _ _ true w hr hc h)
    clear h hq hr
    have C2 := Lib.hid (fun (w1 : World) (A1 : Option Addr) (c1 : Nat) (HR : Kd.R k62 62 w1 w.heap.size (fun _ => True) (.slice A1 (tv t).f2.length c1) (tv t).f2) (W : World) (hb : Below w1.heap.size w1 W) => l3Free_calls t A1 c1 0 (fun _ => False) (.slice none 0 0) [] w1 W HW.out (vb_mono (by omega) t HV.out.1) (by omega) (by have := HV.out.2; omega) (by have := HV.out.2; simp; omega) hb (fun W' hW' => (Kd.R_reads' (Kd.R_kept (Kd.R_below HR hb) hW' (fun _ _ h => h))).2.2) (Kd.R_reads' HR).2.1 (Kd.R_nil _ _ _ _ _))
    by_cases h0 : (freeT t 0).foldl ins [] = []
    · rw [show startS l = true by rw [HST.out]; exact an_ h0]
      rw [h0] at C2
      clear h0
      have hlen : l.length = t.cnt := by rw [HL.out, tcells_len]
      have hpos := cnt_pos t
      have hlt : l.length ≤ 600 := by have := HV.out.2; omega
      have hl1 : 0 < l.length := by omega
      have HLEN := Lib.hid hlen
      clear hlen hpos
      have hmk : ∀ W, (Instr.makeSlice 46 (.int .i64 (l.length : Int)) (.int .i64 (l.length : Int))).run Try.prog W = .ok (.slice (some ⟨W.heap.size, 0, none⟩) l.length l.length) (W.alloc (.cells (madeCells #[.int .i64 0] l.length) 3)) := run_make_row' 46 3 (.int .i64 0) 8 Try.underlying46 info3f rfl .i64 .i64 l.length (by omega) (by omega)
      have hmk2 : ∀ W, (Instr.makeSlice 140 (.int .i64 (l.length : Int)) (.int .i64 (l.length : Int))).run Try.prog W = .ok (.slice (some ⟨W.heap.size, 0, none⟩) l.length l.length) (W.alloc (.cells (madeCells #[.slice none 0 0] l.length) 46)) := run_make_row' 140 46 (.slice none 0 0) 24 Try.underlying140 info46k rfl .i64 .i64 l.length (by omega) (by omega)
      go_enter Try.func77, Try.ntmps77
      go_wp2_with fail
      refine C.out.mono ?_
      rintro e w1 ⟨v, rfl, hR, hb⟩
      obtain ⟨A1, c1, hv⟩ := Kd.R_slice hR
      subst hv
      have HB := Lib.hid hb
      have C3 := Lib.hid (C2.out w1 A1 c1 hR)
      clear hR hb
      go_wp2_with fail
      refine (C3.out _ (ai_ (Below.refl _ _) _)).mono ?_
      rintro e w2 ⟨v2, rfl, hR2, hb2, _⟩
      obtain ⟨A2, c2, hv2⟩ := Kd.R_slice hR2
      subst hv2
      have HB2 := Lib.hid (ao_ HB.out hb2)
      clear hR2 hb2
      have M1 := walk_calls l w2 (w2.heap.size + 1 + 1) w2.heap.size (w2.heap.size + 1) A c (by omega) (Kd.C_below HR.out HB2.out) (by omega) (by omega) (by omega) t 0 0 [] _ _ HW.out (by rw [List.drop_zero, List.append_nil]; exact HL.out) (by omega) (by have := HV.out.2; omega) (cod_new1 w2 A l.length c) (by repeat (first | exact Below.refl _ _ | apply ah_ | apply ai_)) (fun i _ h2 => made_at _ _ _ (by have := HLEN.out; omega))
      have M2 := walk_calls l w2 (w2.heap.size + 1 + 1) (w2.heap.size + 1) w2.heap.size A c (by omega) (Kd.C_below HR.out HB2.out) (by omega) (by omega) (by omega) t 0 0 [] _ _ HW.out (by rw [List.drop_zero, List.append_nil]; exact HL.out) (by omega) (by have := HV.out.2; omega) (cod_new2 w2 A l.length c) (by repeat (first | exact Below.refl _ _ | apply ah_ | apply ai_)) (fun i _ h2 => made_at _ _ _ (by have := HLEN.out; omega))
      simp only [Int.cast_ofNat_Int] at M1 M2
      unfold ptr codC at M1 M2
      have M1 := Lib.hid M1
      have M2 := Lib.hid M2
      go_wp2
      go_region
      all_goals
        go_wp2_with fail
        first
        | ((with_reducible refine M1.out.mono ?_); rintro e w3 ⟨rfl, hB3, _⟩; have HB3 := Lib.hid (ao_ HB2.out hB3); clear hB3)
        | ((with_reducible refine M2.out.mono ?_); rintro e w3 ⟨rfl, hB3, _⟩; have HB3 := Lib.hid (ao_ HB2.out hB3); clear hB3)
        go_wp2
        go_ret2
        exact ⟨HB3.out, fun _ => ⟨_, rfl⟩, fun h => by (cases h)⟩
    · have hl0 : decide (0 < ((freeT t 0).foldl ins []).length) = true := an_ (List.length_pos_iff.2 h0)
      rw [show startS l = false by rw [HST.out]; exact decide_eq_false h0]
      clear h0
      go_enter Try.func77, Try.ntmps77
      go_wp2_with fail
      refine C.out.mono ?_
      rintro e w1 ⟨v, rfl, hR, hb⟩
      obtain ⟨A1, c1, hv⟩ := Kd.R_slice hR
      subst hv
      have HB := Lib.hid hb
      have C3 := Lib.hid (C2.out w1 A1 c1 hR)
      clear hR hb
      go_wp2_with fail
      refine (C3.out _ (ai_ (Below.refl _ _) _)).mono ?_
      rintro e w2 ⟨v2, rfl, hR2, hb2, _⟩
      obtain ⟨A2, c2, hv2⟩ := Kd.R_slice hR2
      subst hv2
      have HB2 := Lib.hid (ao_ HB.out hb2)
      clear hR2 hb2
      go_wp2
      go_ret2
      exact ⟨HB2.out, fun h => by (cases h), fun _ => rfl⟩
def StPS (b : Bool) (w : World) (e : Ending) (w' : World) : Prop := ∃ A4 c4 A5 c5 A6 c6, e = .returned (.tuple #[.agg #[.bool false, .int .i64 0, .int .i64 (if b = true then -1 else 0), .int .i64 (if b = true then -1 else 0), .slice A4 0 c4, .slice A5 0 c5, .slice A6 0 c6], .bool b]) ∧ Below w.heap.size w w'
def put7s (w : World) (o : Nat) (m : Int) (v4 v5 v6 : Value) : World := (((((((w.setCell ⟨o, 0, none⟩ (.bool false)).setCell ⟨o, 1, none⟩ (.int .i64 0)).setCell ⟨o, 2, none⟩ (.int .i64 m)).setCell ⟨o, 3, none⟩ (.int .i64 m)).setCell ⟨o, 4, none⟩ v4).setCell ⟨o, 5, none⟩ v5).setCell ⟨o, 6, none⟩ v6)
theorem put7s_blk {w : World} {o : Nat} (m : Int) (v4 v5 v6 : Value) (h : w.heap[o]? = some (.cells #[.bool false, .int .i64 0, .int .i64 0, .int .i64 0, .slice none 0 0, .slice none 0 0, .slice none 0 0] 55 (0, 0))) : (put7s w o m v4 v5 v6).heap[o]? = some (.cells #[.bool false, .int .i64 0, .int .i64 m, .int .i64 m, v4, v5, v6] 55 (0, 0)) := by
  have := blk_set (blk_set (blk_set (blk_set (blk_set (blk_set (blk_set h 0 (.bool false)) 1 (.int .i64 0)) 2 (.int .i64 m)) 3 (.int .i64 m)) 4 v4) 5 v5) 6 v6
  unfold put7s
  simpa using this
theorem put7s_below {w0 w : World} {o : Nat} (m : Int) (v4 v5 v6 : Value) (h : Below w0.heap.size w0 w) (ho : w0.heap.size ≤ o) : Below w0.heap.size w0 (put7s w o m v4 v5 v6) :=
  af_ (af_ (af_ (af_ (af_ (af_ (af_ h ho) ho) ho) ho) ho) ho) ho
set_option maxRecDepth 100000 in
set_option maxHeartbeats 4000000 in
theorem specStart_calls (l : List S66) (A : Option Addr) (c : Nat) (w : World) (hr : Kd.C k66 w A l.length l) (hc : l.length ≤ c) :
    Calls Try.prog 42 #[.slice A l.length c] w (StPS (startS l) w) := by
  have C := Lib.hid (fun (W : World) (hb : Below w.heap.size w W) => l6Of_calls l A c W (Kd.C_below hr hb) hc)
  clear hr
  by_cases hs : startS l = true
  · rw [hs] at C ⊢
    clear hs
    go_enter Try.func42, Try.ntmps42
    go_wp2_with fail
    refine (C.out _ (ai_ (Below.refl _ _) _)).mono ?_
    rintro e w0 ⟨hb, ht, _⟩
    obtain ⟨ge, rfl⟩ := ht rfl
    have HBA := Lib.hid hb
    clear hb ht
    unfold ptr
    go_wp2_with fail
    refine (spec_l6Start.calls false 0 (-1) (-1) [] [] [] w0 rfl).mono ?_
    rintro e w1 ⟨v4, v5, v6, rfl, r4, r5, r6, hb1⟩
    obtain ⟨A4, c4, hv4⟩ := Kd.R_slice r4
    obtain ⟨A5, c5, hv5⟩ := Kd.R_slice r5
    obtain ⟨A6, c6, hv6⟩ := Kd.R_slice r6
    subst hv4 hv5 hv6
    have hb := ao_ HBA.out hb1
    clear r4 r5 r6 hb1
    obtain ⟨o, ho⟩ : ∃ o, o = w.heap.size := ⟨_, rfl⟩
    rw [← ho]
    have hbk : w1.heap[o]? = some (.cells #[.bool false, .int .i64 0, .int .i64 0, .int .i64 0, .slice none 0 0, .slice none 0 0, .slice none 0 0] 55 (0, 0)) := by rw [ho]; exact blk_below (blk_new w _) hb
    have k0 : w1.cell? ⟨o, 0, none⟩ = some (.bool false) := (am_ hbk 0).trans rfl
    have k1 : w1.cell? ⟨o, 1, none⟩ = some (.int .i64 0) := (am_ hbk 1).trans rfl
    have k2 : w1.cell? ⟨o, 2, none⟩ = some (.int .i64 0) := (am_ hbk 2).trans rfl
    have k3 : w1.cell? ⟨o, 3, none⟩ = some (.int .i64 0) := (am_ hbk 3).trans rfl
    have k4 : w1.cell? ⟨o, 4, none⟩ = some (.slice none 0 0) := (am_ hbk 4).trans rfl
    have k5 : w1.cell? ⟨o, 5, none⟩ = some (.slice none 0 0) := (am_ hbk 5).trans rfl
    have k6 : w1.cell? ⟨o, 6, none⟩ = some (.slice none 0 0) := (am_ hbk 6).trans rfl
    have z0 : w1.frozen? ⟨o, 0, none⟩ = false := al_ hbk 0
    have z1 : w1.frozen? ⟨o, 1, none⟩ = false := al_ hbk 1
    have z2 : w1.frozen? ⟨o, 2, none⟩ = false := al_ hbk 2
    have z3 : w1.frozen? ⟨o, 3, none⟩ = false := al_ hbk 3
    have z4 : w1.frozen? ⟨o, 4, none⟩ = false := al_ hbk 4
    have z5 : w1.frozen? ⟨o, 5, none⟩ = false := al_ hbk 5
    have z6 : w1.frozen? ⟨o, 6, none⟩ = false := al_ hbk 6
    have hw0 : w.heap.size ≤ o := by omega
    have HO := Lib.hid ho
    have HK := Lib.hid hbk
    have HB0 := Lib.hid (show Below w.heap.size w w1 from ao_ (ai_ (Below.refl _ _) _) hb)
    clear ho hbk
    clear hb
    simp only [List.length_nil]
    go_wp2
    obtain ⟨w9, hw9⟩ : ∃ w9, w9 = put7s w1 o (-1) (.slice A4 0 c4) (.slice A5 0 c5) (.slice A6 0 c6) := ⟨_, rfl⟩
    have hbk9 : w9.heap[o]? = some (.cells #[.bool false, .int .i64 0, .int .i64 (-1), .int .i64 (-1), .slice A4 0 c4, .slice A5 0 c5, .slice A6 0 c6] 55 (0, 0)) := by rw [hw9]; exact put7s_blk (-1) _ _ _ HK.out
    have hb9 : Below w.heap.size w w9 := by rw [hw9]; exact put7s_below (-1) _ _ _ HB0.out hw0
    unfold put7s at hw9
    rw [← hw9]
    clear hw9
    have c0_ : w9.cell? ⟨o, 0, none⟩ = some (.bool false) := (am_ hbk9 0).trans rfl
    have c1_ : w9.cell? ⟨o, 1, none⟩ = some (.int .i64 0) := (am_ hbk9 1).trans rfl
    have c2_ : w9.cell? ⟨o, 2, none⟩ = some (.int .i64 (-1)) := (am_ hbk9 2).trans rfl
    have c3_ : w9.cell? ⟨o, 3, none⟩ = some (.int .i64 (-1)) := (am_ hbk9 3).trans rfl
    have c4_ : w9.cell? ⟨o, 4, none⟩ = some (.slice A4 0 c4) := (am_ hbk9 4).trans rfl
    have c5_ : w9.cell? ⟨o, 5, none⟩ = some (.slice A5 0 c5) := (am_ hbk9 5).trans rfl
    have c6_ : w9.cell? ⟨o, 6, none⟩ = some (.slice A6 0 c6) := (am_ hbk9 6).trans rfl
    exact bodyPost_ret (v := .tuple #[.agg #[.bool false, .int .i64 0, .int .i64 (-1), .int .i64 (-1), .slice A4 0 c4, .slice A5 0 c5, .slice A6 0 c6], .bool true]) (by simp [results, Try.results42, go_sem, c0_, c1_, c2_, c3_, c4_, c5_, c6_]) rfl ⟨_, _, _, _, _, _, rfl, hb9⟩
  · have hs : startS l = false := by simpa using hs
    rw [hs] at C ⊢
    clear hs
    go_enter Try.func42, Try.ntmps42
    go_wp2_with fail
    refine (C.out _ (ai_ (Below.refl _ _) _)).mono ?_
    rintro e w1 ⟨hb, _, ht⟩
    obtain rfl := ht rfl
    obtain ⟨o, ho⟩ : ∃ o, o = w.heap.size := ⟨_, rfl⟩
    rw [← ho]
    have hbk : w1.heap[o]? = some (.cells #[.bool false, .int .i64 0, .int .i64 0, .int .i64 0, .slice none 0 0, .slice none 0 0, .slice none 0 0] 55 (0, 0)) := by rw [ho]; exact blk_below (blk_new w _) hb
    have k0 : w1.cell? ⟨o, 0, none⟩ = some (.bool false) := (am_ hbk 0).trans rfl
    have k1 : w1.cell? ⟨o, 1, none⟩ = some (.int .i64 0) := (am_ hbk 1).trans rfl
    have k2 : w1.cell? ⟨o, 2, none⟩ = some (.int .i64 0) := (am_ hbk 2).trans rfl
    have k3 : w1.cell? ⟨o, 3, none⟩ = some (.int .i64 0) := (am_ hbk 3).trans rfl
    have k4 : w1.cell? ⟨o, 4, none⟩ = some (.slice none 0 0) := (am_ hbk 4).trans rfl
    have k5 : w1.cell? ⟨o, 5, none⟩ = some (.slice none 0 0) := (am_ hbk 5).trans rfl
    have k6 : w1.cell? ⟨o, 6, none⟩ = some (.slice none 0 0) := (am_ hbk 6).trans rfl
    have z0 : w1.frozen? ⟨o, 0, none⟩ = false := al_ hbk 0
    have z1 : w1.frozen? ⟨o, 1, none⟩ = false := al_ hbk 1
    have z2 : w1.frozen? ⟨o, 2, none⟩ = false := al_ hbk 2
    have z3 : w1.frozen? ⟨o, 3, none⟩ = false := al_ hbk 3
    have z4 : w1.frozen? ⟨o, 4, none⟩ = false := al_ hbk 4
    have z5 : w1.frozen? ⟨o, 5, none⟩ = false := al_ hbk 5
    have z6 : w1.frozen? ⟨o, 6, none⟩ = false := al_ hbk 6
    have hw0 : w.heap.size ≤ o := by omega
    have HO := Lib.hid ho
    have HK := Lib.hid hbk
    have HB0 := Lib.hid (show Below w.heap.size w w1 from ao_ (ai_ (Below.refl _ _) _) hb)
    clear ho hbk
    clear hb ht
    go_wp2
    obtain ⟨w9, hw9⟩ : ∃ w9, w9 = put7s w1 o (0) (.slice none 0 0) (.slice none 0 0) (.slice none 0 0) := ⟨_, rfl⟩
    have hbk9 : w9.heap[o]? = some (.cells #[.bool false, .int .i64 0, .int .i64 (0), .int .i64 (0), .slice none 0 0, .slice none 0 0, .slice none 0 0] 55 (0, 0)) := by rw [hw9]; exact put7s_blk (0) _ _ _ HK.out
    have hb9 : Below w.heap.size w w9 := by rw [hw9]; exact put7s_below (0) _ _ _ HB0.out hw0
    unfold put7s at hw9
    rw [← hw9]
    clear hw9
    have c0_ : w9.cell? ⟨o, 0, none⟩ = some (.bool false) := (am_ hbk9 0).trans rfl
    have c1_ : w9.cell? ⟨o, 1, none⟩ = some (.int .i64 0) := (am_ hbk9 1).trans rfl
    have c2_ : w9.cell? ⟨o, 2, none⟩ = some (.int .i64 (0)) := (am_ hbk9 2).trans rfl
    have c3_ : w9.cell? ⟨o, 3, none⟩ = some (.int .i64 (0)) := (am_ hbk9 3).trans rfl
    have c4_ : w9.cell? ⟨o, 4, none⟩ = some (.slice none 0 0) := (am_ hbk9 4).trans rfl
    have c5_ : w9.cell? ⟨o, 5, none⟩ = some (.slice none 0 0) := (am_ hbk9 5).trans rfl
    have c6_ : w9.cell? ⟨o, 6, none⟩ = some (.slice none 0 0) := (am_ hbk9 6).trans rfl
    exact bodyPost_ret (v := .tuple #[.agg #[.bool false, .int .i64 0, .int .i64 (0), .int .i64 (0), .slice none 0 0, .slice none 0 0, .slice none 0 0], .bool false]) (by simp [results, Try.results42, go_sem, c0_, c1_, c2_, c3_, c4_, c5_, c6_]) rfl ⟨_, _, _, _, _, _, rfl, hb9⟩
end Go.Proofs.Ytgoiifpimpnlpaa.PAll

end

section
namespace Go.Proofs.Ytgoiifpimpnlpaa.PAll
open Go.RowKit Go.Proofs.YtgoiifpimpnlpaaW.PrintWords Go.Proofs.YtgoiifpimpnlpaaW.PrintLast Go.Proofs.YtgoiifpimpnlpaaW.PrintMore
attribute [local go_sem] max2_int min2_int max_two min_two max_three min_three max_four min_four   -- for this text's walks alone
set_option linter.unusedVariables false
set_option linter.unusedSimpArgs false
def laws_eqFrameS.l0 : Nat → List (S147) → List (S147) → Int → Option (Bool)
  | 0, _, _, _ => none
  | k + 1, x0, x1, x5 => if x5 < (x0.length : Int) then (if 0 ≤ x5 then (if x5 < (x1.length : Int) then ((laws_eqFrame.f ((rd_T147 x0 x5).f0) ((rd_T147 x0 x5).f1) ((rd_T147 x0 x5).f2) ((rd_T147 x0 x5).f3) ((rd_T147 x1 x5).f0) ((rd_T147 x1 x5).f1) ((rd_T147 x1 x5).f2) ((rd_T147 x1 x5).f3)).bind fun t963 => (if t963 = true then (laws_eqFrameS.l0 k x0 x1 (wrap64 (x5 + 1))) else (some false))) else (none)) else (none)) else (some true)
def laws_eqFrameS.f (k : Nat) (l0 : List (S147)) (l1 : List (S147)) : Option (Bool) := if (l0.length : Int) = (l1.length : Int) then (laws_eqFrameS.l0 k l0 l1 0) else (some false)
def laws_eqFrameS.T6 : Bool × List (List Nat × List Nat) := (true, [([], []), ([], []), ([0, 1], [0, 1]), ([2], [2]), ([], []), ([], []), ([4, 5], [4, 5]), ([6], [6]), ([3, 7], [3, 7]), ([8], [8])])
def laws_eqFrameS.B6 : List Nat := [0, 0, 3, 7, 0, 0, 48, 112, 255, 511]
theorem laws_eqFrameS.tab6 : rtab .any (opsOf Try.f80 6) = laws_eqFrameS.T6 := by kernel_rfl
theorem laws_eqFrameS.bits6 : waitsOk laws_eqFrameS.T6.2 laws_eqFrameS.B6 = true := by kernel_rfl
set_option maxHeartbeats 8000000 in
set_option maxRecDepth 100000 in
theorem laws_eqFrameS.calls (k : Nat) (A0 : Option Addr) (c0 : Nat) (l0 : List (S147)) (A1 : Option Addr) (c1 : Nat) (l1 : List (S147)) (r : Bool) (w : World) (hr0 : Kd.C k147 w A0 l0.length l0) (hc0 : l0.length ≤ c0) (hr1 : Kd.C k147 w A1 l1.length l1) (hc1 : l1.length ≤ c1) (h : laws_eqFrameS.f k l0 l1 = some r) :
    Calls Try.prog 80 #[.slice A0 l0.length c0, .slice A1 l1.length c1] w fun e w' => e = .returned (.bool r) ∧ Below w.heap.size w w' := by
  have hu147 := Try.underlying147
  have HR0 := ab_ hr0
  have HC0 := ab_ hc0
  clear hr0 hc0
  have HR1 := ab_ hr1
  have HC1 := ab_ hc1
  clear hr1 hc1
  have HB := ab_ (Below.refl w.heap.size w)
  have H : (if (l0.length : Int) = (l1.length : Int) then (laws_eqFrameS.l0 k l0 l1 0) else (some false)) = some r := h
  clear h
  by_cases c3 : (l0.length : Int) = (l1.length : Int)
  · rw [if_pos c3] at H
    have c3b0 : ((l0.length : Int) == (l1.length : Int)) = true := beq_iff_eq.mpr c3
    have c3b1 : ((l0.length : Int) != (l1.length : Int)) = false := bne_eq_false_iff_eq.mpr c3
    have c3b2 : (l0.length == l1.length) = true := by first | simpa using c3 | (simp at c3 ⊢; omega)
    clear c3
    have H' := ab_ H
    clear H
    go_enter Try.func80, Try.ntmps80
    go_wp2
    go_loopg [5] k (fun kq v5 w' => ∃ (x5_1 : Int), v5 = .int .i64 x5_1 ∧ Aside0 (laws_eqFrameS.l0 kq l0 l1 x5_1 = some r) ∧ Aside0 (kq ≤ k) ∧ Aside0 (Below w.heap.size w w'))
    case atStart => exact ⟨(0), (by first | rfl | (simp; done) | (simp [*]; done)), H', ⟨Nat.le_refl _⟩, ⟨by repeat (first | (with_reducible first | exact HB.out | apply ai_ | apply ag_ | apply ah_) | exact HB.out)⟩⟩
    case round =>
      clear H'
      try clear c1
      try clear p2
      try clear c3
      try clear c3b0
      try clear c3b1
      try clear c3b2
      obtain ⟨x5_1, rfl, HA, HK1, HB⟩ := hrel
      cases gk with
      | zero => exact absurd HA.out (by simp [laws_eqFrameS.l0])
      | succ k1 =>
        have H := HA.out
        clear HA
        simp only [laws_eqFrameS.l0] at H
        by_cases c4 : x5_1 < (l0.length : Int)
        · rw [if_pos c4] at H
          have c4b0 : decide (x5_1 < (l0.length : Int)) = true := an_ c4
          clear c4
          by_cases c5 : 0 ≤ x5_1
          · rw [if_pos c5] at H
            have c5b0 : decide (0 ≤ x5_1) = true := an_ c5
            clear c5
            by_cases c6 : x5_1 < (l1.length : Int)
            · rw [if_pos c6] at H
              have c6b0 : decide (x5_1 < (l1.length : Int)) = true := an_ c6
              clear c6
              replace H := Option.bind_eq_some_iff.mp H
              obtain ⟨t963, A70, H⟩ := H
              replace H : (if t963 = true then (laws_eqFrameS.l0 k1 l0 l1 (wrap64 (x5_1 + 1))) else (some false)) = some r := H
              have A7 := ab_ A70
              clear A70
              by_cases c8 : t963 = true
              · subst c8
                have H1 : (laws_eqFrameS.l0 k1 l0 l1 (wrap64 (x5_1 + 1))) = some r := by rw [if_pos rfl] at H; exact H
                clear H
                have H := H1
                clear H1
                have H' := ab_ H
                clear H
                try go_wp2
                have n0_ := ab_ (ah_ HB.out)
                clear HB
                have HB := n0_
                clear n0_
                have p961 : 0 ≤ (x5_1 : Int) := of_decide_eq_true (by first | (with_reducible assumption) | assumption)
                have q961 : x5_1 < (l0.length : Int) := of_decide_eq_true (by first | (with_reducible assumption) | assumption)
                obtain ⟨ad961, e961, hx961_0, hx961_1, hx961_2, hx961_3⟩ := at_T147 HR0.out x5_1 p961 q961
                have hw961_3 := hx961_3
                have hw961_2 := hx961_2
                have hw961_1 := hx961_1
                have hw961_0 := hx961_0
                cases e961
                replace hx961_0 := (HB.out.cell (aa_ w _ hx961_0)).trans hx961_0
                replace hx961_1 := (HB.out.cell (aa_ w _ hx961_1)).trans hx961_1
                replace hx961_2 := (HB.out.cell (aa_ w _ hx961_2)).trans hx961_2
                replace hx961_3 := (HB.out.cell (aa_ w _ hx961_3)).trans hx961_3
                replace p961 := eq_true p961
                replace q961 := eq_true q961
                have p962 : 0 ≤ (x5_1 : Int) := of_decide_eq_true (by first | (with_reducible assumption) | assumption)
                have q962 : x5_1 < (l1.length : Int) := of_decide_eq_true (by first | (with_reducible assumption) | assumption)
                obtain ⟨ad962, e962, hx962_0, hx962_1, hx962_2, hx962_3⟩ := at_T147 HR1.out x5_1 p962 q962
                have hw962_3 := hx962_3
                have hw962_2 := hx962_2
                have hw962_1 := hx962_1
                have hw962_0 := hx962_0
                cases e962
                replace hx962_0 := (HB.out.cell (aa_ w _ hx962_0)).trans hx962_0
                replace hx962_1 := (HB.out.cell (aa_ w _ hx962_1)).trans hx962_1
                replace hx962_2 := (HB.out.cell (aa_ w _ hx962_2)).trans hx962_2
                replace hx962_3 := (HB.out.cell (aa_ w _ hx962_3)).trans hx962_3
                replace p962 := eq_true p962
                replace q962 := eq_true q962
                refine start_ (n := 10) (S := fun w' => w'.cell? (ad961.add ((x5_1).toNat * 4)) = some (.int .i64 ((rd_T147 l0 x5_1).f0)) ∧ w'.cell? ⟨(ad961.add ((x5_1).toNat * 4)).block, (ad961.add ((x5_1).toNat * 4)).off + 1, none⟩ = some (.int .i64 ((rd_T147 l0 x5_1).f1)) ∧ w'.cell? ⟨(ad961.add ((x5_1).toNat * 4)).block, (ad961.add ((x5_1).toNat * 4)).off + 2, none⟩ = some (.int .i64 ((rd_T147 l0 x5_1).f2)) ∧ w'.cell? ⟨(ad961.add ((x5_1).toNat * 4)).block, (ad961.add ((x5_1).toNat * 4)).off + 3, none⟩ = some (.int .i64 ((rd_T147 l0 x5_1).f3)) ∧ w'.cell? (ad962.add ((x5_1).toNat * 4)) = some (.int .i64 ((rd_T147 l1 x5_1).f0)) ∧ w'.cell? ⟨(ad962.add ((x5_1).toNat * 4)).block, (ad962.add ((x5_1).toNat * 4)).off + 1, none⟩ = some (.int .i64 ((rd_T147 l1 x5_1).f1)) ∧ w'.cell? ⟨(ad962.add ((x5_1).toNat * 4)).block, (ad962.add ((x5_1).toNat * 4)).off + 2, none⟩ = some (.int .i64 ((rd_T147 l1 x5_1).f2)) ∧ w'.cell? ⟨(ad962.add ((x5_1).toNat * 4)).block, (ad962.add ((x5_1).toNat * 4)).off + 3, none⟩ = some (.int .i64 ((rd_T147 l1 x5_1).f3))) (ds := []) #[false, false, false, false, false, false, false, false, false, false] (by kernel_rfl) rfl rfl ⟨((HB.out.cell (aa_ w _ hw961_0)).trans hw961_0), ((HB.out.cell (aa_ w _ hw961_1)).trans hw961_1), ((HB.out.cell (aa_ w _ hw961_2)).trans hw961_2), ((HB.out.cell (aa_ w _ hw961_3)).trans hw961_3), ((HB.out.cell (aa_ w _ hw962_0)).trans hw962_0), ((HB.out.cell (aa_ w _ hw962_1)).trans hw962_1), ((HB.out.cell (aa_ w _ hw962_2)).trans hw962_2), ((HB.out.cell (aa_ w _ hw962_3)).trans hw962_3)⟩ (fun hHeld => ?_); refine with_tabW laws_eqFrameS.tab6 laws_eqFrameS.bits6 (fun HT_ HW_ => ?_)
                generalize wr.drew = w9 at HB hx961_0 hx961_1 hx961_2 hx961_3 hx962_0 hx962_1 hx962_2 hx962_3 hHeld ⊢
                refine pure_ (i := 0) (N := some 17) (v := ?_) (a' := ?_) #[true, false, false, false, false, false, false, false, false, false] rfl rfl (any_of HT_.out (by kernel_rfl)) (fun _ _ _ h => h) (Or.inl ⟨by rfl, ?_⟩) ?_ ?_
                rotate_left
                · intro w'
                  go_simp
                  with_reducible rfl
                rotate_left
                · simp only [Act.put, List.setIfInBounds_toArray, List.set_cons_zero, List.set_cons_succ, i64_w, i32_w]
                  rfl
                refine pure_ (i := 1) (N := some 18) (v := ?_) (a' := ?_) #[true, true, false, false, false, false, false, false, false, false] rfl rfl (any_of HT_.out (by kernel_rfl)) (fun _ _ _ h => h) (Or.inl ⟨by rfl, ?_⟩) ?_ ?_
                rotate_left
                · intro w'
                  go_simp
                  with_reducible rfl
                rotate_left
                · simp only [Act.put, List.setIfInBounds_toArray, List.set_cons_zero, List.set_cons_succ, i64_w, i32_w]
                  rfl
                refine pure_ (i := 2) (N := some 19) (v := ?_) (a' := ?_) #[true, true, true, false, false, false, false, false, false, false] rfl rfl (any_of HT_.out (by kernel_rfl)) (fun _ _ _ h => h) (Or.inl ⟨by rfl, ?_⟩) ?_ ?_
                rotate_left
                · intro w'
                  go_simp
                  with_reducible rfl
                rotate_left
                · simp only [Act.put, List.setIfInBounds_toArray, List.set_cons_zero, List.set_cons_succ, i64_w, i32_w]
                  rfl
                refine pure_ (i := 4) (N := some 21) (v := ?_) (a' := ?_) #[true, true, true, false, true, false, false, false, false, false] rfl rfl (any_of HT_.out (by kernel_rfl)) (fun _ _ _ h => h) (Or.inl ⟨by rfl, ?_⟩) ?_ ?_
                rotate_left
                · intro w'
                  go_simp
                  with_reducible rfl
                rotate_left
                · simp only [Act.put, List.setIfInBounds_toArray, List.set_cons_zero, List.set_cons_succ, i64_w, i32_w]
                  rfl
                refine pure_ (i := 5) (N := some 22) (v := ?_) (a' := ?_) #[true, true, true, false, true, true, false, false, false, false] rfl rfl (any_of HT_.out (by kernel_rfl)) (fun _ _ _ h => h) (Or.inl ⟨by rfl, ?_⟩) ?_ ?_
                rotate_left
                · intro w'
                  go_simp
                  with_reducible rfl
                rotate_left
                · simp only [Act.put, List.setIfInBounds_toArray, List.set_cons_zero, List.set_cons_succ, i64_w, i32_w]
                  rfl
                refine pure_ (i := 6) (N := some 23) (v := ?_) (a' := ?_) #[true, true, true, false, true, true, true, false, false, false] rfl rfl (any_of HT_.out (by kernel_rfl)) (fun _ _ _ h => h) (Or.inl ⟨by rfl, ?_⟩) ?_ ?_
                rotate_left
                · intro w'
                  go_simp
                  with_reducible rfl
                rotate_left
                · simp only [Act.put, List.setIfInBounds_toArray, List.set_cons_zero, List.set_cons_succ, i64_w, i32_w]
                  rfl
                refine take_ (i := 3) (N := some 20) (v := ?_) (a' := ?_) #[true, true, true, true, true, true, true, false, false, false] rfl rfl (take_ofW HT_.out HW_.out (by kernel_rfl)) (fun _ _ _ h => h) (Or.inl ⟨by rfl, ?_⟩) hHeld ?_ ?_
                rotate_left
                · rintro w' ⟨s0, s1, s2, s3, s4, s5, s6, s7⟩
                  go_simp
                  with_reducible rfl
                rotate_left
                · simp only [Act.put, List.setIfInBounds_toArray, List.set_cons_zero, List.set_cons_succ, i64_w, i32_w]
                  rfl
                refine take_ (i := 7) (N := some 24) (v := ?_) (a' := ?_) #[true, true, true, true, true, true, true, true, false, false] rfl rfl (take_ofW HT_.out HW_.out (by kernel_rfl)) (fun _ _ _ h => h) (Or.inl ⟨by rfl, ?_⟩) hHeld ?_ ?_
                rotate_left
                · rintro w' ⟨s0, s1, s2, s3, s4, s5, s6, s7⟩
                  go_simp
                  with_reducible rfl
                rotate_left
                · simp only [Act.put, List.setIfInBounds_toArray, List.set_cons_zero, List.set_cons_succ, i64_w, i32_w]
                  rfl
                refine one_ (i := 8) (N := some 25) #[true, true, true, true, true, true, true, true, true, false] rfl rfl (one_of HT_.out (by kernel_rfl)) (by decide) (fun K hK => ?_)
                refine goes_ Try.func124 (by kernel_rfl) rfl #[.agg #[.int .i64 ((rd_T147 l0 x5_1).f0), .int .i64 ((rd_T147 l0 x5_1).f1), .int .i64 ((rd_T147 l0 x5_1).f2), .int .i64 ((rd_T147 l0 x5_1).f3)], .agg #[.int .i64 ((rd_T147 l1 x5_1).f0), .int .i64 ((rd_T147 l1 x5_1).f1), .int .i64 ((rd_T147 l1 x5_1).f2), .int .i64 ((rd_T147 l1 x5_1).f3)]] (by rfl) rfl rfl (by (try simp only [List.map_toArray, List.map_cons, List.map_nil]); first | done | rfl | (simp only [List.length_drop, List.length_take]; rfl)) ?_
                with_reducible refine (laws_eqFrame.calls ((rd_T147 l0 x5_1).f0) ((rd_T147 l0 x5_1).f1) ((rd_T147 l0 x5_1).f2) ((rd_T147 l0 x5_1).f3) ((rd_T147 l1 x5_1).f0) ((rd_T147 l1 x5_1).f1) ((rd_T147 l1 x5_1).f2) ((rd_T147 l1 x5_1).f3) true _ A7.out).mono ?_
                rintro e w10 ⟨rfl, hb⟩
                refine ⟨_, rfl, ?_⟩
                have n0_ := ab_ (ao_ (by repeat (first | (with_reducible first | exact HB.out | apply ai_ | apply ag_ | apply ah_) | exact HB.out)) hb)
                clear HB
                have HB := n0_
                clear n0_
                (try clear hb)
                (try clear hb2)
                (try clear hk)
                (try clear hi)
                refine hK.out _ _ ⟨((HB.out.cell (aa_ w _ hw961_0)).trans hw961_0), ((HB.out.cell (aa_ w _ hw961_1)).trans hw961_1), ((HB.out.cell (aa_ w _ hw961_2)).trans hw961_2), ((HB.out.cell (aa_ w _ hw961_3)).trans hw961_3), ((HB.out.cell (aa_ w _ hw962_0)).trans hw962_0), ((HB.out.cell (aa_ w _ hw962_1)).trans hw962_1), ((HB.out.cell (aa_ w _ hw962_2)).trans hw962_2), ((HB.out.cell (aa_ w _ hw962_3)).trans hw962_3)⟩ (fun hHeld => ?_)
                clear hK K
                refine norm_ (a' := ?_) ?_ ?_
                rotate_left
                · show Act.put _ (some 25) _ = _
                  simp only [Act.put, List.setIfInBounds_toArray, List.set_cons_zero, List.set_cons_succ, i64_w, i32_w]
                  rfl
                refine pure_ (i := 9) (N := some 26) (v := ?_) (a' := ?_) #[true, true, true, true, true, true, true, true, true, true] rfl rfl (any_of HT_.out (by kernel_rfl)) (fun _ _ _ h => h) (Or.inl ⟨by rfl, ?_⟩) ?_ ?_
                rotate_left
                · intro w'
                  go_simp
                  with_reducible rfl
                rotate_left
                · simp only [Act.put, List.setIfInBounds_toArray, List.set_cons_zero, List.set_cons_succ, i64_w, i32_w]
                  rfl
                refine done_ (done_of HT_.out (by kernel_rfl)) ?_
                try go_wp2
                go_roundg k1
                case measure => have := HK1.out; omega
                case rel => exact ⟨(wrap64 (x5_1 + 1)), (by first | rfl | (simp; done) | (simp [*]; done)), H', ⟨by have := HK1.out; omega⟩, ⟨by repeat (first | (with_reducible first | exact HB.out | apply ai_ | apply ag_ | apply ah_) | exact HB.out)⟩⟩
              · replace c8 := Bool.eq_false_iff.mpr c8
                subst c8
                have H1 : (some false) = some r := by rw [if_neg (show ¬ (false = true) by decide)] at H; exact H
                clear H
                have H := H1
                clear H1
                obtain rfl := Option.some.inj H
                try go_wp2
                have n0_ := ab_ (ah_ HB.out)
                clear HB
                have HB := n0_
                clear n0_
                have p961 : 0 ≤ (x5_1 : Int) := of_decide_eq_true (by first | (with_reducible assumption) | assumption)
                have q961 : x5_1 < (l0.length : Int) := of_decide_eq_true (by first | (with_reducible assumption) | assumption)
                obtain ⟨ad961, e961, hx961_0, hx961_1, hx961_2, hx961_3⟩ := at_T147 HR0.out x5_1 p961 q961
                have hw961_3 := hx961_3
                have hw961_2 := hx961_2
                have hw961_1 := hx961_1
                have hw961_0 := hx961_0
                cases e961
                replace hx961_0 := (HB.out.cell (aa_ w _ hx961_0)).trans hx961_0
                replace hx961_1 := (HB.out.cell (aa_ w _ hx961_1)).trans hx961_1
                replace hx961_2 := (HB.out.cell (aa_ w _ hx961_2)).trans hx961_2
                replace hx961_3 := (HB.out.cell (aa_ w _ hx961_3)).trans hx961_3
                replace p961 := eq_true p961
                replace q961 := eq_true q961
                have p962 : 0 ≤ (x5_1 : Int) := of_decide_eq_true (by first | (with_reducible assumption) | assumption)
                have q962 : x5_1 < (l1.length : Int) := of_decide_eq_true (by first | (with_reducible assumption) | assumption)
                obtain ⟨ad962, e962, hx962_0, hx962_1, hx962_2, hx962_3⟩ := at_T147 HR1.out x5_1 p962 q962
                have hw962_3 := hx962_3
                have hw962_2 := hx962_2
                have hw962_1 := hx962_1
                have hw962_0 := hx962_0
                cases e962
                replace hx962_0 := (HB.out.cell (aa_ w _ hx962_0)).trans hx962_0
                replace hx962_1 := (HB.out.cell (aa_ w _ hx962_1)).trans hx962_1
                replace hx962_2 := (HB.out.cell (aa_ w _ hx962_2)).trans hx962_2
                replace hx962_3 := (HB.out.cell (aa_ w _ hx962_3)).trans hx962_3
                replace p962 := eq_true p962
                replace q962 := eq_true q962
                refine start_ (n := 10) (S := fun w' => w'.cell? (ad961.add ((x5_1).toNat * 4)) = some (.int .i64 ((rd_T147 l0 x5_1).f0)) ∧ w'.cell? ⟨(ad961.add ((x5_1).toNat * 4)).block, (ad961.add ((x5_1).toNat * 4)).off + 1, none⟩ = some (.int .i64 ((rd_T147 l0 x5_1).f1)) ∧ w'.cell? ⟨(ad961.add ((x5_1).toNat * 4)).block, (ad961.add ((x5_1).toNat * 4)).off + 2, none⟩ = some (.int .i64 ((rd_T147 l0 x5_1).f2)) ∧ w'.cell? ⟨(ad961.add ((x5_1).toNat * 4)).block, (ad961.add ((x5_1).toNat * 4)).off + 3, none⟩ = some (.int .i64 ((rd_T147 l0 x5_1).f3)) ∧ w'.cell? (ad962.add ((x5_1).toNat * 4)) = some (.int .i64 ((rd_T147 l1 x5_1).f0)) ∧ w'.cell? ⟨(ad962.add ((x5_1).toNat * 4)).block, (ad962.add ((x5_1).toNat * 4)).off + 1, none⟩ = some (.int .i64 ((rd_T147 l1 x5_1).f1)) ∧ w'.cell? ⟨(ad962.add ((x5_1).toNat * 4)).block, (ad962.add ((x5_1).toNat * 4)).off + 2, none⟩ = some (.int .i64 ((rd_T147 l1 x5_1).f2)) ∧ w'.cell? ⟨(ad962.add ((x5_1).toNat * 4)).block, (ad962.add ((x5_1).toNat * 4)).off + 3, none⟩ = some (.int .i64 ((rd_T147 l1 x5_1).f3))) (ds := []) #[false, false, false, false, false, false, false, false, false, false] (by kernel_rfl) rfl rfl ⟨((HB.out.cell (aa_ w _ hw961_0)).trans hw961_0), ((HB.out.cell (aa_ w _ hw961_1)).trans hw961_1), ((HB.out.cell (aa_ w _ hw961_2)).trans hw961_2), ((HB.out.cell (aa_ w _ hw961_3)).trans hw961_3), ((HB.out.cell (aa_ w _ hw962_0)).trans hw962_0), ((HB.out.cell (aa_ w _ hw962_1)).trans hw962_1), ((HB.out.cell (aa_ w _ hw962_2)).trans hw962_2), ((HB.out.cell (aa_ w _ hw962_3)).trans hw962_3)⟩ (fun hHeld => ?_); refine with_tabW laws_eqFrameS.tab6 laws_eqFrameS.bits6 (fun HT_ HW_ => ?_)
                generalize wr.drew = w11 at HB hx961_0 hx961_1 hx961_2 hx961_3 hx962_0 hx962_1 hx962_2 hx962_3 hHeld ⊢
                refine pure_ (i := 0) (N := some 17) (v := ?_) (a' := ?_) #[true, false, false, false, false, false, false, false, false, false] rfl rfl (any_of HT_.out (by kernel_rfl)) (fun _ _ _ h => h) (Or.inl ⟨by rfl, ?_⟩) ?_ ?_
                rotate_left
                · intro w'
                  go_simp
                  with_reducible rfl
                rotate_left
                · simp only [Act.put, List.setIfInBounds_toArray, List.set_cons_zero, List.set_cons_succ, i64_w, i32_w]
                  rfl
                refine pure_ (i := 1) (N := some 18) (v := ?_) (a' := ?_) #[true, true, false, false, false, false, false, false, false, false] rfl rfl (any_of HT_.out (by kernel_rfl)) (fun _ _ _ h => h) (Or.inl ⟨by rfl, ?_⟩) ?_ ?_
                rotate_left
                · intro w'
                  go_simp
                  with_reducible rfl
                rotate_left
                · simp only [Act.put, List.setIfInBounds_toArray, List.set_cons_zero, List.set_cons_succ, i64_w, i32_w]
                  rfl
                refine pure_ (i := 2) (N := some 19) (v := ?_) (a' := ?_) #[true, true, true, false, false, false, false, false, false, false] rfl rfl (any_of HT_.out (by kernel_rfl)) (fun _ _ _ h => h) (Or.inl ⟨by rfl, ?_⟩) ?_ ?_
                rotate_left
                · intro w'
                  go_simp
                  with_reducible rfl
                rotate_left
                · simp only [Act.put, List.setIfInBounds_toArray, List.set_cons_zero, List.set_cons_succ, i64_w, i32_w]
                  rfl
                refine pure_ (i := 4) (N := some 21) (v := ?_) (a' := ?_) #[true, true, true, false, true, false, false, false, false, false] rfl rfl (any_of HT_.out (by kernel_rfl)) (fun _ _ _ h => h) (Or.inl ⟨by rfl, ?_⟩) ?_ ?_
                rotate_left
                · intro w'
                  go_simp
                  with_reducible rfl
                rotate_left
                · simp only [Act.put, List.setIfInBounds_toArray, List.set_cons_zero, List.set_cons_succ, i64_w, i32_w]
                  rfl
                refine pure_ (i := 5) (N := some 22) (v := ?_) (a' := ?_) #[true, true, true, false, true, true, false, false, false, false] rfl rfl (any_of HT_.out (by kernel_rfl)) (fun _ _ _ h => h) (Or.inl ⟨by rfl, ?_⟩) ?_ ?_
                rotate_left
                · intro w'
                  go_simp
                  with_reducible rfl
                rotate_left
                · simp only [Act.put, List.setIfInBounds_toArray, List.set_cons_zero, List.set_cons_succ, i64_w, i32_w]
                  rfl
                refine pure_ (i := 6) (N := some 23) (v := ?_) (a' := ?_) #[true, true, true, false, true, true, true, false, false, false] rfl rfl (any_of HT_.out (by kernel_rfl)) (fun _ _ _ h => h) (Or.inl ⟨by rfl, ?_⟩) ?_ ?_
                rotate_left
                · intro w'
                  go_simp
                  with_reducible rfl
                rotate_left
                · simp only [Act.put, List.setIfInBounds_toArray, List.set_cons_zero, List.set_cons_succ, i64_w, i32_w]
                  rfl
                refine take_ (i := 3) (N := some 20) (v := ?_) (a' := ?_) #[true, true, true, true, true, true, true, false, false, false] rfl rfl (take_ofW HT_.out HW_.out (by kernel_rfl)) (fun _ _ _ h => h) (Or.inl ⟨by rfl, ?_⟩) hHeld ?_ ?_
                rotate_left
                · rintro w' ⟨s0, s1, s2, s3, s4, s5, s6, s7⟩
                  go_simp
                  with_reducible rfl
                rotate_left
                · simp only [Act.put, List.setIfInBounds_toArray, List.set_cons_zero, List.set_cons_succ, i64_w, i32_w]
                  rfl
                refine take_ (i := 7) (N := some 24) (v := ?_) (a' := ?_) #[true, true, true, true, true, true, true, true, false, false] rfl rfl (take_ofW HT_.out HW_.out (by kernel_rfl)) (fun _ _ _ h => h) (Or.inl ⟨by rfl, ?_⟩) hHeld ?_ ?_
                rotate_left
                · rintro w' ⟨s0, s1, s2, s3, s4, s5, s6, s7⟩
                  go_simp
                  with_reducible rfl
                rotate_left
                · simp only [Act.put, List.setIfInBounds_toArray, List.set_cons_zero, List.set_cons_succ, i64_w, i32_w]
                  rfl
                refine one_ (i := 8) (N := some 25) #[true, true, true, true, true, true, true, true, true, false] rfl rfl (one_of HT_.out (by kernel_rfl)) (by decide) (fun K hK => ?_)
                refine goes_ Try.func124 (by kernel_rfl) rfl #[.agg #[.int .i64 ((rd_T147 l0 x5_1).f0), .int .i64 ((rd_T147 l0 x5_1).f1), .int .i64 ((rd_T147 l0 x5_1).f2), .int .i64 ((rd_T147 l0 x5_1).f3)], .agg #[.int .i64 ((rd_T147 l1 x5_1).f0), .int .i64 ((rd_T147 l1 x5_1).f1), .int .i64 ((rd_T147 l1 x5_1).f2), .int .i64 ((rd_T147 l1 x5_1).f3)]] (by rfl) rfl rfl (by (try simp only [List.map_toArray, List.map_cons, List.map_nil]); first | done | rfl | (simp only [List.length_drop, List.length_take]; rfl)) ?_
                with_reducible refine (laws_eqFrame.calls ((rd_T147 l0 x5_1).f0) ((rd_T147 l0 x5_1).f1) ((rd_T147 l0 x5_1).f2) ((rd_T147 l0 x5_1).f3) ((rd_T147 l1 x5_1).f0) ((rd_T147 l1 x5_1).f1) ((rd_T147 l1 x5_1).f2) ((rd_T147 l1 x5_1).f3) false _ A7.out).mono ?_
                rintro e w12 ⟨rfl, hb⟩
                refine ⟨_, rfl, ?_⟩
                have n0_ := ab_ (ao_ (by repeat (first | (with_reducible first | exact HB.out | apply ai_ | apply ag_ | apply ah_) | exact HB.out)) hb)
                clear HB
                have HB := n0_
                clear n0_
                (try clear hb)
                (try clear hb2)
                (try clear hk)
                (try clear hi)
                refine hK.out _ _ ⟨((HB.out.cell (aa_ w _ hw961_0)).trans hw961_0), ((HB.out.cell (aa_ w _ hw961_1)).trans hw961_1), ((HB.out.cell (aa_ w _ hw961_2)).trans hw961_2), ((HB.out.cell (aa_ w _ hw961_3)).trans hw961_3), ((HB.out.cell (aa_ w _ hw962_0)).trans hw962_0), ((HB.out.cell (aa_ w _ hw962_1)).trans hw962_1), ((HB.out.cell (aa_ w _ hw962_2)).trans hw962_2), ((HB.out.cell (aa_ w _ hw962_3)).trans hw962_3)⟩ (fun hHeld => ?_)
                clear hK K
                refine norm_ (a' := ?_) ?_ ?_
                rotate_left
                · show Act.put _ (some 25) _ = _
                  simp only [Act.put, List.setIfInBounds_toArray, List.set_cons_zero, List.set_cons_succ, i64_w, i32_w]
                  rfl
                refine pure_ (i := 9) (N := some 26) (v := ?_) (a' := ?_) #[true, true, true, true, true, true, true, true, true, true] rfl rfl (any_of HT_.out (by kernel_rfl)) (fun _ _ _ h => h) (Or.inl ⟨by rfl, ?_⟩) ?_ ?_
                rotate_left
                · intro w'
                  go_simp
                  with_reducible rfl
                rotate_left
                · simp only [Act.put, List.setIfInBounds_toArray, List.set_cons_zero, List.set_cons_succ, i64_w, i32_w]
                  rfl
                refine done_ (done_of HT_.out (by kernel_rfl)) ?_
                try go_wp2
                go_ret
                exact ⟨by first | rfl | (simp [errW_none, errW_some] <;> rfl) | (simp [*, errW_none, errW_some] <;> rfl), by repeat (first | (with_reducible first | exact HB.out | apply ai_ | apply ag_ | apply ah_) | exact HB.out)⟩
            · rw [if_neg c6] at H
              exact absurd H (by simp)
          · rw [if_neg c5] at H
            exact absurd H (by simp)
        · rw [if_neg c4] at H
          have c4b0 : decide (x5_1 < (l0.length : Int)) = false := decide_eq_false c4
          clear c4
          obtain rfl := Option.some.inj H
          go_wp2
          go_ret
          exact ⟨by first | rfl | (simp [errW_none, errW_some] <;> rfl) | (simp [*, errW_none, errW_some] <;> rfl), by repeat (first | (with_reducible first | exact HB.out | apply ai_ | apply ag_ | apply ah_) | exact HB.out)⟩
  · rw [if_neg c3] at H
    have c3b0 : ((l0.length : Int) == (l1.length : Int)) = false := beq_eq_false_iff_ne.mpr c3
    have c3b1 : ((l0.length : Int) != (l1.length : Int)) = true := bne_iff_ne.mpr c3
    have c3b2 : (l0.length == l1.length) = false := by first | simpa using c3 | (simp at c3 ⊢; omega)
    obtain rfl := Option.some.inj H
    go_enter Try.func80, Try.ntmps80
    go_wp2
    go_ret
    exact ⟨by first | rfl | (simp [errW_none, errW_some] <;> rfl) | (simp [*, errW_none, errW_some] <;> rfl), by repeat (first | (with_reducible first | exact HB.out | apply ai_ | apply ag_ | apply ah_) | exact HB.out)⟩
end Go.Proofs.Ytgoiifpimpnlpaa.PAll

end

section
namespace Go.Proofs.Ytgoiifpimpnlpaa.PAll
open Go.RowKit Go.Proofs.YtgoiifpimpnlpaaW.PrintWords Go.Proofs.YtgoiifpimpnlpaaW.PrintLast Go.Proofs.YtgoiifpimpnlpaaW.PrintMore
attribute [local go_sem] max2_int min2_int max_two min_two max_three min_three max_four min_four   -- for this text's walks alone
set_option linter.unusedVariables false
set_option linter.unusedSimpArgs false
def laws_eqVal.f (a0_0 : Bool) (a0_1 : Int) (a0_2 : Int) (a0_3 : Int) (a1_0 : Bool) (a1_1 : Int) (a1_2 : Int) (a1_3 : Int) : Option (Bool) := if (a0_0 != a1_0) = true then (some false) else (if a0_1 = a1_1 then (if a0_2 = a1_2 then (if a0_3 = a1_3 then (some true) else (some false)) else (some false)) else (some false))
set_option maxHeartbeats 8000000 in
set_option maxRecDepth 100000 in
theorem laws_eqVal.calls (a0_0 : Bool) (a0_1 : Int) (a0_2 : Int) (a0_3 : Int) (a1_0 : Bool) (a1_1 : Int) (a1_2 : Int) (a1_3 : Int) (r : Bool) (w : World) (h : laws_eqVal.f a0_0 a0_1 a0_2 a0_3 a1_0 a1_1 a1_2 a1_3 = some r) :
    Calls Try.prog 125 #[.agg #[.bool a0_0, .int .i64 a0_1, .int .i64 a0_2, .int .i64 a0_3], .agg #[.bool a1_0, .int .i64 a1_1, .int .i64 a1_2, .int .i64 a1_3]] w fun e w' => e = .returned (.bool r) ∧ Below w.heap.size w w' := by
  have hu150 := Try.underlying150
  have HB := ab_ (Below.refl w.heap.size w)
  have H : (if (a0_0 != a1_0) = true then (some false) else (if a0_1 = a1_1 then (if a0_2 = a1_2 then (if a0_3 = a1_3 then (some true) else (some false)) else (some false)) else (some false))) = some r := h
  clear h
  by_cases c3 : (a0_0 != a1_0) = true
  · rw [if_pos c3] at H
    have c3b0 : (a0_0 != a1_0) = true := c3
    (try (have c3b1 : decide (a0_0 = a1_0) = false := by simpa using c3))
    (try (have c3b2 : (a0_0 == a1_0) = false := by simpa using c3))
    (try (have c3b3 : ¬ (a0_0 = a1_0) := by simpa using c3))
    clear c3
    obtain rfl := Option.some.inj H
    go_enter Try.func125, Try.ntmps125
    go_wp2_with (first | ((with_reducible refine gate_dst (N := 2) rfl ?_); refine box_event ?hg (N := 2) ?hd (cs := #[.bool a0_0, .int .i64 a0_1, .int .i64 a0_2, .int .i64 a0_3]) (t := 150) ?hr ?_; (case hd => rfl); (case hg => rfl); (case hr => first | (go_simp; done) | (go_simp; rfl)); intro gb964 hg w4 hbox hb; have n0_ := ab_ (ao_ (by repeat (first | (with_reducible first | exact HB.out | apply ai_ | apply ag_ | apply ah_) | exact HB.out)) hb); have n1_ := ab_ (hbox); have n2_ := ab_ ((by rw [hg]; exact (below_size (by repeat (first | (with_reducible first | exact HB.out | apply ai_ | apply ag_ | apply ah_) | exact HB.out))) : w.heap.size ≤ gb964)); have n3_ := ab_ ((by rw [hg]; exact (below_size (by repeat (first | (with_reducible first | exact HB.out | apply ai_ | apply ag_ | apply ah_) | exact HB.out))) : w.heap.size ≤ gb964)); clear HB; have HB := n0_; have BK964 := n1_; have GW964 := n2_; have GE964 := n3_; clear n0_ n1_ n2_ n3_; clear hb hbox hg) | ((with_reducible refine gate_dst (N := 3) rfl ?_); refine box_event ?hg (N := 3) ?hd (cs := #[.bool a1_0, .int .i64 a1_1, .int .i64 a1_2, .int .i64 a1_3]) (t := 150) ?hr ?_; (case hd => rfl); (case hg => rfl); (case hr => first | (go_simp; done) | (go_simp; rfl)); intro gb965 hg w5 hbox hb; have n0_ := ab_ (blk_below (g := gb964) (o := .cells #[.bool a0_0, .int .i64 a0_1, .int .i64 a0_2, .int .i64 a0_3] 150 (0, 0)) (by (with_reducible repeat (first | refine ac_ ?_ _ | refine ae_ ?_ | refine ad_ ?_ _)); exact BK964.out) hb); have n1_ := ab_ (ao_ (by repeat (first | (with_reducible first | exact HB.out | apply ai_ | apply ag_ | apply ah_ | refine af_ ?_ GE964.out) | exact HB.out)) hb); have n2_ := ab_ (hbox); have n3_ := ab_ ((by rw [hg]; exact (below_size (by repeat (first | (with_reducible first | exact HB.out | apply ai_ | apply ag_ | apply ah_ | refine af_ ?_ GE964.out) | exact HB.out))) : w.heap.size ≤ gb965)); have n4_ := ab_ ((by rw [hg]; exact (below_size (by repeat (first | (with_reducible first | exact HB.out | apply ai_ | apply ag_ | apply ah_ | refine af_ ?_ GE964.out) | exact HB.out))) : w.heap.size ≤ gb965)); have n5_ := ab_ ((by rw [hg]; exact ak_ (blk_lt (g := gb964) (o := .cells #[.bool a0_0, .int .i64 a0_1, .int .i64 a0_2, .int .i64 a0_3] 150 (0, 0)) (by (with_reducible repeat (first | refine ac_ ?_ _ | refine ae_ ?_ | refine ad_ ?_ _)); exact BK964.out)) : gb964 ≠ gb965)); have n6_ := ab_ ((by rw [hg]; exact Nat.ne_of_gt (blk_lt (g := gb964) (o := .cells #[.bool a0_0, .int .i64 a0_1, .int .i64 a0_2, .int .i64 a0_3] 150 (0, 0)) (by (with_reducible repeat (first | refine ac_ ?_ _ | refine ae_ ?_ | refine ad_ ?_ _)); exact BK964.out)) : gb965 ≠ gb964)); clear BK964; clear HB; have BK964 := n0_; have HB := n1_; have BK965 := n2_; have GW965 := n3_; have GE965 := n4_; have NB964_965 := n5_; have NB965_964 := n6_; clear n0_ n1_ n2_ n3_ n4_ n5_ n6_; clear hb hbox hg; have hnb6 := NB964_965.out; have hnc6 := NB965_964.out; have hcz7_0 : w5.cell? ⟨gb964, 0, none⟩ = some (.bool a0_0) := (am_ BK964.out 0).trans rfl; have hcz7_1 : w5.cell? ⟨gb964, 1, none⟩ = some (.int .i64 a0_1) := (am_ BK964.out 1).trans rfl; have hcz7_2 : w5.cell? ⟨gb964, 2, none⟩ = some (.int .i64 a0_2) := (am_ BK964.out 2).trans rfl; have hcz7_3 : w5.cell? ⟨gb964, 3, none⟩ = some (.int .i64 a0_3) := (am_ BK964.out 3).trans rfl; have hfz7_0 := al_ BK964.out 0; have hfz7_1 := al_ BK964.out 1; have hfz7_2 := al_ BK964.out 2; have hfz7_3 := al_ BK964.out 3; have hcz8_0 : w5.cell? ⟨gb965, 0, none⟩ = some (.bool a1_0) := (am_ BK965.out 0).trans rfl; have hcz8_1 : w5.cell? ⟨gb965, 1, none⟩ = some (.int .i64 a1_1) := (am_ BK965.out 1).trans rfl; have hcz8_2 : w5.cell? ⟨gb965, 2, none⟩ = some (.int .i64 a1_2) := (am_ BK965.out 2).trans rfl; have hcz8_3 : w5.cell? ⟨gb965, 3, none⟩ = some (.int .i64 a1_3) := (am_ BK965.out 3).trans rfl; have hfz8_0 := al_ BK965.out 0; have hfz8_1 := al_ BK965.out 1; have hfz8_2 := al_ BK965.out 2; have hfz8_3 := al_ BK965.out 3))
    go_ret
    exact ⟨by first | rfl | (simp [errW_none, errW_some] <;> rfl) | (simp [*, errW_none, errW_some] <;> rfl), by repeat (first | (with_reducible first | exact HB.out | apply ai_ | apply ag_ | apply ah_ | refine af_ ?_ GE964.out | refine af_ ?_ GE965.out) | exact HB.out)⟩
  · rw [if_neg c3] at H
    have c3b0 : (a0_0 != a1_0) = false := by simpa using c3
    (try (have c3b1 : decide (a0_0 = a1_0) = true := by simpa using c3))
    (try (have c3b2 : (a0_0 == a1_0) = true := by simpa using c3))
    clear c3
    by_cases c9 : a0_1 = a1_1
    · rw [if_pos c9] at H
      have c9b0 : (a0_1 == a1_1) = true := beq_iff_eq.mpr c9
      have c9b1 : (a0_1 != a1_1) = false := bne_eq_false_iff_eq.mpr c9
      clear c9
      by_cases c10 : a0_2 = a1_2
      · rw [if_pos c10] at H
        have c10b0 : (a0_2 == a1_2) = true := beq_iff_eq.mpr c10
        have c10b1 : (a0_2 != a1_2) = false := bne_eq_false_iff_eq.mpr c10
        clear c10
        by_cases c11 : a0_3 = a1_3
        · rw [if_pos c11] at H
          have c11b0 : (a0_3 == a1_3) = true := beq_iff_eq.mpr c11
          have c11b1 : (a0_3 != a1_3) = false := bne_eq_false_iff_eq.mpr c11
          clear c11
          obtain rfl := Option.some.inj H
          go_enter Try.func125, Try.ntmps125
          go_wp2_with (first | ((with_reducible refine gate_dst (N := 2) rfl ?_); refine box_event ?hg (N := 2) ?hd (cs := #[.bool a0_0, .int .i64 a0_1, .int .i64 a0_2, .int .i64 a0_3]) (t := 150) ?hr ?_; (case hd => rfl); (case hg => rfl); (case hr => first | (go_simp; done) | (go_simp; rfl)); intro gb964 hg w12 hbox hb; have n0_ := ab_ (ao_ (by repeat (first | (with_reducible first | exact HB.out | apply ai_ | apply ag_ | apply ah_) | exact HB.out)) hb); have n1_ := ab_ (hbox); have n2_ := ab_ ((by rw [hg]; exact (below_size (by repeat (first | (with_reducible first | exact HB.out | apply ai_ | apply ag_ | apply ah_) | exact HB.out))) : w.heap.size ≤ gb964)); have n3_ := ab_ ((by rw [hg]; exact (below_size (by repeat (first | (with_reducible first | exact HB.out | apply ai_ | apply ag_ | apply ah_) | exact HB.out))) : w.heap.size ≤ gb964)); clear HB; have HB := n0_; have BK964 := n1_; have GW964 := n2_; have GE964 := n3_; clear n0_ n1_ n2_ n3_; clear hb hbox hg) | ((with_reducible refine gate_dst (N := 3) rfl ?_); refine box_event ?hg (N := 3) ?hd (cs := #[.bool a1_0, .int .i64 a1_1, .int .i64 a1_2, .int .i64 a1_3]) (t := 150) ?hr ?_; (case hd => rfl); (case hg => rfl); (case hr => first | (go_simp; done) | (go_simp; rfl)); intro gb965 hg w13 hbox hb; have n0_ := ab_ (blk_below (g := gb964) (o := .cells #[.bool a0_0, .int .i64 a0_1, .int .i64 a0_2, .int .i64 a0_3] 150 (0, 0)) (by (with_reducible repeat (first | refine ac_ ?_ _ | refine ae_ ?_ | refine ad_ ?_ _)); exact BK964.out) hb); have n1_ := ab_ (ao_ (by repeat (first | (with_reducible first | exact HB.out | apply ai_ | apply ag_ | apply ah_ | refine af_ ?_ GE964.out) | exact HB.out)) hb); have n2_ := ab_ (hbox); have n3_ := ab_ ((by rw [hg]; exact (below_size (by repeat (first | (with_reducible first | exact HB.out | apply ai_ | apply ag_ | apply ah_ | refine af_ ?_ GE964.out) | exact HB.out))) : w.heap.size ≤ gb965)); have n4_ := ab_ ((by rw [hg]; exact (below_size (by repeat (first | (with_reducible first | exact HB.out | apply ai_ | apply ag_ | apply ah_ | refine af_ ?_ GE964.out) | exact HB.out))) : w.heap.size ≤ gb965)); have n5_ := ab_ ((by rw [hg]; exact ak_ (blk_lt (g := gb964) (o := .cells #[.bool a0_0, .int .i64 a0_1, .int .i64 a0_2, .int .i64 a0_3] 150 (0, 0)) (by (with_reducible repeat (first | refine ac_ ?_ _ | refine ae_ ?_ | refine ad_ ?_ _)); exact BK964.out)) : gb964 ≠ gb965)); have n6_ := ab_ ((by rw [hg]; exact Nat.ne_of_gt (blk_lt (g := gb964) (o := .cells #[.bool a0_0, .int .i64 a0_1, .int .i64 a0_2, .int .i64 a0_3] 150 (0, 0)) (by (with_reducible repeat (first | refine ac_ ?_ _ | refine ae_ ?_ | refine ad_ ?_ _)); exact BK964.out)) : gb965 ≠ gb964)); clear BK964; clear HB; have BK964 := n0_; have HB := n1_; have BK965 := n2_; have GW965 := n3_; have GE965 := n4_; have NB964_965 := n5_; have NB965_964 := n6_; clear n0_ n1_ n2_ n3_ n4_ n5_ n6_; clear hb hbox hg; have hnb14 := NB964_965.out; have hnc14 := NB965_964.out; have hcz15_0 : w13.cell? ⟨gb964, 0, none⟩ = some (.bool a0_0) := (am_ BK964.out 0).trans rfl; have hcz15_1 : w13.cell? ⟨gb964, 1, none⟩ = some (.int .i64 a0_1) := (am_ BK964.out 1).trans rfl; have hcz15_2 : w13.cell? ⟨gb964, 2, none⟩ = some (.int .i64 a0_2) := (am_ BK964.out 2).trans rfl; have hcz15_3 : w13.cell? ⟨gb964, 3, none⟩ = some (.int .i64 a0_3) := (am_ BK964.out 3).trans rfl; have hfz15_0 := al_ BK964.out 0; have hfz15_1 := al_ BK964.out 1; have hfz15_2 := al_ BK964.out 2; have hfz15_3 := al_ BK964.out 3; have hcz16_0 : w13.cell? ⟨gb965, 0, none⟩ = some (.bool a1_0) := (am_ BK965.out 0).trans rfl; have hcz16_1 : w13.cell? ⟨gb965, 1, none⟩ = some (.int .i64 a1_1) := (am_ BK965.out 1).trans rfl; have hcz16_2 : w13.cell? ⟨gb965, 2, none⟩ = some (.int .i64 a1_2) := (am_ BK965.out 2).trans rfl; have hcz16_3 : w13.cell? ⟨gb965, 3, none⟩ = some (.int .i64 a1_3) := (am_ BK965.out 3).trans rfl; have hfz16_0 := al_ BK965.out 0; have hfz16_1 := al_ BK965.out 1; have hfz16_2 := al_ BK965.out 2; have hfz16_3 := al_ BK965.out 3))
          go_ret
          exact ⟨by first | rfl | (simp [errW_none, errW_some] <;> rfl) | (simp [*, errW_none, errW_some] <;> rfl), by repeat (first | (with_reducible first | exact HB.out | apply ai_ | apply ag_ | apply ah_ | refine af_ ?_ GE964.out | refine af_ ?_ GE965.out) | exact HB.out)⟩
        · rw [if_neg c11] at H
          have c11b0 : (a0_3 == a1_3) = false := beq_eq_false_iff_ne.mpr c11
          have c11b1 : (a0_3 != a1_3) = true := bne_iff_ne.mpr c11
          obtain rfl := Option.some.inj H
          go_enter Try.func125, Try.ntmps125
          go_wp2_with (first | ((with_reducible refine gate_dst (N := 2) rfl ?_); refine box_event ?hg (N := 2) ?hd (cs := #[.bool a0_0, .int .i64 a0_1, .int .i64 a0_2, .int .i64 a0_3]) (t := 150) ?hr ?_; (case hd => rfl); (case hg => rfl); (case hr => first | (go_simp; done) | (go_simp; rfl)); intro gb964 hg w17 hbox hb; have n0_ := ab_ (ao_ (by repeat (first | (with_reducible first | exact HB.out | apply ai_ | apply ag_ | apply ah_) | exact HB.out)) hb); have n1_ := ab_ (hbox); have n2_ := ab_ ((by rw [hg]; exact (below_size (by repeat (first | (with_reducible first | exact HB.out | apply ai_ | apply ag_ | apply ah_) | exact HB.out))) : w.heap.size ≤ gb964)); have n3_ := ab_ ((by rw [hg]; exact (below_size (by repeat (first | (with_reducible first | exact HB.out | apply ai_ | apply ag_ | apply ah_) | exact HB.out))) : w.heap.size ≤ gb964)); clear HB; have HB := n0_; have BK964 := n1_; have GW964 := n2_; have GE964 := n3_; clear n0_ n1_ n2_ n3_; clear hb hbox hg) | ((with_reducible refine gate_dst (N := 3) rfl ?_); refine box_event ?hg (N := 3) ?hd (cs := #[.bool a1_0, .int .i64 a1_1, .int .i64 a1_2, .int .i64 a1_3]) (t := 150) ?hr ?_; (case hd => rfl); (case hg => rfl); (case hr => first | (go_simp; done) | (go_simp; rfl)); intro gb965 hg w18 hbox hb; have n0_ := ab_ (blk_below (g := gb964) (o := .cells #[.bool a0_0, .int .i64 a0_1, .int .i64 a0_2, .int .i64 a0_3] 150 (0, 0)) (by (with_reducible repeat (first | refine ac_ ?_ _ | refine ae_ ?_ | refine ad_ ?_ _)); exact BK964.out) hb); have n1_ := ab_ (ao_ (by repeat (first | (with_reducible first | exact HB.out | apply ai_ | apply ag_ | apply ah_ | refine af_ ?_ GE964.out) | exact HB.out)) hb); have n2_ := ab_ (hbox); have n3_ := ab_ ((by rw [hg]; exact (below_size (by repeat (first | (with_reducible first | exact HB.out | apply ai_ | apply ag_ | apply ah_ | refine af_ ?_ GE964.out) | exact HB.out))) : w.heap.size ≤ gb965)); have n4_ := ab_ ((by rw [hg]; exact (below_size (by repeat (first | (with_reducible first | exact HB.out | apply ai_ | apply ag_ | apply ah_ | refine af_ ?_ GE964.out) | exact HB.out))) : w.heap.size ≤ gb965)); have n5_ := ab_ ((by rw [hg]; exact ak_ (blk_lt (g := gb964) (o := .cells #[.bool a0_0, .int .i64 a0_1, .int .i64 a0_2, .int .i64 a0_3] 150 (0, 0)) (by (with_reducible repeat (first | refine ac_ ?_ _ | refine ae_ ?_ | refine ad_ ?_ _)); exact BK964.out)) : gb964 ≠ gb965)); have n6_ := ab_ ((by rw [hg]; exact Nat.ne_of_gt (blk_lt (g := gb964) (o := .cells #[.bool a0_0, .int .i64 a0_1, .int .i64 a0_2, .int .i64 a0_3] 150 (0, 0)) (by (with_reducible repeat (first | refine ac_ ?_ _ | refine ae_ ?_ | refine ad_ ?_ _)); exact BK964.out)) : gb965 ≠ gb964)); clear BK964; clear HB; have BK964 := n0_; have HB := n1_; have BK965 := n2_; have GW965 := n3_; have GE965 := n4_; have NB964_965 := n5_; have NB965_964 := n6_; clear n0_ n1_ n2_ n3_ n4_ n5_ n6_; clear hb hbox hg; have hnb19 := NB964_965.out; have hnc19 := NB965_964.out; have hcz20_0 : w18.cell? ⟨gb964, 0, none⟩ = some (.bool a0_0) := (am_ BK964.out 0).trans rfl; have hcz20_1 : w18.cell? ⟨gb964, 1, none⟩ = some (.int .i64 a0_1) := (am_ BK964.out 1).trans rfl; have hcz20_2 : w18.cell? ⟨gb964, 2, none⟩ = some (.int .i64 a0_2) := (am_ BK964.out 2).trans rfl; have hcz20_3 : w18.cell? ⟨gb964, 3, none⟩ = some (.int .i64 a0_3) := (am_ BK964.out 3).trans rfl; have hfz20_0 := al_ BK964.out 0; have hfz20_1 := al_ BK964.out 1; have hfz20_2 := al_ BK964.out 2; have hfz20_3 := al_ BK964.out 3; have hcz21_0 : w18.cell? ⟨gb965, 0, none⟩ = some (.bool a1_0) := (am_ BK965.out 0).trans rfl; have hcz21_1 : w18.cell? ⟨gb965, 1, none⟩ = some (.int .i64 a1_1) := (am_ BK965.out 1).trans rfl; have hcz21_2 : w18.cell? ⟨gb965, 2, none⟩ = some (.int .i64 a1_2) := (am_ BK965.out 2).trans rfl; have hcz21_3 : w18.cell? ⟨gb965, 3, none⟩ = some (.int .i64 a1_3) := (am_ BK965.out 3).trans rfl; have hfz21_0 := al_ BK965.out 0; have hfz21_1 := al_ BK965.out 1; have hfz21_2 := al_ BK965.out 2; have hfz21_3 := al_ BK965.out 3))
          go_ret
          exact ⟨by first | rfl | (simp [errW_none, errW_some] <;> rfl) | (simp [*, errW_none, errW_some] <;> rfl), by repeat (first | (with_reducible first | exact HB.out | apply ai_ | apply ag_ | apply ah_ | refine af_ ?_ GE964.out | refine af_ ?_ GE965.out) | exact HB.out)⟩
      · rw [if_neg c10] at H
        have c10b0 : (a0_2 == a1_2) = false := beq_eq_false_iff_ne.mpr c10
        have c10b1 : (a0_2 != a1_2) = true := bne_iff_ne.mpr c10
        obtain rfl := Option.some.inj H
        go_enter Try.func125, Try.ntmps125
        go_wp2_with (first | ((with_reducible refine gate_dst (N := 2) rfl ?_); refine box_event ?hg (N := 2) ?hd (cs := #[.bool a0_0, .int .i64 a0_1, .int .i64 a0_2, .int .i64 a0_3]) (t := 150) ?hr ?_; (case hd => rfl); (case hg => rfl); (case hr => first | (go_simp; done) | (go_simp; rfl)); intro gb964 hg w22 hbox hb; have n0_ := ab_ (ao_ (by repeat (first | (with_reducible first | exact HB.out | apply ai_ | apply ag_ | apply ah_) | exact HB.out)) hb); have n1_ := ab_ (hbox); have n2_ := ab_ ((by rw [hg]; exact (below_size (by repeat (first | (with_reducible first | exact HB.out | apply ai_ | apply ag_ | apply ah_) | exact HB.out))) : w.heap.size ≤ gb964)); have n3_ := ab_ ((by rw [hg]; exact (below_size (by repeat (first | (with_reducible first | exact HB.out | apply ai_ | apply ag_ | apply ah_) | exact HB.out))) : w.heap.size ≤ gb964)); clear HB; have HB := n0_; have BK964 := n1_; have GW964 := n2_; have GE964 := n3_; clear n0_ n1_ n2_ n3_; clear hb hbox hg) | ((with_reducible refine gate_dst (N := 3) rfl ?_); refine box_event ?hg (N := 3) ?hd (cs := #[.bool a1_0, .int .i64 a1_1, .int .i64 a1_2, .int .i64 a1_3]) (t := 150) ?hr ?_; (case hd => rfl); (case hg => rfl); (case hr => first | (go_simp; done) | (go_simp; rfl)); intro gb965 hg w23 hbox hb; have n0_ := ab_ (blk_below (g := gb964) (o := .cells #[.bool a0_0, .int .i64 a0_1, .int .i64 a0_2, .int .i64 a0_3] 150 (0, 0)) (by (with_reducible repeat (first | refine ac_ ?_ _ | refine ae_ ?_ | refine ad_ ?_ _)); exact BK964.out) hb); have n1_ := ab_ (ao_ (by repeat (first | (with_reducible first | exact HB.out | apply ai_ | apply ag_ | apply ah_ | refine af_ ?_ GE964.out) | exact HB.out)) hb); have n2_ := ab_ (hbox); have n3_ := ab_ ((by rw [hg]; exact (below_size (by repeat (first | (with_reducible first | exact HB.out | apply ai_ | apply ag_ | apply ah_ | refine af_ ?_ GE964.out) | exact HB.out))) : w.heap.size ≤ gb965)); have n4_ := ab_ ((by rw [hg]; exact (below_size (by repeat (first | (with_reducible first | exact HB.out | apply ai_ | apply ag_ | apply ah_ | refine af_ ?_ GE964.out) | exact HB.out))) : w.heap.size ≤ gb965)); have n5_ := ab_ ((by rw [hg]; exact ak_ (blk_lt (g := gb964) (o := .cells #[.bool a0_0, .int .i64 a0_1, .int .i64 a0_2, .int .i64 a0_3] 150 (0, 0)) (by (with_reducible repeat (first | refine ac_ ?_ _ | refine ae_ ?_ | refine ad_ ?_ _)); exact BK964.out)) : gb964 ≠ gb965)); have n6_ := ab_ ((by rw [hg]; exact Nat.ne_of_gt (blk_lt (g := gb964) (o := .cells #[.bool a0_0, .int .i64 a0_1, .int .i64 a0_2, .int .i64 a0_3] 150 (0, 0)) (by (with_reducible repeat (first | refine ac_ ?_ _ | refine ae_ ?_ | refine ad_ ?_ _)); exact BK964.out)) : gb965 ≠ gb964)); clear BK964; clear HB; have BK964 := n0_; have HB := n1_; have BK965 := n2_; have GW965 := n3_; have GE965 := n4_; have NB964_965 := n5_; have NB965_964 := n6_; clear n0_ n1_ n2_ n3_ n4_ n5_ n6_; clear hb hbox hg; have hnb24 := NB964_965.out; have hnc24 := NB965_964.out; have hcz25_0 : w23.cell? ⟨gb964, 0, none⟩ = some (.bool a0_0) := (am_ BK964.out 0).trans rfl; have hcz25_1 : w23.cell? ⟨gb964, 1, none⟩ = some (.int .i64 a0_1) := (am_ BK964.out 1).trans rfl; have hcz25_2 : w23.cell? ⟨gb964, 2, none⟩ = some (.int .i64 a0_2) := (am_ BK964.out 2).trans rfl; have hcz25_3 : w23.cell? ⟨gb964, 3, none⟩ = some (.int .i64 a0_3) := (am_ BK964.out 3).trans rfl; have hfz25_0 := al_ BK964.out 0; have hfz25_1 := al_ BK964.out 1; have hfz25_2 := al_ BK964.out 2; have hfz25_3 := al_ BK964.out 3; have hcz26_0 : w23.cell? ⟨gb965, 0, none⟩ = some (.bool a1_0) := (am_ BK965.out 0).trans rfl; have hcz26_1 : w23.cell? ⟨gb965, 1, none⟩ = some (.int .i64 a1_1) := (am_ BK965.out 1).trans rfl; have hcz26_2 : w23.cell? ⟨gb965, 2, none⟩ = some (.int .i64 a1_2) := (am_ BK965.out 2).trans rfl; have hcz26_3 : w23.cell? ⟨gb965, 3, none⟩ = some (.int .i64 a1_3) := (am_ BK965.out 3).trans rfl; have hfz26_0 := al_ BK965.out 0; have hfz26_1 := al_ BK965.out 1; have hfz26_2 := al_ BK965.out 2; have hfz26_3 := al_ BK965.out 3))
        go_ret
        exact ⟨by first | rfl | (simp [errW_none, errW_some] <;> rfl) | (simp [*, errW_none, errW_some] <;> rfl), by repeat (first | (with_reducible first | exact HB.out | apply ai_ | apply ag_ | apply ah_ | refine af_ ?_ GE964.out | refine af_ ?_ GE965.out) | exact HB.out)⟩
    · rw [if_neg c9] at H
      have c9b0 : (a0_1 == a1_1) = false := beq_eq_false_iff_ne.mpr c9
      have c9b1 : (a0_1 != a1_1) = true := bne_iff_ne.mpr c9
      obtain rfl := Option.some.inj H
      go_enter Try.func125, Try.ntmps125
      go_wp2_with (first | ((with_reducible refine gate_dst (N := 2) rfl ?_); refine box_event ?hg (N := 2) ?hd (cs := #[.bool a0_0, .int .i64 a0_1, .int .i64 a0_2, .int .i64 a0_3]) (t := 150) ?hr ?_; (case hd => rfl); (case hg => rfl); (case hr => first | (go_simp; done) | (go_simp; rfl)); intro gb964 hg w27 hbox hb; have n0_ := ab_ (ao_ (by repeat (first | (with_reducible first | exact HB.out | apply ai_ | apply ag_ | apply ah_) | exact HB.out)) hb); have n1_ := ab_ (hbox); have n2_ := ab_ ((by rw [hg]; exact (below_size (by repeat (first | (with_reducible first | exact HB.out | apply ai_ | apply ag_ | apply ah_) | exact HB.out))) : w.heap.size ≤ gb964)); have n3_ := ab_ ((by rw [hg]; exact (below_size (by repeat (first | (with_reducible first | exact HB.out | apply ai_ | apply ag_ | apply ah_) | exact HB.out))) : w.heap.size ≤ gb964)); clear HB; have HB := n0_; have BK964 := n1_; have GW964 := n2_; have GE964 := n3_; clear n0_ n1_ n2_ n3_; clear hb hbox hg) | ((with_reducible refine gate_dst (N := 3) rfl ?_); refine box_event ?hg (N := 3) ?hd (cs := #[.bool a1_0, .int .i64 a1_1, .int .i64 a1_2, .int .i64 a1_3]) (t := 150) ?hr ?_; (case hd => rfl); (case hg => rfl); (case hr => first | (go_simp; done) | (go_simp; rfl)); intro gb965 hg w28 hbox hb; have n0_ := ab_ (blk_below (g := gb964) (o := .cells #[.bool a0_0, .int .i64 a0_1, .int .i64 a0_2, .int .i64 a0_3] 150 (0, 0)) (by (with_reducible repeat (first | refine ac_ ?_ _ | refine ae_ ?_ | refine ad_ ?_ _)); exact BK964.out) hb); have n1_ := ab_ (ao_ (by repeat (first | (with_reducible first | exact HB.out | apply ai_ | apply ag_ | apply ah_ | refine af_ ?_ GE964.out) | exact HB.out)) hb); have n2_ := ab_ (hbox); have n3_ := ab_ ((by rw [hg]; exact (below_size (by repeat (first | (with_reducible first | exact HB.out | apply ai_ | apply ag_ | apply ah_ | refine af_ ?_ GE964.out) | exact HB.out))) : w.heap.size ≤ gb965)); have n4_ := ab_ ((by rw [hg]; exact (below_size (by repeat (first | (with_reducible first | exact HB.out | apply ai_ | apply ag_ | apply ah_ | refine af_ ?_ GE964.out) | exact HB.out))) : w.heap.size ≤ gb965)); have n5_ := ab_ ((by rw [hg]; exact ak_ (blk_lt (g := gb964) (o := .cells #[.bool a0_0, .int .i64 a0_1, .int .i64 a0_2, .int .i64 a0_3] 150 (0, 0)) (by (with_reducible repeat (first | refine ac_ ?_ _ | refine ae_ ?_ | refine ad_ ?_ _)); exact BK964.out)) : gb964 ≠ gb965)); have n6_ := ab_ ((by rw [hg]; exact Nat.ne_of_gt (blk_lt (g := gb964) (o := .cells #[.bool a0_0, .int .i64 a0_1, .int .i64 a0_2, .int .i64 a0_3] 150 (0, 0)) (by (with_reducible repeat (first | refine ac_ ?_ _ | refine ae_ ?_ | refine ad_ ?_ _)); exact BK964.out)) : gb965 ≠ gb964)); clear BK964; clear HB; have BK964 := n0_; have HB := n1_; have BK965 := n2_; have GW965 := n3_; have GE965 := n4_; have NB964_965 := n5_; have NB965_964 := n6_; clear n0_ n1_ n2_ n3_ n4_ n5_ n6_; clear hb hbox hg; have hnb29 := NB964_965.out; have hnc29 := NB965_964.out; have hcz30_0 : w28.cell? ⟨gb964, 0, none⟩ = some (.bool a0_0) := (am_ BK964.out 0).trans rfl; have hcz30_1 : w28.cell? ⟨gb964, 1, none⟩ = some (.int .i64 a0_1) := (am_ BK964.out 1).trans rfl; have hcz30_2 : w28.cell? ⟨gb964, 2, none⟩ = some (.int .i64 a0_2) := (am_ BK964.out 2).trans rfl; have hcz30_3 : w28.cell? ⟨gb964, 3, none⟩ = some (.int .i64 a0_3) := (am_ BK964.out 3).trans rfl; have hfz30_0 := al_ BK964.out 0; have hfz30_1 := al_ BK964.out 1; have hfz30_2 := al_ BK964.out 2; have hfz30_3 := al_ BK964.out 3; have hcz31_0 : w28.cell? ⟨gb965, 0, none⟩ = some (.bool a1_0) := (am_ BK965.out 0).trans rfl; have hcz31_1 : w28.cell? ⟨gb965, 1, none⟩ = some (.int .i64 a1_1) := (am_ BK965.out 1).trans rfl; have hcz31_2 : w28.cell? ⟨gb965, 2, none⟩ = some (.int .i64 a1_2) := (am_ BK965.out 2).trans rfl; have hcz31_3 : w28.cell? ⟨gb965, 3, none⟩ = some (.int .i64 a1_3) := (am_ BK965.out 3).trans rfl; have hfz31_0 := al_ BK965.out 0; have hfz31_1 := al_ BK965.out 1; have hfz31_2 := al_ BK965.out 2; have hfz31_3 := al_ BK965.out 3))
      go_ret
      exact ⟨by first | rfl | (simp [errW_none, errW_some] <;> rfl) | (simp [*, errW_none, errW_some] <;> rfl), by repeat (first | (with_reducible first | exact HB.out | apply ai_ | apply ag_ | apply ah_ | refine af_ ?_ GE964.out | refine af_ ?_ GE965.out) | exact HB.out)⟩
end Go.Proofs.Ytgoiifpimpnlpaa.PAll

end

section
namespace Go.Proofs.Ytgoiifpimpnlpaa.PAll
open Go.RowKit Go.Proofs.YtgoiifpimpnlpaaW.PrintWords Go.Proofs.YtgoiifpimpnlpaaW.PrintLast Go.Proofs.YtgoiifpimpnlpaaW.PrintMore
attribute [local go_sem] max2_int min2_int max_two min_two max_three min_three max_four min_four   -- for this text's walks alone
set_option linter.unusedVariables false
set_option linter.unusedSimpArgs false
def laws_eqValS.l0 : Nat → List (S150) → List (S150) → Int → Option (Bool)
  | 0, _, _, _ => none
  | k + 1, x0, x1, x5 => if x5 < (x0.length : Int) then (if 0 ≤ x5 then (if x5 < (x1.length : Int) then ((laws_eqVal.f ((rd_T150 x0 x5).f0) ((rd_T150 x0 x5).f1) ((rd_T150 x0 x5).f2) ((rd_T150 x0 x5).f3) ((rd_T150 x1 x5).f0) ((rd_T150 x1 x5).f1) ((rd_T150 x1 x5).f2) ((rd_T150 x1 x5).f3)).bind fun t968 => (if t968 = true then (laws_eqValS.l0 k x0 x1 (wrap64 (x5 + 1))) else (some false))) else (none)) else (none)) else (some true)
def laws_eqValS.f (k : Nat) (l0 : List (S150)) (l1 : List (S150)) : Option (Bool) := if (l0.length : Int) = (l1.length : Int) then (laws_eqValS.l0 k l0 l1 0) else (some false)
def laws_eqValS.T6 : Bool × List (List Nat × List Nat) := (true, [([], []), ([], []), ([0, 1], [0, 1]), ([2], [2]), ([], []), ([], []), ([4, 5], [4, 5]), ([6], [6]), ([3, 7], [3, 7]), ([8], [8])])
def laws_eqValS.B6 : List Nat := [0, 0, 3, 7, 0, 0, 48, 112, 255, 511]
theorem laws_eqValS.tab6 : rtab .any (opsOf Try.f81 6) = laws_eqValS.T6 := by kernel_rfl
theorem laws_eqValS.bits6 : waitsOk laws_eqValS.T6.2 laws_eqValS.B6 = true := by kernel_rfl
set_option maxHeartbeats 8000000 in
set_option maxRecDepth 100000 in
theorem laws_eqValS.calls (k : Nat) (A0 : Option Addr) (c0 : Nat) (l0 : List (S150)) (A1 : Option Addr) (c1 : Nat) (l1 : List (S150)) (r : Bool) (w : World) (hr0 : Kd.C k150 w A0 l0.length l0) (hc0 : l0.length ≤ c0) (hr1 : Kd.C k150 w A1 l1.length l1) (hc1 : l1.length ≤ c1) (h : laws_eqValS.f k l0 l1 = some r) :
    Calls Try.prog 81 #[.slice A0 l0.length c0, .slice A1 l1.length c1] w fun e w' => e = .returned (.bool r) ∧ Below w.heap.size w w' := by
  have hu150 := Try.underlying150
  have HR0 := ab_ hr0
  have HC0 := ab_ hc0
  clear hr0 hc0
  have HR1 := ab_ hr1
  have HC1 := ab_ hc1
  clear hr1 hc1
  have HB := ab_ (Below.refl w.heap.size w)
  have H : (if (l0.length : Int) = (l1.length : Int) then (laws_eqValS.l0 k l0 l1 0) else (some false)) = some r := h
  clear h
  by_cases c3 : (l0.length : Int) = (l1.length : Int)
  · rw [if_pos c3] at H
    have c3b0 : ((l0.length : Int) == (l1.length : Int)) = true := beq_iff_eq.mpr c3
    have c3b1 : ((l0.length : Int) != (l1.length : Int)) = false := bne_eq_false_iff_eq.mpr c3
    have c3b2 : (l0.length == l1.length) = true := by first | simpa using c3 | (simp at c3 ⊢; omega)
    clear c3
    have H' := ab_ H
    clear H
    go_enter Try.func81, Try.ntmps81
    go_wp2
    go_loopg [5] k (fun kq v5 w' => ∃ (x5_1 : Int), v5 = .int .i64 x5_1 ∧ Aside0 (laws_eqValS.l0 kq l0 l1 x5_1 = some r) ∧ Aside0 (kq ≤ k) ∧ Aside0 (Below w.heap.size w w'))
    case atStart => exact ⟨(0), (by first | rfl | (simp; done) | (simp [*]; done)), H', ⟨Nat.le_refl _⟩, ⟨by repeat (first | (with_reducible first | exact HB.out | apply ai_ | apply ag_ | apply ah_) | exact HB.out)⟩⟩
    case round =>
      clear H'
      try clear c1
      try clear p2
      try clear c3
      try clear c3b0
      try clear c3b1
      try clear c3b2
      obtain ⟨x5_1, rfl, HA, HK1, HB⟩ := hrel
      cases gk with
      | zero => exact absurd HA.out (by simp [laws_eqValS.l0])
      | succ k1 =>
        have H := HA.out
        clear HA
        simp only [laws_eqValS.l0] at H
        by_cases c4 : x5_1 < (l0.length : Int)
        · rw [if_pos c4] at H
          have c4b0 : decide (x5_1 < (l0.length : Int)) = true := an_ c4
          clear c4
          by_cases c5 : 0 ≤ x5_1
          · rw [if_pos c5] at H
            have c5b0 : decide (0 ≤ x5_1) = true := an_ c5
            clear c5
            by_cases c6 : x5_1 < (l1.length : Int)
            · rw [if_pos c6] at H
              have c6b0 : decide (x5_1 < (l1.length : Int)) = true := an_ c6
              clear c6
              replace H := Option.bind_eq_some_iff.mp H
              obtain ⟨t968, A70, H⟩ := H
              replace H : (if t968 = true then (laws_eqValS.l0 k1 l0 l1 (wrap64 (x5_1 + 1))) else (some false)) = some r := H
              have A7 := ab_ A70
              clear A70
              by_cases c8 : t968 = true
              · subst c8
                have H1 : (laws_eqValS.l0 k1 l0 l1 (wrap64 (x5_1 + 1))) = some r := by rw [if_pos rfl] at H; exact H
                clear H
                have H := H1
                clear H1
                have H' := ab_ H
                clear H
                try go_wp2
                have n0_ := ab_ (ah_ HB.out)
                clear HB
                have HB := n0_
                clear n0_
                have p966 : 0 ≤ (x5_1 : Int) := of_decide_eq_true (by first | (with_reducible assumption) | assumption)
                have q966 : x5_1 < (l0.length : Int) := of_decide_eq_true (by first | (with_reducible assumption) | assumption)
                obtain ⟨ad966, e966, hx966_0, hx966_1, hx966_2, hx966_3⟩ := at_T150 HR0.out x5_1 p966 q966
                have hw966_3 := hx966_3
                have hw966_2 := hx966_2
                have hw966_1 := hx966_1
                have hw966_0 := hx966_0
                cases e966
                replace hx966_0 := (HB.out.cell (aa_ w _ hx966_0)).trans hx966_0
                replace hx966_1 := (HB.out.cell (aa_ w _ hx966_1)).trans hx966_1
                replace hx966_2 := (HB.out.cell (aa_ w _ hx966_2)).trans hx966_2
                replace hx966_3 := (HB.out.cell (aa_ w _ hx966_3)).trans hx966_3
                replace p966 := eq_true p966
                replace q966 := eq_true q966
                have p967 : 0 ≤ (x5_1 : Int) := of_decide_eq_true (by first | (with_reducible assumption) | assumption)
                have q967 : x5_1 < (l1.length : Int) := of_decide_eq_true (by first | (with_reducible assumption) | assumption)
                obtain ⟨ad967, e967, hx967_0, hx967_1, hx967_2, hx967_3⟩ := at_T150 HR1.out x5_1 p967 q967
                have hw967_3 := hx967_3
                have hw967_2 := hx967_2
                have hw967_1 := hx967_1
                have hw967_0 := hx967_0
                cases e967
                replace hx967_0 := (HB.out.cell (aa_ w _ hx967_0)).trans hx967_0
                replace hx967_1 := (HB.out.cell (aa_ w _ hx967_1)).trans hx967_1
                replace hx967_2 := (HB.out.cell (aa_ w _ hx967_2)).trans hx967_2
                replace hx967_3 := (HB.out.cell (aa_ w _ hx967_3)).trans hx967_3
                replace p967 := eq_true p967
                replace q967 := eq_true q967
                refine start_ (n := 10) (S := fun w' => w'.cell? (ad966.add ((x5_1).toNat * 4)) = some (.bool ((rd_T150 l0 x5_1).f0)) ∧ w'.cell? ⟨(ad966.add ((x5_1).toNat * 4)).block, (ad966.add ((x5_1).toNat * 4)).off + 1, none⟩ = some (.int .i64 ((rd_T150 l0 x5_1).f1)) ∧ w'.cell? ⟨(ad966.add ((x5_1).toNat * 4)).block, (ad966.add ((x5_1).toNat * 4)).off + 2, none⟩ = some (.int .i64 ((rd_T150 l0 x5_1).f2)) ∧ w'.cell? ⟨(ad966.add ((x5_1).toNat * 4)).block, (ad966.add ((x5_1).toNat * 4)).off + 3, none⟩ = some (.int .i64 ((rd_T150 l0 x5_1).f3)) ∧ w'.cell? (ad967.add ((x5_1).toNat * 4)) = some (.bool ((rd_T150 l1 x5_1).f0)) ∧ w'.cell? ⟨(ad967.add ((x5_1).toNat * 4)).block, (ad967.add ((x5_1).toNat * 4)).off + 1, none⟩ = some (.int .i64 ((rd_T150 l1 x5_1).f1)) ∧ w'.cell? ⟨(ad967.add ((x5_1).toNat * 4)).block, (ad967.add ((x5_1).toNat * 4)).off + 2, none⟩ = some (.int .i64 ((rd_T150 l1 x5_1).f2)) ∧ w'.cell? ⟨(ad967.add ((x5_1).toNat * 4)).block, (ad967.add ((x5_1).toNat * 4)).off + 3, none⟩ = some (.int .i64 ((rd_T150 l1 x5_1).f3))) (ds := []) #[false, false, false, false, false, false, false, false, false, false] (by kernel_rfl) rfl rfl ⟨((HB.out.cell (aa_ w _ hw966_0)).trans hw966_0), ((HB.out.cell (aa_ w _ hw966_1)).trans hw966_1), ((HB.out.cell (aa_ w _ hw966_2)).trans hw966_2), ((HB.out.cell (aa_ w _ hw966_3)).trans hw966_3), ((HB.out.cell (aa_ w _ hw967_0)).trans hw967_0), ((HB.out.cell (aa_ w _ hw967_1)).trans hw967_1), ((HB.out.cell (aa_ w _ hw967_2)).trans hw967_2), ((HB.out.cell (aa_ w _ hw967_3)).trans hw967_3)⟩ (fun hHeld => ?_); refine with_tabW laws_eqValS.tab6 laws_eqValS.bits6 (fun HT_ HW_ => ?_)
                generalize wr.drew = w9 at HB hx966_0 hx966_1 hx966_2 hx966_3 hx967_0 hx967_1 hx967_2 hx967_3 hHeld ⊢
                refine pure_ (i := 0) (N := some 17) (v := ?_) (a' := ?_) #[true, false, false, false, false, false, false, false, false, false] rfl rfl (any_of HT_.out (by kernel_rfl)) (fun _ _ _ h => h) (Or.inl ⟨by rfl, ?_⟩) ?_ ?_
                rotate_left
                · intro w'
                  go_simp
                  with_reducible rfl
                rotate_left
                · simp only [Act.put, List.setIfInBounds_toArray, List.set_cons_zero, List.set_cons_succ, i64_w, i32_w]
                  rfl
                refine pure_ (i := 1) (N := some 18) (v := ?_) (a' := ?_) #[true, true, false, false, false, false, false, false, false, false] rfl rfl (any_of HT_.out (by kernel_rfl)) (fun _ _ _ h => h) (Or.inl ⟨by rfl, ?_⟩) ?_ ?_
                rotate_left
                · intro w'
                  go_simp
                  with_reducible rfl
                rotate_left
                · simp only [Act.put, List.setIfInBounds_toArray, List.set_cons_zero, List.set_cons_succ, i64_w, i32_w]
                  rfl
                refine pure_ (i := 2) (N := some 19) (v := ?_) (a' := ?_) #[true, true, true, false, false, false, false, false, false, false] rfl rfl (any_of HT_.out (by kernel_rfl)) (fun _ _ _ h => h) (Or.inl ⟨by rfl, ?_⟩) ?_ ?_
                rotate_left
                · intro w'
                  go_simp
                  with_reducible rfl
                rotate_left
                · simp only [Act.put, List.setIfInBounds_toArray, List.set_cons_zero, List.set_cons_succ, i64_w, i32_w]
                  rfl
                refine pure_ (i := 4) (N := some 21) (v := ?_) (a' := ?_) #[true, true, true, false, true, false, false, false, false, false] rfl rfl (any_of HT_.out (by kernel_rfl)) (fun _ _ _ h => h) (Or.inl ⟨by rfl, ?_⟩) ?_ ?_
                rotate_left
                · intro w'
                  go_simp
                  with_reducible rfl
                rotate_left
                · simp only [Act.put, List.setIfInBounds_toArray, List.set_cons_zero, List.set_cons_succ, i64_w, i32_w]
                  rfl
                refine pure_ (i := 5) (N := some 22) (v := ?_) (a' := ?_) #[true, true, true, false, true, true, false, false, false, false] rfl rfl (any_of HT_.out (by kernel_rfl)) (fun _ _ _ h => h) (Or.inl ⟨by rfl, ?_⟩) ?_ ?_
                rotate_left
                · intro w'
                  go_simp
                  with_reducible rfl
                rotate_left
                · simp only [Act.put, List.setIfInBounds_toArray, List.set_cons_zero, List.set_cons_succ, i64_w, i32_w]
                  rfl
                refine pure_ (i := 6) (N := some 23) (v := ?_) (a' := ?_) #[true, true, true, false, true, true, true, false, false, false] rfl rfl (any_of HT_.out (by kernel_rfl)) (fun _ _ _ h => h) (Or.inl ⟨by rfl, ?_⟩) ?_ ?_
                rotate_left
                · intro w'
                  go_simp
                  with_reducible rfl
                rotate_left
                · simp only [Act.put, List.setIfInBounds_toArray, List.set_cons_zero, List.set_cons_succ, i64_w, i32_w]
                  rfl
                refine take_ (i := 3) (N := some 20) (v := ?_) (a' := ?_) #[true, true, true, true, true, true, true, false, false, false] rfl rfl (take_ofW HT_.out HW_.out (by kernel_rfl)) (fun _ _ _ h => h) (Or.inl ⟨by rfl, ?_⟩) hHeld ?_ ?_
                rotate_left
                · rintro w' ⟨s0, s1, s2, s3, s4, s5, s6, s7⟩
                  go_simp
                  with_reducible rfl
                rotate_left
                · simp only [Act.put, List.setIfInBounds_toArray, List.set_cons_zero, List.set_cons_succ, i64_w, i32_w]
                  rfl
                refine take_ (i := 7) (N := some 24) (v := ?_) (a' := ?_) #[true, true, true, true, true, true, true, true, false, false] rfl rfl (take_ofW HT_.out HW_.out (by kernel_rfl)) (fun _ _ _ h => h) (Or.inl ⟨by rfl, ?_⟩) hHeld ?_ ?_
                rotate_left
                · rintro w' ⟨s0, s1, s2, s3, s4, s5, s6, s7⟩
                  go_simp
                  with_reducible rfl
                rotate_left
                · simp only [Act.put, List.setIfInBounds_toArray, List.set_cons_zero, List.set_cons_succ, i64_w, i32_w]
                  rfl
                refine one_ (i := 8) (N := some 25) #[true, true, true, true, true, true, true, true, true, false] rfl rfl (one_of HT_.out (by kernel_rfl)) (by decide) (fun K hK => ?_)
                refine goes_ Try.func125 (by kernel_rfl) rfl #[.agg #[.bool ((rd_T150 l0 x5_1).f0), .int .i64 ((rd_T150 l0 x5_1).f1), .int .i64 ((rd_T150 l0 x5_1).f2), .int .i64 ((rd_T150 l0 x5_1).f3)], .agg #[.bool ((rd_T150 l1 x5_1).f0), .int .i64 ((rd_T150 l1 x5_1).f1), .int .i64 ((rd_T150 l1 x5_1).f2), .int .i64 ((rd_T150 l1 x5_1).f3)]] (by rfl) rfl rfl (by (try simp only [List.map_toArray, List.map_cons, List.map_nil]); first | done | rfl | (simp only [List.length_drop, List.length_take]; rfl)) ?_
                with_reducible refine (laws_eqVal.calls ((rd_T150 l0 x5_1).f0) ((rd_T150 l0 x5_1).f1) ((rd_T150 l0 x5_1).f2) ((rd_T150 l0 x5_1).f3) ((rd_T150 l1 x5_1).f0) ((rd_T150 l1 x5_1).f1) ((rd_T150 l1 x5_1).f2) ((rd_T150 l1 x5_1).f3) true _ A7.out).mono ?_
                rintro e w10 ⟨rfl, hb⟩
                refine ⟨_, rfl, ?_⟩
                have n0_ := ab_ (ao_ (by repeat (first | (with_reducible first | exact HB.out | apply ai_ | apply ag_ | apply ah_) | exact HB.out)) hb)
                clear HB
                have HB := n0_
                clear n0_
                (try clear hb)
                (try clear hb2)
                (try clear hk)
                (try clear hi)
                refine hK.out _ _ ⟨((HB.out.cell (aa_ w _ hw966_0)).trans hw966_0), ((HB.out.cell (aa_ w _ hw966_1)).trans hw966_1), ((HB.out.cell (aa_ w _ hw966_2)).trans hw966_2), ((HB.out.cell (aa_ w _ hw966_3)).trans hw966_3), ((HB.out.cell (aa_ w _ hw967_0)).trans hw967_0), ((HB.out.cell (aa_ w _ hw967_1)).trans hw967_1), ((HB.out.cell (aa_ w _ hw967_2)).trans hw967_2), ((HB.out.cell (aa_ w _ hw967_3)).trans hw967_3)⟩ (fun hHeld => ?_)
                clear hK K
                refine norm_ (a' := ?_) ?_ ?_
                rotate_left
                · show Act.put _ (some 25) _ = _
                  simp only [Act.put, List.setIfInBounds_toArray, List.set_cons_zero, List.set_cons_succ, i64_w, i32_w]
                  rfl
                refine pure_ (i := 9) (N := some 26) (v := ?_) (a' := ?_) #[true, true, true, true, true, true, true, true, true, true] rfl rfl (any_of HT_.out (by kernel_rfl)) (fun _ _ _ h => h) (Or.inl ⟨by rfl, ?_⟩) ?_ ?_
                rotate_left
                · intro w'
                  go_simp
                  with_reducible rfl
                rotate_left
                · simp only [Act.put, List.setIfInBounds_toArray, List.set_cons_zero, List.set_cons_succ, i64_w, i32_w]
                  rfl
                refine done_ (done_of HT_.out (by kernel_rfl)) ?_
                try go_wp2
                go_roundg k1
                case measure => have := HK1.out; omega
                case rel => exact ⟨(wrap64 (x5_1 + 1)), (by first | rfl | (simp; done) | (simp [*]; done)), H', ⟨by have := HK1.out; omega⟩, ⟨by repeat (first | (with_reducible first | exact HB.out | apply ai_ | apply ag_ | apply ah_) | exact HB.out)⟩⟩
              · replace c8 := Bool.eq_false_iff.mpr c8
                subst c8
                have H1 : (some false) = some r := by rw [if_neg (show ¬ (false = true) by decide)] at H; exact H
                clear H
                have H := H1
                clear H1
                obtain rfl := Option.some.inj H
                try go_wp2
                have n0_ := ab_ (ah_ HB.out)
                clear HB
                have HB := n0_
                clear n0_
                have p966 : 0 ≤ (x5_1 : Int) := of_decide_eq_true (by first | (with_reducible assumption) | assumption)
                have q966 : x5_1 < (l0.length : Int) := of_decide_eq_true (by first | (with_reducible assumption) | assumption)
                obtain ⟨ad966, e966, hx966_0, hx966_1, hx966_2, hx966_3⟩ := at_T150 HR0.out x5_1 p966 q966
                have hw966_3 := hx966_3
                have hw966_2 := hx966_2
                have hw966_1 := hx966_1
                have hw966_0 := hx966_0
                cases e966
                replace hx966_0 := (HB.out.cell (aa_ w _ hx966_0)).trans hx966_0
                replace hx966_1 := (HB.out.cell (aa_ w _ hx966_1)).trans hx966_1
                replace hx966_2 := (HB.out.cell (aa_ w _ hx966_2)).trans hx966_2
                replace hx966_3 := (HB.out.cell (aa_ w _ hx966_3)).trans hx966_3
                replace p966 := eq_true p966
                replace q966 := eq_true q966
                have p967 : 0 ≤ (x5_1 : Int) := of_decide_eq_true (by first | (with_reducible assumption) | assumption)
                have q967 : x5_1 < (l1.length : Int) := of_decide_eq_true (by first | (with_reducible assumption) | assumption)
                obtain ⟨ad967, e967, hx967_0, hx967_1, hx967_2, hx967_3⟩ := at_T150 HR1.out x5_1 p967 q967
                have hw967_3 := hx967_3
                have hw967_2 := hx967_2
                have hw967_1 := hx967_1
                have hw967_0 := hx967_0
                cases e967
                replace hx967_0 := (HB.out.cell (aa_ w _ hx967_0)).trans hx967_0
                replace hx967_1 := (HB.out.cell (aa_ w _ hx967_1)).trans hx967_1
                replace hx967_2 := (HB.out.cell (aa_ w _ hx967_2)).trans hx967_2
                replace hx967_3 := (HB.out.cell (aa_ w _ hx967_3)).trans hx967_3
                replace p967 := eq_true p967
                replace q967 := eq_true q967
                refine start_ (n := 10) (S := fun w' => w'.cell? (ad966.add ((x5_1).toNat * 4)) = some (.bool ((rd_T150 l0 x5_1).f0)) ∧ w'.cell? ⟨(ad966.add ((x5_1).toNat * 4)).block, (ad966.add ((x5_1).toNat * 4)).off + 1, none⟩ = some (.int .i64 ((rd_T150 l0 x5_1).f1)) ∧ w'.cell? ⟨(ad966.add ((x5_1).toNat * 4)).block, (ad966.add ((x5_1).toNat * 4)).off + 2, none⟩ = some (.int .i64 ((rd_T150 l0 x5_1).f2)) ∧ w'.cell? ⟨(ad966.add ((x5_1).toNat * 4)).block, (ad966.add ((x5_1).toNat * 4)).off + 3, none⟩ = some (.int .i64 ((rd_T150 l0 x5_1).f3)) ∧ w'.cell? (ad967.add ((x5_1).toNat * 4)) = some (.bool ((rd_T150 l1 x5_1).f0)) ∧ w'.cell? ⟨(ad967.add ((x5_1).toNat * 4)).block, (ad967.add ((x5_1).toNat * 4)).off + 1, none⟩ = some (.int .i64 ((rd_T150 l1 x5_1).f1)) ∧ w'.cell? ⟨(ad967.add ((x5_1).toNat * 4)).block, (ad967.add ((x5_1).toNat * 4)).off + 2, none⟩ = some (.int .i64 ((rd_T150 l1 x5_1).f2)) ∧ w'.cell? ⟨(ad967.add ((x5_1).toNat * 4)).block, (ad967.add ((x5_1).toNat * 4)).off + 3, none⟩ = some (.int .i64 ((rd_T150 l1 x5_1).f3))) (ds := []) #[false, false, false, false, false, false, false, false, false, false] (by kernel_rfl) rfl rfl ⟨((HB.out.cell (aa_ w _ hw966_0)).trans hw966_0), ((HB.out.cell (aa_ w _ hw966_1)).trans hw966_1), ((HB.out.cell (aa_ w _ hw966_2)).trans hw966_2), ((HB.out.cell (aa_ w _ hw966_3)).trans hw966_3), ((HB.out.cell (aa_ w _ hw967_0)).trans hw967_0), ((HB.out.cell (aa_ w _ hw967_1)).trans hw967_1), ((HB.out.cell (aa_ w _ hw967_2)).trans hw967_2), ((HB.out.cell (aa_ w _ hw967_3)).trans hw967_3)⟩ (fun hHeld => ?_); refine with_tabW laws_eqValS.tab6 laws_eqValS.bits6 (fun HT_ HW_ => ?_)
                generalize wr.drew = w11 at HB hx966_0 hx966_1 hx966_2 hx966_3 hx967_0 hx967_1 hx967_2 hx967_3 hHeld ⊢
                refine pure_ (i := 0) (N := some 17) (v := ?_) (a' := ?_) #[true, false, false, false, false, false, false, false, false, false] rfl rfl (any_of HT_.out (by kernel_rfl)) (fun _ _ _ h => h) (Or.inl ⟨by rfl, ?_⟩) ?_ ?_
                rotate_left
                · intro w'
                  go_simp
                  with_reducible rfl
                rotate_left
                · simp only [Act.put, List.setIfInBounds_toArray, List.set_cons_zero, List.set_cons_succ, i64_w, i32_w]
                  rfl
                refine pure_ (i := 1) (N := some 18) (v := ?_) (a' := ?_) #[true, true, false, false, false, false, false, false, false, false] rfl rfl (any_of HT_.out (by kernel_rfl)) (fun _ _ _ h => h) (Or.inl ⟨by rfl, ?_⟩) ?_ ?_
                rotate_left
                · intro w'
                  go_simp
                  with_reducible rfl
                rotate_left
                · simp only [Act.put, List.setIfInBounds_toArray, List.set_cons_zero, List.set_cons_succ, i64_w, i32_w]
                  rfl
                refine pure_ (i := 2) (N := some 19) (v := ?_) (a' := ?_) #[true, true, true, false, false, false, false, false, false, false] rfl rfl (any_of HT_.out (by kernel_rfl)) (fun _ _ _ h => h) (Or.inl ⟨by rfl, ?_⟩) ?_ ?_
                rotate_left
                · intro w'
                  go_simp
                  with_reducible rfl
                rotate_left
                · simp only [Act.put, List.setIfInBounds_toArray, List.set_cons_zero, List.set_cons_succ, i64_w, i32_w]
                  rfl
                refine pure_ (i := 4) (N := some 21) (v := ?_) (a' := ?_) #[true, true, true, false, true, false, false, false, false, false] rfl rfl (any_of HT_.out (by kernel_rfl)) (fun _ _ _ h => h) (Or.inl ⟨by rfl, ?_⟩) ?_ ?_
                rotate_left
                · intro w'
                  go_simp
                  with_reducible rfl
                rotate_left
                · simp only [Act.put, List.setIfInBounds_toArray, List.set_cons_zero, List.set_cons_succ, i64_w, i32_w]
                  rfl
                refine pure_ (i := 5) (N := some 22) (v := ?_) (a' := ?_) #[true, true, true, false, true, true, false, false, false, false] rfl rfl (any_of HT_.out (by kernel_rfl)) (fun _ _ _ h => h) (Or.inl ⟨by rfl, ?_⟩) ?_ ?_
                rotate_left
                · intro w'
                  go_simp
                  with_reducible rfl
                rotate_left
                · simp only [Act.put, List.setIfInBounds_toArray, List.set_cons_zero, List.set_cons_succ, i64_w, i32_w]
                  rfl
                refine pure_ (i := 6) (N := some 23) (v := ?_) (a' := ?_) #[true, true, true, false, true, true, true, false, false, false] rfl rfl (any_of HT_.out (by kernel_rfl)) (fun _ _ _ h => h) (Or.inl ⟨by rfl, ?_⟩) ?_ ?_
                rotate_left
                · intro w'
                  go_simp
                  with_reducible rfl
                rotate_left
                · simp only [Act.put, List.setIfInBounds_toArray, List.set_cons_zero, List.set_cons_succ, i64_w, i32_w]
                  rfl
                refine take_ (i := 3) (N := some 20) (v := ?_) (a' := ?_) #[true, true, true, true, true, true, true, false, false, false] rfl rfl (take_ofW HT_.out HW_.out (by kernel_rfl)) (fun _ _ _ h => h) (Or.inl ⟨by rfl, ?_⟩) hHeld ?_ ?_
                rotate_left
                · rintro w' ⟨s0, s1, s2, s3, s4, s5, s6, s7⟩
                  go_simp
                  with_reducible rfl
                rotate_left
                · simp only [Act.put, List.setIfInBounds_toArray, List.set_cons_zero, List.set_cons_succ, i64_w, i32_w]
                  rfl
                refine take_ (i := 7) (N := some 24) (v := ?_) (a' := ?_) #[true, true, true, true, true, true, true, true, false, false] rfl rfl (take_ofW HT_.out HW_.out (by kernel_rfl)) (fun _ _ _ h => h) (Or.inl ⟨by rfl, ?_⟩) hHeld ?_ ?_
                rotate_left
                · rintro w' ⟨s0, s1, s2, s3, s4, s5, s6, s7⟩
                  go_simp
                  with_reducible rfl
                rotate_left
                · simp only [Act.put, List.setIfInBounds_toArray, List.set_cons_zero, List.set_cons_succ, i64_w, i32_w]
                  rfl
                refine one_ (i := 8) (N := some 25) #[true, true, true, true, true, true, true, true, true, false] rfl rfl (one_of HT_.out (by kernel_rfl)) (by decide) (fun K hK => ?_)
                refine goes_ Try.func125 (by kernel_rfl) rfl #[.agg #[.bool ((rd_T150 l0 x5_1).f0), .int .i64 ((rd_T150 l0 x5_1).f1), .int .i64 ((rd_T150 l0 x5_1).f2), .int .i64 ((rd_T150 l0 x5_1).f3)], .agg #[.bool ((rd_T150 l1 x5_1).f0), .int .i64 ((rd_T150 l1 x5_1).f1), .int .i64 ((rd_T150 l1 x5_1).f2), .int .i64 ((rd_T150 l1 x5_1).f3)]] (by rfl) rfl rfl (by (try simp only [List.map_toArray, List.map_cons, List.map_nil]); first | done | rfl | (simp only [List.length_drop, List.length_take]; rfl)) ?_
                with_reducible refine (laws_eqVal.calls ((rd_T150 l0 x5_1).f0) ((rd_T150 l0 x5_1).f1) ((rd_T150 l0 x5_1).f2) ((rd_T150 l0 x5_1).f3) ((rd_T150 l1 x5_1).f0) ((rd_T150 l1 x5_1).f1) ((rd_T150 l1 x5_1).f2) ((rd_T150 l1 x5_1).f3) false _ A7.out).mono ?_
                rintro e w12 ⟨rfl, hb⟩
                refine ⟨_, rfl, ?_⟩
                have n0_ := ab_ (ao_ (by repeat (first | (with_reducible first | exact HB.out | apply ai_ | apply ag_ | apply ah_) | exact HB.out)) hb)
                clear HB
                have HB := n0_
                clear n0_
                (try clear hb)
                (try clear hb2)
                (try clear hk)
                (try clear hi)
                refine hK.out _ _ ⟨((HB.out.cell (aa_ w _ hw966_0)).trans hw966_0), ((HB.out.cell (aa_ w _ hw966_1)).trans hw966_1), ((HB.out.cell (aa_ w _ hw966_2)).trans hw966_2), ((HB.out.cell (aa_ w _ hw966_3)).trans hw966_3), ((HB.out.cell (aa_ w _ hw967_0)).trans hw967_0), ((HB.out.cell (aa_ w _ hw967_1)).trans hw967_1), ((HB.out.cell (aa_ w _ hw967_2)).trans hw967_2), ((HB.out.cell (aa_ w _ hw967_3)).trans hw967_3)⟩ (fun hHeld => ?_)
                clear hK K
                refine norm_ (a' := ?_) ?_ ?_
                rotate_left
                · show Act.put _ (some 25) _ = _
                  simp only [Act.put, List.setIfInBounds_toArray, List.set_cons_zero, List.set_cons_succ, i64_w, i32_w]
                  rfl
                refine pure_ (i := 9) (N := some 26) (v := ?_) (a' := ?_) #[true, true, true, true, true, true, true, true, true, true] rfl rfl (any_of HT_.out (by kernel_rfl)) (fun _ _ _ h => h) (Or.inl ⟨by rfl, ?_⟩) ?_ ?_
                rotate_left
                · intro w'
                  go_simp
                  with_reducible rfl
                rotate_left
                · simp only [Act.put, List.setIfInBounds_toArray, List.set_cons_zero, List.set_cons_succ, i64_w, i32_w]
                  rfl
                refine done_ (done_of HT_.out (by kernel_rfl)) ?_
                try go_wp2
                go_ret
                exact ⟨by first | rfl | (simp [errW_none, errW_some] <;> rfl) | (simp [*, errW_none, errW_some] <;> rfl), by repeat (first | (with_reducible first | exact HB.out | apply ai_ | apply ag_ | apply ah_) | exact HB.out)⟩
            · rw [if_neg c6] at H
              exact absurd H (by simp)
          · rw [if_neg c5] at H
            exact absurd H (by simp)
        · rw [if_neg c4] at H
          have c4b0 : decide (x5_1 < (l0.length : Int)) = false := decide_eq_false c4
          clear c4
          obtain rfl := Option.some.inj H
          go_wp2
          go_ret
          exact ⟨by first | rfl | (simp [errW_none, errW_some] <;> rfl) | (simp [*, errW_none, errW_some] <;> rfl), by repeat (first | (with_reducible first | exact HB.out | apply ai_ | apply ag_ | apply ah_) | exact HB.out)⟩
  · rw [if_neg c3] at H
    have c3b0 : ((l0.length : Int) == (l1.length : Int)) = false := beq_eq_false_iff_ne.mpr c3
    have c3b1 : ((l0.length : Int) != (l1.length : Int)) = true := bne_iff_ne.mpr c3
    have c3b2 : (l0.length == l1.length) = false := by first | simpa using c3 | (simp at c3 ⊢; omega)
    obtain rfl := Option.some.inj H
    go_enter Try.func81, Try.ntmps81
    go_wp2
    go_ret
    exact ⟨by first | rfl | (simp [errW_none, errW_some] <;> rfl) | (simp [*, errW_none, errW_some] <;> rfl), by repeat (first | (with_reducible first | exact HB.out | apply ai_ | apply ag_ | apply ah_) | exact HB.out)⟩
end Go.Proofs.Ytgoiifpimpnlpaa.PAll

end

section
namespace Go.Proofs.Ytgoiifpimpnlpaa.PAll
open Go.RowKit Go.Proofs.YtgoiifpimpnlpaaW.PrintWords Go.Proofs.YtgoiifpimpnlpaaW.PrintLast Go.Proofs.YtgoiifpimpnlpaaW.PrintMore
attribute [local go_sem] max2_int min2_int max_two min_two max_three min_three max_four min_four   -- for this text's walks alone
set_option linter.unusedVariables false
set_option linter.unusedSimpArgs false
def laws_eqBind.f (a0_0 : Int) (a0_1 : Int) (a1_0 : Int) (a1_1 : Int) : Option (Bool) := if a0_0 = a1_0 then (if a0_1 = a1_1 then (some true) else (some false)) else (some false)
set_option maxHeartbeats 8000000 in
set_option maxRecDepth 100000 in
theorem laws_eqBind.calls (a0_0 : Int) (a0_1 : Int) (a1_0 : Int) (a1_1 : Int) (r : Bool) (w : World) (h : laws_eqBind.f a0_0 a0_1 a1_0 a1_1 = some r) :
    Calls Try.prog 126 #[.agg #[.int .i64 a0_0, .int .i64 a0_1], .agg #[.int .i64 a1_0, .int .i64 a1_1]] w fun e w' => e = .returned (.bool r) ∧ Below w.heap.size w w' := by
  have hu153 := Try.underlying153
  have HB := ab_ (Below.refl w.heap.size w)
  have H : (if a0_0 = a1_0 then (if a0_1 = a1_1 then (some true) else (some false)) else (some false)) = some r := h
  clear h
  by_cases c3 : a0_0 = a1_0
  · rw [if_pos c3] at H
    have c3b0 : (a0_0 == a1_0) = true := beq_iff_eq.mpr c3
    have c3b1 : (a0_0 != a1_0) = false := bne_eq_false_iff_eq.mpr c3
    clear c3
    by_cases c4 : a0_1 = a1_1
    · rw [if_pos c4] at H
      have c4b0 : (a0_1 == a1_1) = true := beq_iff_eq.mpr c4
      have c4b1 : (a0_1 != a1_1) = false := bne_eq_false_iff_eq.mpr c4
      clear c4
      obtain rfl := Option.some.inj H
      go_enter Try.func126, Try.ntmps126
      go_wp2_with (first | ((with_reducible refine gate_dst (N := 2) rfl ?_); refine box_event ?hg (N := 2) ?hd (cs := #[.int .i64 a0_0, .int .i64 a0_1]) (t := 153) ?hr ?_; (case hd => rfl); (case hg => rfl); (case hr => first | (go_simp; done) | (go_simp; rfl)); intro gb969 hg w5 hbox hb; have n0_ := ab_ (ao_ (by repeat (first | (with_reducible first | exact HB.out | apply ai_ | apply ag_ | apply ah_) | exact HB.out)) hb); have n1_ := ab_ (hbox); have n2_ := ab_ ((by rw [hg]; exact (below_size (by repeat (first | (with_reducible first | exact HB.out | apply ai_ | apply ag_ | apply ah_) | exact HB.out))) : w.heap.size ≤ gb969)); have n3_ := ab_ ((by rw [hg]; exact (below_size (by repeat (first | (with_reducible first | exact HB.out | apply ai_ | apply ag_ | apply ah_) | exact HB.out))) : w.heap.size ≤ gb969)); clear HB; have HB := n0_; have BK969 := n1_; have GW969 := n2_; have GE969 := n3_; clear n0_ n1_ n2_ n3_; clear hb hbox hg) | ((with_reducible refine gate_dst (N := 3) rfl ?_); refine box_event ?hg (N := 3) ?hd (cs := #[.int .i64 a1_0, .int .i64 a1_1]) (t := 153) ?hr ?_; (case hd => rfl); (case hg => rfl); (case hr => first | (go_simp; done) | (go_simp; rfl)); intro gb970 hg w6 hbox hb; have n0_ := ab_ (blk_below (g := gb969) (o := .cells #[.int .i64 a0_0, .int .i64 a0_1] 153 (0, 0)) (by (with_reducible repeat (first | refine ac_ ?_ _ | refine ae_ ?_ | refine ad_ ?_ _)); exact BK969.out) hb); have n1_ := ab_ (ao_ (by repeat (first | (with_reducible first | exact HB.out | apply ai_ | apply ag_ | apply ah_ | refine af_ ?_ GE969.out) | exact HB.out)) hb); have n2_ := ab_ (hbox); have n3_ := ab_ ((by rw [hg]; exact (below_size (by repeat (first | (with_reducible first | exact HB.out | apply ai_ | apply ag_ | apply ah_ | refine af_ ?_ GE969.out) | exact HB.out))) : w.heap.size ≤ gb970)); have n4_ := ab_ ((by rw [hg]; exact (below_size (by repeat (first | (with_reducible first | exact HB.out | apply ai_ | apply ag_ | apply ah_ | refine af_ ?_ GE969.out) | exact HB.out))) : w.heap.size ≤ gb970)); have n5_ := ab_ ((by rw [hg]; exact ak_ (blk_lt (g := gb969) (o := .cells #[.int .i64 a0_0, .int .i64 a0_1] 153 (0, 0)) (by (with_reducible repeat (first | refine ac_ ?_ _ | refine ae_ ?_ | refine ad_ ?_ _)); exact BK969.out)) : gb969 ≠ gb970)); have n6_ := ab_ ((by rw [hg]; exact Nat.ne_of_gt (blk_lt (g := gb969) (o := .cells #[.int .i64 a0_0, .int .i64 a0_1] 153 (0, 0)) (by (with_reducible repeat (first | refine ac_ ?_ _ | refine ae_ ?_ | refine ad_ ?_ _)); exact BK969.out)) : gb970 ≠ gb969)); clear BK969; clear HB; have BK969 := n0_; have HB := n1_; have BK970 := n2_; have GW970 := n3_; have GE970 := n4_; have NB969_970 := n5_; have NB970_969 := n6_; clear n0_ n1_ n2_ n3_ n4_ n5_ n6_; clear hb hbox hg; have hnb7 := NB969_970.out; have hnc7 := NB970_969.out; have hcz8_0 : w6.cell? ⟨gb969, 0, none⟩ = some (.int .i64 a0_0) := (am_ BK969.out 0).trans rfl; have hcz8_1 : w6.cell? ⟨gb969, 1, none⟩ = some (.int .i64 a0_1) := (am_ BK969.out 1).trans rfl; have hfz8_0 := al_ BK969.out 0; have hfz8_1 := al_ BK969.out 1; have hcz9_0 : w6.cell? ⟨gb970, 0, none⟩ = some (.int .i64 a1_0) := (am_ BK970.out 0).trans rfl; have hcz9_1 : w6.cell? ⟨gb970, 1, none⟩ = some (.int .i64 a1_1) := (am_ BK970.out 1).trans rfl; have hfz9_0 := al_ BK970.out 0; have hfz9_1 := al_ BK970.out 1))
      go_ret
      exact ⟨by first | rfl | (simp [errW_none, errW_some] <;> rfl) | (simp [*, errW_none, errW_some] <;> rfl), by repeat (first | (with_reducible first | exact HB.out | apply ai_ | apply ag_ | apply ah_ | refine af_ ?_ GE969.out | refine af_ ?_ GE970.out) | exact HB.out)⟩
    · rw [if_neg c4] at H
      have c4b0 : (a0_1 == a1_1) = false := beq_eq_false_iff_ne.mpr c4
      have c4b1 : (a0_1 != a1_1) = true := bne_iff_ne.mpr c4
      obtain rfl := Option.some.inj H
      go_enter Try.func126, Try.ntmps126
      go_wp2_with (first | ((with_reducible refine gate_dst (N := 2) rfl ?_); refine box_event ?hg (N := 2) ?hd (cs := #[.int .i64 a0_0, .int .i64 a0_1]) (t := 153) ?hr ?_; (case hd => rfl); (case hg => rfl); (case hr => first | (go_simp; done) | (go_simp; rfl)); intro gb969 hg w10 hbox hb; have n0_ := ab_ (ao_ (by repeat (first | (with_reducible first | exact HB.out | apply ai_ | apply ag_ | apply ah_) | exact HB.out)) hb); have n1_ := ab_ (hbox); have n2_ := ab_ ((by rw [hg]; exact (below_size (by repeat (first | (with_reducible first | exact HB.out | apply ai_ | apply ag_ | apply ah_) | exact HB.out))) : w.heap.size ≤ gb969)); have n3_ := ab_ ((by rw [hg]; exact (below_size (by repeat (first | (with_reducible first | exact HB.out | apply ai_ | apply ag_ | apply ah_) | exact HB.out))) : w.heap.size ≤ gb969)); clear HB; have HB := n0_; have BK969 := n1_; have GW969 := n2_; have GE969 := n3_; clear n0_ n1_ n2_ n3_; clear hb hbox hg) | ((with_reducible refine gate_dst (N := 3) rfl ?_); refine box_event ?hg (N := 3) ?hd (cs := #[.int .i64 a1_0, .int .i64 a1_1]) (t := 153) ?hr ?_; (case hd => rfl); (case hg => rfl); (case hr => first | (go_simp; done) | (go_simp; rfl)); intro gb970 hg w11 hbox hb; have n0_ := ab_ (blk_below (g := gb969) (o := .cells #[.int .i64 a0_0, .int .i64 a0_1] 153 (0, 0)) (by (with_reducible repeat (first | refine ac_ ?_ _ | refine ae_ ?_ | refine ad_ ?_ _)); exact BK969.out) hb); have n1_ := ab_ (ao_ (by repeat (first | (with_reducible first | exact HB.out | apply ai_ | apply ag_ | apply ah_ | refine af_ ?_ GE969.out) | exact HB.out)) hb); have n2_ := ab_ (hbox); have n3_ := ab_ ((by rw [hg]; exact (below_size (by repeat (first | (with_reducible first | exact HB.out | apply ai_ | apply ag_ | apply ah_ | refine af_ ?_ GE969.out) | exact HB.out))) : w.heap.size ≤ gb970)); have n4_ := ab_ ((by rw [hg]; exact (below_size (by repeat (first | (with_reducible first | exact HB.out | apply ai_ | apply ag_ | apply ah_ | refine af_ ?_ GE969.out) | exact HB.out))) : w.heap.size ≤ gb970)); have n5_ := ab_ ((by rw [hg]; exact ak_ (blk_lt (g := gb969) (o := .cells #[.int .i64 a0_0, .int .i64 a0_1] 153 (0, 0)) (by (with_reducible repeat (first | refine ac_ ?_ _ | refine ae_ ?_ | refine ad_ ?_ _)); exact BK969.out)) : gb969 ≠ gb970)); have n6_ := ab_ ((by rw [hg]; exact Nat.ne_of_gt (blk_lt (g := gb969) (o := .cells #[.int .i64 a0_0, .int .i64 a0_1] 153 (0, 0)) (by (with_reducible repeat (first | refine ac_ ?_ _ | refine ae_ ?_ | refine ad_ ?_ _)); exact BK969.out)) : gb970 ≠ gb969)); clear BK969; clear HB; have BK969 := n0_; have HB := n1_; have BK970 := n2_; have GW970 := n3_; have GE970 := n4_; have NB969_970 := n5_; have NB970_969 := n6_; clear n0_ n1_ n2_ n3_ n4_ n5_ n6_; clear hb hbox hg; have hnb12 := NB969_970.out; have hnc12 := NB970_969.out; have hcz13_0 : w11.cell? ⟨gb969, 0, none⟩ = some (.int .i64 a0_0) := (am_ BK969.out 0).trans rfl; have hcz13_1 : w11.cell? ⟨gb969, 1, none⟩ = some (.int .i64 a0_1) := (am_ BK969.out 1).trans rfl; have hfz13_0 := al_ BK969.out 0; have hfz13_1 := al_ BK969.out 1; have hcz14_0 : w11.cell? ⟨gb970, 0, none⟩ = some (.int .i64 a1_0) := (am_ BK970.out 0).trans rfl; have hcz14_1 : w11.cell? ⟨gb970, 1, none⟩ = some (.int .i64 a1_1) := (am_ BK970.out 1).trans rfl; have hfz14_0 := al_ BK970.out 0; have hfz14_1 := al_ BK970.out 1))
      go_ret
      exact ⟨by first | rfl | (simp [errW_none, errW_some] <;> rfl) | (simp [*, errW_none, errW_some] <;> rfl), by repeat (first | (with_reducible first | exact HB.out | apply ai_ | apply ag_ | apply ah_ | refine af_ ?_ GE969.out | refine af_ ?_ GE970.out) | exact HB.out)⟩
  · rw [if_neg c3] at H
    have c3b0 : (a0_0 == a1_0) = false := beq_eq_false_iff_ne.mpr c3
    have c3b1 : (a0_0 != a1_0) = true := bne_iff_ne.mpr c3
    obtain rfl := Option.some.inj H
    go_enter Try.func126, Try.ntmps126
    go_wp2_with (first | ((with_reducible refine gate_dst (N := 2) rfl ?_); refine box_event ?hg (N := 2) ?hd (cs := #[.int .i64 a0_0, .int .i64 a0_1]) (t := 153) ?hr ?_; (case hd => rfl); (case hg => rfl); (case hr => first | (go_simp; done) | (go_simp; rfl)); intro gb969 hg w15 hbox hb; have n0_ := ab_ (ao_ (by repeat (first | (with_reducible first | exact HB.out | apply ai_ | apply ag_ | apply ah_) | exact HB.out)) hb); have n1_ := ab_ (hbox); have n2_ := ab_ ((by rw [hg]; exact (below_size (by repeat (first | (with_reducible first | exact HB.out | apply ai_ | apply ag_ | apply ah_) | exact HB.out))) : w.heap.size ≤ gb969)); have n3_ := ab_ ((by rw [hg]; exact (below_size (by repeat (first | (with_reducible first | exact HB.out | apply ai_ | apply ag_ | apply ah_) | exact HB.out))) : w.heap.size ≤ gb969)); clear HB; have HB := n0_; have BK969 := n1_; have GW969 := n2_; have GE969 := n3_; clear n0_ n1_ n2_ n3_; clear hb hbox hg) | ((with_reducible refine gate_dst (N := 3) rfl ?_); refine box_event ?hg (N := 3) ?hd (cs := #[.int .i64 a1_0, .int .i64 a1_1]) (t := 153) ?hr ?_; (case hd => rfl); (case hg => rfl); (case hr => first | (go_simp; done) | (go_simp; rfl)); intro gb970 hg w16 hbox hb; have n0_ := ab_ (blk_below (g := gb969) (o := .cells #[.int .i64 a0_0, .int .i64 a0_1] 153 (0, 0)) (by (with_reducible repeat (first | refine ac_ ?_ _ | refine ae_ ?_ | refine ad_ ?_ _)); exact BK969.out) hb); have n1_ := ab_ (ao_ (by repeat (first | (with_reducible first | exact HB.out | apply ai_ | apply ag_ | apply ah_ | refine af_ ?_ GE969.out) | exact HB.out)) hb); have n2_ := ab_ (hbox); have n3_ := ab_ ((by rw [hg]; exact (below_size (by repeat (first | (with_reducible first | exact HB.out | apply ai_ | apply ag_ | apply ah_ | refine af_ ?_ GE969.out) | exact HB.out))) : w.heap.size ≤ gb970)); have n4_ := ab_ ((by rw [hg]; exact (below_size (by repeat (first | (with_reducible first | exact HB.out | apply ai_ | apply ag_ | apply ah_ | refine af_ ?_ GE969.out) | exact HB.out))) : w.heap.size ≤ gb970)); have n5_ := ab_ ((by rw [hg]; exact ak_ (blk_lt (g := gb969) (o := .cells #[.int .i64 a0_0, .int .i64 a0_1] 153 (0, 0)) (by (with_reducible repeat (first | refine ac_ ?_ _ | refine ae_ ?_ | refine ad_ ?_ _)); exact BK969.out)) : gb969 ≠ gb970)); have n6_ := ab_ ((by rw [hg]; exact Nat.ne_of_gt (blk_lt (g := gb969) (o := .cells #[.int .i64 a0_0, .int .i64 a0_1] 153 (0, 0)) (by (with_reducible repeat (first | refine ac_ ?_ _ | refine ae_ ?_ | refine ad_ ?_ _)); exact BK969.out)) : gb970 ≠ gb969)); clear BK969; clear HB; have BK969 := n0_; have HB := n1_; have BK970 := n2_; have GW970 := n3_; have GE970 := n4_; have NB969_970 := n5_; have NB970_969 := n6_; clear n0_ n1_ n2_ n3_ n4_ n5_ n6_; clear hb hbox hg; have hnb17 := NB969_970.out; have hnc17 := NB970_969.out; have hcz18_0 : w16.cell? ⟨gb969, 0, none⟩ = some (.int .i64 a0_0) := (am_ BK969.out 0).trans rfl; have hcz18_1 : w16.cell? ⟨gb969, 1, none⟩ = some (.int .i64 a0_1) := (am_ BK969.out 1).trans rfl; have hfz18_0 := al_ BK969.out 0; have hfz18_1 := al_ BK969.out 1; have hcz19_0 : w16.cell? ⟨gb970, 0, none⟩ = some (.int .i64 a1_0) := (am_ BK970.out 0).trans rfl; have hcz19_1 : w16.cell? ⟨gb970, 1, none⟩ = some (.int .i64 a1_1) := (am_ BK970.out 1).trans rfl; have hfz19_0 := al_ BK970.out 0; have hfz19_1 := al_ BK970.out 1))
    go_ret
    exact ⟨by first | rfl | (simp [errW_none, errW_some] <;> rfl) | (simp [*, errW_none, errW_some] <;> rfl), by repeat (first | (with_reducible first | exact HB.out | apply ai_ | apply ag_ | apply ah_ | refine af_ ?_ GE969.out | refine af_ ?_ GE970.out) | exact HB.out)⟩
end Go.Proofs.Ytgoiifpimpnlpaa.PAll

end
