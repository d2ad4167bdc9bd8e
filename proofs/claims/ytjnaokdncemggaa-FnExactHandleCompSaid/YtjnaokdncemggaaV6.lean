-- Made by pack.py of the texts that the law reaches.
import Derived.Test.YtjnaokdncemggaaV5
section
namespace Go.Proofs.Ytjnaokdncemggaa.PAll
open Go.RowKit Go.Proofs.YtjnaokdncemggaaW.PrintWords Go.Proofs.YtjnaokdncemggaaW.PrintLast Go.Proofs.YtjnaokdncemggaaW.PrintMore
attribute [local go_sem] max2_int min2_int max_two min_two max_three min_three max_four min_four   -- for this text's walks alone
set_option linter.unusedVariables false
set_option linter.unusedSimpArgs false
set_option maxHeartbeats 8000000 in
set_option maxRecDepth 100000 in
theorem spec_l9Handle.calls (k : Nat) : ∀ (a0_0 : Int) (A0_1 : Option Addr) (c0_1 : Nat) (l0_1 : List (S82)) (a1_0 : Bool) (a1_1 : Int) (A1_2 : Option Addr) (c1_2 : Nat) (l1_2 : List (S93)) (r1 : Bool) (r2 : Int) (r3 : List (S93)) (r4 : Bool) (w : World) (hr0_1 : Kd.C k82 w A0_1 l0_1.length l0_1) (hc0_1 : l0_1.length ≤ c0_1) (hr1_2 : Kd.C k93 w A1_2 l1_2.length l1_2) (hc1_2 : l1_2.length ≤ c1_2) (h : spec_l9Handle.f k a0_0 l0_1 a1_0 a1_1 l1_2 = some (r1, r2, r3, r4)),
    Calls Try.prog 87 #[.agg #[.int .i64 a0_0, .slice A0_1 l0_1.length c0_1], .agg #[.bool a1_0, .int .i64 a1_1, .slice A1_2 l1_2.length c1_2]] w fun e w' => ∃ v2_ : Value, e = .returned (.tuple #[.agg #[.bool r1, .int .i64 r2, v2_], .bool r4]) ∧ Kd.N k93 93 w' w.heap.size (fun k_ => (w.heap.size ≤ k_)) v2_ r3 ∧ Below w.heap.size w w' := by
  induction k using Nat.strongRecOn with
  | _ k ih =>
  intro a0_0 A0_1 c0_1 l0_1 a1_0 a1_1 A1_2 c1_2 l1_2 r1 r2 r3 r4 w hr0_1 hc0_1 hr1_2 hc1_2 h
  cases k with
  | zero => exact absurd h (by simp [spec_l9Handle.f])
  | succ k =>
  have KB := ab_ (fun (c3 : a1_0 = true) (c4 : 0 ≤ a1_1) (c5 : a1_1 < (l0_1.length : Int)) (c6 : ¬ (((rd_T82 l0_1 a1_1).f0) = 4)) (c21 : ¬ (((rd_T82 l0_1 a1_1).f0) = 1)) (c44 : ¬ (((rd_T82 l0_1 a1_1).f0) = 2)) (c67 : 0 < (l1_2.length : Int)) (c69 : 1 < (l1_2.length : Int)) => spec_l9Handle.calls_B k ih a0_0 A0_1 c0_1 l0_1 a1_0 a1_1 A1_2 c1_2 l1_2 r1 r2 r3 r4 w hr0_1 hc0_1 hr1_2 hc1_2 h c3 c4 c5 c6 c21 c44 c67 c69)
  simp only [spec_l9Handle.f] at h
  have hu29 := Try.underlying29
  have hu93 := Try.underlying93
  have hu82 := Try.underlying82
  have HR0_1 := ab_ hr0_1
  have HC0_1 := ab_ hc0_1
  clear hr0_1 hc0_1
  have HR1_2 := ab_ hr1_2
  have HC1_2 := ab_ hc1_2
  clear hr1_2 hc1_2
  have HB := ab_ (av_ w.heap.size w)
  have H : (if a1_0 = true then (if 0 ≤ a1_1 then (if a1_1 < (l0_1.length : Int) then (if ((rd_T82 l0_1 a1_1).f0) = 4 then (some (false, (rd_T82 l0_1 a1_1).f1, ([] : List (S93)), true)) else (if ((rd_T82 l0_1 a1_1).f0) = 1 then (if 0 < (l1_2.length : Int) then ((spec_l9Handle.f k a0_0 l0_1 ((rd_T93 l1_2 0).f0) ((rd_T93 l1_2 0).f1) ((rd_T93 l1_2 0).f2)).bind fun bt915 => (some (bt915.1, bt915.2.1, bt915.2.2.1, bt915.2.2.2))) else (none)) else (if ((rd_T82 l0_1 a1_1).f0) = 2 then (if 1 < (l1_2.length : Int) then ((spec_l9Handle.f k a0_0 l0_1 ((rd_T93 l1_2 1).f0) ((rd_T93 l1_2 1).f1) ((rd_T93 l1_2 1).f2)).bind fun bt922 => (some (bt922.1, bt922.2.1, bt922.2.2.1, bt922.2.2.2))) else (none)) else (if 0 < (l1_2.length : Int) then ((spec_l9Handle.f k a0_0 l0_1 ((rd_T93 l1_2 0).f0) ((rd_T93 l1_2 0).f1) ((rd_T93 l1_2 0).f2)).bind fun bt929 => (if 1 < (l1_2.length : Int) then ((spec_l9Handle.f k a0_0 l0_1 ((rd_T93 l1_2 1).f0) ((rd_T93 l1_2 1).f1) ((rd_T93 l1_2 1).f2)).bind fun bt937 => (if bt929.2.2.2 = true then (spec_l9Handle.j0 k (!bt937.2.2.2) a1_0 a1_1 l1_2 ((rd_T82 l0_1 a1_1).f0) ((rd_T82 l0_1 a1_1).f1) bt929.1 bt929.2.1 bt929.2.2.1 bt937.1 bt937.2.1 bt937.2.2.1) else (spec_l9Handle.j0 k true a1_0 a1_1 l1_2 ((rd_T82 l0_1 a1_1).f0) ((rd_T82 l0_1 a1_1).f1) bt929.1 bt929.2.1 bt929.2.2.1 bt937.1 bt937.2.1 bt937.2.2.1))) else (none))) else (none))))) else (none)) else (none)) else (some (false, Int.tmod (wrap64 (a1_1 + a0_0)) 100, ([] : List (S93)), true))) = some (r1, r2, r3, r4) := h
  clear h
  by_cases c3 : a1_0 = true
  · have qc3 := ab_ c3
    subst c3
    have H1 : (if 0 ≤ a1_1 then (if a1_1 < (l0_1.length : Int) then (if ((rd_T82 l0_1 a1_1).f0) = 4 then (some (false, (rd_T82 l0_1 a1_1).f1, ([] : List (S93)), true)) else (if ((rd_T82 l0_1 a1_1).f0) = 1 then (if 0 < (l1_2.length : Int) then ((spec_l9Handle.f k a0_0 l0_1 ((rd_T93 l1_2 0).f0) ((rd_T93 l1_2 0).f1) ((rd_T93 l1_2 0).f2)).bind fun bt915 => (some (bt915.1, bt915.2.1, bt915.2.2.1, bt915.2.2.2))) else (none)) else (if ((rd_T82 l0_1 a1_1).f0) = 2 then (if 1 < (l1_2.length : Int) then ((spec_l9Handle.f k a0_0 l0_1 ((rd_T93 l1_2 1).f0) ((rd_T93 l1_2 1).f1) ((rd_T93 l1_2 1).f2)).bind fun bt922 => (some (bt922.1, bt922.2.1, bt922.2.2.1, bt922.2.2.2))) else (none)) else (if 0 < (l1_2.length : Int) then ((spec_l9Handle.f k a0_0 l0_1 ((rd_T93 l1_2 0).f0) ((rd_T93 l1_2 0).f1) ((rd_T93 l1_2 0).f2)).bind fun bt929 => (if 1 < (l1_2.length : Int) then ((spec_l9Handle.f k a0_0 l0_1 ((rd_T93 l1_2 1).f0) ((rd_T93 l1_2 1).f1) ((rd_T93 l1_2 1).f2)).bind fun bt937 => (if bt929.2.2.2 = true then (spec_l9Handle.j0 k (!bt937.2.2.2) true a1_1 l1_2 ((rd_T82 l0_1 a1_1).f0) ((rd_T82 l0_1 a1_1).f1) bt929.1 bt929.2.1 bt929.2.2.1 bt937.1 bt937.2.1 bt937.2.2.1) else (spec_l9Handle.j0 k true true a1_1 l1_2 ((rd_T82 l0_1 a1_1).f0) ((rd_T82 l0_1 a1_1).f1) bt929.1 bt929.2.1 bt929.2.2.1 bt937.1 bt937.2.1 bt937.2.2.1))) else (none))) else (none))))) else (none)) else (none)) = some (r1, r2, r3, r4) := by rw [if_pos rfl] at H; exact H
    clear H
    have H := H1
    clear H1
    by_cases c4 : 0 ≤ a1_1
    · have qc4 := ab_ c4
      rw [if_pos c4] at H
      have c4b0 : decide (0 ≤ a1_1) = true := at_ c4
      clear c4
      by_cases c5 : a1_1 < (l0_1.length : Int)
      · have qc5 := ab_ c5
        rw [if_pos c5] at H
        have c5b0 : decide (a1_1 < (l0_1.length : Int)) = true := at_ c5
        clear c5
        by_cases c6 : ((rd_T82 l0_1 a1_1).f0) = 4
        · rw [if_pos c6] at H
          have c6b0 : (((rd_T82 l0_1 a1_1).f0) == 4) = true := beq_iff_eq.mpr c6
          have c6b1 : (((rd_T82 l0_1 a1_1).f0) != 4) = false := bne_eq_false_iff_eq.mpr c6
          clear c6
          simp only [Option.some.injEq, Prod.mk.injEq] at H
          obtain ⟨rfl, rfl, rfl, rfl⟩ := H
          go_enter Try.func87, Try.ntmps87
          go_wp2_with (first | ((with_reducible refine gate_dst (N := 2) rfl ?_); refine box_event ?hg (N := 2) ?hd (cs := #[.int .i64 a0_0, .slice A0_1 l0_1.length c0_1]) (t := 29) ?hr ?_; (case hd => rfl); (case hg => rfl); (case hr => first | (go_simp; done) | (go_simp; rfl)); intro gb909 hg w7 hbox hb; have n0_ := ab_ (au_ (by repeat (first | (with_reducible first | exact HB.out | apply ai_ | apply ag_ | apply ah_) | exact HB.out)) hb); have n1_ := ab_ (hbox); have n2_ := ab_ ((by rw [hg]; exact (below_size (by repeat (first | (with_reducible first | exact HB.out | apply ai_ | apply ag_ | apply ah_) | exact HB.out))) : w.heap.size ≤ gb909)); have n3_ := ab_ ((by rw [hg]; exact (below_size (by repeat (first | (with_reducible first | exact HB.out | apply ai_ | apply ag_ | apply ah_) | exact HB.out))) : w.heap.size ≤ gb909)); clear HB; have HB := n0_; have BK909 := n1_; have GW909 := n2_; have GE909 := n3_; clear n0_ n1_ n2_ n3_; clear hb hbox hg) | ((with_reducible refine gate_dst (N := 3) rfl ?_); refine box_event ?hg (N := 3) ?hd (cs := #[.bool true, .int .i64 a1_1, .slice A1_2 l1_2.length c1_2]) (t := 93) ?hr ?_; (case hd => rfl); (case hg => rfl); (case hr => first | (go_simp; done) | (go_simp; rfl)); intro gb910 hg w8 hbox hb; have n0_ := ab_ (blk_below (g := gb909) (o := .cells #[.int .i64 a0_0, .slice A0_1 l0_1.length c0_1] 29 (0, 0)) (by (with_reducible repeat (first | refine ac_ ?_ _ | refine ae_ ?_ | refine ad_ ?_ _)); exact BK909.out) hb); have n1_ := ab_ (au_ (by repeat (first | (with_reducible first | exact HB.out | apply ai_ | apply ag_ | apply ah_ | refine af_ ?_ GE909.out) | exact HB.out)) hb); have n2_ := ab_ (hbox); have n3_ := ab_ ((by rw [hg]; exact (below_size (by repeat (first | (with_reducible first | exact HB.out | apply ai_ | apply ag_ | apply ah_ | refine af_ ?_ GE909.out) | exact HB.out))) : w.heap.size ≤ gb910)); have n4_ := ab_ ((by rw [hg]; exact (below_size (by repeat (first | (with_reducible first | exact HB.out | apply ai_ | apply ag_ | apply ah_ | refine af_ ?_ GE909.out) | exact HB.out))) : w.heap.size ≤ gb910)); have n5_ := ab_ ((by rw [hg]; exact ak_ (blk_lt (g := gb909) (o := .cells #[.int .i64 a0_0, .slice A0_1 l0_1.length c0_1] 29 (0, 0)) (by (with_reducible repeat (first | refine ac_ ?_ _ | refine ae_ ?_ | refine ad_ ?_ _)); exact BK909.out)) : gb909 ≠ gb910)); have n6_ := ab_ ((by rw [hg]; exact Nat.ne_of_gt (blk_lt (g := gb909) (o := .cells #[.int .i64 a0_0, .slice A0_1 l0_1.length c0_1] 29 (0, 0)) (by (with_reducible repeat (first | refine ac_ ?_ _ | refine ae_ ?_ | refine ad_ ?_ _)); exact BK909.out)) : gb910 ≠ gb909)); clear BK909; clear HB; have BK909 := n0_; have HB := n1_; have BK910 := n2_; have GW910 := n3_; have GE910 := n4_; have NB909_910 := n5_; have NB910_909 := n6_; clear n0_ n1_ n2_ n3_ n4_ n5_ n6_; clear hb hbox hg) | ((with_reducible refine gate_dst (N := 4) rfl ?_); refine box_event ?hg (N := 4) ?hd (cs := #[.bool false, .int .i64 0, .slice none 0 0]) (t := 93) ?hr ?_; (case hd => rfl); (case hg => rfl); (case hr => first | (go_simp; done) | (go_simp; rfl)); intro gb911 hg w9 hbox hb; have n0_ := ab_ (blk_below (g := gb909) (o := .cells #[.int .i64 a0_0, .slice A0_1 l0_1.length c0_1] 29 (0, 0)) (by (with_reducible repeat (first | refine ac_ ?_ _ | refine ae_ ?_ | refine ad_ ?_ _)); exact BK909.out) hb); have n1_ := ab_ (blk_below (g := gb910) (o := .cells #[.bool true, .int .i64 a1_1, .slice A1_2 l1_2.length c1_2] 93 (0, 0)) (by (with_reducible repeat (first | refine ac_ ?_ _ | refine ae_ ?_ | refine ad_ ?_ _)); exact BK910.out) hb); have n2_ := ab_ (au_ (by repeat (first | (with_reducible first | exact HB.out | apply ai_ | apply ag_ | apply ah_ | refine af_ ?_ GE909.out | refine af_ ?_ GE910.out) | exact HB.out)) hb); have n3_ := ab_ (hbox); have n4_ := ab_ ((by rw [hg]; exact (below_size (by repeat (first | (with_reducible first | exact HB.out | apply ai_ | apply ag_ | apply ah_ | refine af_ ?_ GE909.out | refine af_ ?_ GE910.out) | exact HB.out))) : w.heap.size ≤ gb911)); have n5_ := ab_ ((by rw [hg]; exact (below_size (by repeat (first | (with_reducible first | exact HB.out | apply ai_ | apply ag_ | apply ah_ | refine af_ ?_ GE909.out | refine af_ ?_ GE910.out) | exact HB.out))) : w.heap.size ≤ gb911)); have n6_ := ab_ ((by rw [hg]; exact ak_ (blk_lt (g := gb909) (o := .cells #[.int .i64 a0_0, .slice A0_1 l0_1.length c0_1] 29 (0, 0)) (by (with_reducible repeat (first | refine ac_ ?_ _ | refine ae_ ?_ | refine ad_ ?_ _)); exact BK909.out)) : gb909 ≠ gb911)); have n7_ := ab_ ((by rw [hg]; exact Nat.ne_of_gt (blk_lt (g := gb909) (o := .cells #[.int .i64 a0_0, .slice A0_1 l0_1.length c0_1] 29 (0, 0)) (by (with_reducible repeat (first | refine ac_ ?_ _ | refine ae_ ?_ | refine ad_ ?_ _)); exact BK909.out)) : gb911 ≠ gb909)); have n8_ := ab_ ((by rw [hg]; exact ak_ (blk_lt (g := gb910) (o := .cells #[.bool true, .int .i64 a1_1, .slice A1_2 l1_2.length c1_2] 93 (0, 0)) (by (with_reducible repeat (first | refine ac_ ?_ _ | refine ae_ ?_ | refine ad_ ?_ _)); exact BK910.out)) : gb910 ≠ gb911)); have n9_ := ab_ ((by rw [hg]; exact Nat.ne_of_gt (blk_lt (g := gb910) (o := .cells #[.bool true, .int .i64 a1_1, .slice A1_2 l1_2.length c1_2] 93 (0, 0)) (by (with_reducible repeat (first | refine ac_ ?_ _ | refine ae_ ?_ | refine ad_ ?_ _)); exact BK910.out)) : gb911 ≠ gb910)); clear BK909; clear BK910; clear HB; have BK909 := n0_; have BK910 := n1_; have HB := n2_; have BK911 := n3_; have GW911 := n4_; have GE911 := n5_; have NB909_911 := n6_; have NB911_909 := n7_; have NB910_911 := n8_; have NB911_910 := n9_; clear n0_ n1_ n2_ n3_ n4_ n5_ n6_ n7_ n8_ n9_; clear hb hbox hg; have hnb10 := NB910_909.out; have hnc10 := NB909_910.out; have hnb11 := NB910_911.out; have hnc11 := NB911_910.out; have hcz12_0 : w9.cell? ⟨gb910, 0, none⟩ = some (.bool true) := (an_ BK910.out 0).trans rfl; have hcz12_1 : w9.cell? ⟨gb910, 1, none⟩ = some (.int .i64 a1_1) := (an_ BK910.out 1).trans rfl; have hcz12_2 : w9.cell? ⟨gb910, 2, none⟩ = some (.slice A1_2 l1_2.length c1_2) := (an_ BK910.out 2).trans rfl; have hfz12_0 := am_ BK910.out 0; have hfz12_1 := am_ BK910.out 1; have hfz12_2 := am_ BK910.out 2; have hnb13 := NB909_911.out; have hnc13 := NB911_909.out; have hcz14_0 : w9.cell? ⟨gb909, 0, none⟩ = some (.int .i64 a0_0) := (an_ BK909.out 0).trans rfl; have hcz14_1 : w9.cell? ⟨gb909, 1, none⟩ = some (.slice A0_1 l0_1.length c0_1) := (an_ BK909.out 1).trans rfl; have hfz14_0 := am_ BK909.out 0; have hfz14_1 := am_ BK909.out 1; have p912 : 0 ≤ (a1_1 : Int) := of_decide_eq_true (by first | (with_reducible assumption) | assumption); have q912 : a1_1 < (l0_1.length : Int) := of_decide_eq_true (by first | (with_reducible assumption) | assumption); obtain ⟨ad912, e912, hx912_0, hx912_1⟩ := at_T82 HR0_1.out a1_1 p912 q912; cases e912; replace hx912_0 := (HB.out.cell (aa_ w _ hx912_0)).trans hx912_0; replace hx912_1 := (HB.out.cell (aa_ w _ hx912_1)).trans hx912_1; replace p912 := eq_true p912; replace q912 := eq_true q912) | ((with_reducible refine gate_dst (N := 6) rfl ?_); refine box_event ?hg (N := 6) ?hd (cs := #[.int .i64 0, .int .i64 0]) (t := 82) ?hr ?_; (case hd => rfl); (case hg => rfl); (case hr => first | (go_simp; done) | (go_simp; rfl)); intro gb913 hg w15 hbox hb; have n0_ := ab_ (blk_below (g := gb909) (o := .cells #[.int .i64 a0_0, .slice (some ad912) l0_1.length c0_1] 29 (0, 0)) (by (with_reducible repeat (first | refine ac_ ?_ _ | refine ae_ ?_ | refine ad_ ?_ _)); exact BK909.out) hb); have n1_ := ab_ (blk_below (g := gb910) (o := .cells #[.bool true, .int .i64 a1_1, .slice A1_2 l1_2.length c1_2] 93 (0, 0)) (by (with_reducible repeat (first | refine ac_ ?_ _ | refine ae_ ?_ | refine ad_ ?_ _)); exact BK910.out) hb); have n2_ := ab_ (blk_below (g := gb911) (o := .cells #[.bool false, .int .i64 0, .slice none 0 0] 93 (0, 0)) (by (with_reducible repeat (first | refine ac_ ?_ _ | refine ae_ ?_ | refine ad_ ?_ _)); exact BK911.out) hb); have n3_ := ab_ (au_ (by repeat (first | (with_reducible first | exact HB.out | apply ai_ | apply ag_ | apply ah_ | refine af_ ?_ GE909.out | refine af_ ?_ GE910.out | refine af_ ?_ GE911.out) | exact HB.out)) hb); have n4_ := ab_ (hbox); have n5_ := ab_ ((by rw [hg]; exact (below_size (by repeat (first | (with_reducible first | exact HB.out | apply ai_ | apply ag_ | apply ah_ | refine af_ ?_ GE909.out | refine af_ ?_ GE910.out | refine af_ ?_ GE911.out) | exact HB.out))) : w.heap.size ≤ gb913)); have n6_ := ab_ ((by rw [hg]; exact (below_size (by repeat (first | (with_reducible first | exact HB.out | apply ai_ | apply ag_ | apply ah_ | refine af_ ?_ GE909.out | refine af_ ?_ GE910.out | refine af_ ?_ GE911.out) | exact HB.out))) : w.heap.size ≤ gb913)); have n7_ := ab_ ((by rw [hg]; exact ak_ (blk_lt (g := gb909) (o := .cells #[.int .i64 a0_0, .slice (some ad912) l0_1.length c0_1] 29 (0, 0)) (by (with_reducible repeat (first | refine ac_ ?_ _ | refine ae_ ?_ | refine ad_ ?_ _)); exact BK909.out)) : gb909 ≠ gb913)); have n8_ := ab_ ((by rw [hg]; exact Nat.ne_of_gt (blk_lt (g := gb909) (o := .cells #[.int .i64 a0_0, .slice (some ad912) l0_1.length c0_1] 29 (0, 0)) (by (with_reducible repeat (first | refine ac_ ?_ _ | refine ae_ ?_ | refine ad_ ?_ _)); exact BK909.out)) : gb913 ≠ gb909)); have n9_ := ab_ ((by rw [hg]; exact ak_ (blk_lt (g := gb910) (o := .cells #[.bool true, .int .i64 a1_1, .slice A1_2 l1_2.length c1_2] 93 (0, 0)) (by (with_reducible repeat (first | refine ac_ ?_ _ | refine ae_ ?_ | refine ad_ ?_ _)); exact BK910.out)) : gb910 ≠ gb913)); have n10_ := ab_ ((by rw [hg]; exact Nat.ne_of_gt (blk_lt (g := gb910) (o := .cells #[.bool true, .int .i64 a1_1, .slice A1_2 l1_2.length c1_2] 93 (0, 0)) (by (with_reducible repeat (first | refine ac_ ?_ _ | refine ae_ ?_ | refine ad_ ?_ _)); exact BK910.out)) : gb913 ≠ gb910)); have n11_ := ab_ ((by rw [hg]; exact ak_ (blk_lt (g := gb911) (o := .cells #[.bool false, .int .i64 0, .slice none 0 0] 93 (0, 0)) (by (with_reducible repeat (first | refine ac_ ?_ _ | refine ae_ ?_ | refine ad_ ?_ _)); exact BK911.out)) : gb911 ≠ gb913)); have n12_ := ab_ ((by rw [hg]; exact Nat.ne_of_gt (blk_lt (g := gb911) (o := .cells #[.bool false, .int .i64 0, .slice none 0 0] 93 (0, 0)) (by (with_reducible repeat (first | refine ac_ ?_ _ | refine ae_ ?_ | refine ad_ ?_ _)); exact BK911.out)) : gb913 ≠ gb911)); clear BK909; clear BK910; clear BK911; clear HB; have BK909 := n0_; have BK910 := n1_; have BK911 := n2_; have HB := n3_; have BK913 := n4_; have GW913 := n5_; have GE913 := n6_; have NB909_913 := n7_; have NB913_909 := n8_; have NB910_913 := n9_; have NB913_910 := n10_; have NB911_913 := n11_; have NB913_911 := n12_; clear n0_ n1_ n2_ n3_ n4_ n5_ n6_ n7_ n8_ n9_ n10_ n11_ n12_; clear hb hbox hg; have hnb16 := NB913_909.out; have hnc16 := NB909_913.out; have hnb17 := NB913_910.out; have hnc17 := NB910_913.out; have hnb18 := NB913_911.out; have hnc18 := NB911_913.out; have hcz19_0 : w15.cell? ⟨gb913, 0, none⟩ = some (.int .i64 0) := (an_ BK913.out 0).trans rfl; have hcz19_1 : w15.cell? ⟨gb913, 1, none⟩ = some (.int .i64 0) := (an_ BK913.out 1).trans rfl; have hfz19_0 := am_ BK913.out 0; have hfz19_1 := am_ BK913.out 1; have hcz20_0 : w15.cell? ⟨gb911, 0, none⟩ = some (.bool false) := (an_ BK911.out 0).trans rfl; have hcz20_1 : w15.cell? ⟨gb911, 1, none⟩ = some (.int .i64 0) := (an_ BK911.out 1).trans rfl; have hcz20_2 : w15.cell? ⟨gb911, 2, none⟩ = some (.slice none 0 0) := (an_ BK911.out 2).trans rfl; have hfz20_0 := am_ BK911.out 0; have hfz20_1 := am_ BK911.out 1; have hfz20_2 := am_ BK911.out 2))
          refine bodyPost_ret (results_ct rfl _ _ gb911 93 #[.bool false, .int .i64 ((rd_T82 l0_1 a1_1).f1), .slice none 0 0] (0, 0) _ rfl (by (with_reducible repeat (first | refine ac_ ?_ _ | refine ae_ ?_ | refine ad_ ?_ _)); refine blk_put (cs := #[.bool false, .int .i64 ((rd_T82 l0_1 a1_1).f1), .slice none 0 0]) ?_ 2 _ rfl; (with_reducible repeat (first | refine ac_ ?_ _ | refine ae_ ?_ | refine ad_ ?_ _)); refine blk_put (cs := #[.bool false, .int .i64 0, .slice none 0 0]) ?_ 1 _ rfl; (with_reducible repeat (first | refine ac_ ?_ _ | refine ae_ ?_ | refine ad_ ?_ _)); refine blk_put (cs := #[.bool false, .int .i64 0, .slice none 0 0]) ?_ 0 _ rfl; (with_reducible repeat (first | refine ac_ ?_ _ | refine ae_ ?_ | refine ad_ ?_ _)); refine blk_far ?_ NB911_913.out _; (with_reducible repeat (first | refine ac_ ?_ _ | refine ae_ ?_ | refine ad_ ?_ _)); refine blk_far ?_ NB911_913.out _; (with_reducible repeat (first | refine ac_ ?_ _ | refine ae_ ?_ | refine ad_ ?_ _)); exact BK911.out) Try.underlying93 rfl (by kernel_rfl)) rfl ?_
          exact ⟨_, by first | rfl | (simp [errW_none, errW_some] <;> rfl) | (simp [*, errW_none, errW_some] <;> rfl), by first | exact Kd.R_nil _ _ _ _ _ | exact Kd.N_nil _ _ _ _ _ | exact Kd.V_nil _ _ _ _ _ | exact Kd.Q_nil _ _ _ _ _ | exact Kd.S_nil _ _ _ _ _, by repeat (first | (with_reducible first | exact HB.out | apply ai_ | apply ag_ | apply ah_ | refine af_ ?_ GE909.out | refine af_ ?_ GE910.out | refine af_ ?_ GE911.out | refine af_ ?_ GE913.out) | exact HB.out)⟩
        · have qc6 := ab_ c6
          rw [if_neg c6] at H
          have c6b0 : (((rd_T82 l0_1 a1_1).f0) == 4) = false := beq_eq_false_iff_ne.mpr c6
          have c6b1 : (((rd_T82 l0_1 a1_1).f0) != 4) = true := bne_iff_ne.mpr c6
          by_cases c21 : ((rd_T82 l0_1 a1_1).f0) = 1
          · rw [if_pos c21] at H
            have c21b0 : (((rd_T82 l0_1 a1_1).f0) == 1) = true := beq_iff_eq.mpr c21
            have c21b1 : (((rd_T82 l0_1 a1_1).f0) != 1) = false := bne_eq_false_iff_eq.mpr c21
            clear c21
            by_cases c22 : 0 < (l1_2.length : Int)
            · rw [if_pos c22] at H
              have c22b0 : decide (0 < (l1_2.length : Int)) = true := at_ c22
              have c22b1 : decide (0 < l1_2.length) = true := at_ (by omega)
              clear c22
              replace H := Option.bind_eq_some_iff.mp H
              obtain ⟨⟨t915, t916, t917, t920⟩, A230, H⟩ := H
              replace H : (some (t915, t916, t917, t920)) = some (r1, r2, r3, r4) := H
              have A23 := ab_ A230
              clear A230
              simp only [Option.some.injEq, Prod.mk.injEq] at H
              obtain ⟨rfl, rfl, rfl, rfl⟩ := H
              go_enter Try.func87, Try.ntmps87
              try go_wp2_with (first | ((with_reducible refine gate_dst (N := 2) rfl ?_); refine box_event ?hg (N := 2) ?hd (cs := #[.int .i64 a0_0, .slice A0_1 l0_1.length c0_1]) (t := 29) ?hr ?_; (case hd => rfl); (case hg => rfl); (case hr => first | (go_simp; done) | (go_simp; rfl)); intro gb909 hg w24 hbox hb; have n0_ := ab_ (au_ (by repeat (first | (with_reducible first | exact HB.out | apply ai_ | apply ag_ | apply ah_) | exact HB.out)) hb); have n1_ := ab_ (hbox); have n2_ := ab_ ((by rw [hg]; exact (below_size (by repeat (first | (with_reducible first | exact HB.out | apply ai_ | apply ag_ | apply ah_) | exact HB.out))) : w.heap.size ≤ gb909)); have n3_ := ab_ ((by rw [hg]; exact (below_size (by repeat (first | (with_reducible first | exact HB.out | apply ai_ | apply ag_ | apply ah_) | exact HB.out))) : w.heap.size ≤ gb909)); clear HB; have HB := n0_; have BK909 := n1_; have GW909 := n2_; have GE909 := n3_; clear n0_ n1_ n2_ n3_; clear hb hbox hg) | ((with_reducible refine gate_dst (N := 3) rfl ?_); refine box_event ?hg (N := 3) ?hd (cs := #[.bool true, .int .i64 a1_1, .slice A1_2 l1_2.length c1_2]) (t := 93) ?hr ?_; (case hd => rfl); (case hg => rfl); (case hr => first | (go_simp; done) | (go_simp; rfl)); intro gb910 hg w25 hbox hb; have n0_ := ab_ (blk_below (g := gb909) (o := .cells #[.int .i64 a0_0, .slice A0_1 l0_1.length c0_1] 29 (0, 0)) (by (with_reducible repeat (first | refine ac_ ?_ _ | refine ae_ ?_ | refine ad_ ?_ _)); exact BK909.out) hb); have n1_ := ab_ (au_ (by repeat (first | (with_reducible first | exact HB.out | apply ai_ | apply ag_ | apply ah_ | refine af_ ?_ GE909.out) | exact HB.out)) hb); have n2_ := ab_ (hbox); have n3_ := ab_ ((by rw [hg]; exact (below_size (by repeat (first | (with_reducible first | exact HB.out | apply ai_ | apply ag_ | apply ah_ | refine af_ ?_ GE909.out) | exact HB.out))) : w.heap.size ≤ gb910)); have n4_ := ab_ ((by rw [hg]; exact (below_size (by repeat (first | (with_reducible first | exact HB.out | apply ai_ | apply ag_ | apply ah_ | refine af_ ?_ GE909.out) | exact HB.out))) : w.heap.size ≤ gb910)); have n5_ := ab_ ((by rw [hg]; exact ak_ (blk_lt (g := gb909) (o := .cells #[.int .i64 a0_0, .slice A0_1 l0_1.length c0_1] 29 (0, 0)) (by (with_reducible repeat (first | refine ac_ ?_ _ | refine ae_ ?_ | refine ad_ ?_ _)); exact BK909.out)) : gb909 ≠ gb910)); have n6_ := ab_ ((by rw [hg]; exact Nat.ne_of_gt (blk_lt (g := gb909) (o := .cells #[.int .i64 a0_0, .slice A0_1 l0_1.length c0_1] 29 (0, 0)) (by (with_reducible repeat (first | refine ac_ ?_ _ | refine ae_ ?_ | refine ad_ ?_ _)); exact BK909.out)) : gb910 ≠ gb909)); clear BK909; clear HB; have BK909 := n0_; have HB := n1_; have BK910 := n2_; have GW910 := n3_; have GE910 := n4_; have NB909_910 := n5_; have NB910_909 := n6_; clear n0_ n1_ n2_ n3_ n4_ n5_ n6_; clear hb hbox hg) | ((with_reducible refine gate_dst (N := 4) rfl ?_); refine box_event ?hg (N := 4) ?hd (cs := #[.bool false, .int .i64 0, .slice none 0 0]) (t := 93) ?hr ?_; (case hd => rfl); (case hg => rfl); (case hr => first | (go_simp; done) | (go_simp; rfl)); intro gb911 hg w26 hbox hb; have n0_ := ab_ (blk_below (g := gb909) (o := .cells #[.int .i64 a0_0, .slice A0_1 l0_1.length c0_1] 29 (0, 0)) (by (with_reducible repeat (first | refine ac_ ?_ _ | refine ae_ ?_ | refine ad_ ?_ _)); exact BK909.out) hb); have n1_ := ab_ (blk_below (g := gb910) (o := .cells #[.bool true, .int .i64 a1_1, .slice A1_2 l1_2.length c1_2] 93 (0, 0)) (by (with_reducible repeat (first | refine ac_ ?_ _ | refine ae_ ?_ | refine ad_ ?_ _)); exact BK910.out) hb); have n2_ := ab_ (au_ (by repeat (first | (with_reducible first | exact HB.out | apply ai_ | apply ag_ | apply ah_ | refine af_ ?_ GE909.out | refine af_ ?_ GE910.out) | exact HB.out)) hb); have n3_ := ab_ (hbox); have n4_ := ab_ ((by rw [hg]; exact (below_size (by repeat (first | (with_reducible first | exact HB.out | apply ai_ | apply ag_ | apply ah_ | refine af_ ?_ GE909.out | refine af_ ?_ GE910.out) | exact HB.out))) : w.heap.size ≤ gb911)); have n5_ := ab_ ((by rw [hg]; exact (below_size (by repeat (first | (with_reducible first | exact HB.out | apply ai_ | apply ag_ | apply ah_ | refine af_ ?_ GE909.out | refine af_ ?_ GE910.out) | exact HB.out))) : w.heap.size ≤ gb911)); have n6_ := ab_ ((by rw [hg]; exact ak_ (blk_lt (g := gb909) (o := .cells #[.int .i64 a0_0, .slice A0_1 l0_1.length c0_1] 29 (0, 0)) (by (with_reducible repeat (first | refine ac_ ?_ _ | refine ae_ ?_ | refine ad_ ?_ _)); exact BK909.out)) : gb909 ≠ gb911)); have n7_ := ab_ ((by rw [hg]; exact Nat.ne_of_gt (blk_lt (g := gb909) (o := .cells #[.int .i64 a0_0, .slice A0_1 l0_1.length c0_1] 29 (0, 0)) (by (with_reducible repeat (first | refine ac_ ?_ _ | refine ae_ ?_ | refine ad_ ?_ _)); exact BK909.out)) : gb911 ≠ gb909)); have n8_ := ab_ ((by rw [hg]; exact ak_ (blk_lt (g := gb910) (o := .cells #[.bool true, .int .i64 a1_1, .slice A1_2 l1_2.length c1_2] 93 (0, 0)) (by (with_reducible repeat (first | refine ac_ ?_ _ | refine ae_ ?_ | refine ad_ ?_ _)); exact BK910.out)) : gb910 ≠ gb911)); have n9_ := ab_ ((by rw [hg]; exact Nat.ne_of_gt (blk_lt (g := gb910) (o := .cells #[.bool true, .int .i64 a1_1, .slice A1_2 l1_2.length c1_2] 93 (0, 0)) (by (with_reducible repeat (first | refine ac_ ?_ _ | refine ae_ ?_ | refine ad_ ?_ _)); exact BK910.out)) : gb911 ≠ gb910)); clear BK909; clear BK910; clear HB; have BK909 := n0_; have BK910 := n1_; have HB := n2_; have BK911 := n3_; have GW911 := n4_; have GE911 := n5_; have NB909_911 := n6_; have NB911_909 := n7_; have NB910_911 := n8_; have NB911_910 := n9_; clear n0_ n1_ n2_ n3_ n4_ n5_ n6_ n7_ n8_ n9_; clear hb hbox hg; have hnb27 := NB910_909.out; have hnc27 := NB909_910.out; have hnb28 := NB910_911.out; have hnc28 := NB911_910.out; have hcz29_0 : w26.cell? ⟨gb910, 0, none⟩ = some (.bool true) := (an_ BK910.out 0).trans rfl; have hcz29_1 : w26.cell? ⟨gb910, 1, none⟩ = some (.int .i64 a1_1) := (an_ BK910.out 1).trans rfl; have hcz29_2 : w26.cell? ⟨gb910, 2, none⟩ = some (.slice A1_2 l1_2.length c1_2) := (an_ BK910.out 2).trans rfl; have hfz29_0 := am_ BK910.out 0; have hfz29_1 := am_ BK910.out 1; have hfz29_2 := am_ BK910.out 2; have hnb30 := NB909_911.out; have hnc30 := NB911_909.out; have hcz31_0 : w26.cell? ⟨gb909, 0, none⟩ = some (.int .i64 a0_0) := (an_ BK909.out 0).trans rfl; have hcz31_1 : w26.cell? ⟨gb909, 1, none⟩ = some (.slice A0_1 l0_1.length c0_1) := (an_ BK909.out 1).trans rfl; have hfz31_0 := am_ BK909.out 0; have hfz31_1 := am_ BK909.out 1; have p912 : 0 ≤ (a1_1 : Int) := of_decide_eq_true (by first | (with_reducible assumption) | assumption); have q912 : a1_1 < (l0_1.length : Int) := of_decide_eq_true (by first | (with_reducible assumption) | assumption); obtain ⟨ad912, e912, hx912_0, hx912_1⟩ := at_T82 HR0_1.out a1_1 p912 q912; cases e912; replace hx912_0 := (HB.out.cell (aa_ w _ hx912_0)).trans hx912_0; replace hx912_1 := (HB.out.cell (aa_ w _ hx912_1)).trans hx912_1; replace p912 := eq_true p912; replace q912 := eq_true q912) | ((with_reducible refine gate_dst (N := 6) rfl ?_); refine box_event ?hg (N := 6) ?hd (cs := #[.int .i64 0, .int .i64 0]) (t := 82) ?hr ?_; (case hd => rfl); (case hg => rfl); (case hr => first | (go_simp; done) | (go_simp; rfl)); intro gb913 hg w32 hbox hb; have n0_ := ab_ (blk_below (g := gb909) (o := .cells #[.int .i64 a0_0, .slice (some ad912) l0_1.length c0_1] 29 (0, 0)) (by (with_reducible repeat (first | refine ac_ ?_ _ | refine ae_ ?_ | refine ad_ ?_ _)); exact BK909.out) hb); have n1_ := ab_ (blk_below (g := gb910) (o := .cells #[.bool true, .int .i64 a1_1, .slice A1_2 l1_2.length c1_2] 93 (0, 0)) (by (with_reducible repeat (first | refine ac_ ?_ _ | refine ae_ ?_ | refine ad_ ?_ _)); exact BK910.out) hb); have n2_ := ab_ (blk_below (g := gb911) (o := .cells #[.bool false, .int .i64 0, .slice none 0 0] 93 (0, 0)) (by (with_reducible repeat (first | refine ac_ ?_ _ | refine ae_ ?_ | refine ad_ ?_ _)); exact BK911.out) hb); have n3_ := ab_ (au_ (by repeat (first | (with_reducible first | exact HB.out | apply ai_ | apply ag_ | apply ah_ | refine af_ ?_ GE909.out | refine af_ ?_ GE910.out | refine af_ ?_ GE911.out) | exact HB.out)) hb); have n4_ := ab_ (hbox); have n5_ := ab_ ((by rw [hg]; exact (below_size (by repeat (first | (with_reducible first | exact HB.out | apply ai_ | apply ag_ | apply ah_ | refine af_ ?_ GE909.out | refine af_ ?_ GE910.out | refine af_ ?_ GE911.out) | exact HB.out))) : w.heap.size ≤ gb913)); have n6_ := ab_ ((by rw [hg]; exact (below_size (by repeat (first | (with_reducible first | exact HB.out | apply ai_ | apply ag_ | apply ah_ | refine af_ ?_ GE909.out | refine af_ ?_ GE910.out | refine af_ ?_ GE911.out) | exact HB.out))) : w.heap.size ≤ gb913)); have n7_ := ab_ ((by rw [hg]; exact ak_ (blk_lt (g := gb909) (o := .cells #[.int .i64 a0_0, .slice (some ad912) l0_1.length c0_1] 29 (0, 0)) (by (with_reducible repeat (first | refine ac_ ?_ _ | refine ae_ ?_ | refine ad_ ?_ _)); exact BK909.out)) : gb909 ≠ gb913)); have n8_ := ab_ ((by rw [hg]; exact Nat.ne_of_gt (blk_lt (g := gb909) (o := .cells #[.int .i64 a0_0, .slice (some ad912) l0_1.length c0_1] 29 (0, 0)) (by (with_reducible repeat (first | refine ac_ ?_ _ | refine ae_ ?_ | refine ad_ ?_ _)); exact BK909.out)) : gb913 ≠ gb909)); have n9_ := ab_ ((by rw [hg]; exact ak_ (blk_lt (g := gb910) (o := .cells #[.bool true, .int .i64 a1_1, .slice A1_2 l1_2.length c1_2] 93 (0, 0)) (by (with_reducible repeat (first | refine ac_ ?_ _ | refine ae_ ?_ | refine ad_ ?_ _)); exact BK910.out)) : gb910 ≠ gb913)); have n10_ := ab_ ((by rw [hg]; exact Nat.ne_of_gt (blk_lt (g := gb910) (o := .cells #[.bool true, .int .i64 a1_1, .slice A1_2 l1_2.length c1_2] 93 (0, 0)) (by (with_reducible repeat (first | refine ac_ ?_ _ | refine ae_ ?_ | refine ad_ ?_ _)); exact BK910.out)) : gb913 ≠ gb910)); have n11_ := ab_ ((by rw [hg]; exact ak_ (blk_lt (g := gb911) (o := .cells #[.bool false, .int .i64 0, .slice none 0 0] 93 (0, 0)) (by (with_reducible repeat (first | refine ac_ ?_ _ | refine ae_ ?_ | refine ad_ ?_ _)); exact BK911.out)) : gb911 ≠ gb913)); have n12_ := ab_ ((by rw [hg]; exact Nat.ne_of_gt (blk_lt (g := gb911) (o := .cells #[.bool false, .int .i64 0, .slice none 0 0] 93 (0, 0)) (by (with_reducible repeat (first | refine ac_ ?_ _ | refine ae_ ?_ | refine ad_ ?_ _)); exact BK911.out)) : gb913 ≠ gb911)); clear BK909; clear BK910; clear BK911; clear HB; have BK909 := n0_; have BK910 := n1_; have BK911 := n2_; have HB := n3_; have BK913 := n4_; have GW913 := n5_; have GE913 := n6_; have NB909_913 := n7_; have NB913_909 := n8_; have NB910_913 := n9_; have NB913_910 := n10_; have NB911_913 := n11_; have NB913_911 := n12_; clear n0_ n1_ n2_ n3_ n4_ n5_ n6_ n7_ n8_ n9_ n10_ n11_ n12_; clear hb hbox hg; have hnb33 := NB913_909.out; have hnc33 := NB909_913.out; have hnb34 := NB913_910.out; have hnc34 := NB910_913.out; have hnb35 := NB913_911.out; have hnc35 := NB911_913.out; have hcz36_0 : w32.cell? ⟨gb913, 0, none⟩ = some (.int .i64 0) := (an_ BK913.out 0).trans rfl; have hcz36_1 : w32.cell? ⟨gb913, 1, none⟩ = some (.int .i64 0) := (an_ BK913.out 1).trans rfl; have hfz36_0 := am_ BK913.out 0; have hfz36_1 := am_ BK913.out 1))
              have n0_ : Aside0 (((w32.setCell ⟨gb913, 0, none⟩ (.int .i64 ((rd_T82 l0_1 a1_1).f0))).setCell ⟨gb913, 1, none⟩ (.int .i64 ((rd_T82 l0_1 a1_1).f1))).heap[gb909]? = some (.cells #[.int .i64 a0_0, .slice (some ad912) l0_1.length c0_1] 29 (0, 0))) := ⟨by (with_reducible repeat (first | refine ac_ ?_ _ | refine ae_ ?_ | refine ad_ ?_ _)); refine blk_far ?_ NB909_913.out _; (with_reducible repeat (first | refine ac_ ?_ _ | refine ae_ ?_ | refine ad_ ?_ _)); refine blk_far ?_ NB909_913.out _; (with_reducible repeat (first | refine ac_ ?_ _ | refine ae_ ?_ | refine ad_ ?_ _)); exact BK909.out⟩
              have n1_ : Aside0 (((w32.setCell ⟨gb913, 0, none⟩ (.int .i64 ((rd_T82 l0_1 a1_1).f0))).setCell ⟨gb913, 1, none⟩ (.int .i64 ((rd_T82 l0_1 a1_1).f1))).heap[gb910]? = some (.cells #[.bool true, .int .i64 a1_1, .slice A1_2 l1_2.length c1_2] 93 (0, 0))) := ⟨by (with_reducible repeat (first | refine ac_ ?_ _ | refine ae_ ?_ | refine ad_ ?_ _)); refine blk_far ?_ NB910_913.out _; (with_reducible repeat (first | refine ac_ ?_ _ | refine ae_ ?_ | refine ad_ ?_ _)); refine blk_far ?_ NB910_913.out _; (with_reducible repeat (first | refine ac_ ?_ _ | refine ae_ ?_ | refine ad_ ?_ _)); exact BK910.out⟩
              have n2_ : Aside0 (((w32.setCell ⟨gb913, 0, none⟩ (.int .i64 ((rd_T82 l0_1 a1_1).f0))).setCell ⟨gb913, 1, none⟩ (.int .i64 ((rd_T82 l0_1 a1_1).f1))).heap[gb911]? = some (.cells #[.bool false, .int .i64 0, .slice none 0 0] 93 (0, 0))) := ⟨by (with_reducible repeat (first | refine ac_ ?_ _ | refine ae_ ?_ | refine ad_ ?_ _)); refine blk_far ?_ NB911_913.out _; (with_reducible repeat (first | refine ac_ ?_ _ | refine ae_ ?_ | refine ad_ ?_ _)); refine blk_far ?_ NB911_913.out _; (with_reducible repeat (first | refine ac_ ?_ _ | refine ae_ ?_ | refine ad_ ?_ _)); exact BK911.out⟩
              have n3_ : Aside0 (((w32.setCell ⟨gb913, 0, none⟩ (.int .i64 ((rd_T82 l0_1 a1_1).f0))).setCell ⟨gb913, 1, none⟩ (.int .i64 ((rd_T82 l0_1 a1_1).f1))).heap[gb913]? = some (.cells #[.int .i64 ((rd_T82 l0_1 a1_1).f0), .int .i64 ((rd_T82 l0_1 a1_1).f1)] 82 (0, 0))) := ⟨by (with_reducible repeat (first | refine ac_ ?_ _ | refine ae_ ?_ | refine ad_ ?_ _)); refine blk_put (cs := #[.int .i64 ((rd_T82 l0_1 a1_1).f0), .int .i64 0]) ?_ 1 _ rfl; (with_reducible repeat (first | refine ac_ ?_ _ | refine ae_ ?_ | refine ad_ ?_ _)); refine blk_put (cs := #[.int .i64 0, .int .i64 0]) ?_ 0 _ rfl; (with_reducible repeat (first | refine ac_ ?_ _ | refine ae_ ?_ | refine ad_ ?_ _)); exact BK913.out⟩
              have n4_ : Aside0 (Below w.heap.size w ((w32.setCell ⟨gb913, 0, none⟩ (.int .i64 ((rd_T82 l0_1 a1_1).f0))).setCell ⟨gb913, 1, none⟩ (.int .i64 ((rd_T82 l0_1 a1_1).f1)))) := ⟨by repeat (first | (with_reducible first | exact HB.out | apply ai_ | apply ag_ | apply ah_ | refine af_ ?_ GE909.out | refine af_ ?_ GE910.out | refine af_ ?_ GE911.out | refine af_ ?_ GE913.out) | exact HB.out)⟩
              (try clear BK909)
              (try clear BK910)
              (try clear BK911)
              (try clear BK913)
              (try clear HB)
              generalize ((w32.setCell ⟨gb913, 0, none⟩ (.int .i64 ((rd_T82 l0_1 a1_1).f0))).setCell ⟨gb913, 1, none⟩ (.int .i64 ((rd_T82 l0_1 a1_1).f1))) = w37 at n0_ n1_ n2_ n3_ n4_ ⊢
              have BK909 := n0_
              have BK910 := n1_
              have BK911 := n2_
              have BK913 := n3_
              have HB := n4_
              clear n0_ n1_ n2_ n3_ n4_
              have n0_ := ab_ (ae_ BK909.out)
              have n1_ := ab_ (ae_ BK910.out)
              have n2_ := ab_ (ae_ BK911.out)
              have n3_ := ab_ (ae_ BK913.out)
              have n4_ := ab_ (ah_ HB.out)
              clear BK909
              clear BK910
              clear BK911
              clear BK913
              clear HB
              have BK909 := n0_
              have BK910 := n1_
              have BK911 := n2_
              have BK913 := n3_
              have HB := n4_
              clear n0_ n1_ n2_ n3_ n4_
              have p914 : 0 ≤ (0 : Int) := (by omega)
              have q914 : 0 < (l1_2.length : Int) := of_decide_eq_true (by first | (with_reducible assumption) | assumption)
              obtain ⟨ad914, A914_2, c914_2, e914, hx914_0, hx914_1, hx914_2, hl914_2, hi914_2⟩ := at_T93 HR1_2.out 0 p914 q914
              have hw914_2 := hx914_2
              (try rw [show ((0 : Int)).toNat = 0 from rfl] at hw914_2)
              (try rw [show 0 * 3 = 0 from rfl] at hw914_2)
              (try rw [Addr.add_zero'] at hw914_2)
              have hw914_1 := hx914_1
              (try rw [show ((0 : Int)).toNat = 0 from rfl] at hw914_1)
              (try rw [show 0 * 3 = 0 from rfl] at hw914_1)
              (try rw [Addr.add_zero'] at hw914_1)
              have hw914_0 := hx914_0
              (try rw [show ((0 : Int)).toNat = 0 from rfl] at hw914_0)
              (try rw [show 0 * 3 = 0 from rfl] at hw914_0)
              (try rw [Addr.add_zero'] at hw914_0)
              cases e914
              have qi914 : (0 < l1_2.length) = True := eq_true (by omega)
              (try rw [show ((0 : Int)).toNat = 0 from rfl] at hx914_0)
              (try rw [show 0 * 3 = 0 from rfl] at hx914_0)
              (try rw [Addr.add_zero'] at hx914_0)
              (try rw [show ((0 : Int)).toNat = 0 from rfl] at hx914_1)
              (try rw [show 0 * 3 = 0 from rfl] at hx914_1)
              (try rw [Addr.add_zero'] at hx914_1)
              (try rw [show ((0 : Int)).toNat = 0 from rfl] at hx914_2)
              (try rw [show 0 * 3 = 0 from rfl] at hx914_2)
              (try rw [Addr.add_zero'] at hx914_2)
              replace hx914_0 := (HB.out.cell (aa_ w _ hx914_0)).trans hx914_0
              replace hx914_1 := (HB.out.cell (aa_ w _ hx914_1)).trans hx914_1
              replace hx914_2 := (HB.out.cell (aa_ w _ hx914_2)).trans hx914_2
              have HR914_2 := ab_ hi914_2
              have HC914_2 := ab_ hl914_2
              clear hi914_2 hl914_2
              replace p914 := eq_true p914
              replace q914 := eq_true q914
              refine start_ (n := 10) (S := fun w' => w'.cell? ⟨gb909, 0, none⟩ = some (.int .i64 a0_0) ∧ w'.cell? ⟨gb909, 1, none⟩ = some (.slice (some ad912) l0_1.length c0_1) ∧ w'.cell? ⟨gb910, 0, none⟩ = some (.bool true) ∧ w'.cell? ⟨gb910, 1, none⟩ = some (.int .i64 a1_1) ∧ w'.cell? ⟨gb910, 2, none⟩ = some (.slice (some ad914) l1_2.length c1_2) ∧ w'.cell? ad914 = some (.bool ((rd_T93 l1_2 0).f0)) ∧ w'.cell? ⟨ad914.block, ad914.off + 1, none⟩ = some (.int .i64 ((rd_T93 l1_2 0).f1)) ∧ w'.cell? ⟨ad914.block, ad914.off + 2, none⟩ = some (.slice A914_2 ((rd_T93 l1_2 0).f2).length c914_2)) (ds := []) #[false, false, false, false, false, false, false, false, false, false] (by kernel_rfl) rfl rfl ⟨(an_ BK909.out 0).trans rfl, (an_ BK909.out 1).trans rfl, (an_ BK910.out 0).trans rfl, (an_ BK910.out 1).trans rfl, (an_ BK910.out 2).trans rfl, ((HB.out.cell (aa_ w _ hw914_0)).trans hw914_0), ((HB.out.cell (aa_ w _ hw914_1)).trans hw914_1), ((HB.out.cell (aa_ w _ hw914_2)).trans hw914_2)⟩ (fun hHeld => ?_); refine with_tabW spec_l9Handle.tab8 spec_l9Handle.bits8 (fun HT_ HW_ => ?_)
              generalize w37.drew = w38 at BK909 BK910 BK911 BK913 HB HR914_2 hx914_0 hx914_1 hx914_2 hHeld ⊢
              refine pure_ (i := 1) (N := some 38) (v := ?_) (a' := ?_) #[false, true, false, false, false, false, false, false, false, false] rfl rfl (any_of HT_.out (by kernel_rfl)) (fun _ _ _ h => h) (Or.inl ⟨by rfl, ?_⟩) ?_ ?_
              rotate_left
              · intro w'
                go_simp
                with_reducible rfl
              rotate_left
              · simp only [Act.put, List.setIfInBounds_toArray, List.set_cons_zero, List.set_cons_succ, i64_w, i32_w]
                rfl
              refine take_ (i := 0) (N := some 37) (v := ?_) (a' := ?_) #[true, true, false, false, false, false, false, false, false, false] rfl rfl (take_ofW HT_.out HW_.out (by kernel_rfl)) (fun _ _ _ h => h) (Or.inl ⟨by rfl, ?_⟩) hHeld ?_ ?_
              rotate_left
              · rintro w' ⟨s0, s1, s2, s3, s4, s5, s6, s7⟩
                go_simp
                with_reducible rfl
              rotate_left
              · simp only [Act.put, List.setIfInBounds_toArray, List.set_cons_zero, List.set_cons_succ, i64_w, i32_w]
                rfl
              refine take_ (i := 2) (N := some 39) (v := ?_) (a' := ?_) #[true, true, true, false, false, false, false, false, false, false] rfl rfl (take_ofW HT_.out HW_.out (by kernel_rfl)) (fun _ _ _ h => h) (Or.inl ⟨by rfl, ?_⟩) hHeld ?_ ?_
              rotate_left
              · rintro w' ⟨s0, s1, s2, s3, s4, s5, s6, s7⟩
                go_simp
                with_reducible rfl
              rotate_left
              · simp only [Act.put, List.setIfInBounds_toArray, List.set_cons_zero, List.set_cons_succ, i64_w, i32_w]
                rfl
              refine pure_ (i := 3) (N := some 40) (v := ?_) (a' := ?_) #[true, true, true, true, false, false, false, false, false, false] rfl rfl (any_of HT_.out (by kernel_rfl)) (fun _ _ _ h => h) (Or.inl ⟨by rfl, ?_⟩) ?_ ?_
              rotate_left
              · intro w'
                go_simp
                with_reducible rfl
              rotate_left
              · simp only [Act.put, List.setIfInBounds_toArray, List.set_cons_zero, List.set_cons_succ, i64_w, i32_w]
                rfl
              refine take_ (i := 4) (N := some 41) (v := ?_) (a' := ?_) #[true, true, true, true, true, false, false, false, false, false] rfl rfl (take_ofW HT_.out HW_.out (by kernel_rfl)) (fun _ _ _ h => h) (Or.inl ⟨by rfl, ?_⟩) hHeld ?_ ?_
              rotate_left
              · rintro w' ⟨s0, s1, s2, s3, s4, s5, s6, s7⟩
                go_simp
                with_reducible rfl
              rotate_left
              · simp only [Act.put, List.setIfInBounds_toArray, List.set_cons_zero, List.set_cons_succ, i64_w, i32_w]
                rfl
              refine one_ (i := 5) (N := some 42) #[true, true, true, true, true, true, false, false, false, false] rfl rfl (one_of HT_.out (by kernel_rfl)) (by decide) (fun K hK => ?_)
              refine goes_ Try.func87 (by kernel_rfl) rfl #[.agg #[.int .i64 a0_0, .slice (some ad912) l0_1.length c0_1], .agg #[.bool ((rd_T93 l1_2 0).f0), .int .i64 ((rd_T93 l1_2 0).f1), .slice A914_2 ((rd_T93 l1_2 0).f2).length c914_2]] (by rfl) rfl rfl (by (try simp only [List.map_toArray, List.map_cons, List.map_nil]); first | done | rfl | (simp only [List.length_drop, List.length_take]; rfl)) ?_
              with_reducible refine (ih k (by omega) a0_0 _ _ l0_1 ((rd_T93 l1_2 0).f0) ((rd_T93 l1_2 0).f1) _ _ ((rd_T93 l1_2 0).f2) t915 t916 t917 t920 _ ?side1 ?side2 ?side3 ?side4 A23.out).mono ?_
              (case side1 => repeat (first | exact (Kd.C_below HR0_1.out HB.out) | (with_reducible refine ar_ ?_ _) | (with_reducible refine as_ ?_ _) | (with_reducible refine Kd.C_drew ?_)))
              (case side2 => exact HC0_1.out)
              (case side3 => repeat (first | exact (Kd.C_below HR914_2.out HB.out) | (with_reducible refine ar_ ?_ _) | (with_reducible refine as_ ?_ _) | (with_reducible refine Kd.C_drew ?_)))
              (case side4 => exact HC914_2.out)
              rintro e w39 ⟨v918, rfl, ho0, hb⟩
              refine ⟨_, rfl, ?_⟩
              have n0_ := ab_ (Kd.N_lower (Kd.N_mono (ok' := fun k_ => (w.heap.size ≤ k_) ∧ k_ ≠ gb909 ∧ k_ ≠ gb910 ∧ k_ ≠ gb911 ∧ k_ ≠ gb913) ho0 (fun k_ hk_ => ⟨(Nat.le_trans (below_size (by repeat (first | (with_reducible first | exact HB.out | apply ai_ | apply ag_ | apply ah_ | refine af_ ?_ GE909.out | refine af_ ?_ GE910.out | refine af_ ?_ GE911.out | refine af_ ?_ GE913.out) | exact HB.out))) hk_), (Kd.freshB (g := gb909) (o := .cells #[.int .i64 a0_0, .slice (some ad912) l0_1.length c0_1] 29 (0, 0)) (by (with_reducible repeat (first | refine ac_ ?_ _ | refine ae_ ?_ | refine ad_ ?_ _)); exact BK909.out) k_ hk_), (Kd.freshB (g := gb910) (o := .cells #[.bool true, .int .i64 a1_1, .slice (some ad914) l1_2.length c1_2] 93 (0, 0)) (by (with_reducible repeat (first | refine ac_ ?_ _ | refine ae_ ?_ | refine ad_ ?_ _)); exact BK910.out) k_ hk_), (Kd.freshB (g := gb911) (o := .cells #[.bool false, .int .i64 0, .slice none 0 0] 93 (0, 0)) (by (with_reducible repeat (first | refine ac_ ?_ _ | refine ae_ ?_ | refine ad_ ?_ _)); exact BK911.out) k_ hk_), (Kd.freshB (g := gb913) (o := .cells #[.int .i64 ((rd_T82 l0_1 a1_1).f0), .int .i64 ((rd_T82 l0_1 a1_1).f1)] 82 (0, 0)) (by (with_reducible repeat (first | refine ac_ ?_ _ | refine ae_ ?_ | refine ad_ ?_ _)); exact BK913.out) k_ hk_)⟩)) (below_size (by repeat (first | (with_reducible first | exact HB.out | apply ai_ | apply ag_ | apply ah_ | refine af_ ?_ GE909.out | refine af_ ?_ GE910.out | refine af_ ?_ GE911.out | refine af_ ?_ GE913.out) | exact HB.out))))
              have n1_ := ab_ (blk_below (g := gb909) (o := .cells #[.int .i64 a0_0, .slice (some ad912) l0_1.length c0_1] 29 (0, 0)) (by (with_reducible repeat (first | refine ac_ ?_ _ | refine ae_ ?_ | refine ad_ ?_ _)); exact BK909.out) hb)
              have n2_ := ab_ (blk_below (g := gb910) (o := .cells #[.bool true, .int .i64 a1_1, .slice (some ad914) l1_2.length c1_2] 93 (0, 0)) (by (with_reducible repeat (first | refine ac_ ?_ _ | refine ae_ ?_ | refine ad_ ?_ _)); exact BK910.out) hb)
              have n3_ := ab_ (blk_below (g := gb911) (o := .cells #[.bool false, .int .i64 0, .slice none 0 0] 93 (0, 0)) (by (with_reducible repeat (first | refine ac_ ?_ _ | refine ae_ ?_ | refine ad_ ?_ _)); exact BK911.out) hb)
              have n4_ := ab_ (blk_below (g := gb913) (o := .cells #[.int .i64 ((rd_T82 l0_1 a1_1).f0), .int .i64 ((rd_T82 l0_1 a1_1).f1)] 82 (0, 0)) (by (with_reducible repeat (first | refine ac_ ?_ _ | refine ae_ ?_ | refine ad_ ?_ _)); exact BK913.out) hb)
              have n5_ := ab_ (au_ (by repeat (first | (with_reducible first | exact HB.out | apply ai_ | apply ag_ | apply ah_ | refine af_ ?_ GE909.out | refine af_ ?_ GE910.out | refine af_ ?_ GE911.out | refine af_ ?_ GE913.out) | exact HB.out)) hb)
              clear BK909
              clear BK910
              clear BK911
              clear BK913
              clear HB
              have HO919 := n0_
              have BK909 := n1_
              have BK910 := n2_
              have BK911 := n3_
              have BK913 := n4_
              have HB := n5_
              clear n0_ n1_ n2_ n3_ n4_ n5_
              (try clear hb)
              (try clear hb2)
              (try clear hk)
              (try clear hi)
              (try clear ho0)
              obtain ⟨Ao42, co42, eo42⟩ := Kd.N_slice HO919.out
              (first | subst eo42 | (injection eo42 with f1_ f2_ f3_; have f4_ := f1_.symm; have f5_ := f3_.symm; clear f1_ f2_ f3_; subst f4_; subst f5_))
              refine hK.out _ _ ⟨(an_ BK909.out 0).trans rfl, (an_ BK909.out 1).trans rfl, (an_ BK910.out 0).trans rfl, (an_ BK910.out 1).trans rfl, (an_ BK910.out 2).trans rfl, ((HB.out.cell (aa_ w _ hw914_0)).trans hw914_0), ((HB.out.cell (aa_ w _ hw914_1)).trans hw914_1), ((HB.out.cell (aa_ w _ hw914_2)).trans hw914_2)⟩ (fun hHeld => ?_)
              clear hK K
              refine norm_ (a' := ?_) ?_ ?_
              rotate_left
              · show Act.put _ (some 42) _ = _
                simp only [Act.put, List.setIfInBounds_toArray, List.set_cons_zero, List.set_cons_succ, i64_w, i32_w]
                rfl
              refine pure_ (i := 6) (N := some 43) (v := ?_) (a' := ?_) #[true, true, true, true, true, true, true, false, false, false] rfl rfl (any_of HT_.out (by kernel_rfl)) (fun _ _ _ h => h) (Or.inl ⟨by rfl, ?_⟩) ?_ ?_
              rotate_left
              · intro w'
                go_simp
                with_reducible rfl
              rotate_left
              · simp only [Act.put, List.setIfInBounds_toArray, List.set_cons_zero, List.set_cons_succ, i64_w, i32_w]
                rfl
              refine pure_ (i := 7) (N := some 44) (v := ?_) (a' := ?_) #[true, true, true, true, true, true, true, true, false, false] rfl rfl (any_of HT_.out (by kernel_rfl)) (fun _ _ _ h => h) (Or.inl ⟨by rfl, ?_⟩) ?_ ?_
              rotate_left
              · intro w'
                go_simp
                with_reducible rfl
              rotate_left
              · simp only [Act.put, List.setIfInBounds_toArray, List.set_cons_zero, List.set_cons_succ, i64_w, i32_w]
                rfl
              refine one_ (i := 8) (N := none) #[true, true, true, true, true, true, true, true, true, false] rfl rfl (one_of HT_.out (by kernel_rfl)) (by decide) (fun K hK => ?_)
              have hs40 : w39.cell? ⟨gb911, 0, none⟩ = some (.bool false) := (an_ BK911.out 0).trans rfl
              have hfs40 := am_ BK911.out 0
              have hns40_0 := NB909_911.out
              have hns40_1 := NB910_911.out
              have hns40_3 := NB913_911.out
              have hms40_0 := NB911_909.out
              have hms40_1 := NB911_910.out
              have hms40_3 := NB911_913.out
              have hs41 : w39.cell? ⟨gb911, 1, none⟩ = some (.int .i64 0) := (an_ BK911.out 1).trans rfl
              have hfs41 := am_ BK911.out 1
              have hns41_0 := NB909_911.out
              have hns41_1 := NB910_911.out
              have hns41_3 := NB913_911.out
              have hms41_0 := NB911_909.out
              have hms41_1 := NB911_910.out
              have hms41_3 := NB911_913.out
              have hs43 : w39.cell? ⟨gb911, 2, none⟩ = some (.slice none 0 0) := (an_ BK911.out 2).trans rfl
              have hfs43 := am_ BK911.out 2
              have hns43_0 := NB909_911.out
              have hns43_1 := NB910_911.out
              have hns43_3 := NB913_911.out
              have hms43_0 := NB911_909.out
              have hms43_1 := NB911_910.out
              have hms43_3 := NB911_913.out
              refine skip_ (w1 := ?_) (by rfl) rfl ?_ ?_
              rotate_left
              · go_simp
                rfl
              refine hK.out _ _ ⟨((cw_ (p := ⟨gb911, _, none⟩) NB909_911.out _).trans (((cw_ (p := ⟨gb911, _, none⟩) NB909_911.out _).trans (((cw_ (p := ⟨gb911, _, none⟩) NB909_911.out _).trans (hHeld.1)))))), ((cw_ (p := ⟨gb911, _, none⟩) NB909_911.out _).trans (((cw_ (p := ⟨gb911, _, none⟩) NB909_911.out _).trans (((cw_ (p := ⟨gb911, _, none⟩) NB909_911.out _).trans (hHeld.2.1)))))), ((cw_ (p := ⟨gb911, _, none⟩) NB910_911.out _).trans (((cw_ (p := ⟨gb911, _, none⟩) NB910_911.out _).trans (((cw_ (p := ⟨gb911, _, none⟩) NB910_911.out _).trans (hHeld.2.2.1)))))), ((cw_ (p := ⟨gb911, _, none⟩) NB910_911.out _).trans (((cw_ (p := ⟨gb911, _, none⟩) NB910_911.out _).trans (((cw_ (p := ⟨gb911, _, none⟩) NB910_911.out _).trans (hHeld.2.2.2.1)))))), ((cw_ (p := ⟨gb911, _, none⟩) NB910_911.out _).trans (((cw_ (p := ⟨gb911, _, none⟩) NB910_911.out _).trans (((cw_ (p := ⟨gb911, _, none⟩) NB910_911.out _).trans (hHeld.2.2.2.2.1)))))), ((cw_ (p := ⟨gb911, _, none⟩) (by first | exact ak_ (aj_ (by have := aa_ _ _ hw914_0; first | rwa [al_] at this | exact this) GW911.out) | (rw [al_]; exact ak_ (aj_ (by have := aa_ _ _ hw914_0; first | rwa [al_] at this | exact this) GW911.out)) | (show (Addr.add _ _).block ≠ _; rw [al_]; exact ak_ (aj_ (by have := aa_ _ _ hw914_0; first | rwa [al_] at this | exact this) GW911.out)) | (dsimp only; exact ak_ (aj_ (by have := aa_ _ _ hw914_0; first | rwa [al_] at this | exact this) GW911.out))) _).trans (((cw_ (p := ⟨gb911, _, none⟩) (by first | exact ak_ (aj_ (by have := aa_ _ _ hw914_0; first | rwa [al_] at this | exact this) GW911.out) | (rw [al_]; exact ak_ (aj_ (by have := aa_ _ _ hw914_0; first | rwa [al_] at this | exact this) GW911.out)) | (show (Addr.add _ _).block ≠ _; rw [al_]; exact ak_ (aj_ (by have := aa_ _ _ hw914_0; first | rwa [al_] at this | exact this) GW911.out)) | (dsimp only; exact ak_ (aj_ (by have := aa_ _ _ hw914_0; first | rwa [al_] at this | exact this) GW911.out))) _).trans (((cw_ (p := ⟨gb911, _, none⟩) (by first | exact ak_ (aj_ (by have := aa_ _ _ hw914_0; first | rwa [al_] at this | exact this) GW911.out) | (rw [al_]; exact ak_ (aj_ (by have := aa_ _ _ hw914_0; first | rwa [al_] at this | exact this) GW911.out)) | (show (Addr.add _ _).block ≠ _; rw [al_]; exact ak_ (aj_ (by have := aa_ _ _ hw914_0; first | rwa [al_] at this | exact this) GW911.out)) | (dsimp only; exact ak_ (aj_ (by have := aa_ _ _ hw914_0; first | rwa [al_] at this | exact this) GW911.out))) _).trans (hHeld.2.2.2.2.2.1)))))), ((cw_ (p := ⟨gb911, _, none⟩) (by first | exact ak_ (aj_ (by have := aa_ _ _ hw914_1; first | rwa [al_] at this | exact this) GW911.out) | (rw [al_]; exact ak_ (aj_ (by have := aa_ _ _ hw914_1; first | rwa [al_] at this | exact this) GW911.out)) | (show (Addr.add _ _).block ≠ _; rw [al_]; exact ak_ (aj_ (by have := aa_ _ _ hw914_1; first | rwa [al_] at this | exact this) GW911.out)) | (dsimp only; exact ak_ (aj_ (by have := aa_ _ _ hw914_1; first | rwa [al_] at this | exact this) GW911.out))) _).trans (((cw_ (p := ⟨gb911, _, none⟩) (by first | exact ak_ (aj_ (by have := aa_ _ _ hw914_1; first | rwa [al_] at this | exact this) GW911.out) | (rw [al_]; exact ak_ (aj_ (by have := aa_ _ _ hw914_1; first | rwa [al_] at this | exact this) GW911.out)) | (show (Addr.add _ _).block ≠ _; rw [al_]; exact ak_ (aj_ (by have := aa_ _ _ hw914_1; first | rwa [al_] at this | exact this) GW911.out)) | (dsimp only; exact ak_ (aj_ (by have := aa_ _ _ hw914_1; first | rwa [al_] at this | exact this) GW911.out))) _).trans (((cw_ (p := ⟨gb911, _, none⟩) (by first | exact ak_ (aj_ (by have := aa_ _ _ hw914_1; first | rwa [al_] at this | exact this) GW911.out) | (rw [al_]; exact ak_ (aj_ (by have := aa_ _ _ hw914_1; first | rwa [al_] at this | exact this) GW911.out)) | (show (Addr.add _ _).block ≠ _; rw [al_]; exact ak_ (aj_ (by have := aa_ _ _ hw914_1; first | rwa [al_] at this | exact this) GW911.out)) | (dsimp only; exact ak_ (aj_ (by have := aa_ _ _ hw914_1; first | rwa [al_] at this | exact this) GW911.out))) _).trans (hHeld.2.2.2.2.2.2.1)))))), ((cw_ (p := ⟨gb911, _, none⟩) (by first | exact ak_ (aj_ (by have := aa_ _ _ hw914_2; first | rwa [al_] at this | exact this) GW911.out) | (rw [al_]; exact ak_ (aj_ (by have := aa_ _ _ hw914_2; first | rwa [al_] at this | exact this) GW911.out)) | (show (Addr.add _ _).block ≠ _; rw [al_]; exact ak_ (aj_ (by have := aa_ _ _ hw914_2; first | rwa [al_] at this | exact this) GW911.out)) | (dsimp only; exact ak_ (aj_ (by have := aa_ _ _ hw914_2; first | rwa [al_] at this | exact this) GW911.out))) _).trans (((cw_ (p := ⟨gb911, _, none⟩) (by first | exact ak_ (aj_ (by have := aa_ _ _ hw914_2; first | rwa [al_] at this | exact this) GW911.out) | (rw [al_]; exact ak_ (aj_ (by have := aa_ _ _ hw914_2; first | rwa [al_] at this | exact this) GW911.out)) | (show (Addr.add _ _).block ≠ _; rw [al_]; exact ak_ (aj_ (by have := aa_ _ _ hw914_2; first | rwa [al_] at this | exact this) GW911.out)) | (dsimp only; exact ak_ (aj_ (by have := aa_ _ _ hw914_2; first | rwa [al_] at this | exact this) GW911.out))) _).trans (((cw_ (p := ⟨gb911, _, none⟩) (by first | exact ak_ (aj_ (by have := aa_ _ _ hw914_2; first | rwa [al_] at this | exact this) GW911.out) | (rw [al_]; exact ak_ (aj_ (by have := aa_ _ _ hw914_2; first | rwa [al_] at this | exact this) GW911.out)) | (show (Addr.add _ _).block ≠ _; rw [al_]; exact ak_ (aj_ (by have := aa_ _ _ hw914_2; first | rwa [al_] at this | exact this) GW911.out)) | (dsimp only; exact ak_ (aj_ (by have := aa_ _ _ hw914_2; first | rwa [al_] at this | exact this) GW911.out))) _).trans (hHeld.2.2.2.2.2.2.2))))))⟩ (fun hHeld => ?_)
              clear hK K
              refine pure_ (i := 9) (N := some 5) (v := ?_) (a' := ?_) #[true, true, true, true, true, true, true, true, true, true] rfl rfl (any_of HT_.out (by kernel_rfl)) (fun _ _ _ h => h) (Or.inl ⟨by rfl, ?_⟩) ?_ ?_
              rotate_left
              · intro w'
                go_simp
                with_reducible rfl
              rotate_left
              · simp only [Act.put, List.setIfInBounds_toArray, List.set_cons_zero, List.set_cons_succ, i64_w, i32_w]
                rfl
              refine done_ (done_of HT_.out (by kernel_rfl)) ?_
              try go_wp2
              refine bodyPost_ret (results_ct rfl _ _ gb911 93 #[.bool t915, .int .i64 t916, .slice Ao42 t917.length co42] (0, 0) _ rfl (by (with_reducible repeat (first | refine ac_ ?_ _ | refine ae_ ?_ | refine ad_ ?_ _)); refine blk_put (cs := #[.bool t915, .int .i64 t916, .slice none 0 0]) ?_ 2 _ rfl; (with_reducible repeat (first | refine ac_ ?_ _ | refine ae_ ?_ | refine ad_ ?_ _)); refine blk_put (cs := #[.bool t915, .int .i64 0, .slice none 0 0]) ?_ 1 _ rfl; (with_reducible repeat (first | refine ac_ ?_ _ | refine ae_ ?_ | refine ad_ ?_ _)); refine blk_put (cs := #[.bool false, .int .i64 0, .slice none 0 0]) ?_ 0 _ rfl; (with_reducible repeat (first | refine ac_ ?_ _ | refine ae_ ?_ | refine ad_ ?_ _)); exact BK911.out) Try.underlying93 rfl (by kernel_rfl)) rfl ?_
              exact ⟨_, by first | rfl | (simp [errW_none, errW_some] <;> rfl) | (simp [*, errW_none, errW_some] <;> rfl), by (with_reducible repeat (first | apply Kd.N_alloc | apply Kd.N_drewN | apply Kd.N_drew)); exact Kd.N_mono (Kd.N_far (p := ⟨gb911, 2, none⟩) (Kd.N_far (p := ⟨gb911, 1, none⟩) (Kd.N_far (p := ⟨gb911, 0, none⟩) (Kd.N_mono HO919.out (fun k_ hk => (⟨hk, hk.2.2.2.1⟩ : _ ∧ k_ ≠ gb911))) (fun _ hk => hk.2) (.bool t915)) (fun _ hk => hk.2) (.int .i64 t916)) (fun _ hk => hk.2) (.slice Ao42 t917.length co42)) (fun _ hk => hk.1.1), by repeat (first | (with_reducible first | exact HB.out | apply ai_ | apply ag_ | apply ah_ | refine af_ ?_ GE909.out | refine af_ ?_ GE910.out | refine af_ ?_ GE911.out | refine af_ ?_ GE913.out) | exact HB.out)⟩
            · rw [if_neg c22] at H
              exact absurd H (by simp)
          · have qc21 := ab_ c21
            rw [if_neg c21] at H
            have c21b0 : (((rd_T82 l0_1 a1_1).f0) == 1) = false := beq_eq_false_iff_ne.mpr c21
            have c21b1 : (((rd_T82 l0_1 a1_1).f0) != 1) = true := bne_iff_ne.mpr c21
            by_cases c44 : ((rd_T82 l0_1 a1_1).f0) = 2
            · rw [if_pos c44] at H
              have c44b0 : (((rd_T82 l0_1 a1_1).f0) == 2) = true := beq_iff_eq.mpr c44
              have c44b1 : (((rd_T82 l0_1 a1_1).f0) != 2) = false := bne_eq_false_iff_eq.mpr c44
              clear c44
              by_cases c45 : 1 < (l1_2.length : Int)
              · rw [if_pos c45] at H
                have c45b0 : decide (1 < (l1_2.length : Int)) = true := at_ c45
                have c45b1 : decide (1 < l1_2.length) = true := at_ (by omega)
                clear c45
                replace H := Option.bind_eq_some_iff.mp H
                obtain ⟨⟨t922, t923, t924, t927⟩, A460, H⟩ := H
                replace H : (some (t922, t923, t924, t927)) = some (r1, r2, r3, r4) := H
                have A46 := ab_ A460
                clear A460
                simp only [Option.some.injEq, Prod.mk.injEq] at H
                obtain ⟨rfl, rfl, rfl, rfl⟩ := H
                go_enter Try.func87, Try.ntmps87
                try go_wp2_with (first | ((with_reducible refine gate_dst (N := 2) rfl ?_); refine box_event ?hg (N := 2) ?hd (cs := #[.int .i64 a0_0, .slice A0_1 l0_1.length c0_1]) (t := 29) ?hr ?_; (case hd => rfl); (case hg => rfl); (case hr => first | (go_simp; done) | (go_simp; rfl)); intro gb909 hg w47 hbox hb; have n0_ := ab_ (au_ (by repeat (first | (with_reducible first | exact HB.out | apply ai_ | apply ag_ | apply ah_) | exact HB.out)) hb); have n1_ := ab_ (hbox); have n2_ := ab_ ((by rw [hg]; exact (below_size (by repeat (first | (with_reducible first | exact HB.out | apply ai_ | apply ag_ | apply ah_) | exact HB.out))) : w.heap.size ≤ gb909)); have n3_ := ab_ ((by rw [hg]; exact (below_size (by repeat (first | (with_reducible first | exact HB.out | apply ai_ | apply ag_ | apply ah_) | exact HB.out))) : w.heap.size ≤ gb909)); clear HB; have HB := n0_; have BK909 := n1_; have GW909 := n2_; have GE909 := n3_; clear n0_ n1_ n2_ n3_; clear hb hbox hg) | ((with_reducible refine gate_dst (N := 3) rfl ?_); refine box_event ?hg (N := 3) ?hd (cs := #[.bool true, .int .i64 a1_1, .slice A1_2 l1_2.length c1_2]) (t := 93) ?hr ?_; (case hd => rfl); (case hg => rfl); (case hr => first | (go_simp; done) | (go_simp; rfl)); intro gb910 hg w48 hbox hb; have n0_ := ab_ (blk_below (g := gb909) (o := .cells #[.int .i64 a0_0, .slice A0_1 l0_1.length c0_1] 29 (0, 0)) (by (with_reducible repeat (first | refine ac_ ?_ _ | refine ae_ ?_ | refine ad_ ?_ _)); exact BK909.out) hb); have n1_ := ab_ (au_ (by repeat (first | (with_reducible first | exact HB.out | apply ai_ | apply ag_ | apply ah_ | refine af_ ?_ GE909.out) | exact HB.out)) hb); have n2_ := ab_ (hbox); have n3_ := ab_ ((by rw [hg]; exact (below_size (by repeat (first | (with_reducible first | exact HB.out | apply ai_ | apply ag_ | apply ah_ | refine af_ ?_ GE909.out) | exact HB.out))) : w.heap.size ≤ gb910)); have n4_ := ab_ ((by rw [hg]; exact (below_size (by repeat (first | (with_reducible first | exact HB.out | apply ai_ | apply ag_ | apply ah_ | refine af_ ?_ GE909.out) | exact HB.out))) : w.heap.size ≤ gb910)); have n5_ := ab_ ((by rw [hg]; exact ak_ (blk_lt (g := gb909) (o := .cells #[.int .i64 a0_0, .slice A0_1 l0_1.length c0_1] 29 (0, 0)) (by (with_reducible repeat (first | refine ac_ ?_ _ | refine ae_ ?_ | refine ad_ ?_ _)); exact BK909.out)) : gb909 ≠ gb910)); have n6_ := ab_ ((by rw [hg]; exact Nat.ne_of_gt (blk_lt (g := gb909) (o := .cells #[.int .i64 a0_0, .slice A0_1 l0_1.length c0_1] 29 (0, 0)) (by (with_reducible repeat (first | refine ac_ ?_ _ | refine ae_ ?_ | refine ad_ ?_ _)); exact BK909.out)) : gb910 ≠ gb909)); clear BK909; clear HB; have BK909 := n0_; have HB := n1_; have BK910 := n2_; have GW910 := n3_; have GE910 := n4_; have NB909_910 := n5_; have NB910_909 := n6_; clear n0_ n1_ n2_ n3_ n4_ n5_ n6_; clear hb hbox hg) | ((with_reducible refine gate_dst (N := 4) rfl ?_); refine box_event ?hg (N := 4) ?hd (cs := #[.bool false, .int .i64 0, .slice none 0 0]) (t := 93) ?hr ?_; (case hd => rfl); (case hg => rfl); (case hr => first | (go_simp; done) | (go_simp; rfl)); intro gb911 hg w49 hbox hb; have n0_ := ab_ (blk_below (g := gb909) (o := .cells #[.int .i64 a0_0, .slice A0_1 l0_1.length c0_1] 29 (0, 0)) (by (with_reducible repeat (first | refine ac_ ?_ _ | refine ae_ ?_ | refine ad_ ?_ _)); exact BK909.out) hb); have n1_ := ab_ (blk_below (g := gb910) (o := .cells #[.bool true, .int .i64 a1_1, .slice A1_2 l1_2.length c1_2] 93 (0, 0)) (by (with_reducible repeat (first | refine ac_ ?_ _ | refine ae_ ?_ | refine ad_ ?_ _)); exact BK910.out) hb); have n2_ := ab_ (au_ (by repeat (first | (with_reducible first | exact HB.out | apply ai_ | apply ag_ | apply ah_ | refine af_ ?_ GE909.out | refine af_ ?_ GE910.out) | exact HB.out)) hb); have n3_ := ab_ (hbox); have n4_ := ab_ ((by rw [hg]; exact (below_size (by repeat (first | (with_reducible first | exact HB.out | apply ai_ | apply ag_ | apply ah_ | refine af_ ?_ GE909.out | refine af_ ?_ GE910.out) | exact HB.out))) : w.heap.size ≤ gb911)); have n5_ := ab_ ((by rw [hg]; exact (below_size (by repeat (first | (with_reducible first | exact HB.out | apply ai_ | apply ag_ | apply ah_ | refine af_ ?_ GE909.out | refine af_ ?_ GE910.out) | exact HB.out))) : w.heap.size ≤ gb911)); have n6_ := ab_ ((by rw [hg]; exact ak_ (blk_lt (g := gb909) (o := .cells #[.int .i64 a0_0, .slice A0_1 l0_1.length c0_1] 29 (0, 0)) (by (with_reducible repeat (first | refine ac_ ?_ _ | refine ae_ ?_ | refine ad_ ?_ _)); exact BK909.out)) : gb909 ≠ gb911)); have n7_ := ab_ ((by rw [hg]; exact Nat.ne_of_gt (blk_lt (g := gb909) (o := .cells #[.int .i64 a0_0, .slice A0_1 l0_1.length c0_1] 29 (0, 0)) (by (with_reducible repeat (first | refine ac_ ?_ _ | refine ae_ ?_ | refine ad_ ?_ _)); exact BK909.out)) : gb911 ≠ gb909)); have n8_ := ab_ ((by rw [hg]; exact ak_ (blk_lt (g := gb910) (o := .cells #[.bool true, .int .i64 a1_1, .slice A1_2 l1_2.length c1_2] 93 (0, 0)) (by (with_reducible repeat (first | refine ac_ ?_ _ | refine ae_ ?_ | refine ad_ ?_ _)); exact BK910.out)) : gb910 ≠ gb911)); have n9_ := ab_ ((by rw [hg]; exact Nat.ne_of_gt (blk_lt (g := gb910) (o := .cells #[.bool true, .int .i64 a1_1, .slice A1_2 l1_2.length c1_2] 93 (0, 0)) (by (with_reducible repeat (first | refine ac_ ?_ _ | refine ae_ ?_ | refine ad_ ?_ _)); exact BK910.out)) : gb911 ≠ gb910)); clear BK909; clear BK910; clear HB; have BK909 := n0_; have BK910 := n1_; have HB := n2_; have BK911 := n3_; have GW911 := n4_; have GE911 := n5_; have NB909_911 := n6_; have NB911_909 := n7_; have NB910_911 := n8_; have NB911_910 := n9_; clear n0_ n1_ n2_ n3_ n4_ n5_ n6_ n7_ n8_ n9_; clear hb hbox hg; have hnb50 := NB910_909.out; have hnc50 := NB909_910.out; have hnb51 := NB910_911.out; have hnc51 := NB911_910.out; have hcz52_0 : w49.cell? ⟨gb910, 0, none⟩ = some (.bool true) := (an_ BK910.out 0).trans rfl; have hcz52_1 : w49.cell? ⟨gb910, 1, none⟩ = some (.int .i64 a1_1) := (an_ BK910.out 1).trans rfl; have hcz52_2 : w49.cell? ⟨gb910, 2, none⟩ = some (.slice A1_2 l1_2.length c1_2) := (an_ BK910.out 2).trans rfl; have hfz52_0 := am_ BK910.out 0; have hfz52_1 := am_ BK910.out 1; have hfz52_2 := am_ BK910.out 2; have hnb53 := NB909_911.out; have hnc53 := NB911_909.out; have hcz54_0 : w49.cell? ⟨gb909, 0, none⟩ = some (.int .i64 a0_0) := (an_ BK909.out 0).trans rfl; have hcz54_1 : w49.cell? ⟨gb909, 1, none⟩ = some (.slice A0_1 l0_1.length c0_1) := (an_ BK909.out 1).trans rfl; have hfz54_0 := am_ BK909.out 0; have hfz54_1 := am_ BK909.out 1; have p912 : 0 ≤ (a1_1 : Int) := of_decide_eq_true (by first | (with_reducible assumption) | assumption); have q912 : a1_1 < (l0_1.length : Int) := of_decide_eq_true (by first | (with_reducible assumption) | assumption); obtain ⟨ad912, e912, hx912_0, hx912_1⟩ := at_T82 HR0_1.out a1_1 p912 q912; cases e912; replace hx912_0 := (HB.out.cell (aa_ w _ hx912_0)).trans hx912_0; replace hx912_1 := (HB.out.cell (aa_ w _ hx912_1)).trans hx912_1; replace p912 := eq_true p912; replace q912 := eq_true q912) | ((with_reducible refine gate_dst (N := 6) rfl ?_); refine box_event ?hg (N := 6) ?hd (cs := #[.int .i64 0, .int .i64 0]) (t := 82) ?hr ?_; (case hd => rfl); (case hg => rfl); (case hr => first | (go_simp; done) | (go_simp; rfl)); intro gb913 hg w55 hbox hb; have n0_ := ab_ (blk_below (g := gb909) (o := .cells #[.int .i64 a0_0, .slice (some ad912) l0_1.length c0_1] 29 (0, 0)) (by (with_reducible repeat (first | refine ac_ ?_ _ | refine ae_ ?_ | refine ad_ ?_ _)); exact BK909.out) hb); have n1_ := ab_ (blk_below (g := gb910) (o := .cells #[.bool true, .int .i64 a1_1, .slice A1_2 l1_2.length c1_2] 93 (0, 0)) (by (with_reducible repeat (first | refine ac_ ?_ _ | refine ae_ ?_ | refine ad_ ?_ _)); exact BK910.out) hb); have n2_ := ab_ (blk_below (g := gb911) (o := .cells #[.bool false, .int .i64 0, .slice none 0 0] 93 (0, 0)) (by (with_reducible repeat (first | refine ac_ ?_ _ | refine ae_ ?_ | refine ad_ ?_ _)); exact BK911.out) hb); have n3_ := ab_ (au_ (by repeat (first | (with_reducible first | exact HB.out | apply ai_ | apply ag_ | apply ah_ | refine af_ ?_ GE909.out | refine af_ ?_ GE910.out | refine af_ ?_ GE911.out) | exact HB.out)) hb); have n4_ := ab_ (hbox); have n5_ := ab_ ((by rw [hg]; exact (below_size (by repeat (first | (with_reducible first | exact HB.out | apply ai_ | apply ag_ | apply ah_ | refine af_ ?_ GE909.out | refine af_ ?_ GE910.out | refine af_ ?_ GE911.out) | exact HB.out))) : w.heap.size ≤ gb913)); have n6_ := ab_ ((by rw [hg]; exact (below_size (by repeat (first | (with_reducible first | exact HB.out | apply ai_ | apply ag_ | apply ah_ | refine af_ ?_ GE909.out | refine af_ ?_ GE910.out | refine af_ ?_ GE911.out) | exact HB.out))) : w.heap.size ≤ gb913)); have n7_ := ab_ ((by rw [hg]; exact ak_ (blk_lt (g := gb909) (o := .cells #[.int .i64 a0_0, .slice (some ad912) l0_1.length c0_1] 29 (0, 0)) (by (with_reducible repeat (first | refine ac_ ?_ _ | refine ae_ ?_ | refine ad_ ?_ _)); exact BK909.out)) : gb909 ≠ gb913)); have n8_ := ab_ ((by rw [hg]; exact Nat.ne_of_gt (blk_lt (g := gb909) (o := .cells #[.int .i64 a0_0, .slice (some ad912) l0_1.length c0_1] 29 (0, 0)) (by (with_reducible repeat (first | refine ac_ ?_ _ | refine ae_ ?_ | refine ad_ ?_ _)); exact BK909.out)) : gb913 ≠ gb909)); have n9_ := ab_ ((by rw [hg]; exact ak_ (blk_lt (g := gb910) (o := .cells #[.bool true, .int .i64 a1_1, .slice A1_2 l1_2.length c1_2] 93 (0, 0)) (by (with_reducible repeat (first | refine ac_ ?_ _ | refine ae_ ?_ | refine ad_ ?_ _)); exact BK910.out)) : gb910 ≠ gb913)); have n10_ := ab_ ((by rw [hg]; exact Nat.ne_of_gt (blk_lt (g := gb910) (o := .cells #[.bool true, .int .i64 a1_1, .slice A1_2 l1_2.length c1_2] 93 (0, 0)) (by (with_reducible repeat (first | refine ac_ ?_ _ | refine ae_ ?_ | refine ad_ ?_ _)); exact BK910.out)) : gb913 ≠ gb910)); have n11_ := ab_ ((by rw [hg]; exact ak_ (blk_lt (g := gb911) (o := .cells #[.bool false, .int .i64 0, .slice none 0 0] 93 (0, 0)) (by (with_reducible repeat (first | refine ac_ ?_ _ | refine ae_ ?_ | refine ad_ ?_ _)); exact BK911.out)) : gb911 ≠ gb913)); have n12_ := ab_ ((by rw [hg]; exact Nat.ne_of_gt (blk_lt (g := gb911) (o := .cells #[.bool false, .int .i64 0, .slice none 0 0] 93 (0, 0)) (by (with_reducible repeat (first | refine ac_ ?_ _ | refine ae_ ?_ | refine ad_ ?_ _)); exact BK911.out)) : gb913 ≠ gb911)); clear BK909; clear BK910; clear BK911; clear HB; have BK909 := n0_; have BK910 := n1_; have BK911 := n2_; have HB := n3_; have BK913 := n4_; have GW913 := n5_; have GE913 := n6_; have NB909_913 := n7_; have NB913_909 := n8_; have NB910_913 := n9_; have NB913_910 := n10_; have NB911_913 := n11_; have NB913_911 := n12_; clear n0_ n1_ n2_ n3_ n4_ n5_ n6_ n7_ n8_ n9_ n10_ n11_ n12_; clear hb hbox hg; have hnb56 := NB913_909.out; have hnc56 := NB909_913.out; have hnb57 := NB913_910.out; have hnc57 := NB910_913.out; have hnb58 := NB913_911.out; have hnc58 := NB911_913.out; have hcz59_0 : w55.cell? ⟨gb913, 0, none⟩ = some (.int .i64 0) := (an_ BK913.out 0).trans rfl; have hcz59_1 : w55.cell? ⟨gb913, 1, none⟩ = some (.int .i64 0) := (an_ BK913.out 1).trans rfl; have hfz59_0 := am_ BK913.out 0; have hfz59_1 := am_ BK913.out 1))
                have n0_ : Aside0 (((w55.setCell ⟨gb913, 0, none⟩ (.int .i64 ((rd_T82 l0_1 a1_1).f0))).setCell ⟨gb913, 1, none⟩ (.int .i64 ((rd_T82 l0_1 a1_1).f1))).heap[gb909]? = some (.cells #[.int .i64 a0_0, .slice (some ad912) l0_1.length c0_1] 29 (0, 0))) := ⟨by (with_reducible repeat (first | refine ac_ ?_ _ | refine ae_ ?_ | refine ad_ ?_ _)); refine blk_far ?_ NB909_913.out _; (with_reducible repeat (first | refine ac_ ?_ _ | refine ae_ ?_ | refine ad_ ?_ _)); refine blk_far ?_ NB909_913.out _; (with_reducible repeat (first | refine ac_ ?_ _ | refine ae_ ?_ | refine ad_ ?_ _)); exact BK909.out⟩
                have n1_ : Aside0 (((w55.setCell ⟨gb913, 0, none⟩ (.int .i64 ((rd_T82 l0_1 a1_1).f0))).setCell ⟨gb913, 1, none⟩ (.int .i64 ((rd_T82 l0_1 a1_1).f1))).heap[gb910]? = some (.cells #[.bool true, .int .i64 a1_1, .slice A1_2 l1_2.length c1_2] 93 (0, 0))) := ⟨by (with_reducible repeat (first | refine ac_ ?_ _ | refine ae_ ?_ | refine ad_ ?_ _)); refine blk_far ?_ NB910_913.out _; (with_reducible repeat (first | refine ac_ ?_ _ | refine ae_ ?_ | refine ad_ ?_ _)); refine blk_far ?_ NB910_913.out _; (with_reducible repeat (first | refine ac_ ?_ _ | refine ae_ ?_ | refine ad_ ?_ _)); exact BK910.out⟩
                have n2_ : Aside0 (((w55.setCell ⟨gb913, 0, none⟩ (.int .i64 ((rd_T82 l0_1 a1_1).f0))).setCell ⟨gb913, 1, none⟩ (.int .i64 ((rd_T82 l0_1 a1_1).f1))).heap[gb911]? = some (.cells #[.bool false, .int .i64 0, .slice none 0 0] 93 (0, 0))) := ⟨by (with_reducible repeat (first | refine ac_ ?_ _ | refine ae_ ?_ | refine ad_ ?_ _)); refine blk_far ?_ NB911_913.out _; (with_reducible repeat (first | refine ac_ ?_ _ | refine ae_ ?_ | refine ad_ ?_ _)); refine blk_far ?_ NB911_913.out _; (with_reducible repeat (first | refine ac_ ?_ _ | refine ae_ ?_ | refine ad_ ?_ _)); exact BK911.out⟩
                have n3_ : Aside0 (((w55.setCell ⟨gb913, 0, none⟩ (.int .i64 ((rd_T82 l0_1 a1_1).f0))).setCell ⟨gb913, 1, none⟩ (.int .i64 ((rd_T82 l0_1 a1_1).f1))).heap[gb913]? = some (.cells #[.int .i64 ((rd_T82 l0_1 a1_1).f0), .int .i64 ((rd_T82 l0_1 a1_1).f1)] 82 (0, 0))) := ⟨by (with_reducible repeat (first | refine ac_ ?_ _ | refine ae_ ?_ | refine ad_ ?_ _)); refine blk_put (cs := #[.int .i64 ((rd_T82 l0_1 a1_1).f0), .int .i64 0]) ?_ 1 _ rfl; (with_reducible repeat (first | refine ac_ ?_ _ | refine ae_ ?_ | refine ad_ ?_ _)); refine blk_put (cs := #[.int .i64 0, .int .i64 0]) ?_ 0 _ rfl; (with_reducible repeat (first | refine ac_ ?_ _ | refine ae_ ?_ | refine ad_ ?_ _)); exact BK913.out⟩
                have n4_ : Aside0 (Below w.heap.size w ((w55.setCell ⟨gb913, 0, none⟩ (.int .i64 ((rd_T82 l0_1 a1_1).f0))).setCell ⟨gb913, 1, none⟩ (.int .i64 ((rd_T82 l0_1 a1_1).f1)))) := ⟨by repeat (first | (with_reducible first | exact HB.out | apply ai_ | apply ag_ | apply ah_ | refine af_ ?_ GE909.out | refine af_ ?_ GE910.out | refine af_ ?_ GE911.out | refine af_ ?_ GE913.out) | exact HB.out)⟩
                (try clear BK909)
                (try clear BK910)
                (try clear BK911)
                (try clear BK913)
                (try clear HB)
                generalize ((w55.setCell ⟨gb913, 0, none⟩ (.int .i64 ((rd_T82 l0_1 a1_1).f0))).setCell ⟨gb913, 1, none⟩ (.int .i64 ((rd_T82 l0_1 a1_1).f1))) = w60 at n0_ n1_ n2_ n3_ n4_ ⊢
                have BK909 := n0_
                have BK910 := n1_
                have BK911 := n2_
                have BK913 := n3_
                have HB := n4_
                clear n0_ n1_ n2_ n3_ n4_
                have n0_ := ab_ (ae_ BK909.out)
                have n1_ := ab_ (ae_ BK910.out)
                have n2_ := ab_ (ae_ BK911.out)
                have n3_ := ab_ (ae_ BK913.out)
                have n4_ := ab_ (ah_ HB.out)
                clear BK909
                clear BK910
                clear BK911
                clear BK913
                clear HB
                have BK909 := n0_
                have BK910 := n1_
                have BK911 := n2_
                have BK913 := n3_
                have HB := n4_
                clear n0_ n1_ n2_ n3_ n4_
                have p921 : 0 ≤ (1 : Int) := (by omega)
                have q921 : 1 < (l1_2.length : Int) := of_decide_eq_true (by first | (with_reducible assumption) | assumption)
                obtain ⟨ad921, A921_2, c921_2, e921, hx921_0, hx921_1, hx921_2, hl921_2, hi921_2⟩ := at_T93 HR1_2.out 1 p921 q921
                have hw921_2 := hx921_2
                (try rw [show ((1 : Int)).toNat = 1 from rfl] at hw921_2)
                (try rw [show 1 * 3 = 3 from rfl] at hw921_2)
                (try simp only [Nat.reduceMul, Nat.reduceEqDiff, Go.Addr.add, ↓reduceIte] at hw921_2)
                have hw921_1 := hx921_1
                (try rw [show ((1 : Int)).toNat = 1 from rfl] at hw921_1)
                (try rw [show 1 * 3 = 3 from rfl] at hw921_1)
                (try simp only [Nat.reduceMul, Nat.reduceEqDiff, Go.Addr.add, ↓reduceIte] at hw921_1)
                have hw921_0 := hx921_0
                (try rw [show ((1 : Int)).toNat = 1 from rfl] at hw921_0)
                (try rw [show 1 * 3 = 3 from rfl] at hw921_0)
                (try simp only [Nat.reduceMul, Nat.reduceEqDiff, Go.Addr.add, ↓reduceIte] at hw921_0)
                cases e921
                (try simp only [show (1 : Int).toNat = 1 from rfl, Nat.reduceMul, Nat.reduceEqDiff, Go.Addr.add, ↓reduceIte] at hx921_0)
                (try simp only [show (1 : Int).toNat = 1 from rfl, Nat.reduceMul, Nat.reduceEqDiff, Go.Addr.add, ↓reduceIte] at hx921_1)
                (try simp only [show (1 : Int).toNat = 1 from rfl, Nat.reduceMul, Nat.reduceEqDiff, Go.Addr.add, ↓reduceIte] at hx921_2)
                have qi921 : (1 < l1_2.length) = True := eq_true (by omega)
                (try rw [show ((1 : Int)).toNat = 1 from rfl] at hx921_0)
                (try rw [show 1 * 3 = 3 from rfl] at hx921_0)
                (try rw [show ((1 : Int)).toNat = 1 from rfl] at hx921_1)
                (try rw [show 1 * 3 = 3 from rfl] at hx921_1)
                (try rw [show ((1 : Int)).toNat = 1 from rfl] at hx921_2)
                (try rw [show 1 * 3 = 3 from rfl] at hx921_2)
                replace hx921_0 := (HB.out.cell (aa_ w _ hx921_0)).trans hx921_0
                replace hx921_1 := (HB.out.cell (aa_ w _ hx921_1)).trans hx921_1
                replace hx921_2 := (HB.out.cell (aa_ w _ hx921_2)).trans hx921_2
                have HR921_2 := ab_ hi921_2
                have HC921_2 := ab_ hl921_2
                clear hi921_2 hl921_2
                replace p921 := eq_true p921
                replace q921 := eq_true q921
                refine start_ (n := 10) (S := fun w' => w'.cell? ⟨gb909, 0, none⟩ = some (.int .i64 a0_0) ∧ w'.cell? ⟨gb909, 1, none⟩ = some (.slice (some ad912) l0_1.length c0_1) ∧ w'.cell? ⟨gb910, 0, none⟩ = some (.bool true) ∧ w'.cell? ⟨gb910, 1, none⟩ = some (.int .i64 a1_1) ∧ w'.cell? ⟨gb910, 2, none⟩ = some (.slice (some ad921) l1_2.length c1_2) ∧ w'.cell? ⟨ad921.block, ad921.off + 3, none⟩ = some (.bool ((rd_T93 l1_2 1).f0)) ∧ w'.cell? ⟨ad921.block, ad921.off + 3 + 1, none⟩ = some (.int .i64 ((rd_T93 l1_2 1).f1)) ∧ w'.cell? ⟨ad921.block, ad921.off + 3 + 2, none⟩ = some (.slice A921_2 ((rd_T93 l1_2 1).f2).length c921_2)) (ds := []) #[false, false, false, false, false, false, false, false, false, false] (by kernel_rfl) rfl rfl ⟨(an_ BK909.out 0).trans rfl, (an_ BK909.out 1).trans rfl, (an_ BK910.out 0).trans rfl, (an_ BK910.out 1).trans rfl, (an_ BK910.out 2).trans rfl, ((HB.out.cell (aa_ w _ hw921_0)).trans hw921_0), ((HB.out.cell (aa_ w _ hw921_1)).trans hw921_1), ((HB.out.cell (aa_ w _ hw921_2)).trans hw921_2)⟩ (fun hHeld => ?_); refine with_tabW spec_l9Handle.tab10 spec_l9Handle.bits10 (fun HT_ HW_ => ?_)
                generalize w60.drew = w61 at BK909 BK910 BK911 BK913 HB HR921_2 hx921_0 hx921_1 hx921_2 hHeld ⊢
                refine pure_ (i := 1) (N := some 48) (v := ?_) (a' := ?_) #[false, true, false, false, false, false, false, false, false, false] rfl rfl (any_of HT_.out (by kernel_rfl)) (fun _ _ _ h => h) (Or.inl ⟨by rfl, ?_⟩) ?_ ?_
                rotate_left
                · intro w'
                  go_simp
                  with_reducible rfl
                rotate_left
                · simp only [Act.put, List.setIfInBounds_toArray, List.set_cons_zero, List.set_cons_succ, i64_w, i32_w]
                  rfl
                refine take_ (i := 0) (N := some 47) (v := ?_) (a' := ?_) #[true, true, false, false, false, false, false, false, false, false] rfl rfl (take_ofW HT_.out HW_.out (by kernel_rfl)) (fun _ _ _ h => h) (Or.inl ⟨by rfl, ?_⟩) hHeld ?_ ?_
                rotate_left
                · rintro w' ⟨s0, s1, s2, s3, s4, s5, s6, s7⟩
                  go_simp
                  with_reducible rfl
                rotate_left
                · simp only [Act.put, List.setIfInBounds_toArray, List.set_cons_zero, List.set_cons_succ, i64_w, i32_w]
                  rfl
                refine take_ (i := 2) (N := some 49) (v := ?_) (a' := ?_) #[true, true, true, false, false, false, false, false, false, false] rfl rfl (take_ofW HT_.out HW_.out (by kernel_rfl)) (fun _ _ _ h => h) (Or.inl ⟨by rfl, ?_⟩) hHeld ?_ ?_
                rotate_left
                · rintro w' ⟨s0, s1, s2, s3, s4, s5, s6, s7⟩
                  go_simp
                  with_reducible rfl
                rotate_left
                · simp only [Act.put, List.setIfInBounds_toArray, List.set_cons_zero, List.set_cons_succ, i64_w, i32_w]
                  rfl
                refine pure_ (i := 3) (N := some 50) (v := ?_) (a' := ?_) #[true, true, true, true, false, false, false, false, false, false] rfl rfl (any_of HT_.out (by kernel_rfl)) (fun _ _ _ h => h) (Or.inl ⟨by rfl, ?_⟩) ?_ ?_
                rotate_left
                · intro w'
                  go_simp
                  with_reducible rfl
                rotate_left
                · simp only [Act.put, List.setIfInBounds_toArray, List.set_cons_zero, List.set_cons_succ, i64_w, i32_w]
                  rfl
                refine take_ (i := 4) (N := some 51) (v := ?_) (a' := ?_) #[true, true, true, true, true, false, false, false, false, false] rfl rfl (take_ofW HT_.out HW_.out (by kernel_rfl)) (fun _ _ _ h => h) (Or.inl ⟨by rfl, ?_⟩) hHeld ?_ ?_
                rotate_left
                · rintro w' ⟨s0, s1, s2, s3, s4, s5, s6, s7⟩
                  go_simp
                  with_reducible rfl
                rotate_left
                · simp only [Act.put, List.setIfInBounds_toArray, List.set_cons_zero, List.set_cons_succ, i64_w, i32_w]
                  rfl
                refine one_ (i := 5) (N := some 52) #[true, true, true, true, true, true, false, false, false, false] rfl rfl (one_of HT_.out (by kernel_rfl)) (by decide) (fun K hK => ?_)
                refine goes_ Try.func87 (by kernel_rfl) rfl #[.agg #[.int .i64 a0_0, .slice (some ad912) l0_1.length c0_1], .agg #[.bool ((rd_T93 l1_2 1).f0), .int .i64 ((rd_T93 l1_2 1).f1), .slice A921_2 ((rd_T93 l1_2 1).f2).length c921_2]] (by rfl) rfl rfl (by (try simp only [List.map_toArray, List.map_cons, List.map_nil]); first | done | rfl | (simp only [List.length_drop, List.length_take]; rfl)) ?_
                with_reducible refine (ih k (by omega) a0_0 _ _ l0_1 ((rd_T93 l1_2 1).f0) ((rd_T93 l1_2 1).f1) _ _ ((rd_T93 l1_2 1).f2) t922 t923 t924 t927 _ ?side1 ?side2 ?side3 ?side4 A46.out).mono ?_
                (case side1 => repeat (first | exact (Kd.C_below HR0_1.out HB.out) | (with_reducible refine ar_ ?_ _) | (with_reducible refine as_ ?_ _) | (with_reducible refine Kd.C_drew ?_)))
                (case side2 => exact HC0_1.out)
                (case side3 => repeat (first | exact (Kd.C_below HR921_2.out HB.out) | (with_reducible refine ar_ ?_ _) | (with_reducible refine as_ ?_ _) | (with_reducible refine Kd.C_drew ?_)))
                (case side4 => exact HC921_2.out)
                rintro e w62 ⟨v925, rfl, ho0, hb⟩
                refine ⟨_, rfl, ?_⟩
                have n0_ := ab_ (Kd.N_lower (Kd.N_mono (ok' := fun k_ => (w.heap.size ≤ k_) ∧ k_ ≠ gb909 ∧ k_ ≠ gb910 ∧ k_ ≠ gb911 ∧ k_ ≠ gb913) ho0 (fun k_ hk_ => ⟨(Nat.le_trans (below_size (by repeat (first | (with_reducible first | exact HB.out | apply ai_ | apply ag_ | apply ah_ | refine af_ ?_ GE909.out | refine af_ ?_ GE910.out | refine af_ ?_ GE911.out | refine af_ ?_ GE913.out) | exact HB.out))) hk_), (Kd.freshB (g := gb909) (o := .cells #[.int .i64 a0_0, .slice (some ad912) l0_1.length c0_1] 29 (0, 0)) (by (with_reducible repeat (first | refine ac_ ?_ _ | refine ae_ ?_ | refine ad_ ?_ _)); exact BK909.out) k_ hk_), (Kd.freshB (g := gb910) (o := .cells #[.bool true, .int .i64 a1_1, .slice (some ad921) l1_2.length c1_2] 93 (0, 0)) (by (with_reducible repeat (first | refine ac_ ?_ _ | refine ae_ ?_ | refine ad_ ?_ _)); exact BK910.out) k_ hk_), (Kd.freshB (g := gb911) (o := .cells #[.bool false, .int .i64 0, .slice none 0 0] 93 (0, 0)) (by (with_reducible repeat (first | refine ac_ ?_ _ | refine ae_ ?_ | refine ad_ ?_ _)); exact BK911.out) k_ hk_), (Kd.freshB (g := gb913) (o := .cells #[.int .i64 ((rd_T82 l0_1 a1_1).f0), .int .i64 ((rd_T82 l0_1 a1_1).f1)] 82 (0, 0)) (by (with_reducible repeat (first | refine ac_ ?_ _ | refine ae_ ?_ | refine ad_ ?_ _)); exact BK913.out) k_ hk_)⟩)) (below_size (by repeat (first | (with_reducible first | exact HB.out | apply ai_ | apply ag_ | apply ah_ | refine af_ ?_ GE909.out | refine af_ ?_ GE910.out | refine af_ ?_ GE911.out | refine af_ ?_ GE913.out) | exact HB.out))))
                have n1_ := ab_ (blk_below (g := gb909) (o := .cells #[.int .i64 a0_0, .slice (some ad912) l0_1.length c0_1] 29 (0, 0)) (by (with_reducible repeat (first | refine ac_ ?_ _ | refine ae_ ?_ | refine ad_ ?_ _)); exact BK909.out) hb)
                have n2_ := ab_ (blk_below (g := gb910) (o := .cells #[.bool true, .int .i64 a1_1, .slice (some ad921) l1_2.length c1_2] 93 (0, 0)) (by (with_reducible repeat (first | refine ac_ ?_ _ | refine ae_ ?_ | refine ad_ ?_ _)); exact BK910.out) hb)
                have n3_ := ab_ (blk_below (g := gb911) (o := .cells #[.bool false, .int .i64 0, .slice none 0 0] 93 (0, 0)) (by (with_reducible repeat (first | refine ac_ ?_ _ | refine ae_ ?_ | refine ad_ ?_ _)); exact BK911.out) hb)
                have n4_ := ab_ (blk_below (g := gb913) (o := .cells #[.int .i64 ((rd_T82 l0_1 a1_1).f0), .int .i64 ((rd_T82 l0_1 a1_1).f1)] 82 (0, 0)) (by (with_reducible repeat (first | refine ac_ ?_ _ | refine ae_ ?_ | refine ad_ ?_ _)); exact BK913.out) hb)
                have n5_ := ab_ (au_ (by repeat (first | (with_reducible first | exact HB.out | apply ai_ | apply ag_ | apply ah_ | refine af_ ?_ GE909.out | refine af_ ?_ GE910.out | refine af_ ?_ GE911.out | refine af_ ?_ GE913.out) | exact HB.out)) hb)
                clear BK909
                clear BK910
                clear BK911
                clear BK913
                clear HB
                have HO926 := n0_
                have BK909 := n1_
                have BK910 := n2_
                have BK911 := n3_
                have BK913 := n4_
                have HB := n5_
                clear n0_ n1_ n2_ n3_ n4_ n5_
                (try clear hb)
                (try clear hb2)
                (try clear hk)
                (try clear hi)
                (try clear ho0)
                obtain ⟨Ao65, co65, eo65⟩ := Kd.N_slice HO926.out
                (first | subst eo65 | (injection eo65 with f1_ f2_ f3_; have f4_ := f1_.symm; have f5_ := f3_.symm; clear f1_ f2_ f3_; subst f4_; subst f5_))
                refine hK.out _ _ ⟨(an_ BK909.out 0).trans rfl, (an_ BK909.out 1).trans rfl, (an_ BK910.out 0).trans rfl, (an_ BK910.out 1).trans rfl, (an_ BK910.out 2).trans rfl, ((HB.out.cell (aa_ w _ hw921_0)).trans hw921_0), ((HB.out.cell (aa_ w _ hw921_1)).trans hw921_1), ((HB.out.cell (aa_ w _ hw921_2)).trans hw921_2)⟩ (fun hHeld => ?_)
                clear hK K
                refine norm_ (a' := ?_) ?_ ?_
                rotate_left
                · show Act.put _ (some 52) _ = _
                  simp only [Act.put, List.setIfInBounds_toArray, List.set_cons_zero, List.set_cons_succ, i64_w, i32_w]
                  rfl
                refine pure_ (i := 6) (N := some 53) (v := ?_) (a' := ?_) #[true, true, true, true, true, true, true, false, false, false] rfl rfl (any_of HT_.out (by kernel_rfl)) (fun _ _ _ h => h) (Or.inl ⟨by rfl, ?_⟩) ?_ ?_
                rotate_left
                · intro w'
                  go_simp
                  with_reducible rfl
                rotate_left
                · simp only [Act.put, List.setIfInBounds_toArray, List.set_cons_zero, List.set_cons_succ, i64_w, i32_w]
                  rfl
                refine pure_ (i := 7) (N := some 54) (v := ?_) (a' := ?_) #[true, true, true, true, true, true, true, true, false, false] rfl rfl (any_of HT_.out (by kernel_rfl)) (fun _ _ _ h => h) (Or.inl ⟨by rfl, ?_⟩) ?_ ?_
                rotate_left
                · intro w'
                  go_simp
                  with_reducible rfl
                rotate_left
                · simp only [Act.put, List.setIfInBounds_toArray, List.set_cons_zero, List.set_cons_succ, i64_w, i32_w]
                  rfl
                refine one_ (i := 8) (N := none) #[true, true, true, true, true, true, true, true, true, false] rfl rfl (one_of HT_.out (by kernel_rfl)) (by decide) (fun K hK => ?_)
                have hs63 : w62.cell? ⟨gb911, 0, none⟩ = some (.bool false) := (an_ BK911.out 0).trans rfl
                have hfs63 := am_ BK911.out 0
                have hns63_0 := NB909_911.out
                have hns63_1 := NB910_911.out
                have hns63_3 := NB913_911.out
                have hms63_0 := NB911_909.out
                have hms63_1 := NB911_910.out
                have hms63_3 := NB911_913.out
                have hs64 : w62.cell? ⟨gb911, 1, none⟩ = some (.int .i64 0) := (an_ BK911.out 1).trans rfl
                have hfs64 := am_ BK911.out 1
                have hns64_0 := NB909_911.out
                have hns64_1 := NB910_911.out
                have hns64_3 := NB913_911.out
                have hms64_0 := NB911_909.out
                have hms64_1 := NB911_910.out
                have hms64_3 := NB911_913.out
                have hs66 : w62.cell? ⟨gb911, 2, none⟩ = some (.slice none 0 0) := (an_ BK911.out 2).trans rfl
                have hfs66 := am_ BK911.out 2
                have hns66_0 := NB909_911.out
                have hns66_1 := NB910_911.out
                have hns66_3 := NB913_911.out
                have hms66_0 := NB911_909.out
                have hms66_1 := NB911_910.out
                have hms66_3 := NB911_913.out
                refine skip_ (w1 := ?_) (by rfl) rfl ?_ ?_
                rotate_left
                · go_simp
                  rfl
                refine hK.out _ _ ⟨((cw_ (p := ⟨gb911, _, none⟩) NB909_911.out _).trans (((cw_ (p := ⟨gb911, _, none⟩) NB909_911.out _).trans (((cw_ (p := ⟨gb911, _, none⟩) NB909_911.out _).trans (hHeld.1)))))), ((cw_ (p := ⟨gb911, _, none⟩) NB909_911.out _).trans (((cw_ (p := ⟨gb911, _, none⟩) NB909_911.out _).trans (((cw_ (p := ⟨gb911, _, none⟩) NB909_911.out _).trans (hHeld.2.1)))))), ((cw_ (p := ⟨gb911, _, none⟩) NB910_911.out _).trans (((cw_ (p := ⟨gb911, _, none⟩) NB910_911.out _).trans (((cw_ (p := ⟨gb911, _, none⟩) NB910_911.out _).trans (hHeld.2.2.1)))))), ((cw_ (p := ⟨gb911, _, none⟩) NB910_911.out _).trans (((cw_ (p := ⟨gb911, _, none⟩) NB910_911.out _).trans (((cw_ (p := ⟨gb911, _, none⟩) NB910_911.out _).trans (hHeld.2.2.2.1)))))), ((cw_ (p := ⟨gb911, _, none⟩) NB910_911.out _).trans (((cw_ (p := ⟨gb911, _, none⟩) NB910_911.out _).trans (((cw_ (p := ⟨gb911, _, none⟩) NB910_911.out _).trans (hHeld.2.2.2.2.1)))))), ((cw_ (p := ⟨gb911, _, none⟩) (by first | exact ak_ (aj_ (by have := aa_ _ _ hw921_0; first | rwa [al_] at this | exact this) GW911.out) | (rw [al_]; exact ak_ (aj_ (by have := aa_ _ _ hw921_0; first | rwa [al_] at this | exact this) GW911.out)) | (show (Addr.add _ _).block ≠ _; rw [al_]; exact ak_ (aj_ (by have := aa_ _ _ hw921_0; first | rwa [al_] at this | exact this) GW911.out)) | (dsimp only; exact ak_ (aj_ (by have := aa_ _ _ hw921_0; first | rwa [al_] at this | exact this) GW911.out))) _).trans (((cw_ (p := ⟨gb911, _, none⟩) (by first | exact ak_ (aj_ (by have := aa_ _ _ hw921_0; first | rwa [al_] at this | exact this) GW911.out) | (rw [al_]; exact ak_ (aj_ (by have := aa_ _ _ hw921_0; first | rwa [al_] at this | exact this) GW911.out)) | (show (Addr.add _ _).block ≠ _; rw [al_]; exact ak_ (aj_ (by have := aa_ _ _ hw921_0; first | rwa [al_] at this | exact this) GW911.out)) | (dsimp only; exact ak_ (aj_ (by have := aa_ _ _ hw921_0; first | rwa [al_] at this | exact this) GW911.out))) _).trans (((cw_ (p := ⟨gb911, _, none⟩) (by first | exact ak_ (aj_ (by have := aa_ _ _ hw921_0; first | rwa [al_] at this | exact this) GW911.out) | (rw [al_]; exact ak_ (aj_ (by have := aa_ _ _ hw921_0; first | rwa [al_] at this | exact this) GW911.out)) | (show (Addr.add _ _).block ≠ _; rw [al_]; exact ak_ (aj_ (by have := aa_ _ _ hw921_0; first | rwa [al_] at this | exact this) GW911.out)) | (dsimp only; exact ak_ (aj_ (by have := aa_ _ _ hw921_0; first | rwa [al_] at this | exact this) GW911.out))) _).trans (hHeld.2.2.2.2.2.1)))))), ((cw_ (p := ⟨gb911, _, none⟩) (by first | exact ak_ (aj_ (by have := aa_ _ _ hw921_1; first | rwa [al_] at this | exact this) GW911.out) | (rw [al_]; exact ak_ (aj_ (by have := aa_ _ _ hw921_1; first | rwa [al_] at this | exact this) GW911.out)) | (show (Addr.add _ _).block ≠ _; rw [al_]; exact ak_ (aj_ (by have := aa_ _ _ hw921_1; first | rwa [al_] at this | exact this) GW911.out)) | (dsimp only; exact ak_ (aj_ (by have := aa_ _ _ hw921_1; first | rwa [al_] at this | exact this) GW911.out))) _).trans (((cw_ (p := ⟨gb911, _, none⟩) (by first | exact ak_ (aj_ (by have := aa_ _ _ hw921_1; first | rwa [al_] at this | exact this) GW911.out) | (rw [al_]; exact ak_ (aj_ (by have := aa_ _ _ hw921_1; first | rwa [al_] at this | exact this) GW911.out)) | (show (Addr.add _ _).block ≠ _; rw [al_]; exact ak_ (aj_ (by have := aa_ _ _ hw921_1; first | rwa [al_] at this | exact this) GW911.out)) | (dsimp only; exact ak_ (aj_ (by have := aa_ _ _ hw921_1; first | rwa [al_] at this | exact this) GW911.out))) _).trans (((cw_ (p := ⟨gb911, _, none⟩) (by first | exact ak_ (aj_ (by have := aa_ _ _ hw921_1; first | rwa [al_] at this | exact this) GW911.out) | (rw [al_]; exact ak_ (aj_ (by have := aa_ _ _ hw921_1; first | rwa [al_] at this | exact this) GW911.out)) | (show (Addr.add _ _).block ≠ _; rw [al_]; exact ak_ (aj_ (by have := aa_ _ _ hw921_1; first | rwa [al_] at this | exact this) GW911.out)) | (dsimp only; exact ak_ (aj_ (by have := aa_ _ _ hw921_1; first | rwa [al_] at this | exact this) GW911.out))) _).trans (hHeld.2.2.2.2.2.2.1)))))), ((cw_ (p := ⟨gb911, _, none⟩) (by first | exact ak_ (aj_ (by have := aa_ _ _ hw921_2; first | rwa [al_] at this | exact this) GW911.out) | (rw [al_]; exact ak_ (aj_ (by have := aa_ _ _ hw921_2; first | rwa [al_] at this | exact this) GW911.out)) | (show (Addr.add _ _).block ≠ _; rw [al_]; exact ak_ (aj_ (by have := aa_ _ _ hw921_2; first | rwa [al_] at this | exact this) GW911.out)) | (dsimp only; exact ak_ (aj_ (by have := aa_ _ _ hw921_2; first | rwa [al_] at this | exact this) GW911.out))) _).trans (((cw_ (p := ⟨gb911, _, none⟩) (by first | exact ak_ (aj_ (by have := aa_ _ _ hw921_2; first | rwa [al_] at this | exact this) GW911.out) | (rw [al_]; exact ak_ (aj_ (by have := aa_ _ _ hw921_2; first | rwa [al_] at this | exact this) GW911.out)) | (show (Addr.add _ _).block ≠ _; rw [al_]; exact ak_ (aj_ (by have := aa_ _ _ hw921_2; first | rwa [al_] at this | exact this) GW911.out)) | (dsimp only; exact ak_ (aj_ (by have := aa_ _ _ hw921_2; first | rwa [al_] at this | exact this) GW911.out))) _).trans (((cw_ (p := ⟨gb911, _, none⟩) (by first | exact ak_ (aj_ (by have := aa_ _ _ hw921_2; first | rwa [al_] at this | exact this) GW911.out) | (rw [al_]; exact ak_ (aj_ (by have := aa_ _ _ hw921_2; first | rwa [al_] at this | exact this) GW911.out)) | (show (Addr.add _ _).block ≠ _; rw [al_]; exact ak_ (aj_ (by have := aa_ _ _ hw921_2; first | rwa [al_] at this | exact this) GW911.out)) | (dsimp only; exact ak_ (aj_ (by have := aa_ _ _ hw921_2; first | rwa [al_] at this | exact this) GW911.out))) _).trans (hHeld.2.2.2.2.2.2.2))))))⟩ (fun hHeld => ?_)
                clear hK K
                refine pure_ (i := 9) (N := some 5) (v := ?_) (a' := ?_) #[true, true, true, true, true, true, true, true, true, true] rfl rfl (any_of HT_.out (by kernel_rfl)) (fun _ _ _ h => h) (Or.inl ⟨by rfl, ?_⟩) ?_ ?_
                rotate_left
                · intro w'
                  go_simp
                  with_reducible rfl
                rotate_left
                · simp only [Act.put, List.setIfInBounds_toArray, List.set_cons_zero, List.set_cons_succ, i64_w, i32_w]
                  rfl
                refine done_ (done_of HT_.out (by kernel_rfl)) ?_
                try go_wp2
                refine bodyPost_ret (results_ct rfl _ _ gb911 93 #[.bool t922, .int .i64 t923, .slice Ao65 t924.length co65] (0, 0) _ rfl (by (with_reducible repeat (first | refine ac_ ?_ _ | refine ae_ ?_ | refine ad_ ?_ _)); refine blk_put (cs := #[.bool t922, .int .i64 t923, .slice none 0 0]) ?_ 2 _ rfl; (with_reducible repeat (first | refine ac_ ?_ _ | refine ae_ ?_ | refine ad_ ?_ _)); refine blk_put (cs := #[.bool t922, .int .i64 0, .slice none 0 0]) ?_ 1 _ rfl; (with_reducible repeat (first | refine ac_ ?_ _ | refine ae_ ?_ | refine ad_ ?_ _)); refine blk_put (cs := #[.bool false, .int .i64 0, .slice none 0 0]) ?_ 0 _ rfl; (with_reducible repeat (first | refine ac_ ?_ _ | refine ae_ ?_ | refine ad_ ?_ _)); exact BK911.out) Try.underlying93 rfl (by kernel_rfl)) rfl ?_
                exact ⟨_, by first | rfl | (simp [errW_none, errW_some] <;> rfl) | (simp [*, errW_none, errW_some] <;> rfl), by (with_reducible repeat (first | apply Kd.N_alloc | apply Kd.N_drewN | apply Kd.N_drew)); exact Kd.N_mono (Kd.N_far (p := ⟨gb911, 2, none⟩) (Kd.N_far (p := ⟨gb911, 1, none⟩) (Kd.N_far (p := ⟨gb911, 0, none⟩) (Kd.N_mono HO926.out (fun k_ hk => (⟨hk, hk.2.2.2.1⟩ : _ ∧ k_ ≠ gb911))) (fun _ hk => hk.2) (.bool t922)) (fun _ hk => hk.2) (.int .i64 t923)) (fun _ hk => hk.2) (.slice Ao65 t924.length co65)) (fun _ hk => hk.1.1), by repeat (first | (with_reducible first | exact HB.out | apply ai_ | apply ag_ | apply ah_ | refine af_ ?_ GE909.out | refine af_ ?_ GE910.out | refine af_ ?_ GE911.out | refine af_ ?_ GE913.out) | exact HB.out)⟩
              · rw [if_neg c45] at H
                exact absurd H (by simp)
            · have qc44 := ab_ c44
              rw [if_neg c44] at H
              have c44b0 : (((rd_T82 l0_1 a1_1).f0) == 2) = false := beq_eq_false_iff_ne.mpr c44
              have c44b1 : (((rd_T82 l0_1 a1_1).f0) != 2) = true := bne_iff_ne.mpr c44
              by_cases c67 : 0 < (l1_2.length : Int)
              · have qc67 := ab_ c67
                rw [if_pos c67] at H
                have c67b0 : decide (0 < (l1_2.length : Int)) = true := at_ c67
                have c67b1 : decide (0 < l1_2.length) = true := at_ (by omega)
                clear c67
                replace H := Option.bind_eq_some_iff.mp H
                obtain ⟨⟨t929, t930, t931, t934⟩, A680, H⟩ := H
                replace H : (if 1 < (l1_2.length : Int) then ((spec_l9Handle.f k a0_0 l0_1 ((rd_T93 l1_2 1).f0) ((rd_T93 l1_2 1).f1) ((rd_T93 l1_2 1).f2)).bind fun bt937 => (if t934 = true then (spec_l9Handle.j0 k (!bt937.2.2.2) true a1_1 l1_2 ((rd_T82 l0_1 a1_1).f0) ((rd_T82 l0_1 a1_1).f1) t929 t930 t931 bt937.1 bt937.2.1 bt937.2.2.1) else (spec_l9Handle.j0 k true true a1_1 l1_2 ((rd_T82 l0_1 a1_1).f0) ((rd_T82 l0_1 a1_1).f1) t929 t930 t931 bt937.1 bt937.2.1 bt937.2.2.1))) else (none)) = some (r1, r2, r3, r4) := H
                have A68 := ab_ A680
                clear A680
                by_cases c69 : 1 < (l1_2.length : Int)
                · have qc69 := ab_ c69
                  exact KB.out qc3.out qc4.out qc5.out qc6.out qc21.out qc44.out qc67.out qc69.out
                · rw [if_neg c69] at H
                  exact absurd H (by simp)
              · rw [if_neg c67] at H
                exact absurd H (by simp)
      · rw [if_neg c5] at H
        exact absurd H (by simp)
    · rw [if_neg c4] at H
      exact absurd H (by simp)
  · replace c3 := Bool.eq_false_iff.mpr c3
    subst c3
    have H1 : (some (false, Int.tmod (wrap64 (a1_1 + a0_0)) 100, ([] : List (S93)), true)) = some (r1, r2, r3, r4) := by rw [if_neg (show ¬ (false = true) by decide)] at H; exact H
    clear H
    have H := H1
    clear H1
    simp only [Option.some.injEq, Prod.mk.injEq] at H
    obtain ⟨rfl, rfl, rfl, rfl⟩ := H
    go_enter Try.func87, Try.ntmps87
    go_wp2_with (first | ((with_reducible refine gate_dst (N := 2) rfl ?_); refine box_event ?hg (N := 2) ?hd (cs := #[.int .i64 a0_0, .slice A0_1 l0_1.length c0_1]) (t := 29) ?hr ?_; (case hd => rfl); (case hg => rfl); (case hr => first | (go_simp; done) | (go_simp; rfl)); intro gb909 hg w192 hbox hb; have n0_ := ab_ (au_ (by repeat (first | (with_reducible first | exact HB.out | apply ai_ | apply ag_ | apply ah_) | exact HB.out)) hb); have n1_ := ab_ (hbox); have n2_ := ab_ ((by rw [hg]; exact (below_size (by repeat (first | (with_reducible first | exact HB.out | apply ai_ | apply ag_ | apply ah_) | exact HB.out))) : w.heap.size ≤ gb909)); have n3_ := ab_ ((by rw [hg]; exact (below_size (by repeat (first | (with_reducible first | exact HB.out | apply ai_ | apply ag_ | apply ah_) | exact HB.out))) : w.heap.size ≤ gb909)); clear HB; have HB := n0_; have BK909 := n1_; have GW909 := n2_; have GE909 := n3_; clear n0_ n1_ n2_ n3_; clear hb hbox hg) | ((with_reducible refine gate_dst (N := 3) rfl ?_); refine box_event ?hg (N := 3) ?hd (cs := #[.bool false, .int .i64 a1_1, .slice A1_2 l1_2.length c1_2]) (t := 93) ?hr ?_; (case hd => rfl); (case hg => rfl); (case hr => first | (go_simp; done) | (go_simp; rfl)); intro gb910 hg w193 hbox hb; have n0_ := ab_ (blk_below (g := gb909) (o := .cells #[.int .i64 a0_0, .slice A0_1 l0_1.length c0_1] 29 (0, 0)) (by (with_reducible repeat (first | refine ac_ ?_ _ | refine ae_ ?_ | refine ad_ ?_ _)); exact BK909.out) hb); have n1_ := ab_ (au_ (by repeat (first | (with_reducible first | exact HB.out | apply ai_ | apply ag_ | apply ah_ | refine af_ ?_ GE909.out) | exact HB.out)) hb); have n2_ := ab_ (hbox); have n3_ := ab_ ((by rw [hg]; exact (below_size (by repeat (first | (with_reducible first | exact HB.out | apply ai_ | apply ag_ | apply ah_ | refine af_ ?_ GE909.out) | exact HB.out))) : w.heap.size ≤ gb910)); have n4_ := ab_ ((by rw [hg]; exact (below_size (by repeat (first | (with_reducible first | exact HB.out | apply ai_ | apply ag_ | apply ah_ | refine af_ ?_ GE909.out) | exact HB.out))) : w.heap.size ≤ gb910)); have n5_ := ab_ ((by rw [hg]; exact ak_ (blk_lt (g := gb909) (o := .cells #[.int .i64 a0_0, .slice A0_1 l0_1.length c0_1] 29 (0, 0)) (by (with_reducible repeat (first | refine ac_ ?_ _ | refine ae_ ?_ | refine ad_ ?_ _)); exact BK909.out)) : gb909 ≠ gb910)); have n6_ := ab_ ((by rw [hg]; exact Nat.ne_of_gt (blk_lt (g := gb909) (o := .cells #[.int .i64 a0_0, .slice A0_1 l0_1.length c0_1] 29 (0, 0)) (by (with_reducible repeat (first | refine ac_ ?_ _ | refine ae_ ?_ | refine ad_ ?_ _)); exact BK909.out)) : gb910 ≠ gb909)); clear BK909; clear HB; have BK909 := n0_; have HB := n1_; have BK910 := n2_; have GW910 := n3_; have GE910 := n4_; have NB909_910 := n5_; have NB910_909 := n6_; clear n0_ n1_ n2_ n3_ n4_ n5_ n6_; clear hb hbox hg) | ((with_reducible refine gate_dst (N := 4) rfl ?_); refine box_event ?hg (N := 4) ?hd (cs := #[.bool false, .int .i64 0, .slice none 0 0]) (t := 93) ?hr ?_; (case hd => rfl); (case hg => rfl); (case hr => first | (go_simp; done) | (go_simp; rfl)); intro gb911 hg w194 hbox hb; have n0_ := ab_ (blk_below (g := gb909) (o := .cells #[.int .i64 a0_0, .slice A0_1 l0_1.length c0_1] 29 (0, 0)) (by (with_reducible repeat (first | refine ac_ ?_ _ | refine ae_ ?_ | refine ad_ ?_ _)); exact BK909.out) hb); have n1_ := ab_ (blk_below (g := gb910) (o := .cells #[.bool false, .int .i64 a1_1, .slice A1_2 l1_2.length c1_2] 93 (0, 0)) (by (with_reducible repeat (first | refine ac_ ?_ _ | refine ae_ ?_ | refine ad_ ?_ _)); exact BK910.out) hb); have n2_ := ab_ (au_ (by repeat (first | (with_reducible first | exact HB.out | apply ai_ | apply ag_ | apply ah_ | refine af_ ?_ GE909.out | refine af_ ?_ GE910.out) | exact HB.out)) hb); have n3_ := ab_ (hbox); have n4_ := ab_ ((by rw [hg]; exact (below_size (by repeat (first | (with_reducible first | exact HB.out | apply ai_ | apply ag_ | apply ah_ | refine af_ ?_ GE909.out | refine af_ ?_ GE910.out) | exact HB.out))) : w.heap.size ≤ gb911)); have n5_ := ab_ ((by rw [hg]; exact (below_size (by repeat (first | (with_reducible first | exact HB.out | apply ai_ | apply ag_ | apply ah_ | refine af_ ?_ GE909.out | refine af_ ?_ GE910.out) | exact HB.out))) : w.heap.size ≤ gb911)); have n6_ := ab_ ((by rw [hg]; exact ak_ (blk_lt (g := gb909) (o := .cells #[.int .i64 a0_0, .slice A0_1 l0_1.length c0_1] 29 (0, 0)) (by (with_reducible repeat (first | refine ac_ ?_ _ | refine ae_ ?_ | refine ad_ ?_ _)); exact BK909.out)) : gb909 ≠ gb911)); have n7_ := ab_ ((by rw [hg]; exact Nat.ne_of_gt (blk_lt (g := gb909) (o := .cells #[.int .i64 a0_0, .slice A0_1 l0_1.length c0_1] 29 (0, 0)) (by (with_reducible repeat (first | refine ac_ ?_ _ | refine ae_ ?_ | refine ad_ ?_ _)); exact BK909.out)) : gb911 ≠ gb909)); have n8_ := ab_ ((by rw [hg]; exact ak_ (blk_lt (g := gb910) (o := .cells #[.bool false, .int .i64 a1_1, .slice A1_2 l1_2.length c1_2] 93 (0, 0)) (by (with_reducible repeat (first | refine ac_ ?_ _ | refine ae_ ?_ | refine ad_ ?_ _)); exact BK910.out)) : gb910 ≠ gb911)); have n9_ := ab_ ((by rw [hg]; exact Nat.ne_of_gt (blk_lt (g := gb910) (o := .cells #[.bool false, .int .i64 a1_1, .slice A1_2 l1_2.length c1_2] 93 (0, 0)) (by (with_reducible repeat (first | refine ac_ ?_ _ | refine ae_ ?_ | refine ad_ ?_ _)); exact BK910.out)) : gb911 ≠ gb910)); clear BK909; clear BK910; clear HB; have BK909 := n0_; have BK910 := n1_; have HB := n2_; have BK911 := n3_; have GW911 := n4_; have GE911 := n5_; have NB909_911 := n6_; have NB911_909 := n7_; have NB910_911 := n8_; have NB911_910 := n9_; clear n0_ n1_ n2_ n3_ n4_ n5_ n6_ n7_ n8_ n9_; clear hb hbox hg; have hnb195 := NB910_909.out; have hnc195 := NB909_910.out; have hnb196 := NB910_911.out; have hnc196 := NB911_910.out; have hcz197_0 : w194.cell? ⟨gb910, 0, none⟩ = some (.bool false) := (an_ BK910.out 0).trans rfl; have hcz197_1 : w194.cell? ⟨gb910, 1, none⟩ = some (.int .i64 a1_1) := (an_ BK910.out 1).trans rfl; have hcz197_2 : w194.cell? ⟨gb910, 2, none⟩ = some (.slice A1_2 l1_2.length c1_2) := (an_ BK910.out 2).trans rfl; have hfz197_0 := am_ BK910.out 0; have hfz197_1 := am_ BK910.out 1; have hfz197_2 := am_ BK910.out 2; have hnb198 := NB909_911.out; have hnc198 := NB911_909.out; have hcz199_0 : w194.cell? ⟨gb909, 0, none⟩ = some (.int .i64 a0_0) := (an_ BK909.out 0).trans rfl; have hcz199_1 : w194.cell? ⟨gb909, 1, none⟩ = some (.slice A0_1 l0_1.length c0_1) := (an_ BK909.out 1).trans rfl; have hfz199_0 := am_ BK909.out 0; have hfz199_1 := am_ BK909.out 1; have hcz200_0 : w194.cell? ⟨gb911, 0, none⟩ = some (.bool false) := (an_ BK911.out 0).trans rfl; have hcz200_1 : w194.cell? ⟨gb911, 1, none⟩ = some (.int .i64 0) := (an_ BK911.out 1).trans rfl; have hcz200_2 : w194.cell? ⟨gb911, 2, none⟩ = some (.slice none 0 0) := (an_ BK911.out 2).trans rfl; have hfz200_0 := am_ BK911.out 0; have hfz200_1 := am_ BK911.out 1; have hfz200_2 := am_ BK911.out 2))
    refine bodyPost_ret (results_ct rfl _ _ gb911 93 #[.bool false, .int .i64 (Int.tmod (wrap64 (a1_1 + a0_0)) 100), .slice none 0 0] (0, 0) _ rfl (by (with_reducible repeat (first | refine ac_ ?_ _ | refine ae_ ?_ | refine ad_ ?_ _)); refine blk_put (cs := #[.bool false, .int .i64 (Int.tmod (wrap64 (a1_1 + a0_0)) 100), .slice none 0 0]) ?_ 2 _ rfl; (with_reducible repeat (first | refine ac_ ?_ _ | refine ae_ ?_ | refine ad_ ?_ _)); refine blk_put (cs := #[.bool false, .int .i64 0, .slice none 0 0]) ?_ 1 _ rfl; (with_reducible repeat (first | refine ac_ ?_ _ | refine ae_ ?_ | refine ad_ ?_ _)); refine blk_put (cs := #[.bool false, .int .i64 0, .slice none 0 0]) ?_ 0 _ rfl; (with_reducible repeat (first | refine ac_ ?_ _ | refine ae_ ?_ | refine ad_ ?_ _)); exact BK911.out) Try.underlying93 rfl (by kernel_rfl)) rfl ?_
    exact ⟨_, by first | rfl | (simp [errW_none, errW_some] <;> rfl) | (simp [*, errW_none, errW_some] <;> rfl), by first | exact Kd.R_nil _ _ _ _ _ | exact Kd.N_nil _ _ _ _ _ | exact Kd.V_nil _ _ _ _ _ | exact Kd.Q_nil _ _ _ _ _ | exact Kd.S_nil _ _ _ _ _, by repeat (first | (with_reducible first | exact HB.out | apply ai_ | apply ag_ | apply ah_ | refine af_ ?_ GE909.out | refine af_ ?_ GE910.out | refine af_ ?_ GE911.out) | exact HB.out)⟩
end Go.Proofs.Ytjnaokdncemggaa.PAll

end

section
namespace Go.Proofs.Ytjnaokdncemggaa.PAll
open Go.RowKit Go.Proofs.YtjnaokdncemggaaW.PrintWords Go.Proofs.YtjnaokdncemggaaW.PrintLast Go.Proofs.YtjnaokdncemggaaW.PrintMore
attribute [local go_sem] max2_int min2_int max_two min_two max_three min_three max_four min_four   -- for this text's walks alone
set_option linter.unusedVariables false
set_option linter.unusedSimpArgs false
def spec_HandleComp.j0 : Nat → Bool → Int → List (S82) → Bool → Int → List (S93) → Option ((List (S83)) × Bool)
  | 0, _, _, _, _, _, _ => none
  | k + 1, x21, x958000, x958001, x965000, x965001, x965002 => if x21 = true then (some (([] : List (S83)), false)) else ((spec_l9Handle.f k x958000 x958001 x965000 x965001 x965002).bind fun bt966 => (if bt966.2.2.2 = true then ((spec_l9Tell.f k bt966.1 bt966.2.1 bt966.2.2.1).bind fun bt973 => (some (bt973.1, bt973.2))) else (some (([] : List (S83)), false))))
def spec_HandleComp.f (k : Nat) (a0_0 : Int) (l0_1 : List (S82)) (l1 : List (S83)) : Option ((List (S83)) × Bool) := (spec_l9Tree.f k l1).bind fun bt958 => (if bt958.2.2.2 = true then ((spec_GoodHandler.f k a0_0 l0_1).bind fun t965 => (spec_HandleComp.j0 k (!t965) a0_0 l0_1 bt958.1 bt958.2.1 bt958.2.2.1)) else (spec_HandleComp.j0 k true a0_0 l0_1 bt958.1 bt958.2.1 bt958.2.2.1))
theorem spec_HandleComp.mono_l : ∀ k, (∀ y0 y1 y2 y3 y4 y5, LeO (spec_HandleComp.j0 k y0 y1 y2 y3 y4 y5) (spec_HandleComp.j0 (k + 1) y0 y1 y2 y3 y4 y5))
  | 0 => fun _ _ _ _ _ _ r h => by simp [spec_HandleComp.j0] at h
  | k + 1 => by
    have ih0 := spec_HandleComp.mono_l k
    · intro y0 y1 y2 y3 y4 y5
      unfold spec_HandleComp.j0
      repeat' first
      | (with_reducible exact ih0 _ _ _ _ _ _)
      | (with_reducible exact spec_GoodHandler.mono _ _ _)
      | (with_reducible exact spec_l9Handle.mono _ _ _ _ _ _)
      | (with_reducible exact spec_l9Tell.mono _ _ _ _)
      | (with_reducible exact spec_l9Tree.mono _ _)
      | (with_reducible exact LeO.refl _)
      | (with_reducible exact LeO.none _)
      | (with_reducible refine LeO.ite ?_ ?_)
      | (with_reducible refine LeO.bind ?_ (fun _ => ?_))
      | exact ih0 _ _ _ _ _ _
      | exact spec_GoodHandler.mono _ _ _
      | exact spec_l9Handle.mono _ _ _ _ _ _
      | exact spec_l9Tell.mono _ _ _ _
      | exact spec_l9Tree.mono _ _
      | exact LeO.none _
      | refine LeO.ite ?_ ?_
      | refine LeO.bind ?_ (fun _ => ?_)
theorem spec_HandleComp.mono : ∀ a0 a1 a2 k, LeO (spec_HandleComp.f k a0 a1 a2) (spec_HandleComp.f (k + 1) a0 a1 a2) := by
  intro a0 a1 a2 k
  have ih0 := spec_HandleComp.mono_l k
  unfold spec_HandleComp.f
  repeat' first
      | (with_reducible exact ih0 _ _ _ _ _ _)
      | (with_reducible exact spec_GoodHandler.mono _ _ _)
      | (with_reducible exact spec_l9Handle.mono _ _ _ _ _ _)
      | (with_reducible exact spec_l9Tell.mono _ _ _ _)
      | (with_reducible exact spec_l9Tree.mono _ _)
      | (with_reducible exact LeO.refl _)
      | (with_reducible exact LeO.none _)
      | (with_reducible refine LeO.ite ?_ ?_)
      | (with_reducible refine LeO.bind ?_ (fun _ => ?_))
      | exact ih0 _ _ _ _ _ _
      | exact spec_GoodHandler.mono _ _ _
      | exact spec_l9Handle.mono _ _ _ _ _ _
      | exact spec_l9Tell.mono _ _ _ _
      | exact spec_l9Tree.mono _ _
      | exact LeO.none _
      | refine LeO.ite ?_ ?_
      | refine LeO.bind ?_ (fun _ => ?_)
set_option maxHeartbeats 8000000 in
set_option maxRecDepth 100000 in
theorem spec_HandleComp.calls (k : Nat) (a0_0 : Int) (A0_1 : Option Addr) (c0_1 : Nat) (l0_1 : List (S82)) (A1 : Option Addr) (c1 : Nat) (l1 : List (S83)) (r1 : List (S83)) (r2 : Bool) (w : World) (hr0_1 : Kd.C k82 w A0_1 l0_1.length l0_1) (hc0_1 : l0_1.length ≤ c0_1) (hr1 : Kd.C k83 w A1 l1.length l1) (hc1 : l1.length ≤ c1) (h : spec_HandleComp.f k a0_0 l0_1 l1 = some (r1, r2)) :
    Calls Try.prog 54 #[.agg #[.int .i64 a0_0, .slice A0_1 l0_1.length c0_1], .slice A1 l1.length c1] w fun e w' => ∃ v0_ : Value, e = .returned (.tuple #[v0_, .bool r2]) ∧ Kd.R k83 83 w' w.heap.size (fun _ => True) v0_ r1 ∧ Below w.heap.size w w' := by
  have hu29 := Try.underlying29
  have hu93 := Try.underlying93
  have HR0_1 := ab_ hr0_1
  have HC0_1 := ab_ hc0_1
  clear hr0_1 hc0_1
  have HR1 := ab_ hr1
  have HC1 := ab_ hc1
  clear hr1 hc1
  have HB := ab_ (av_ w.heap.size w)
  have H : ((spec_l9Tree.f k l1).bind fun bt958 => (if bt958.2.2.2 = true then ((spec_GoodHandler.f k a0_0 l0_1).bind fun t965 => (spec_HandleComp.j0 k (!t965) a0_0 l0_1 bt958.1 bt958.2.1 bt958.2.2.1)) else (spec_HandleComp.j0 k true a0_0 l0_1 bt958.1 bt958.2.1 bt958.2.2.1))) = some (r1, r2) := h
  clear h
  replace H := Option.bind_eq_some_iff.mp H
  obtain ⟨⟨t958, t959, t960, t963⟩, A30, H⟩ := H
  replace H : (if t963 = true then ((spec_GoodHandler.f k a0_0 l0_1).bind fun t965 => (spec_HandleComp.j0 k (!t965) a0_0 l0_1 t958 t959 t960)) else (spec_HandleComp.j0 k true a0_0 l0_1 t958 t959 t960)) = some (r1, r2) := H
  have A3 := ab_ A30
  clear A30
  have HC4 := ab_ H
  clear H
  go_enter Try.func54, Try.ntmps54
  go_upto_region 2 with (first | ((with_reducible refine gate_dst (N := 2) rfl ?_); refine box_event ?hg (N := 2) ?hd (cs := #[.int .i64 a0_0, .slice A0_1 l0_1.length c0_1]) (t := 29) ?hr ?_; (case hd => rfl); (case hg => rfl); (case hr => first | (go_simp; done) | (go_simp; rfl)); intro gb957 hg w5 hbox hb; have n0_ := ab_ (au_ (by repeat (first | (with_reducible first | exact HB.out | apply ai_ | apply ag_ | apply ah_) | exact HB.out)) hb); have n1_ := ab_ (hbox); have n2_ := ab_ ((by rw [hg]; exact (below_size (by repeat (first | (with_reducible first | exact HB.out | apply ai_ | apply ag_ | apply ah_) | exact HB.out))) : w.heap.size ≤ gb957)); have n3_ := ab_ ((by rw [hg]; exact (below_size (by repeat (first | (with_reducible first | exact HB.out | apply ai_ | apply ag_ | apply ah_) | exact HB.out))) : w.heap.size ≤ gb957)); clear HB; have HB := n0_; have BK957 := n1_; have GW957 := n2_; have GE957 := n3_; clear n0_ n1_ n2_ n3_; clear hb hbox hg) | ((with_reducible refine gate_callee (f := 64) rfl ?_); refine goesL_ (some 12) rfl rfl Try.func64 (by kernel_rfl) rfl #[.slice A1 l1.length c1] rfl (by (try simp only [List.map_toArray, List.map_cons, List.map_nil]); first | done | rfl | (simp only [List.length_drop, List.length_take]; rfl)) ?_; (with_reducible refine (spec_l9Tree.calls k _ _ l1 t958 t959 t960 t963 _ ?side1 ?side2 A3.out).mono ?_); (case side1 => repeat (first | exact (Kd.C_below HR1.out HB.out) | (with_reducible refine ar_ ?_ _) | (with_reducible refine as_ ?_ _) | (with_reducible refine Kd.C_drew ?_))); (case side2 => exact HC1.out); rintro e w6 ⟨v961, rfl, ho0, hb⟩; refine ⟨_, rfl, ?_⟩; have n0_ := ab_ (Kd.N_lower (Kd.N_mono (ok' := fun k_ => k_ ≠ gb957) (Kd.R_N (Kd.R_bound ho0)) (fun k_ hk_ => (Kd.freshB (g := gb957) (o := .cells #[.int .i64 a0_0, .slice A0_1 l0_1.length c0_1] 29 (0, 0)) (by (with_reducible repeat (first | refine ac_ ?_ _ | refine ae_ ?_ | refine ad_ ?_ _)); exact BK957.out) k_ hk_.2.1))) (below_size (by repeat (first | (with_reducible first | exact HB.out | apply ai_ | apply ag_ | apply ah_ | refine af_ ?_ GE957.out) | exact HB.out)))); have n1_ := ab_ (blk_below (g := gb957) (o := .cells #[.int .i64 a0_0, .slice A0_1 l0_1.length c0_1] 29 (0, 0)) (by (with_reducible repeat (first | refine ac_ ?_ _ | refine ae_ ?_ | refine ad_ ?_ _)); exact BK957.out) hb); have n2_ := ab_ (au_ (by repeat (first | (with_reducible first | exact HB.out | apply ai_ | apply ag_ | apply ah_ | refine af_ ?_ GE957.out) | exact HB.out)) hb); clear BK957; clear HB; have HO962 := n0_; have BK957 := n1_; have HB := n2_; clear n0_ n1_ n2_; (try clear hb); (try clear hb2); (try clear hk); (try clear hi); (try clear ho0)) | ((with_reducible refine gate_dst (N := 6) rfl ?_); refine box_event ?hg (N := 6) ?hd (cs := #[.bool false, .int .i64 0, .slice none 0 0]) (t := 93) ?hr ?_; (case hd => rfl); (case hg => rfl); (case hr => first | (go_simp; done) | (go_simp; rfl)); intro gb964 hg w7 hbox hb; have n0_ := ab_ (Kd.N_below (Kd.N_elderB (by (with_reducible repeat (first | apply Kd.N_alloc | apply Kd.N_drewN | apply Kd.N_drew)); exact HO962.out) gb964 (Nat.le_of_eq hg.symm)) hb); have n1_ := ab_ (blk_below (g := gb957) (o := .cells #[.int .i64 a0_0, .slice A0_1 l0_1.length c0_1] 29 (0, 0)) (by (with_reducible repeat (first | refine ac_ ?_ _ | refine ae_ ?_ | refine ad_ ?_ _)); exact BK957.out) hb); have n2_ := ab_ (au_ (by repeat (first | (with_reducible first | exact HB.out | apply ai_ | apply ag_ | apply ah_ | refine af_ ?_ GE957.out) | exact HB.out)) hb); have n3_ := ab_ (hbox); have n4_ := ab_ ((by rw [hg]; exact (below_size (by repeat (first | (with_reducible first | exact HB.out | apply ai_ | apply ag_ | apply ah_ | refine af_ ?_ GE957.out) | exact HB.out))) : w.heap.size ≤ gb964)); have n5_ := ab_ ((by rw [hg]; exact (below_size (by repeat (first | (with_reducible first | exact HB.out | apply ai_ | apply ag_ | apply ah_ | refine af_ ?_ GE957.out) | exact HB.out))) : w.heap.size ≤ gb964)); have n6_ := ab_ ((by rw [hg]; exact ak_ (blk_lt (g := gb957) (o := .cells #[.int .i64 a0_0, .slice A0_1 l0_1.length c0_1] 29 (0, 0)) (by (with_reducible repeat (first | refine ac_ ?_ _ | refine ae_ ?_ | refine ad_ ?_ _)); exact BK957.out)) : gb957 ≠ gb964)); have n7_ := ab_ ((by rw [hg]; exact Nat.ne_of_gt (blk_lt (g := gb957) (o := .cells #[.int .i64 a0_0, .slice A0_1 l0_1.length c0_1] 29 (0, 0)) (by (with_reducible repeat (first | refine ac_ ?_ _ | refine ae_ ?_ | refine ad_ ?_ _)); exact BK957.out)) : gb964 ≠ gb957)); clear HO962; clear BK957; clear HB; have HO962 := n0_; have BK957 := n1_; have HB := n2_; have BK964 := n3_; have GW964 := n4_; have GE964 := n5_; have NB957_964 := n6_; have NB964_957 := n7_; clear n0_ n1_ n2_ n3_ n4_ n5_ n6_ n7_; clear hb hbox hg; have hnb8 := NB964_957.out; have hnc8 := NB957_964.out; have hcz9_0 : w7.cell? ⟨gb964, 0, none⟩ = some (.bool false) := (an_ BK964.out 0).trans rfl; have hcz9_1 : w7.cell? ⟨gb964, 1, none⟩ = some (.int .i64 0) := (an_ BK964.out 1).trans rfl; have hcz9_2 : w7.cell? ⟨gb964, 2, none⟩ = some (.slice none 0 0) := (an_ BK964.out 2).trans rfl; have hfz9_0 := am_ BK964.out 0; have hfz9_1 := am_ BK964.out 1; have hfz9_2 := am_ BK964.out 2; obtain ⟨Ao10, co10, eo10⟩ := Kd.N_slice HO962.out; subst eo10))
  (try simp only [Act.put, List.setIfInBounds_toArray, List.set_cons_zero, List.set_cons_succ])
  go_cut [21] (fun v21 wc => ∃ (kq : Nat) (x21_3 : Bool), v21 = .bool x21_3 ∧ Aside0 (spec_HandleComp.j0 kq x21_3 a0_0 l0_1 t958 t959 t960 = some (r1, r2)) ∧ Aside0 (kq ≤ k) ∧ Aside0 (Kd.N k93 93 wc w.heap.size (fun k_ => k_ ≠ gb957 ∧ k_ ≠ gb964) (.slice Ao10 t960.length co10) t960) ∧ Aside0 (wc.heap[gb957]? = some (.cells #[.int .i64 a0_0, (.slice A0_1 l0_1.length c0_1)] 29 (0, 0))) ∧ Aside0 (wc.heap[gb964]? = some (.cells #[.bool t958, .int .i64 t959, (.slice Ao10 t960.length co10)] 93 (0, 0))) ∧ Aside0 (Below w.heap.size w wc))
  case first =>
    have H := HC4.out
    clear HC4
    by_cases c11 : t963 = true
    · subst c11
      have H1 : ((spec_GoodHandler.f k a0_0 l0_1).bind fun t965 => (spec_HandleComp.j0 k (!t965) a0_0 l0_1 t958 t959 t960)) = some (r1, r2) := by rw [if_pos rfl] at H; exact H
      clear H
      have H := H1
      clear H1
      replace H := Option.bind_eq_some_iff.mp H
      obtain ⟨t965, A120, H⟩ := H
      replace H : (spec_HandleComp.j0 k (!t965) a0_0 l0_1 t958 t959 t960) = some (r1, r2) := H
      have A12 := ab_ A120
      clear A120
      have H' := ab_ H
      clear H
      have hnb13 := NB957_964.out
      have hnc13 := NB964_957.out
      have hcz14_0 : w7.cell? ⟨gb957, 0, none⟩ = some (.int .i64 a0_0) := (an_ BK957.out 0).trans rfl
      have hcz14_1 : w7.cell? ⟨gb957, 1, none⟩ = some (.slice A0_1 l0_1.length c0_1) := (an_ BK957.out 1).trans rfl
      have hfz14_0 := am_ BK957.out 0
      have hfz14_1 := am_ BK957.out 1
      go_wp2_with (first | (go_at_call 14; (with_reducible refine (spec_GoodHandler.calls k a0_0 _ _ l0_1 t965 _ ?side1 ?side2 A12.out).mono ?_); (case side1 => exact Kd.C_below HR0_1.out (by repeat (first | (with_reducible first | exact HB.out | apply ai_ | apply ag_ | apply ah_ | refine af_ ?_ GE957.out | refine af_ ?_ GE964.out) | exact HB.out))); (case side2 => exact HC0_1.out); rintro e w15 ⟨rfl, hb⟩; have n0_ := ab_ (Kd.N_below (by (with_reducible repeat (first | apply Kd.N_alloc | apply Kd.N_drewN | apply Kd.N_drew)); exact (Kd.N_mono (Kd.N_far (p := ⟨gb964, 2, none⟩) (Kd.N_far (p := ⟨gb964, 1, none⟩) (Kd.N_far (p := ⟨gb964, 0, none⟩) (Kd.N_mono HO962.out (fun k_ hk => (⟨hk, hk.2⟩ : _ ∧ k_ ≠ gb964))) (fun _ hk => hk.2) (.bool t958)) (fun _ hk => hk.2) (.int .i64 t959)) (fun _ hk => hk.2) (.slice Ao10 t960.length co10)) (fun _ h_ => h_.1))) hb); have n1_ := ab_ (blk_below (g := gb957) (o := .cells #[.int .i64 a0_0, .slice A0_1 l0_1.length c0_1] 29 (0, 0)) (by (with_reducible repeat (first | refine ac_ ?_ _ | refine ae_ ?_ | refine ad_ ?_ _)); refine blk_far ?_ NB957_964.out _; (with_reducible repeat (first | refine ac_ ?_ _ | refine ae_ ?_ | refine ad_ ?_ _)); refine blk_far ?_ NB957_964.out _; (with_reducible repeat (first | refine ac_ ?_ _ | refine ae_ ?_ | refine ad_ ?_ _)); refine blk_far ?_ NB957_964.out _; (with_reducible repeat (first | refine ac_ ?_ _ | refine ae_ ?_ | refine ad_ ?_ _)); exact BK957.out) hb); have n2_ := ab_ (blk_below (g := gb964) (o := .cells #[.bool t958, .int .i64 t959, .slice Ao10 t960.length co10] 93 (0, 0)) (by (with_reducible repeat (first | refine ac_ ?_ _ | refine ae_ ?_ | refine ad_ ?_ _)); refine blk_put (cs := #[.bool t958, .int .i64 t959, .slice none 0 0]) ?_ 2 _ rfl; (with_reducible repeat (first | refine ac_ ?_ _ | refine ae_ ?_ | refine ad_ ?_ _)); refine blk_put (cs := #[.bool t958, .int .i64 0, .slice none 0 0]) ?_ 1 _ rfl; (with_reducible repeat (first | refine ac_ ?_ _ | refine ae_ ?_ | refine ad_ ?_ _)); refine blk_put (cs := #[.bool false, .int .i64 0, .slice none 0 0]) ?_ 0 _ rfl; (with_reducible repeat (first | refine ac_ ?_ _ | refine ae_ ?_ | refine ad_ ?_ _)); exact BK964.out) hb); have n3_ := ab_ (au_ (by repeat (first | (with_reducible first | exact HB.out | apply ai_ | apply ag_ | apply ah_ | refine af_ ?_ GE957.out | refine af_ ?_ GE964.out) | exact HB.out)) hb); clear HO962; clear BK957; clear BK964; clear HB; have HO962 := n0_; have BK957 := n1_; have BK964 := n2_; have HB := n3_; clear n0_ n1_ n2_ n3_; (try clear hb); (try clear hb2); (try clear hk); (try clear hi)))
      go_meet
      case rel => exact ⟨_, (!t965), (by first | rfl | (simp; done) | (simp [*]; done)), H', ⟨by first | omega | exact Nat.le_refl _⟩, ⟨by (with_reducible repeat (first | apply Kd.N_alloc | apply Kd.N_drewN | apply Kd.N_drew)); exact HO962.out⟩, ⟨by (with_reducible repeat (first | refine ac_ ?_ _ | refine ae_ ?_ | refine ad_ ?_ _)); exact BK957.out⟩, ⟨by (with_reducible repeat (first | refine ac_ ?_ _ | refine ae_ ?_ | refine ad_ ?_ _)); exact BK964.out⟩, ⟨by repeat (first | (with_reducible first | exact HB.out | apply ai_ | apply ag_ | apply ah_ | refine af_ ?_ GE957.out | refine af_ ?_ GE964.out) | exact HB.out)⟩⟩
    · replace c11 := Bool.eq_false_iff.mpr c11
      subst c11
      have H1 : (spec_HandleComp.j0 k true a0_0 l0_1 t958 t959 t960) = some (r1, r2) := by rw [if_neg (show ¬ (false = true) by decide)] at H; exact H
      clear H
      have H := H1
      clear H1
      have H' := ab_ H
      clear H
      go_wp2
      go_meet
      case rel => exact ⟨_, (true), (by first | rfl | (simp; done) | (simp [*]; done)), H', ⟨by first | omega | exact Nat.le_refl _⟩, ⟨by (with_reducible repeat (first | apply Kd.N_alloc | apply Kd.N_drewN | apply Kd.N_drew)); exact Kd.N_mono (Kd.N_far (p := ⟨gb964, 2, none⟩) (Kd.N_far (p := ⟨gb964, 1, none⟩) (Kd.N_far (p := ⟨gb964, 0, none⟩) (Kd.N_mono HO962.out (fun k_ hk => (⟨hk, hk.2⟩ : _ ∧ k_ ≠ gb964))) (fun _ hk => hk.2) (.bool t958)) (fun _ hk => hk.2) (.int .i64 t959)) (fun _ hk => hk.2) (.slice Ao10 t960.length co10)) (fun _ hk => ⟨hk.1.1, hk.1.2⟩)⟩, ⟨by (with_reducible repeat (first | refine ac_ ?_ _ | refine ae_ ?_ | refine ad_ ?_ _)); refine blk_far ?_ NB957_964.out _; (with_reducible repeat (first | refine ac_ ?_ _ | refine ae_ ?_ | refine ad_ ?_ _)); refine blk_far ?_ NB957_964.out _; (with_reducible repeat (first | refine ac_ ?_ _ | refine ae_ ?_ | refine ad_ ?_ _)); refine blk_far ?_ NB957_964.out _; (with_reducible repeat (first | refine ac_ ?_ _ | refine ae_ ?_ | refine ad_ ?_ _)); exact BK957.out⟩, ⟨by (with_reducible repeat (first | refine ac_ ?_ _ | refine ae_ ?_ | refine ad_ ?_ _)); refine blk_put (cs := #[.bool t958, .int .i64 t959, .slice none 0 0]) ?_ 2 _ rfl; (with_reducible repeat (first | refine ac_ ?_ _ | refine ae_ ?_ | refine ad_ ?_ _)); refine blk_put (cs := #[.bool t958, .int .i64 0, .slice none 0 0]) ?_ 1 _ rfl; (with_reducible repeat (first | refine ac_ ?_ _ | refine ae_ ?_ | refine ad_ ?_ _)); refine blk_put (cs := #[.bool false, .int .i64 0, .slice none 0 0]) ?_ 0 _ rfl; (with_reducible repeat (first | refine ac_ ?_ _ | refine ae_ ?_ | refine ad_ ?_ _)); exact BK964.out⟩, ⟨by repeat (first | (with_reducible first | exact HB.out | apply ai_ | apply ag_ | apply ah_ | refine af_ ?_ GE957.out | refine af_ ?_ GE964.out) | exact HB.out)⟩⟩
  case rest =>
    clear HC4
    try clear c1
    try clear p2
    try clear c5
    try clear c6
    try clear c8
    try clear c11
    try clear c13
    try clear hcz14_0
    try clear hcz14_1
    try clear hcz9_0
    try clear hcz9_1
    try clear hcz9_2
    try clear hfz14_0
    try clear hfz14_1
    try clear hfz9_0
    try clear hfz9_1
    try clear hfz9_2
    obtain ⟨kq, x21_3, rfl, HA, HJ3, HO_965002, BK957, BK964, HB⟩ := hcut
    cases kq with
    | zero => exact absurd HA.out (by simp [spec_HandleComp.j0])
    | succ kj3 =>
      have H := HA.out
      clear HA
      simp only [spec_HandleComp.j0] at H
      by_cases c16 : x21_3 = true
      · subst c16
        have H1 : (some (([] : List (S83)), false)) = some (r1, r2) := by rw [if_pos rfl] at H; exact H
        clear H
        have H := H1
        clear H1
        simp only [Option.some.injEq, Prod.mk.injEq] at H
        obtain ⟨rfl, rfl⟩ := H
        go_wp2
        go_ret2
        exact ⟨_, by first | rfl | (simp [errW_none, errW_some] <;> rfl) | (simp [*, errW_none, errW_some] <;> rfl), by first | exact Kd.R_nil _ _ _ _ _ | exact Kd.N_nil _ _ _ _ _ | exact Kd.V_nil _ _ _ _ _ | exact Kd.Q_nil _ _ _ _ _ | exact Kd.S_nil _ _ _ _ _, by repeat (first | (with_reducible first | exact HB.out | apply ai_ | apply ag_ | apply ah_ | refine af_ ?_ GE957.out | refine af_ ?_ GE964.out) | exact HB.out)⟩
      · replace c16 := Bool.eq_false_iff.mpr c16
        subst c16
        have H1 : ((spec_l9Handle.f kj3 a0_0 l0_1 t958 t959 t960).bind fun bt966 => (if bt966.2.2.2 = true then ((spec_l9Tell.f kj3 bt966.1 bt966.2.1 bt966.2.2.1).bind fun bt973 => (some (bt973.1, bt973.2))) else (some (([] : List (S83)), false)))) = some (r1, r2) := by rw [if_neg (show ¬ (false = true) by decide)] at H; exact H
        clear H
        have H := H1
        clear H1
        replace H := Option.bind_eq_some_iff.mp H
        obtain ⟨⟨t966, t967, t968, t971⟩, A170, H⟩ := H
        replace H : (if t971 = true then ((spec_l9Tell.f kj3 t966 t967 t968).bind fun bt973 => (some (bt973.1, bt973.2))) else (some (([] : List (S83)), false))) = some (r1, r2) := H
        have A17 := ab_ A170
        clear A170
        by_cases c18 : t971 = true
        · subst c18
          have H1 : ((spec_l9Tell.f kj3 t966 t967 t968).bind fun bt973 => (some (bt973.1, bt973.2))) = some (r1, r2) := by rw [if_pos rfl] at H; exact H
          clear H
          have H := H1
          clear H1
          replace H := Option.bind_eq_some_iff.mp H
          obtain ⟨⟨t973, t976⟩, A190, H⟩ := H
          replace H : (some (t973, t976)) = some (r1, r2) := H
          have A19 := ab_ A190
          clear A190
          simp only [Option.some.injEq, Prod.mk.injEq] at H
          obtain ⟨rfl, rfl⟩ := H
          have hnb20 := NB957_964.out
          have hnc20 := NB964_957.out
          have hcz21_0 : wc.cell? ⟨gb957, 0, none⟩ = some (.int .i64 a0_0) := (an_ BK957.out 0).trans rfl
          have hcz21_1 : wc.cell? ⟨gb957, 1, none⟩ = some (.slice A0_1 l0_1.length c0_1) := (an_ BK957.out 1).trans rfl
          have hfz21_0 := am_ BK957.out 0
          have hfz21_1 := am_ BK957.out 1
          have hcz22_0 : wc.cell? ⟨gb964, 0, none⟩ = some (.bool t958) := (an_ BK964.out 0).trans rfl
          have hcz22_1 : wc.cell? ⟨gb964, 1, none⟩ = some (.int .i64 t959) := (an_ BK964.out 1).trans rfl
          have hcz22_2 : wc.cell? ⟨gb964, 2, none⟩ = some (.slice Ao10 t960.length co10) := (an_ BK964.out 2).trans rfl
          have hfz22_0 := am_ BK964.out 0
          have hfz22_1 := am_ BK964.out 1
          have hfz22_2 := am_ BK964.out 2
          go_wp2_with (first | ((with_reducible refine gate_callee (f := 87) rfl ?_); refine goesL_ (some 25) rfl rfl Try.func87 (by kernel_rfl) rfl #[.agg #[.int .i64 a0_0, .slice A0_1 l0_1.length c0_1], .agg #[.bool t958, .int .i64 t959, .slice Ao10 t960.length co10]] rfl (by (try simp only [List.map_toArray, List.map_cons, List.map_nil]); first | done | rfl | (simp only [List.length_drop, List.length_take]; rfl)) ?_; (with_reducible refine (spec_l9Handle.calls kj3 a0_0 _ _ l0_1 t958 t959 _ _ t960 t966 t967 t968 true _ ?side1 ?side2 ?side3 ?side4 A17.out).mono ?_); (case side1 => repeat (first | exact (Kd.C_below HR0_1.out HB.out) | (with_reducible refine ar_ ?_ _) | (with_reducible refine as_ ?_ _) | (with_reducible refine Kd.C_drew ?_))); (case side2 => exact HC0_1.out); (case side3 => repeat (first | exact (Kd.N_reads' HO_965002.out).2.2 | (with_reducible refine ar_ ?_ _) | (with_reducible refine as_ ?_ _) | (with_reducible refine Kd.C_drew ?_))); (case side4 => exact (Kd.N_reads' HO_965002.out).2.1); rintro e w23 ⟨v969, rfl, ho0, hb⟩; refine ⟨_, rfl, ?_⟩; have n0_ := ab_ (Kd.N_elder' (by (with_reducible repeat (first | apply Kd.N_alloc | apply Kd.N_drewN | apply Kd.N_drew)); exact HO_965002.out) (Kd.N_base ho0) hb); have n1_ := ab_ (Kd.N_lower (Kd.N_mono (ok' := fun k_ => some k_ ≠ (.slice Ao10 t960.length co10 : Value).ownBlock ∧ k_ ≠ gb957 ∧ k_ ≠ gb964) ho0 (fun k_ hk_ => ⟨(Kd.fresh' (Kd.N_lt (by (with_reducible repeat (first | apply Kd.N_alloc | apply Kd.N_drewN | apply Kd.N_drew)); exact HO_965002.out)) k_ hk_), (Kd.freshB (g := gb957) (o := .cells #[.int .i64 a0_0, .slice A0_1 l0_1.length c0_1] 29 (0, 0)) (by (with_reducible repeat (first | refine ac_ ?_ _ | refine ae_ ?_ | refine ad_ ?_ _)); exact BK957.out) k_ hk_), (Kd.freshB (g := gb964) (o := .cells #[.bool t958, .int .i64 t959, .slice Ao10 t960.length co10] 93 (0, 0)) (by (with_reducible repeat (first | refine ac_ ?_ _ | refine ae_ ?_ | refine ad_ ?_ _)); exact BK964.out) k_ hk_)⟩)) (below_size (by repeat (first | (with_reducible first | exact HB.out | apply ai_ | apply ag_ | apply ah_ | refine af_ ?_ GE957.out | refine af_ ?_ GE964.out) | exact HB.out)))); have n2_ := ab_ (blk_below (g := gb957) (o := .cells #[.int .i64 a0_0, .slice A0_1 l0_1.length c0_1] 29 (0, 0)) (by (with_reducible repeat (first | refine ac_ ?_ _ | refine ae_ ?_ | refine ad_ ?_ _)); exact BK957.out) hb); have n3_ := ab_ (blk_below (g := gb964) (o := .cells #[.bool t958, .int .i64 t959, .slice Ao10 t960.length co10] 93 (0, 0)) (by (with_reducible repeat (first | refine ac_ ?_ _ | refine ae_ ?_ | refine ad_ ?_ _)); exact BK964.out) hb); have n4_ := ab_ (au_ (by repeat (first | (with_reducible first | exact HB.out | apply ai_ | apply ag_ | apply ah_ | refine af_ ?_ GE957.out | refine af_ ?_ GE964.out) | exact HB.out)) hb); clear HO_965002; clear BK957; clear BK964; clear HB; have HO_965002 := n0_; have HO970 := n1_; have BK957 := n2_; have BK964 := n3_; have HB := n4_; clear n0_ n1_ n2_ n3_ n4_; (try clear hb); (try clear hb2); (try clear hk); (try clear hi); (try clear ho0)) | ((with_reducible refine gate_dst (N := 8) rfl ?_); refine box_event ?hg (N := 8) ?hd (cs := #[.bool false, .int .i64 0, .slice none 0 0]) (t := 93) ?hr ?_; (case hd => rfl); (case hg => rfl); (case hr => first | (go_simp; done) | (go_simp; rfl)); intro gb972 hg w24 hbox hb; have n0_ := ab_ (Kd.N_below (Kd.N_elderB (by (with_reducible repeat (first | apply Kd.N_alloc | apply Kd.N_drewN | apply Kd.N_drew)); exact HO_965002.out) gb972 (Nat.le_of_eq hg.symm)) hb); have n1_ := ab_ (Kd.N_below (Kd.N_elderB (by (with_reducible repeat (first | apply Kd.N_alloc | apply Kd.N_drewN | apply Kd.N_drew)); exact HO970.out) gb972 (Nat.le_of_eq hg.symm)) hb); have n2_ := ab_ (blk_below (g := gb957) (o := .cells #[.int .i64 a0_0, .slice A0_1 l0_1.length c0_1] 29 (0, 0)) (by (with_reducible repeat (first | refine ac_ ?_ _ | refine ae_ ?_ | refine ad_ ?_ _)); exact BK957.out) hb); have n3_ := ab_ (blk_below (g := gb964) (o := .cells #[.bool t958, .int .i64 t959, .slice Ao10 t960.length co10] 93 (0, 0)) (by (with_reducible repeat (first | refine ac_ ?_ _ | refine ae_ ?_ | refine ad_ ?_ _)); exact BK964.out) hb); have n4_ := ab_ (au_ (by repeat (first | (with_reducible first | exact HB.out | apply ai_ | apply ag_ | apply ah_ | refine af_ ?_ GE957.out | refine af_ ?_ GE964.out) | exact HB.out)) hb); have n5_ := ab_ (hbox); have n6_ := ab_ ((by rw [hg]; exact (below_size (by repeat (first | (with_reducible first | exact HB.out | apply ai_ | apply ag_ | apply ah_ | refine af_ ?_ GE957.out | refine af_ ?_ GE964.out) | exact HB.out))) : w.heap.size ≤ gb972)); have n7_ := ab_ ((by rw [hg]; exact (below_size (by repeat (first | (with_reducible first | exact HB.out | apply ai_ | apply ag_ | apply ah_ | refine af_ ?_ GE957.out | refine af_ ?_ GE964.out) | exact HB.out))) : w.heap.size ≤ gb972)); have n8_ := ab_ ((by rw [hg]; exact ak_ (blk_lt (g := gb957) (o := .cells #[.int .i64 a0_0, .slice A0_1 l0_1.length c0_1] 29 (0, 0)) (by (with_reducible repeat (first | refine ac_ ?_ _ | refine ae_ ?_ | refine ad_ ?_ _)); exact BK957.out)) : gb957 ≠ gb972)); have n9_ := ab_ ((by rw [hg]; exact Nat.ne_of_gt (blk_lt (g := gb957) (o := .cells #[.int .i64 a0_0, .slice A0_1 l0_1.length c0_1] 29 (0, 0)) (by (with_reducible repeat (first | refine ac_ ?_ _ | refine ae_ ?_ | refine ad_ ?_ _)); exact BK957.out)) : gb972 ≠ gb957)); have n10_ := ab_ ((by rw [hg]; exact ak_ (blk_lt (g := gb964) (o := .cells #[.bool t958, .int .i64 t959, .slice Ao10 t960.length co10] 93 (0, 0)) (by (with_reducible repeat (first | refine ac_ ?_ _ | refine ae_ ?_ | refine ad_ ?_ _)); exact BK964.out)) : gb964 ≠ gb972)); have n11_ := ab_ ((by rw [hg]; exact Nat.ne_of_gt (blk_lt (g := gb964) (o := .cells #[.bool t958, .int .i64 t959, .slice Ao10 t960.length co10] 93 (0, 0)) (by (with_reducible repeat (first | refine ac_ ?_ _ | refine ae_ ?_ | refine ad_ ?_ _)); exact BK964.out)) : gb972 ≠ gb964)); clear HO_965002; clear HO970; clear BK957; clear BK964; clear HB; have HO_965002 := n0_; have HO970 := n1_; have BK957 := n2_; have BK964 := n3_; have HB := n4_; have BK972 := n5_; have GW972 := n6_; have GE972 := n7_; have NB957_972 := n8_; have NB972_957 := n9_; have NB964_972 := n10_; have NB972_964 := n11_; clear n0_ n1_ n2_ n3_ n4_ n5_ n6_ n7_ n8_ n9_ n10_ n11_; clear hb hbox hg; have hnb25 := NB972_957.out; have hnc25 := NB957_972.out; have hnb26 := NB972_964.out; have hnc26 := NB964_972.out; have hcz27_0 : w24.cell? ⟨gb972, 0, none⟩ = some (.bool false) := (an_ BK972.out 0).trans rfl; have hcz27_1 : w24.cell? ⟨gb972, 1, none⟩ = some (.int .i64 0) := (an_ BK972.out 1).trans rfl; have hcz27_2 : w24.cell? ⟨gb972, 2, none⟩ = some (.slice none 0 0) := (an_ BK972.out 2).trans rfl; have hfz27_0 := am_ BK972.out 0; have hfz27_1 := am_ BK972.out 1; have hfz27_2 := am_ BK972.out 2; obtain ⟨Ao28, co28, eo28⟩ := Kd.N_slice HO970.out; subst eo28) | ((with_reducible refine gate_callee (f := 77) rfl ?_); refine goesL_ (some 31) rfl rfl Try.func77 (by kernel_rfl) rfl #[.agg #[.bool t966, .int .i64 t967, .slice Ao28 t968.length co28]] rfl (by (try simp only [List.map_toArray, List.map_cons, List.map_nil]); first | done | rfl | (simp only [List.length_drop, List.length_take]; rfl)) ?_; (with_reducible refine (spec_l9Tell.calls kj3 t966 t967 _ _ t968 t973 t976 _ ?side1 ?side2 A19.out).mono ?_); (case side1 => refine (Kd.N_reads' (e := 93) (base := w.heap.size) (ok := fun k_ => ((some k_ ≠ (.slice Ao10 t960.length co10 : Value).ownBlock ∧ (k_ ≠ gb957 ∧ k_ ≠ gb964)) ∧ k_ ≠ gb972)) (n := t968.length) (c := co28) ?_).2.2; exact (by (with_reducible repeat (first | apply Kd.N_alloc | apply Kd.N_drewN | apply Kd.N_drew)); exact (Kd.N_mono (Kd.N_far (p := ⟨gb972, 2, none⟩) (Kd.N_far (p := ⟨gb972, 1, none⟩) (Kd.N_far (p := ⟨gb972, 0, none⟩) (Kd.N_mono HO970.out (fun k_ hk => (⟨hk, hk.2⟩ : _ ∧ k_ ≠ gb972))) (fun _ hk => hk.2) (.bool t966)) (fun _ hk => hk.2) (.int .i64 t967)) (fun _ hk => hk.2) (.slice Ao28 t968.length co28)) (fun _ h_ => h_.1)))); (case side2 => exact (Kd.N_reads' HO970.out).2.1); rintro e w29 ⟨v974, rfl, ho0, hb⟩; refine ⟨_, rfl, ?_⟩; have n0_ := ab_ (Kd.N_elder' (by (with_reducible repeat (first | apply Kd.N_alloc | apply Kd.N_drewN | apply Kd.N_drew)); exact (Kd.N_mono (Kd.N_far (p := ⟨gb972, 2, none⟩) (Kd.N_far (p := ⟨gb972, 1, none⟩) (Kd.N_far (p := ⟨gb972, 0, none⟩) (Kd.N_mono HO_965002.out (fun k_ hk => (⟨hk, hk.2⟩ : _ ∧ k_ ≠ gb972))) (fun _ hk => hk.2) (.bool t966)) (fun _ hk => hk.2) (.int .i64 t967)) (fun _ hk => hk.2) (.slice Ao28 t968.length co28)) (fun _ h_ => h_.1))) (Kd.R_base ho0) hb); have n1_ := ab_ (Kd.N_elder' (by (with_reducible repeat (first | apply Kd.N_alloc | apply Kd.N_drewN | apply Kd.N_drew)); exact (Kd.N_mono (Kd.N_far (p := ⟨gb972, 2, none⟩) (Kd.N_far (p := ⟨gb972, 1, none⟩) (Kd.N_far (p := ⟨gb972, 0, none⟩) (Kd.N_mono HO970.out (fun k_ hk => (⟨hk, hk.2⟩ : _ ∧ k_ ≠ gb972))) (fun _ hk => hk.2) (.bool t966)) (fun _ hk => hk.2) (.int .i64 t967)) (fun _ hk => hk.2) (.slice Ao28 t968.length co28)) (fun _ h_ => h_.1))) (Kd.R_base ho0) hb); have n2_ := ab_ (Kd.R_lower ho0 (below_size (by repeat (first | (with_reducible first | exact HB.out | apply ai_ | apply ag_ | apply ah_ | refine af_ ?_ GE957.out | refine af_ ?_ GE964.out | refine af_ ?_ GE972.out) | exact HB.out)))); have n3_ := ab_ (blk_below (g := gb957) (o := .cells #[.int .i64 a0_0, .slice A0_1 l0_1.length c0_1] 29 (0, 0)) (by (with_reducible repeat (first | refine ac_ ?_ _ | refine ae_ ?_ | refine ad_ ?_ _)); refine blk_far ?_ NB957_972.out _; (with_reducible repeat (first | refine ac_ ?_ _ | refine ae_ ?_ | refine ad_ ?_ _)); refine blk_far ?_ NB957_972.out _; (with_reducible repeat (first | refine ac_ ?_ _ | refine ae_ ?_ | refine ad_ ?_ _)); refine blk_far ?_ NB957_972.out _; (with_reducible repeat (first | refine ac_ ?_ _ | refine ae_ ?_ | refine ad_ ?_ _)); exact BK957.out) hb); have n4_ := ab_ (blk_below (g := gb964) (o := .cells #[.bool t958, .int .i64 t959, .slice Ao10 t960.length co10] 93 (0, 0)) (by (with_reducible repeat (first | refine ac_ ?_ _ | refine ae_ ?_ | refine ad_ ?_ _)); refine blk_far ?_ NB964_972.out _; (with_reducible repeat (first | refine ac_ ?_ _ | refine ae_ ?_ | refine ad_ ?_ _)); refine blk_far ?_ NB964_972.out _; (with_reducible repeat (first | refine ac_ ?_ _ | refine ae_ ?_ | refine ad_ ?_ _)); refine blk_far ?_ NB964_972.out _; (with_reducible repeat (first | refine ac_ ?_ _ | refine ae_ ?_ | refine ad_ ?_ _)); exact BK964.out) hb); have n5_ := ab_ (blk_below (g := gb972) (o := .cells #[.bool t966, .int .i64 t967, .slice Ao28 t968.length co28] 93 (0, 0)) (by (with_reducible repeat (first | refine ac_ ?_ _ | refine ae_ ?_ | refine ad_ ?_ _)); refine blk_put (cs := #[.bool t966, .int .i64 t967, .slice none 0 0]) ?_ 2 _ rfl; (with_reducible repeat (first | refine ac_ ?_ _ | refine ae_ ?_ | refine ad_ ?_ _)); refine blk_put (cs := #[.bool t966, .int .i64 0, .slice none 0 0]) ?_ 1 _ rfl; (with_reducible repeat (first | refine ac_ ?_ _ | refine ae_ ?_ | refine ad_ ?_ _)); refine blk_put (cs := #[.bool false, .int .i64 0, .slice none 0 0]) ?_ 0 _ rfl; (with_reducible repeat (first | refine ac_ ?_ _ | refine ae_ ?_ | refine ad_ ?_ _)); exact BK972.out) hb); have n6_ := ab_ (au_ (by repeat (first | (with_reducible first | exact HB.out | apply ai_ | apply ag_ | apply ah_ | refine af_ ?_ GE957.out | refine af_ ?_ GE964.out | refine af_ ?_ GE972.out) | exact HB.out)) hb); clear HO_965002; clear HO970; clear BK957; clear BK964; clear BK972; clear HB; have HO_965002 := n0_; have HO970 := n1_; have HO975 := n2_; have BK957 := n3_; have BK964 := n4_; have BK972 := n5_; have HB := n6_; clear n0_ n1_ n2_ n3_ n4_ n5_ n6_; (try clear hb); (try clear hb2); (try clear hk); (try clear hi); (try clear ho0)))
          go_ret2
          exact ⟨_, by first | rfl | (simp [errW_none, errW_some] <;> rfl) | (simp [*, errW_none, errW_some] <;> rfl), by (with_reducible repeat (first | apply ao_ | apply ap_ | apply aq_)); exact HO975.out, by repeat (first | (with_reducible first | exact HB.out | apply ai_ | apply ag_ | apply ah_ | refine af_ ?_ GE957.out | refine af_ ?_ GE964.out | refine af_ ?_ GE972.out) | exact HB.out)⟩
        · replace c18 := Bool.eq_false_iff.mpr c18
          subst c18
          have H1 : (some (([] : List (S83)), false)) = some (r1, r2) := by rw [if_neg (show ¬ (false = true) by decide)] at H; exact H
          clear H
          have H := H1
          clear H1
          simp only [Option.some.injEq, Prod.mk.injEq] at H
          obtain ⟨rfl, rfl⟩ := H
          have hnb30 := NB957_964.out
          have hnc30 := NB964_957.out
          have hcz31_0 : wc.cell? ⟨gb957, 0, none⟩ = some (.int .i64 a0_0) := (an_ BK957.out 0).trans rfl
          have hcz31_1 : wc.cell? ⟨gb957, 1, none⟩ = some (.slice A0_1 l0_1.length c0_1) := (an_ BK957.out 1).trans rfl
          have hfz31_0 := am_ BK957.out 0
          have hfz31_1 := am_ BK957.out 1
          have hcz32_0 : wc.cell? ⟨gb964, 0, none⟩ = some (.bool t958) := (an_ BK964.out 0).trans rfl
          have hcz32_1 : wc.cell? ⟨gb964, 1, none⟩ = some (.int .i64 t959) := (an_ BK964.out 1).trans rfl
          have hcz32_2 : wc.cell? ⟨gb964, 2, none⟩ = some (.slice Ao10 t960.length co10) := (an_ BK964.out 2).trans rfl
          have hfz32_0 := am_ BK964.out 0
          have hfz32_1 := am_ BK964.out 1
          have hfz32_2 := am_ BK964.out 2
          go_wp2_with (first | ((with_reducible refine gate_callee (f := 87) rfl ?_); refine goesL_ (some 25) rfl rfl Try.func87 (by kernel_rfl) rfl #[.agg #[.int .i64 a0_0, .slice A0_1 l0_1.length c0_1], .agg #[.bool t958, .int .i64 t959, .slice Ao10 t960.length co10]] rfl (by (try simp only [List.map_toArray, List.map_cons, List.map_nil]); first | done | rfl | (simp only [List.length_drop, List.length_take]; rfl)) ?_; (with_reducible refine (spec_l9Handle.calls kj3 a0_0 _ _ l0_1 t958 t959 _ _ t960 t966 t967 t968 false _ ?side1 ?side2 ?side3 ?side4 A17.out).mono ?_); (case side1 => repeat (first | exact (Kd.C_below HR0_1.out HB.out) | (with_reducible refine ar_ ?_ _) | (with_reducible refine as_ ?_ _) | (with_reducible refine Kd.C_drew ?_))); (case side2 => exact HC0_1.out); (case side3 => repeat (first | exact (Kd.N_reads' HO_965002.out).2.2 | (with_reducible refine ar_ ?_ _) | (with_reducible refine as_ ?_ _) | (with_reducible refine Kd.C_drew ?_))); (case side4 => exact (Kd.N_reads' HO_965002.out).2.1); rintro e w33 ⟨v969, rfl, ho0, hb⟩; refine ⟨_, rfl, ?_⟩; have n0_ := ab_ (Kd.N_elder' (by (with_reducible repeat (first | apply Kd.N_alloc | apply Kd.N_drewN | apply Kd.N_drew)); exact HO_965002.out) (Kd.N_base ho0) hb); have n1_ := ab_ (Kd.N_lower (Kd.N_mono (ok' := fun k_ => some k_ ≠ (.slice Ao10 t960.length co10 : Value).ownBlock ∧ k_ ≠ gb957 ∧ k_ ≠ gb964) ho0 (fun k_ hk_ => ⟨(Kd.fresh' (Kd.N_lt (by (with_reducible repeat (first | apply Kd.N_alloc | apply Kd.N_drewN | apply Kd.N_drew)); exact HO_965002.out)) k_ hk_), (Kd.freshB (g := gb957) (o := .cells #[.int .i64 a0_0, .slice A0_1 l0_1.length c0_1] 29 (0, 0)) (by (with_reducible repeat (first | refine ac_ ?_ _ | refine ae_ ?_ | refine ad_ ?_ _)); exact BK957.out) k_ hk_), (Kd.freshB (g := gb964) (o := .cells #[.bool t958, .int .i64 t959, .slice Ao10 t960.length co10] 93 (0, 0)) (by (with_reducible repeat (first | refine ac_ ?_ _ | refine ae_ ?_ | refine ad_ ?_ _)); exact BK964.out) k_ hk_)⟩)) (below_size (by repeat (first | (with_reducible first | exact HB.out | apply ai_ | apply ag_ | apply ah_ | refine af_ ?_ GE957.out | refine af_ ?_ GE964.out) | exact HB.out)))); have n2_ := ab_ (blk_below (g := gb957) (o := .cells #[.int .i64 a0_0, .slice A0_1 l0_1.length c0_1] 29 (0, 0)) (by (with_reducible repeat (first | refine ac_ ?_ _ | refine ae_ ?_ | refine ad_ ?_ _)); exact BK957.out) hb); have n3_ := ab_ (blk_below (g := gb964) (o := .cells #[.bool t958, .int .i64 t959, .slice Ao10 t960.length co10] 93 (0, 0)) (by (with_reducible repeat (first | refine ac_ ?_ _ | refine ae_ ?_ | refine ad_ ?_ _)); exact BK964.out) hb); have n4_ := ab_ (au_ (by repeat (first | (with_reducible first | exact HB.out | apply ai_ | apply ag_ | apply ah_ | refine af_ ?_ GE957.out | refine af_ ?_ GE964.out) | exact HB.out)) hb); clear HO_965002; clear BK957; clear BK964; clear HB; have HO_965002 := n0_; have HO970 := n1_; have BK957 := n2_; have BK964 := n3_; have HB := n4_; clear n0_ n1_ n2_ n3_ n4_; (try clear hb); (try clear hb2); (try clear hk); (try clear hi); (try clear ho0)) | ((with_reducible refine gate_dst (N := 8) rfl ?_); refine box_event ?hg (N := 8) ?hd (cs := #[.bool false, .int .i64 0, .slice none 0 0]) (t := 93) ?hr ?_; (case hd => rfl); (case hg => rfl); (case hr => first | (go_simp; done) | (go_simp; rfl)); intro gb972 hg w34 hbox hb; have n0_ := ab_ (Kd.N_below (Kd.N_elderB (by (with_reducible repeat (first | apply Kd.N_alloc | apply Kd.N_drewN | apply Kd.N_drew)); exact HO_965002.out) gb972 (Nat.le_of_eq hg.symm)) hb); have n1_ := ab_ (Kd.N_below (Kd.N_elderB (by (with_reducible repeat (first | apply Kd.N_alloc | apply Kd.N_drewN | apply Kd.N_drew)); exact HO970.out) gb972 (Nat.le_of_eq hg.symm)) hb); have n2_ := ab_ (blk_below (g := gb957) (o := .cells #[.int .i64 a0_0, .slice A0_1 l0_1.length c0_1] 29 (0, 0)) (by (with_reducible repeat (first | refine ac_ ?_ _ | refine ae_ ?_ | refine ad_ ?_ _)); exact BK957.out) hb); have n3_ := ab_ (blk_below (g := gb964) (o := .cells #[.bool t958, .int .i64 t959, .slice Ao10 t960.length co10] 93 (0, 0)) (by (with_reducible repeat (first | refine ac_ ?_ _ | refine ae_ ?_ | refine ad_ ?_ _)); exact BK964.out) hb); have n4_ := ab_ (au_ (by repeat (first | (with_reducible first | exact HB.out | apply ai_ | apply ag_ | apply ah_ | refine af_ ?_ GE957.out | refine af_ ?_ GE964.out) | exact HB.out)) hb); have n5_ := ab_ (hbox); have n6_ := ab_ ((by rw [hg]; exact (below_size (by repeat (first | (with_reducible first | exact HB.out | apply ai_ | apply ag_ | apply ah_ | refine af_ ?_ GE957.out | refine af_ ?_ GE964.out) | exact HB.out))) : w.heap.size ≤ gb972)); have n7_ := ab_ ((by rw [hg]; exact (below_size (by repeat (first | (with_reducible first | exact HB.out | apply ai_ | apply ag_ | apply ah_ | refine af_ ?_ GE957.out | refine af_ ?_ GE964.out) | exact HB.out))) : w.heap.size ≤ gb972)); have n8_ := ab_ ((by rw [hg]; exact ak_ (blk_lt (g := gb957) (o := .cells #[.int .i64 a0_0, .slice A0_1 l0_1.length c0_1] 29 (0, 0)) (by (with_reducible repeat (first | refine ac_ ?_ _ | refine ae_ ?_ | refine ad_ ?_ _)); exact BK957.out)) : gb957 ≠ gb972)); have n9_ := ab_ ((by rw [hg]; exact Nat.ne_of_gt (blk_lt (g := gb957) (o := .cells #[.int .i64 a0_0, .slice A0_1 l0_1.length c0_1] 29 (0, 0)) (by (with_reducible repeat (first | refine ac_ ?_ _ | refine ae_ ?_ | refine ad_ ?_ _)); exact BK957.out)) : gb972 ≠ gb957)); have n10_ := ab_ ((by rw [hg]; exact ak_ (blk_lt (g := gb964) (o := .cells #[.bool t958, .int .i64 t959, .slice Ao10 t960.length co10] 93 (0, 0)) (by (with_reducible repeat (first | refine ac_ ?_ _ | refine ae_ ?_ | refine ad_ ?_ _)); exact BK964.out)) : gb964 ≠ gb972)); have n11_ := ab_ ((by rw [hg]; exact Nat.ne_of_gt (blk_lt (g := gb964) (o := .cells #[.bool t958, .int .i64 t959, .slice Ao10 t960.length co10] 93 (0, 0)) (by (with_reducible repeat (first | refine ac_ ?_ _ | refine ae_ ?_ | refine ad_ ?_ _)); exact BK964.out)) : gb972 ≠ gb964)); clear HO_965002; clear HO970; clear BK957; clear BK964; clear HB; have HO_965002 := n0_; have HO970 := n1_; have BK957 := n2_; have BK964 := n3_; have HB := n4_; have BK972 := n5_; have GW972 := n6_; have GE972 := n7_; have NB957_972 := n8_; have NB972_957 := n9_; have NB964_972 := n10_; have NB972_964 := n11_; clear n0_ n1_ n2_ n3_ n4_ n5_ n6_ n7_ n8_ n9_ n10_ n11_; clear hb hbox hg; have hnb35 := NB972_957.out; have hnc35 := NB957_972.out; have hnb36 := NB972_964.out; have hnc36 := NB964_972.out; have hcz37_0 : w34.cell? ⟨gb972, 0, none⟩ = some (.bool false) := (an_ BK972.out 0).trans rfl; have hcz37_1 : w34.cell? ⟨gb972, 1, none⟩ = some (.int .i64 0) := (an_ BK972.out 1).trans rfl; have hcz37_2 : w34.cell? ⟨gb972, 2, none⟩ = some (.slice none 0 0) := (an_ BK972.out 2).trans rfl; have hfz37_0 := am_ BK972.out 0; have hfz37_1 := am_ BK972.out 1; have hfz37_2 := am_ BK972.out 2; obtain ⟨Ao38, co38, eo38⟩ := Kd.N_slice HO970.out; subst eo38))
          go_ret2
          exact ⟨_, by first | rfl | (simp [errW_none, errW_some] <;> rfl) | (simp [*, errW_none, errW_some] <;> rfl), by first | exact Kd.R_nil _ _ _ _ _ | exact Kd.N_nil _ _ _ _ _ | exact Kd.V_nil _ _ _ _ _ | exact Kd.Q_nil _ _ _ _ _ | exact Kd.S_nil _ _ _ _ _, by repeat (first | (with_reducible first | exact HB.out | apply ai_ | apply ag_ | apply ah_ | refine af_ ?_ GE957.out | refine af_ ?_ GE964.out | refine af_ ?_ GE972.out) | exact HB.out)⟩
end Go.Proofs.Ytjnaokdncemggaa.PAll

end

section
namespace Go.Proofs.Ytjnaokdncemggaa.PAll
open Go.RowKit Go.Proofs.YtjnaokdncemggaaW.PrintWords Go.Proofs.YtjnaokdncemggaaW.PrintLast Go.Proofs.YtjnaokdncemggaaW.PrintMore
attribute [local go_sem] max2_int min2_int max_two min_two max_three min_three max_four min_four   -- for this text's walks alone
set_option linter.unusedVariables false
set_option linter.unusedSimpArgs false
def laws_eqRule.f (a0_0 : Int) (a0_1 : Int) (a1_0 : Int) (a1_1 : Int) : Option (Bool) := if a0_0 = a1_0 then (if a0_1 = a1_1 then (some true) else (some false)) else (some false)
set_option maxHeartbeats 8000000 in
set_option maxRecDepth 100000 in
theorem laws_eqRule.calls (a0_0 : Int) (a0_1 : Int) (a1_0 : Int) (a1_1 : Int) (r : Bool) (w : World) (h : laws_eqRule.f a0_0 a0_1 a1_0 a1_1 = some r) :
    Calls Try.prog 90 #[.agg #[.int .i64 a0_0, .int .i64 a0_1], .agg #[.int .i64 a1_0, .int .i64 a1_1]] w fun e w' => e = .returned (.bool r) ∧ Below w.heap.size w w' := by
  have hu82 := Try.underlying82
  have HB := ab_ (av_ w.heap.size w)
  have H : (if a0_0 = a1_0 then (if a0_1 = a1_1 then (some true) else (some false)) else (some false)) = some r := h
  clear h
  by_cases c3 : a0_0 = a1_0
  · rw [if_pos c3] at H
    have c3b0 : (a0_0 == a1_0) = true := beq_iff_eq.mpr c3
    have c3b1 : (a0_0 != a1_0) = false := bne_eq_false_iff_eq.mpr c3
    clear c3
    by_cases c4 : a0_1 = a1_1
    · rw [if_pos c4] at H
      have c4b0 : (a0_1 == a1_1) = true := beq_iff_eq.mpr c4
      have c4b1 : (a0_1 != a1_1) = false := bne_eq_false_iff_eq.mpr c4
      clear c4
      obtain rfl := Option.some.inj H
      go_enter Try.func90, Try.ntmps90
      go_wp2_with (first | ((with_reducible refine gate_dst (N := 2) rfl ?_); refine box_event ?hg (N := 2) ?hd (cs := #[.int .i64 a0_0, .int .i64 a0_1]) (t := 82) ?hr ?_; (case hd => rfl); (case hg => rfl); (case hr => first | (go_simp; done) | (go_simp; rfl)); intro gb131 hg w5 hbox hb; have n0_ := ab_ (au_ (by repeat (first | (with_reducible first | exact HB.out | apply ai_ | apply ag_ | apply ah_) | exact HB.out)) hb); have n1_ := ab_ (hbox); have n2_ := ab_ ((by rw [hg]; exact (below_size (by repeat (first | (with_reducible first | exact HB.out | apply ai_ | apply ag_ | apply ah_) | exact HB.out))) : w.heap.size ≤ gb131)); have n3_ := ab_ ((by rw [hg]; exact (below_size (by repeat (first | (with_reducible first | exact HB.out | apply ai_ | apply ag_ | apply ah_) | exact HB.out))) : w.heap.size ≤ gb131)); clear HB; have HB := n0_; have BK131 := n1_; have GW131 := n2_; have GE131 := n3_; clear n0_ n1_ n2_ n3_; clear hb hbox hg) | ((with_reducible refine gate_dst (N := 3) rfl ?_); refine box_event ?hg (N := 3) ?hd (cs := #[.int .i64 a1_0, .int .i64 a1_1]) (t := 82) ?hr ?_; (case hd => rfl); (case hg => rfl); (case hr => first | (go_simp; done) | (go_simp; rfl)); intro gb132 hg w6 hbox hb; have n0_ := ab_ (blk_below (g := gb131) (o := .cells #[.int .i64 a0_0, .int .i64 a0_1] 82 (0, 0)) (by (with_reducible repeat (first | refine ac_ ?_ _ | refine ae_ ?_ | refine ad_ ?_ _)); exact BK131.out) hb); have n1_ := ab_ (au_ (by repeat (first | (with_reducible first | exact HB.out | apply ai_ | apply ag_ | apply ah_ | refine af_ ?_ GE131.out) | exact HB.out)) hb); have n2_ := ab_ (hbox); have n3_ := ab_ ((by rw [hg]; exact (below_size (by repeat (first | (with_reducible first | exact HB.out | apply ai_ | apply ag_ | apply ah_ | refine af_ ?_ GE131.out) | exact HB.out))) : w.heap.size ≤ gb132)); have n4_ := ab_ ((by rw [hg]; exact (below_size (by repeat (first | (with_reducible first | exact HB.out | apply ai_ | apply ag_ | apply ah_ | refine af_ ?_ GE131.out) | exact HB.out))) : w.heap.size ≤ gb132)); have n5_ := ab_ ((by rw [hg]; exact ak_ (blk_lt (g := gb131) (o := .cells #[.int .i64 a0_0, .int .i64 a0_1] 82 (0, 0)) (by (with_reducible repeat (first | refine ac_ ?_ _ | refine ae_ ?_ | refine ad_ ?_ _)); exact BK131.out)) : gb131 ≠ gb132)); have n6_ := ab_ ((by rw [hg]; exact Nat.ne_of_gt (blk_lt (g := gb131) (o := .cells #[.int .i64 a0_0, .int .i64 a0_1] 82 (0, 0)) (by (with_reducible repeat (first | refine ac_ ?_ _ | refine ae_ ?_ | refine ad_ ?_ _)); exact BK131.out)) : gb132 ≠ gb131)); clear BK131; clear HB; have BK131 := n0_; have HB := n1_; have BK132 := n2_; have GW132 := n3_; have GE132 := n4_; have NB131_132 := n5_; have NB132_131 := n6_; clear n0_ n1_ n2_ n3_ n4_ n5_ n6_; clear hb hbox hg; have hnb7 := NB131_132.out; have hnc7 := NB132_131.out; have hcz8_0 : w6.cell? ⟨gb131, 0, none⟩ = some (.int .i64 a0_0) := (an_ BK131.out 0).trans rfl; have hcz8_1 : w6.cell? ⟨gb131, 1, none⟩ = some (.int .i64 a0_1) := (an_ BK131.out 1).trans rfl; have hfz8_0 := am_ BK131.out 0; have hfz8_1 := am_ BK131.out 1; have hcz9_0 : w6.cell? ⟨gb132, 0, none⟩ = some (.int .i64 a1_0) := (an_ BK132.out 0).trans rfl; have hcz9_1 : w6.cell? ⟨gb132, 1, none⟩ = some (.int .i64 a1_1) := (an_ BK132.out 1).trans rfl; have hfz9_0 := am_ BK132.out 0; have hfz9_1 := am_ BK132.out 1))
      go_ret
      exact ⟨by first | rfl | (simp [errW_none, errW_some] <;> rfl) | (simp [*, errW_none, errW_some] <;> rfl), by repeat (first | (with_reducible first | exact HB.out | apply ai_ | apply ag_ | apply ah_ | refine af_ ?_ GE131.out | refine af_ ?_ GE132.out) | exact HB.out)⟩
    · rw [if_neg c4] at H
      have c4b0 : (a0_1 == a1_1) = false := beq_eq_false_iff_ne.mpr c4
      have c4b1 : (a0_1 != a1_1) = true := bne_iff_ne.mpr c4
      obtain rfl := Option.some.inj H
      go_enter Try.func90, Try.ntmps90
      go_wp2_with (first | ((with_reducible refine gate_dst (N := 2) rfl ?_); refine box_event ?hg (N := 2) ?hd (cs := #[.int .i64 a0_0, .int .i64 a0_1]) (t := 82) ?hr ?_; (case hd => rfl); (case hg => rfl); (case hr => first | (go_simp; done) | (go_simp; rfl)); intro gb131 hg w10 hbox hb; have n0_ := ab_ (au_ (by repeat (first | (with_reducible first | exact HB.out | apply ai_ | apply ag_ | apply ah_) | exact HB.out)) hb); have n1_ := ab_ (hbox); have n2_ := ab_ ((by rw [hg]; exact (below_size (by repeat (first | (with_reducible first | exact HB.out | apply ai_ | apply ag_ | apply ah_) | exact HB.out))) : w.heap.size ≤ gb131)); have n3_ := ab_ ((by rw [hg]; exact (below_size (by repeat (first | (with_reducible first | exact HB.out | apply ai_ | apply ag_ | apply ah_) | exact HB.out))) : w.heap.size ≤ gb131)); clear HB; have HB := n0_; have BK131 := n1_; have GW131 := n2_; have GE131 := n3_; clear n0_ n1_ n2_ n3_; clear hb hbox hg) | ((with_reducible refine gate_dst (N := 3) rfl ?_); refine box_event ?hg (N := 3) ?hd (cs := #[.int .i64 a1_0, .int .i64 a1_1]) (t := 82) ?hr ?_; (case hd => rfl); (case hg => rfl); (case hr => first | (go_simp; done) | (go_simp; rfl)); intro gb132 hg w11 hbox hb; have n0_ := ab_ (blk_below (g := gb131) (o := .cells #[.int .i64 a0_0, .int .i64 a0_1] 82 (0, 0)) (by (with_reducible repeat (first | refine ac_ ?_ _ | refine ae_ ?_ | refine ad_ ?_ _)); exact BK131.out) hb); have n1_ := ab_ (au_ (by repeat (first | (with_reducible first | exact HB.out | apply ai_ | apply ag_ | apply ah_ | refine af_ ?_ GE131.out) | exact HB.out)) hb); have n2_ := ab_ (hbox); have n3_ := ab_ ((by rw [hg]; exact (below_size (by repeat (first | (with_reducible first | exact HB.out | apply ai_ | apply ag_ | apply ah_ | refine af_ ?_ GE131.out) | exact HB.out))) : w.heap.size ≤ gb132)); have n4_ := ab_ ((by rw [hg]; exact (below_size (by repeat (first | (with_reducible first | exact HB.out | apply ai_ | apply ag_ | apply ah_ | refine af_ ?_ GE131.out) | exact HB.out))) : w.heap.size ≤ gb132)); have n5_ := ab_ ((by rw [hg]; exact ak_ (blk_lt (g := gb131) (o := .cells #[.int .i64 a0_0, .int .i64 a0_1] 82 (0, 0)) (by (with_reducible repeat (first | refine ac_ ?_ _ | refine ae_ ?_ | refine ad_ ?_ _)); exact BK131.out)) : gb131 ≠ gb132)); have n6_ := ab_ ((by rw [hg]; exact Nat.ne_of_gt (blk_lt (g := gb131) (o := .cells #[.int .i64 a0_0, .int .i64 a0_1] 82 (0, 0)) (by (with_reducible repeat (first | refine ac_ ?_ _ | refine ae_ ?_ | refine ad_ ?_ _)); exact BK131.out)) : gb132 ≠ gb131)); clear BK131; clear HB; have BK131 := n0_; have HB := n1_; have BK132 := n2_; have GW132 := n3_; have GE132 := n4_; have NB131_132 := n5_; have NB132_131 := n6_; clear n0_ n1_ n2_ n3_ n4_ n5_ n6_; clear hb hbox hg; have hnb12 := NB131_132.out; have hnc12 := NB132_131.out; have hcz13_0 : w11.cell? ⟨gb131, 0, none⟩ = some (.int .i64 a0_0) := (an_ BK131.out 0).trans rfl; have hcz13_1 : w11.cell? ⟨gb131, 1, none⟩ = some (.int .i64 a0_1) := (an_ BK131.out 1).trans rfl; have hfz13_0 := am_ BK131.out 0; have hfz13_1 := am_ BK131.out 1; have hcz14_0 : w11.cell? ⟨gb132, 0, none⟩ = some (.int .i64 a1_0) := (an_ BK132.out 0).trans rfl; have hcz14_1 : w11.cell? ⟨gb132, 1, none⟩ = some (.int .i64 a1_1) := (an_ BK132.out 1).trans rfl; have hfz14_0 := am_ BK132.out 0; have hfz14_1 := am_ BK132.out 1))
      go_ret
      exact ⟨by first | rfl | (simp [errW_none, errW_some] <;> rfl) | (simp [*, errW_none, errW_some] <;> rfl), by repeat (first | (with_reducible first | exact HB.out | apply ai_ | apply ag_ | apply ah_ | refine af_ ?_ GE131.out | refine af_ ?_ GE132.out) | exact HB.out)⟩
  · rw [if_neg c3] at H
    have c3b0 : (a0_0 == a1_0) = false := beq_eq_false_iff_ne.mpr c3
    have c3b1 : (a0_0 != a1_0) = true := bne_iff_ne.mpr c3
    obtain rfl := Option.some.inj H
    go_enter Try.func90, Try.ntmps90
    go_wp2_with (first | ((with_reducible refine gate_dst (N := 2) rfl ?_); refine box_event ?hg (N := 2) ?hd (cs := #[.int .i64 a0_0, .int .i64 a0_1]) (t := 82) ?hr ?_; (case hd => rfl); (case hg => rfl); (case hr => first | (go_simp; done) | (go_simp; rfl)); intro gb131 hg w15 hbox hb; have n0_ := ab_ (au_ (by repeat (first | (with_reducible first | exact HB.out | apply ai_ | apply ag_ | apply ah_) | exact HB.out)) hb); have n1_ := ab_ (hbox); have n2_ := ab_ ((by rw [hg]; exact (below_size (by repeat (first | (with_reducible first | exact HB.out | apply ai_ | apply ag_ | apply ah_) | exact HB.out))) : w.heap.size ≤ gb131)); have n3_ := ab_ ((by rw [hg]; exact (below_size (by repeat (first | (with_reducible first | exact HB.out | apply ai_ | apply ag_ | apply ah_) | exact HB.out))) : w.heap.size ≤ gb131)); clear HB; have HB := n0_; have BK131 := n1_; have GW131 := n2_; have GE131 := n3_; clear n0_ n1_ n2_ n3_; clear hb hbox hg) | ((with_reducible refine gate_dst (N := 3) rfl ?_); refine box_event ?hg (N := 3) ?hd (cs := #[.int .i64 a1_0, .int .i64 a1_1]) (t := 82) ?hr ?_; (case hd => rfl); (case hg => rfl); (case hr => first | (go_simp; done) | (go_simp; rfl)); intro gb132 hg w16 hbox hb; have n0_ := ab_ (blk_below (g := gb131) (o := .cells #[.int .i64 a0_0, .int .i64 a0_1] 82 (0, 0)) (by (with_reducible repeat (first | refine ac_ ?_ _ | refine ae_ ?_ | refine ad_ ?_ _)); exact BK131.out) hb); have n1_ := ab_ (au_ (by repeat (first | (with_reducible first | exact HB.out | apply ai_ | apply ag_ | apply ah_ | refine af_ ?_ GE131.out) | exact HB.out)) hb); have n2_ := ab_ (hbox); have n3_ := ab_ ((by rw [hg]; exact (below_size (by repeat (first | (with_reducible first | exact HB.out | apply ai_ | apply ag_ | apply ah_ | refine af_ ?_ GE131.out) | exact HB.out))) : w.heap.size ≤ gb132)); have n4_ := ab_ ((by rw [hg]; exact (below_size (by repeat (first | (with_reducible first | exact HB.out | apply ai_ | apply ag_ | apply ah_ | refine af_ ?_ GE131.out) | exact HB.out))) : w.heap.size ≤ gb132)); have n5_ := ab_ ((by rw [hg]; exact ak_ (blk_lt (g := gb131) (o := .cells #[.int .i64 a0_0, .int .i64 a0_1] 82 (0, 0)) (by (with_reducible repeat (first | refine ac_ ?_ _ | refine ae_ ?_ | refine ad_ ?_ _)); exact BK131.out)) : gb131 ≠ gb132)); have n6_ := ab_ ((by rw [hg]; exact Nat.ne_of_gt (blk_lt (g := gb131) (o := .cells #[.int .i64 a0_0, .int .i64 a0_1] 82 (0, 0)) (by (with_reducible repeat (first | refine ac_ ?_ _ | refine ae_ ?_ | refine ad_ ?_ _)); exact BK131.out)) : gb132 ≠ gb131)); clear BK131; clear HB; have BK131 := n0_; have HB := n1_; have BK132 := n2_; have GW132 := n3_; have GE132 := n4_; have NB131_132 := n5_; have NB132_131 := n6_; clear n0_ n1_ n2_ n3_ n4_ n5_ n6_; clear hb hbox hg; have hnb17 := NB131_132.out; have hnc17 := NB132_131.out; have hcz18_0 : w16.cell? ⟨gb131, 0, none⟩ = some (.int .i64 a0_0) := (an_ BK131.out 0).trans rfl; have hcz18_1 : w16.cell? ⟨gb131, 1, none⟩ = some (.int .i64 a0_1) := (an_ BK131.out 1).trans rfl; have hfz18_0 := am_ BK131.out 0; have hfz18_1 := am_ BK131.out 1; have hcz19_0 : w16.cell? ⟨gb132, 0, none⟩ = some (.int .i64 a1_0) := (an_ BK132.out 0).trans rfl; have hcz19_1 : w16.cell? ⟨gb132, 1, none⟩ = some (.int .i64 a1_1) := (an_ BK132.out 1).trans rfl; have hfz19_0 := am_ BK132.out 0; have hfz19_1 := am_ BK132.out 1))
    go_ret
    exact ⟨by first | rfl | (simp [errW_none, errW_some] <;> rfl) | (simp [*, errW_none, errW_some] <;> rfl), by repeat (first | (with_reducible first | exact HB.out | apply ai_ | apply ag_ | apply ah_ | refine af_ ?_ GE131.out | refine af_ ?_ GE132.out) | exact HB.out)⟩
end Go.Proofs.Ytjnaokdncemggaa.PAll

end

section
namespace Go.Proofs.Ytjnaokdncemggaa.PAll
open Go.RowKit Go.Proofs.YtjnaokdncemggaaW.PrintWords Go.Proofs.YtjnaokdncemggaaW.PrintLast Go.Proofs.YtjnaokdncemggaaW.PrintMore
attribute [local go_sem] max2_int min2_int max_two min_two max_three min_three max_four min_four   -- for this text's walks alone
set_option linter.unusedVariables false
set_option linter.unusedSimpArgs false
def laws_eqRuleS.l0 : Nat → List (S82) → List (S82) → Int → Option (Bool)
  | 0, _, _, _ => none
  | k + 1, x0, x1, x5 => if x5 < (x0.length : Int) then (if 0 ≤ x5 then (if x5 < (x1.length : Int) then ((laws_eqRule.f ((rd_T82 x0 x5).f0) ((rd_T82 x0 x5).f1) ((rd_T82 x1 x5).f0) ((rd_T82 x1 x5).f1)).bind fun t135 => (if t135 = true then (laws_eqRuleS.l0 k x0 x1 (wrap64 (x5 + 1))) else (some false))) else (none)) else (none)) else (some true)
def laws_eqRuleS.f (k : Nat) (l0 : List (S82)) (l1 : List (S82)) : Option (Bool) := if (l0.length : Int) = (l1.length : Int) then (laws_eqRuleS.l0 k l0 l1 0) else (some false)
theorem laws_eqRuleS.mono_l : ∀ k, (∀ y0 y1 y2, LeO (laws_eqRuleS.l0 k y0 y1 y2) (laws_eqRuleS.l0 (k + 1) y0 y1 y2))
  | 0 => fun _ _ _ r h => by simp [laws_eqRuleS.l0] at h
  | k + 1 => by
    have ih0 := laws_eqRuleS.mono_l k
    · intro y0 y1 y2
      unfold laws_eqRuleS.l0
      repeat' first
      | (with_reducible exact ih0 _ _ _)
      | (with_reducible exact LeO.refl _)
      | (with_reducible exact LeO.none _)
      | (with_reducible refine LeO.ite ?_ ?_)
      | (with_reducible refine LeO.bind ?_ (fun _ => ?_))
      | exact ih0 _ _ _
      | exact LeO.none _
      | refine LeO.ite ?_ ?_
      | refine LeO.bind ?_ (fun _ => ?_)
theorem laws_eqRuleS.mono : ∀ a0 a1 k, LeO (laws_eqRuleS.f k a0 a1) (laws_eqRuleS.f (k + 1) a0 a1) := by
  intro a0 a1 k
  have ih0 := laws_eqRuleS.mono_l k
  unfold laws_eqRuleS.f
  repeat' first
      | (with_reducible exact ih0 _ _ _)
      | (with_reducible exact LeO.refl _)
      | (with_reducible exact LeO.none _)
      | (with_reducible refine LeO.ite ?_ ?_)
      | (with_reducible refine LeO.bind ?_ (fun _ => ?_))
      | exact ih0 _ _ _
      | exact LeO.none _
      | refine LeO.ite ?_ ?_
      | refine LeO.bind ?_ (fun _ => ?_)
def laws_eqRuleS.T6 : Bool × List (List Nat × List Nat) := (true, [([], []), ([], []), ([0, 1], [0, 1]), ([2], [2]), ([], []), ([], []), ([4, 5], [4, 5]), ([6], [6]), ([3, 7], [3, 7]), ([8], [8])])
def laws_eqRuleS.B6 : List Nat := [0, 0, 3, 7, 0, 0, 48, 112, 255, 511]
theorem laws_eqRuleS.tab6 : rtab .any (opsOf Try.f63 6) = laws_eqRuleS.T6 := by kernel_rfl
theorem laws_eqRuleS.bits6 : waitsOk laws_eqRuleS.T6.2 laws_eqRuleS.B6 = true := by kernel_rfl
set_option maxHeartbeats 8000000 in
set_option maxRecDepth 100000 in
theorem laws_eqRuleS.calls (k : Nat) (A0 : Option Addr) (c0 : Nat) (l0 : List (S82)) (A1 : Option Addr) (c1 : Nat) (l1 : List (S82)) (r : Bool) (w : World) (hr0 : Kd.C k82 w A0 l0.length l0) (hc0 : l0.length ≤ c0) (hr1 : Kd.C k82 w A1 l1.length l1) (hc1 : l1.length ≤ c1) (h : laws_eqRuleS.f k l0 l1 = some r) :
    Calls Try.prog 63 #[.slice A0 l0.length c0, .slice A1 l1.length c1] w fun e w' => e = .returned (.bool r) ∧ Below w.heap.size w w' := by
  have hu82 := Try.underlying82
  have HR0 := ab_ hr0
  have HC0 := ab_ hc0
  clear hr0 hc0
  have HR1 := ab_ hr1
  have HC1 := ab_ hc1
  clear hr1 hc1
  have HB := ab_ (av_ w.heap.size w)
  have H : (if (l0.length : Int) = (l1.length : Int) then (laws_eqRuleS.l0 k l0 l1 0) else (some false)) = some r := h
  clear h
  by_cases c3 : (l0.length : Int) = (l1.length : Int)
  · rw [if_pos c3] at H
    have c3b0 : ((l0.length : Int) == (l1.length : Int)) = true := beq_iff_eq.mpr c3
    have c3b1 : ((l0.length : Int) != (l1.length : Int)) = false := bne_eq_false_iff_eq.mpr c3
    have c3b2 : (l0.length == l1.length) = true := by first | simpa using c3 | (simp at c3 ⊢; omega)
    clear c3
    have H' := ab_ H
    clear H
    go_enter Try.func63, Try.ntmps63
    go_wp2
    go_loopg [5] k (fun kq v5 w' => ∃ (x5_1 : Int), v5 = .int .i64 x5_1 ∧ Aside0 (laws_eqRuleS.l0 kq l0 l1 x5_1 = some r) ∧ Aside0 (kq ≤ k) ∧ Aside0 (Below w.heap.size w w'))
    case atStart => exact ⟨(0), (by first | rfl | (simp; done) | (simp [*]; done)), H', ⟨Nat.le_refl _⟩, ⟨by repeat (first | (with_reducible first | exact HB.out | apply ai_ | apply ag_ | apply ah_) | exact HB.out)⟩⟩
    case round =>
      clear H'
      try clear c1
      try clear p2
      try clear c3
      try clear c3b0
      try clear c3b1
      try clear c3b2
      obtain ⟨x5_1, rfl, HA, HK1, HB⟩ := hrel
      cases gk with
      | zero => exact absurd HA.out (by simp [laws_eqRuleS.l0])
      | succ k1 =>
        have H := HA.out
        clear HA
        simp only [laws_eqRuleS.l0] at H
        by_cases c4 : x5_1 < (l0.length : Int)
        · rw [if_pos c4] at H
          have c4b0 : decide (x5_1 < (l0.length : Int)) = true := at_ c4
          clear c4
          by_cases c5 : 0 ≤ x5_1
          · rw [if_pos c5] at H
            have c5b0 : decide (0 ≤ x5_1) = true := at_ c5
            clear c5
            by_cases c6 : x5_1 < (l1.length : Int)
            · rw [if_pos c6] at H
              have c6b0 : decide (x5_1 < (l1.length : Int)) = true := at_ c6
              clear c6
              replace H := Option.bind_eq_some_iff.mp H
              obtain ⟨t135, A70, H⟩ := H
              replace H : (if t135 = true then (laws_eqRuleS.l0 k1 l0 l1 (wrap64 (x5_1 + 1))) else (some false)) = some r := H
              have A7 := ab_ A70
              clear A70
              by_cases c8 : t135 = true
              · subst c8
                have H1 : (laws_eqRuleS.l0 k1 l0 l1 (wrap64 (x5_1 + 1))) = some r := by rw [if_pos rfl] at H; exact H
                clear H
                have H := H1
                clear H1
                have H' := ab_ H
                clear H
                try go_wp2
                have n0_ := ab_ (ah_ HB.out)
                clear HB
                have HB := n0_
                clear n0_
                have p133 : 0 ≤ (x5_1 : Int) := of_decide_eq_true (by first | (with_reducible assumption) | assumption)
                have q133 : x5_1 < (l0.length : Int) := of_decide_eq_true (by first | (with_reducible assumption) | assumption)
                obtain ⟨ad133, e133, hx133_0, hx133_1⟩ := at_T82 HR0.out x5_1 p133 q133
                have hw133_1 := hx133_1
                have hw133_0 := hx133_0
                cases e133
                replace hx133_0 := (HB.out.cell (aa_ w _ hx133_0)).trans hx133_0
                replace hx133_1 := (HB.out.cell (aa_ w _ hx133_1)).trans hx133_1
                replace p133 := eq_true p133
                replace q133 := eq_true q133
                have p134 : 0 ≤ (x5_1 : Int) := of_decide_eq_true (by first | (with_reducible assumption) | assumption)
                have q134 : x5_1 < (l1.length : Int) := of_decide_eq_true (by first | (with_reducible assumption) | assumption)
                obtain ⟨ad134, e134, hx134_0, hx134_1⟩ := at_T82 HR1.out x5_1 p134 q134
                have hw134_1 := hx134_1
                have hw134_0 := hx134_0
                cases e134
                replace hx134_0 := (HB.out.cell (aa_ w _ hx134_0)).trans hx134_0
                replace hx134_1 := (HB.out.cell (aa_ w _ hx134_1)).trans hx134_1
                replace p134 := eq_true p134
                replace q134 := eq_true q134
                refine start_ (n := 10) (S := fun w' => w'.cell? (ad133.add ((x5_1).toNat * 2)) = some (.int .i64 ((rd_T82 l0 x5_1).f0)) ∧ w'.cell? ⟨(ad133.add ((x5_1).toNat * 2)).block, (ad133.add ((x5_1).toNat * 2)).off + 1, none⟩ = some (.int .i64 ((rd_T82 l0 x5_1).f1)) ∧ w'.cell? (ad134.add ((x5_1).toNat * 2)) = some (.int .i64 ((rd_T82 l1 x5_1).f0)) ∧ w'.cell? ⟨(ad134.add ((x5_1).toNat * 2)).block, (ad134.add ((x5_1).toNat * 2)).off + 1, none⟩ = some (.int .i64 ((rd_T82 l1 x5_1).f1))) (ds := []) #[false, false, false, false, false, false, false, false, false, false] (by kernel_rfl) rfl rfl ⟨((HB.out.cell (aa_ w _ hw133_0)).trans hw133_0), ((HB.out.cell (aa_ w _ hw133_1)).trans hw133_1), ((HB.out.cell (aa_ w _ hw134_0)).trans hw134_0), ((HB.out.cell (aa_ w _ hw134_1)).trans hw134_1)⟩ (fun hHeld => ?_); refine with_tabW laws_eqRuleS.tab6 laws_eqRuleS.bits6 (fun HT_ HW_ => ?_)
                generalize wr.drew = w9 at HB hx133_0 hx133_1 hx134_0 hx134_1 hHeld ⊢
                refine pure_ (i := 0) (N := some 17) (v := ?_) (a' := ?_) #[true, false, false, false, false, false, false, false, false, false] rfl rfl (any_of HT_.out (by kernel_rfl)) (fun _ _ _ h => h) (Or.inl ⟨by rfl, ?_⟩) ?_ ?_
                rotate_left
                · intro w'
                  go_simp
                  with_reducible rfl
                rotate_left
                · simp only [Act.put, List.setIfInBounds_toArray, List.set_cons_zero, List.set_cons_succ, i64_w, i32_w]
                  rfl
                refine pure_ (i := 1) (N := some 18) (v := ?_) (a' := ?_) #[true, true, false, false, false, false, false, false, false, false] rfl rfl (any_of HT_.out (by kernel_rfl)) (fun _ _ _ h => h) (Or.inl ⟨by rfl, ?_⟩) ?_ ?_
                rotate_left
                · intro w'
                  go_simp
                  with_reducible rfl
                rotate_left
                · simp only [Act.put, List.setIfInBounds_toArray, List.set_cons_zero, List.set_cons_succ, i64_w, i32_w]
                  rfl
                refine pure_ (i := 2) (N := some 19) (v := ?_) (a' := ?_) #[true, true, true, false, false, false, false, false, false, false] rfl rfl (any_of HT_.out (by kernel_rfl)) (fun _ _ _ h => h) (Or.inl ⟨by rfl, ?_⟩) ?_ ?_
                rotate_left
                · intro w'
                  go_simp
                  with_reducible rfl
                rotate_left
                · simp only [Act.put, List.setIfInBounds_toArray, List.set_cons_zero, List.set_cons_succ, i64_w, i32_w]
                  rfl
                refine pure_ (i := 4) (N := some 21) (v := ?_) (a' := ?_) #[true, true, true, false, true, false, false, false, false, false] rfl rfl (any_of HT_.out (by kernel_rfl)) (fun _ _ _ h => h) (Or.inl ⟨by rfl, ?_⟩) ?_ ?_
                rotate_left
                · intro w'
                  go_simp
                  with_reducible rfl
                rotate_left
                · simp only [Act.put, List.setIfInBounds_toArray, List.set_cons_zero, List.set_cons_succ, i64_w, i32_w]
                  rfl
                refine pure_ (i := 5) (N := some 22) (v := ?_) (a' := ?_) #[true, true, true, false, true, true, false, false, false, false] rfl rfl (any_of HT_.out (by kernel_rfl)) (fun _ _ _ h => h) (Or.inl ⟨by rfl, ?_⟩) ?_ ?_
                rotate_left
                · intro w'
                  go_simp
                  with_reducible rfl
                rotate_left
                · simp only [Act.put, List.setIfInBounds_toArray, List.set_cons_zero, List.set_cons_succ, i64_w, i32_w]
                  rfl
                refine pure_ (i := 6) (N := some 23) (v := ?_) (a' := ?_) #[true, true, true, false, true, true, true, false, false, false] rfl rfl (any_of HT_.out (by kernel_rfl)) (fun _ _ _ h => h) (Or.inl ⟨by rfl, ?_⟩) ?_ ?_
                rotate_left
                · intro w'
                  go_simp
                  with_reducible rfl
                rotate_left
                · simp only [Act.put, List.setIfInBounds_toArray, List.set_cons_zero, List.set_cons_succ, i64_w, i32_w]
                  rfl
                refine take_ (i := 3) (N := some 20) (v := ?_) (a' := ?_) #[true, true, true, true, true, true, true, false, false, false] rfl rfl (take_ofW HT_.out HW_.out (by kernel_rfl)) (fun _ _ _ h => h) (Or.inl ⟨by rfl, ?_⟩) hHeld ?_ ?_
                rotate_left
                · rintro w' ⟨s0, s1, s2, s3⟩
                  go_simp
                  with_reducible rfl
                rotate_left
                · simp only [Act.put, List.setIfInBounds_toArray, List.set_cons_zero, List.set_cons_succ, i64_w, i32_w]
                  rfl
                refine take_ (i := 7) (N := some 24) (v := ?_) (a' := ?_) #[true, true, true, true, true, true, true, true, false, false] rfl rfl (take_ofW HT_.out HW_.out (by kernel_rfl)) (fun _ _ _ h => h) (Or.inl ⟨by rfl, ?_⟩) hHeld ?_ ?_
                rotate_left
                · rintro w' ⟨s0, s1, s2, s3⟩
                  go_simp
                  with_reducible rfl
                rotate_left
                · simp only [Act.put, List.setIfInBounds_toArray, List.set_cons_zero, List.set_cons_succ, i64_w, i32_w]
                  rfl
                refine one_ (i := 8) (N := some 25) #[true, true, true, true, true, true, true, true, true, false] rfl rfl (one_of HT_.out (by kernel_rfl)) (by decide) (fun K hK => ?_)
                refine goes_ Try.func90 (by kernel_rfl) rfl #[.agg #[.int .i64 ((rd_T82 l0 x5_1).f0), .int .i64 ((rd_T82 l0 x5_1).f1)], .agg #[.int .i64 ((rd_T82 l1 x5_1).f0), .int .i64 ((rd_T82 l1 x5_1).f1)]] (by rfl) rfl rfl (by (try simp only [List.map_toArray, List.map_cons, List.map_nil]); first | done | rfl | (simp only [List.length_drop, List.length_take]; rfl)) ?_
                with_reducible refine (laws_eqRule.calls ((rd_T82 l0 x5_1).f0) ((rd_T82 l0 x5_1).f1) ((rd_T82 l1 x5_1).f0) ((rd_T82 l1 x5_1).f1) true _ A7.out).mono ?_
                rintro e w10 ⟨rfl, hb⟩
                refine ⟨_, rfl, ?_⟩
                have n0_ := ab_ (au_ (by repeat (first | (with_reducible first | exact HB.out | apply ai_ | apply ag_ | apply ah_) | exact HB.out)) hb)
                clear HB
                have HB := n0_
                clear n0_
                (try clear hb)
                (try clear hb2)
                (try clear hk)
                (try clear hi)
                refine hK.out _ _ ⟨((HB.out.cell (aa_ w _ hw133_0)).trans hw133_0), ((HB.out.cell (aa_ w _ hw133_1)).trans hw133_1), ((HB.out.cell (aa_ w _ hw134_0)).trans hw134_0), ((HB.out.cell (aa_ w _ hw134_1)).trans hw134_1)⟩ (fun hHeld => ?_)
                clear hK K
                refine norm_ (a' := ?_) ?_ ?_
                rotate_left
                · show Act.put _ (some 25) _ = _
                  simp only [Act.put, List.setIfInBounds_toArray, List.set_cons_zero, List.set_cons_succ, i64_w, i32_w]
                  rfl
                refine pure_ (i := 9) (N := some 26) (v := ?_) (a' := ?_) #[true, true, true, true, true, true, true, true, true, true] rfl rfl (any_of HT_.out (by kernel_rfl)) (fun _ _ _ h => h) (Or.inl ⟨by rfl, ?_⟩) ?_ ?_
                rotate_left
                · intro w'
                  go_simp
                  with_reducible rfl
                rotate_left
                · simp only [Act.put, List.setIfInBounds_toArray, List.set_cons_zero, List.set_cons_succ, i64_w, i32_w]
                  rfl
                refine done_ (done_of HT_.out (by kernel_rfl)) ?_
                try go_wp2
                go_roundg k1
                case measure => have := HK1.out; omega
                case rel => exact ⟨(wrap64 (x5_1 + 1)), (by first | rfl | (simp; done) | (simp [*]; done)), H', ⟨by have := HK1.out; omega⟩, ⟨by repeat (first | (with_reducible first | exact HB.out | apply ai_ | apply ag_ | apply ah_) | exact HB.out)⟩⟩
              · replace c8 := Bool.eq_false_iff.mpr c8
                subst c8
                have H1 : (some false) = some r := by rw [if_neg (show ¬ (false = true) by decide)] at H; exact H
                clear H
                have H := H1
                clear H1
                obtain rfl := Option.some.inj H
                try go_wp2
                have n0_ := ab_ (ah_ HB.out)
                clear HB
                have HB := n0_
                clear n0_
                have p133 : 0 ≤ (x5_1 : Int) := of_decide_eq_true (by first | (with_reducible assumption) | assumption)
                have q133 : x5_1 < (l0.length : Int) := of_decide_eq_true (by first | (with_reducible assumption) | assumption)
                obtain ⟨ad133, e133, hx133_0, hx133_1⟩ := at_T82 HR0.out x5_1 p133 q133
                have hw133_1 := hx133_1
                have hw133_0 := hx133_0
                cases e133
                replace hx133_0 := (HB.out.cell (aa_ w _ hx133_0)).trans hx133_0
                replace hx133_1 := (HB.out.cell (aa_ w _ hx133_1)).trans hx133_1
                replace p133 := eq_true p133
                replace q133 := eq_true q133
                have p134 : 0 ≤ (x5_1 : Int) := of_decide_eq_true (by first | (with_reducible assumption) | assumption)
                have q134 : x5_1 < (l1.length : Int) := of_decide_eq_true (by first | (with_reducible assumption) | assumption)
                obtain ⟨ad134, e134, hx134_0, hx134_1⟩ := at_T82 HR1.out x5_1 p134 q134
                have hw134_1 := hx134_1
                have hw134_0 := hx134_0
                cases e134
                replace hx134_0 := (HB.out.cell (aa_ w _ hx134_0)).trans hx134_0
                replace hx134_1 := (HB.out.cell (aa_ w _ hx134_1)).trans hx134_1
                replace p134 := eq_true p134
                replace q134 := eq_true q134
                refine start_ (n := 10) (S := fun w' => w'.cell? (ad133.add ((x5_1).toNat * 2)) = some (.int .i64 ((rd_T82 l0 x5_1).f0)) ∧ w'.cell? ⟨(ad133.add ((x5_1).toNat * 2)).block, (ad133.add ((x5_1).toNat * 2)).off + 1, none⟩ = some (.int .i64 ((rd_T82 l0 x5_1).f1)) ∧ w'.cell? (ad134.add ((x5_1).toNat * 2)) = some (.int .i64 ((rd_T82 l1 x5_1).f0)) ∧ w'.cell? ⟨(ad134.add ((x5_1).toNat * 2)).block, (ad134.add ((x5_1).toNat * 2)).off + 1, none⟩ = some (.int .i64 ((rd_T82 l1 x5_1).f1))) (ds := []) #[false, false, false, false, false, false, false, false, false, false] (by kernel_rfl) rfl rfl ⟨((HB.out.cell (aa_ w _ hw133_0)).trans hw133_0), ((HB.out.cell (aa_ w _ hw133_1)).trans hw133_1), ((HB.out.cell (aa_ w _ hw134_0)).trans hw134_0), ((HB.out.cell (aa_ w _ hw134_1)).trans hw134_1)⟩ (fun hHeld => ?_); refine with_tabW laws_eqRuleS.tab6 laws_eqRuleS.bits6 (fun HT_ HW_ => ?_)
                generalize wr.drew = w11 at HB hx133_0 hx133_1 hx134_0 hx134_1 hHeld ⊢
                refine pure_ (i := 0) (N := some 17) (v := ?_) (a' := ?_) #[true, false, false, false, false, false, false, false, false, false] rfl rfl (any_of HT_.out (by kernel_rfl)) (fun _ _ _ h => h) (Or.inl ⟨by rfl, ?_⟩) ?_ ?_
                rotate_left
                · intro w'
                  go_simp
                  with_reducible rfl
                rotate_left
                · simp only [Act.put, List.setIfInBounds_toArray, List.set_cons_zero, List.set_cons_succ, i64_w, i32_w]
                  rfl
                refine pure_ (i := 1) (N := some 18) (v := ?_) (a' := ?_) #[true, true, false, false, false, false, false, false, false, false] rfl rfl (any_of HT_.out (by kernel_rfl)) (fun _ _ _ h => h) (Or.inl ⟨by rfl, ?_⟩) ?_ ?_
                rotate_left
                · intro w'
                  go_simp
                  with_reducible rfl
                rotate_left
                · simp only [Act.put, List.setIfInBounds_toArray, List.set_cons_zero, List.set_cons_succ, i64_w, i32_w]
                  rfl
                refine pure_ (i := 2) (N := some 19) (v := ?_) (a' := ?_) #[true, true, true, false, false, false, false, false, false, false] rfl rfl (any_of HT_.out (by kernel_rfl)) (fun _ _ _ h => h) (Or.inl ⟨by rfl, ?_⟩) ?_ ?_
                rotate_left
                · intro w'
                  go_simp
                  with_reducible rfl
                rotate_left
                · simp only [Act.put, List.setIfInBounds_toArray, List.set_cons_zero, List.set_cons_succ, i64_w, i32_w]
                  rfl
                refine pure_ (i := 4) (N := some 21) (v := ?_) (a' := ?_) #[true, true, true, false, true, false, false, false, false, false] rfl rfl (any_of HT_.out (by kernel_rfl)) (fun _ _ _ h => h) (Or.inl ⟨by rfl, ?_⟩) ?_ ?_
                rotate_left
                · intro w'
                  go_simp
                  with_reducible rfl
                rotate_left
                · simp only [Act.put, List.setIfInBounds_toArray, List.set_cons_zero, List.set_cons_succ, i64_w, i32_w]
                  rfl
                refine pure_ (i := 5) (N := some 22) (v := ?_) (a' := ?_) #[true, true, true, false, true, true, false, false, false, false] rfl rfl (any_of HT_.out (by kernel_rfl)) (fun _ _ _ h => h) (Or.inl ⟨by rfl, ?_⟩) ?_ ?_
                rotate_left
                · intro w'
                  go_simp
                  with_reducible rfl
                rotate_left
                · simp only [Act.put, List.setIfInBounds_toArray, List.set_cons_zero, List.set_cons_succ, i64_w, i32_w]
                  rfl
                refine pure_ (i := 6) (N := some 23) (v := ?_) (a' := ?_) #[true, true, true, false, true, true, true, false, false, false] rfl rfl (any_of HT_.out (by kernel_rfl)) (fun _ _ _ h => h) (Or.inl ⟨by rfl, ?_⟩) ?_ ?_
                rotate_left
                · intro w'
                  go_simp
                  with_reducible rfl
                rotate_left
                · simp only [Act.put, List.setIfInBounds_toArray, List.set_cons_zero, List.set_cons_succ, i64_w, i32_w]
                  rfl
                refine take_ (i := 3) (N := some 20) (v := ?_) (a' := ?_) #[true, true, true, true, true, true, true, false, false, false] rfl rfl (take_ofW HT_.out HW_.out (by kernel_rfl)) (fun _ _ _ h => h) (Or.inl ⟨by rfl, ?_⟩) hHeld ?_ ?_
                rotate_left
                · rintro w' ⟨s0, s1, s2, s3⟩
                  go_simp
                  with_reducible rfl
                rotate_left
                · simp only [Act.put, List.setIfInBounds_toArray, List.set_cons_zero, List.set_cons_succ, i64_w, i32_w]
                  rfl
                refine take_ (i := 7) (N := some 24) (v := ?_) (a' := ?_) #[true, true, true, true, true, true, true, true, false, false] rfl rfl (take_ofW HT_.out HW_.out (by kernel_rfl)) (fun _ _ _ h => h) (Or.inl ⟨by rfl, ?_⟩) hHeld ?_ ?_
                rotate_left
                · rintro w' ⟨s0, s1, s2, s3⟩
                  go_simp
                  with_reducible rfl
                rotate_left
                · simp only [Act.put, List.setIfInBounds_toArray, List.set_cons_zero, List.set_cons_succ, i64_w, i32_w]
                  rfl
                refine one_ (i := 8) (N := some 25) #[true, true, true, true, true, true, true, true, true, false] rfl rfl (one_of HT_.out (by kernel_rfl)) (by decide) (fun K hK => ?_)
                refine goes_ Try.func90 (by kernel_rfl) rfl #[.agg #[.int .i64 ((rd_T82 l0 x5_1).f0), .int .i64 ((rd_T82 l0 x5_1).f1)], .agg #[.int .i64 ((rd_T82 l1 x5_1).f0), .int .i64 ((rd_T82 l1 x5_1).f1)]] (by rfl) rfl rfl (by (try simp only [List.map_toArray, List.map_cons, List.map_nil]); first | done | rfl | (simp only [List.length_drop, List.length_take]; rfl)) ?_
                with_reducible refine (laws_eqRule.calls ((rd_T82 l0 x5_1).f0) ((rd_T82 l0 x5_1).f1) ((rd_T82 l1 x5_1).f0) ((rd_T82 l1 x5_1).f1) false _ A7.out).mono ?_
                rintro e w12 ⟨rfl, hb⟩
                refine ⟨_, rfl, ?_⟩
                have n0_ := ab_ (au_ (by repeat (first | (with_reducible first | exact HB.out | apply ai_ | apply ag_ | apply ah_) | exact HB.out)) hb)
                clear HB
                have HB := n0_
                clear n0_
                (try clear hb)
                (try clear hb2)
                (try clear hk)
                (try clear hi)
                refine hK.out _ _ ⟨((HB.out.cell (aa_ w _ hw133_0)).trans hw133_0), ((HB.out.cell (aa_ w _ hw133_1)).trans hw133_1), ((HB.out.cell (aa_ w _ hw134_0)).trans hw134_0), ((HB.out.cell (aa_ w _ hw134_1)).trans hw134_1)⟩ (fun hHeld => ?_)
                clear hK K
                refine norm_ (a' := ?_) ?_ ?_
                rotate_left
                · show Act.put _ (some 25) _ = _
                  simp only [Act.put, List.setIfInBounds_toArray, List.set_cons_zero, List.set_cons_succ, i64_w, i32_w]
                  rfl
                refine pure_ (i := 9) (N := some 26) (v := ?_) (a' := ?_) #[true, true, true, true, true, true, true, true, true, true] rfl rfl (any_of HT_.out (by kernel_rfl)) (fun _ _ _ h => h) (Or.inl ⟨by rfl, ?_⟩) ?_ ?_
                rotate_left
                · intro w'
                  go_simp
                  with_reducible rfl
                rotate_left
                · simp only [Act.put, List.setIfInBounds_toArray, List.set_cons_zero, List.set_cons_succ, i64_w, i32_w]
                  rfl
                refine done_ (done_of HT_.out (by kernel_rfl)) ?_
                try go_wp2
                go_ret
                exact ⟨by first | rfl | (simp [errW_none, errW_some] <;> rfl) | (simp [*, errW_none, errW_some] <;> rfl), by repeat (first | (with_reducible first | exact HB.out | apply ai_ | apply ag_ | apply ah_) | exact HB.out)⟩
            · rw [if_neg c6] at H
              exact absurd H (by simp)
          · rw [if_neg c5] at H
            exact absurd H (by simp)
        · rw [if_neg c4] at H
          have c4b0 : decide (x5_1 < (l0.length : Int)) = false := decide_eq_false c4
          clear c4
          obtain rfl := Option.some.inj H
          go_wp2
          go_ret
          exact ⟨by first | rfl | (simp [errW_none, errW_some] <;> rfl) | (simp [*, errW_none, errW_some] <;> rfl), by repeat (first | (with_reducible first | exact HB.out | apply ai_ | apply ag_ | apply ah_) | exact HB.out)⟩
  · rw [if_neg c3] at H
    have c3b0 : ((l0.length : Int) == (l1.length : Int)) = false := beq_eq_false_iff_ne.mpr c3
    have c3b1 : ((l0.length : Int) != (l1.length : Int)) = true := bne_iff_ne.mpr c3
    have c3b2 : (l0.length == l1.length) = false := by first | simpa using c3 | (simp at c3 ⊢; omega)
    obtain rfl := Option.some.inj H
    go_enter Try.func63, Try.ntmps63
    go_wp2
    go_ret
    exact ⟨by first | rfl | (simp [errW_none, errW_some] <;> rfl) | (simp [*, errW_none, errW_some] <;> rfl), by repeat (first | (with_reducible first | exact HB.out | apply ai_ | apply ag_ | apply ah_) | exact HB.out)⟩
end Go.Proofs.Ytjnaokdncemggaa.PAll

end
