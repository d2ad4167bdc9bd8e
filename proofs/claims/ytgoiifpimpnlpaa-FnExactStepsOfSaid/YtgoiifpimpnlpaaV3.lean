-- Made by pack.py of the texts that the law reaches.
import Derived.Test.YtgoiifpimpnlpaaV2
section
namespace Go.Proofs.Ytgoiifpimpnlpaa.PAll
open Go.RowKit Go.Proofs.YtgoiifpimpnlpaaW.PrintWords Go.Proofs.YtgoiifpimpnlpaaW.PrintLast Go.Proofs.YtgoiifpimpnlpaaW.PrintMore
attribute [local go_sem] max2_int min2_int max_two min_two max_three min_three max_four min_four   -- for this text's walks alone
set_option linter.unusedVariables false
set_option linter.unusedSimpArgs false
mutual
def spec_l3Shift.j0 : Nat → Int → Int → Bool → Int → Int → List (S62) → Int → Int → Option (Int × Int × (List (S62)))
  | 0, _, _, _, _, _, _, _, _ => none
  | k + 1, x1, x2, x23, x311000, x311001, x311002, x313000, x313001 => if x23 = true then (spec_l3Shift.j1 k x1 x2 x311000 x311001 x311002 x313000 (wrap64 (x313001 + x1))) else (spec_l3Shift.j1 k x1 x2 x311000 x311001 x311002 x313000 x313001)
def spec_l3Shift.j1 : Nat → Int → Int → Int → Int → List (S62) → Int → Int → Option (Int × Int × (List (S62)))
  | 0, _, _, _, _, _, _, _ => none
  | k + 1, x1, x2, x311000, x311001, x311002, x313000, x313001 => spec_l3Shift.l0 k x1 x2 x311002 (x311002.length : Int) 0 x311000 x311001 x311002 x313000 x313001 ([] : List (S62))
def spec_l3Shift.l0 : Nat → Int → Int → List (S62) → Int → Int → Int → Int → List (S62) → Int → Int → List (S62) → Option (Int × Int × (List (S62)))
  | 0, _, _, _, _, _, _, _, _, _, _, _ => none
  | k + 1, x1, x2, x30, x31, x32, x311000, x311001, x311002, x313000, x313001, x313002 => if x32 < x31 then (if 0 ≤ x32 then (if x32 < (x30.length : Int) then ((spec_l3Binds.f x311000 x32).bind fun t315 => ((spec_l3Shift.f k ((rd_T62 x30 x32).f0) ((rd_T62 x30 x32).f1) ((rd_T62 x30 x32).f2) x1 (wrap64 (x2 + t315))).bind fun bt316 => (if x313002.length < 3518437208883 then (spec_l3Shift.l0 k x1 x2 x30 x31 (wrap64 (x32 + 1)) x311000 x311001 x311002 x313000 x313001 (x313002 ++ [(⟨bt316.1, bt316.2.1, bt316.2.2⟩ : S62)])) else (none)))) else (none)) else (none)) else (some (x313000, x313001, x313002))
def spec_l3Shift.f : Nat → Int → Int → List (S62) → Int → Int → Option (Int × Int × (List (S62)))
  | 0, _, _, _, _, _ => none
  | k + 1, a0_0, a0_1, l0_2, a1, a2 => if a0_0 = 1 then (spec_l3Shift.j0 k a1 a2 (decide (a0_1 ≥ a2)) a0_0 a0_1 l0_2 a0_0 a0_1) else (spec_l3Shift.j0 k a1 a2 false a0_0 a0_1 l0_2 a0_0 a0_1)
end
def spec_l3Shift.T7 : Bool × List (List Nat × List Nat) := (true, [([], []), ([0], [0]), ([], []), ([], []), ([], []), ([], []), ([5], [5]), ([], []), ([6, 7], [6, 7]), ([4, 8], [4, 8]), ([2, 3, 9, 8], [2, 3, 9]), ([10], [10]), ([1, 11, 10], [1, 11]), ([0, 1, 2, 3, 4, 5, 6, 7, 8, 9, 10, 11, 12], []), ([13, 12, 12, 0, 1, 2, 3, 4, 5, 6, 7, 8, 9, 10, 11, 12], [12, 13])])
def spec_l3Shift.B7 : List Nat := [0, 1, 0, 0, 0, 0, 32, 0, 224, 496, 1020, 2044, 4095, 8191, 16383]
theorem spec_l3Shift.tab7 : rtab .any (opsOf Try.f127 7) = spec_l3Shift.T7 := by kernel_rfl
theorem spec_l3Shift.bits7 : waitsOk spec_l3Shift.T7.2 spec_l3Shift.B7 = true := by kernel_rfl
set_option maxHeartbeats 8000000 in
set_option maxRecDepth 100000 in
theorem spec_l3Shift.calls (k : Nat) : ∀ (a0_0 : Int) (a0_1 : Int) (A0_2 : Option Addr) (c0_2 : Nat) (l0_2 : List (S62)) (a1 : Int) (a2 : Int) (r1 : Int) (r2 : Int) (r3 : List (S62)) (w : World) (hr0_2 : Kd.C k62 w A0_2 l0_2.length l0_2) (hc0_2 : l0_2.length ≤ c0_2) (h : spec_l3Shift.f k a0_0 a0_1 l0_2 a1 a2 = some (r1, r2, r3)),
    Calls Try.prog 127 #[.agg #[.int .i64 a0_0, .int .i64 a0_1, .slice A0_2 l0_2.length c0_2], .int .i64 a1, .int .i64 a2] w fun e w' => ∃ v2_ : Value, e = .returned (.agg #[.int .i64 r1, .int .i64 r2, v2_]) ∧ Kd.R k62 62 w' w.heap.size (fun _ => True) v2_ r3 ∧ Below w.heap.size w w' := by
  induction k using Nat.strongRecOn with
  | _ k ih =>
  intro a0_0 a0_1 A0_2 c0_2 l0_2 a1 a2 r1 r2 r3 w hr0_2 hc0_2 h
  cases k with
  | zero => exact absurd h (by simp [spec_l3Shift.f])
  | succ k =>
  simp only [spec_l3Shift.f] at h
  have hu62 := Try.underlying62
  have HR0_2 := ab_ hr0_2
  have HC0_2 := ab_ hc0_2
  clear hr0_2 hc0_2
  have HB := ab_ (aq_ w.heap.size w)
  have H : (if a0_0 = 1 then (spec_l3Shift.j0 k a1 a2 (decide (a0_1 ≥ a2)) a0_0 a0_1 l0_2 a0_0 a0_1) else (spec_l3Shift.j0 k a1 a2 false a0_0 a0_1 l0_2 a0_0 a0_1)) = some (r1, r2, r3) := h
  clear h
  have HC4 := ab_ H
  clear H
  go_enter Try.func127, Try.ntmps127
  go_upto_region 2 with (first | ((with_reducible refine gate_dst (N := 3) rfl ?_); refine box_event ?hg (N := 3) ?hd (cs := #[.int .i64 a0_0, .int .i64 a0_1, .slice A0_2 l0_2.length c0_2]) (t := 62) ?hr ?_; (case hd => rfl); (case hg => rfl); (case hr => first | (go_simp; done) | (go_simp; rfl)); intro gb310 hg w5 hbox hb; have n0_ := ab_ (ap_ (by repeat (first | (with_reducible first | exact HB.out | apply ai_ | apply ag_ | apply ah_) | exact HB.out)) hb); have n1_ := ab_ (hbox); have n2_ := ab_ ((by rw [hg]; exact (below_size (by repeat (first | (with_reducible first | exact HB.out | apply ai_ | apply ag_ | apply ah_) | exact HB.out))) : w.heap.size ≤ gb310)); have n3_ := ab_ ((by rw [hg]; exact (below_size (by repeat (first | (with_reducible first | exact HB.out | apply ai_ | apply ag_ | apply ah_) | exact HB.out))) : w.heap.size ≤ gb310)); clear HB; have HB := n0_; have BK310 := n1_; have GW310 := n2_; have GE310 := n3_; clear n0_ n1_ n2_ n3_; clear hb hbox hg) | ((with_reducible refine gate_dst (N := 6) rfl ?_); refine box_event ?hg (N := 6) ?hd (cs := #[.int .i64 0, .int .i64 0, .slice none 0 0]) (t := 62) ?hr ?_; (case hd => rfl); (case hg => rfl); (case hr => first | (go_simp; done) | (go_simp; rfl)); intro gb311 hg w6 hbox hb; have n0_ := ab_ (blk_below (g := gb310) (o := .cells #[.int .i64 a0_0, .int .i64 a0_1, .slice A0_2 l0_2.length c0_2] 62 (0, 0)) (by (with_reducible repeat (first | refine ac_ ?_ _ | refine ae_ ?_ | refine ad_ ?_ _)); exact BK310.out) hb); have n1_ := ab_ (ap_ (by repeat (first | (with_reducible first | exact HB.out | apply ai_ | apply ag_ | apply ah_ | refine af_ ?_ GE310.out) | exact HB.out)) hb); have n2_ := ab_ (hbox); have n3_ := ab_ ((by rw [hg]; exact (below_size (by repeat (first | (with_reducible first | exact HB.out | apply ai_ | apply ag_ | apply ah_ | refine af_ ?_ GE310.out) | exact HB.out))) : w.heap.size ≤ gb311)); have n4_ := ab_ ((by rw [hg]; exact (below_size (by repeat (first | (with_reducible first | exact HB.out | apply ai_ | apply ag_ | apply ah_ | refine af_ ?_ GE310.out) | exact HB.out))) : w.heap.size ≤ gb311)); have n5_ := ab_ ((by rw [hg]; exact ak_ (blk_lt (g := gb310) (o := .cells #[.int .i64 a0_0, .int .i64 a0_1, .slice A0_2 l0_2.length c0_2] 62 (0, 0)) (by (with_reducible repeat (first | refine ac_ ?_ _ | refine ae_ ?_ | refine ad_ ?_ _)); exact BK310.out)) : gb310 ≠ gb311)); have n6_ := ab_ ((by rw [hg]; exact Nat.ne_of_gt (blk_lt (g := gb310) (o := .cells #[.int .i64 a0_0, .int .i64 a0_1, .slice A0_2 l0_2.length c0_2] 62 (0, 0)) (by (with_reducible repeat (first | refine ac_ ?_ _ | refine ae_ ?_ | refine ad_ ?_ _)); exact BK310.out)) : gb311 ≠ gb310)); clear BK310; clear HB; have BK310 := n0_; have HB := n1_; have BK311 := n2_; have GW311 := n3_; have GE311 := n4_; have NB310_311 := n5_; have NB311_310 := n6_; clear n0_ n1_ n2_ n3_ n4_ n5_ n6_; clear hb hbox hg; have hnb7 := NB310_311.out; have hnc7 := NB311_310.out; have hcz8_0 : w6.cell? ⟨gb310, 0, none⟩ = some (.int .i64 a0_0) := (an_ BK310.out 0).trans rfl; have hcz8_1 : w6.cell? ⟨gb310, 1, none⟩ = some (.int .i64 a0_1) := (an_ BK310.out 1).trans rfl; have hcz8_2 : w6.cell? ⟨gb310, 2, none⟩ = some (.slice A0_2 l0_2.length c0_2) := (an_ BK310.out 2).trans rfl; have hfz8_0 := am_ BK310.out 0; have hfz8_1 := am_ BK310.out 1; have hfz8_2 := am_ BK310.out 2) | ((with_reducible refine gate_dst (N := 7) rfl ?_); refine box_event ?hg (N := 7) ?hd (cs := #[.int .i64 0, .int .i64 0, .slice none 0 0]) (t := 62) ?hr ?_; (case hd => rfl); (case hg => rfl); (case hr => first | (go_simp; done) | (go_simp; rfl)); intro gb312 hg w9 hbox hb; have n0_ := ab_ (blk_below (g := gb310) (o := .cells #[.int .i64 a0_0, .int .i64 a0_1, .slice A0_2 l0_2.length c0_2] 62 (0, 0)) (by (with_reducible repeat (first | refine ac_ ?_ _ | refine ae_ ?_ | refine ad_ ?_ _)); exact BK310.out) hb); have n1_ := ab_ (blk_below (g := gb311) (o := .cells #[.int .i64 0, .int .i64 0, .slice none 0 0] 62 (0, 0)) (by (with_reducible repeat (first | refine ac_ ?_ _ | refine ae_ ?_ | refine ad_ ?_ _)); exact BK311.out) hb); have n2_ := ab_ (ap_ (by repeat (first | (with_reducible first | exact HB.out | apply ai_ | apply ag_ | apply ah_ | refine af_ ?_ GE310.out | refine af_ ?_ GE311.out) | exact HB.out)) hb); have n3_ := ab_ (hbox); have n4_ := ab_ ((by rw [hg]; exact (below_size (by repeat (first | (with_reducible first | exact HB.out | apply ai_ | apply ag_ | apply ah_ | refine af_ ?_ GE310.out | refine af_ ?_ GE311.out) | exact HB.out))) : w.heap.size ≤ gb312)); have n5_ := ab_ ((by rw [hg]; exact (below_size (by repeat (first | (with_reducible first | exact HB.out | apply ai_ | apply ag_ | apply ah_ | refine af_ ?_ GE310.out | refine af_ ?_ GE311.out) | exact HB.out))) : w.heap.size ≤ gb312)); have n6_ := ab_ ((by rw [hg]; exact ak_ (blk_lt (g := gb310) (o := .cells #[.int .i64 a0_0, .int .i64 a0_1, .slice A0_2 l0_2.length c0_2] 62 (0, 0)) (by (with_reducible repeat (first | refine ac_ ?_ _ | refine ae_ ?_ | refine ad_ ?_ _)); exact BK310.out)) : gb310 ≠ gb312)); have n7_ := ab_ ((by rw [hg]; exact Nat.ne_of_gt (blk_lt (g := gb310) (o := .cells #[.int .i64 a0_0, .int .i64 a0_1, .slice A0_2 l0_2.length c0_2] 62 (0, 0)) (by (with_reducible repeat (first | refine ac_ ?_ _ | refine ae_ ?_ | refine ad_ ?_ _)); exact BK310.out)) : gb312 ≠ gb310)); have n8_ := ab_ ((by rw [hg]; exact ak_ (blk_lt (g := gb311) (o := .cells #[.int .i64 0, .int .i64 0, .slice none 0 0] 62 (0, 0)) (by (with_reducible repeat (first | refine ac_ ?_ _ | refine ae_ ?_ | refine ad_ ?_ _)); exact BK311.out)) : gb311 ≠ gb312)); have n9_ := ab_ ((by rw [hg]; exact Nat.ne_of_gt (blk_lt (g := gb311) (o := .cells #[.int .i64 0, .int .i64 0, .slice none 0 0] 62 (0, 0)) (by (with_reducible repeat (first | refine ac_ ?_ _ | refine ae_ ?_ | refine ad_ ?_ _)); exact BK311.out)) : gb312 ≠ gb311)); clear BK310; clear BK311; clear HB; have BK310 := n0_; have BK311 := n1_; have HB := n2_; have BK312 := n3_; have GW312 := n4_; have GE312 := n5_; have NB310_312 := n6_; have NB312_310 := n7_; have NB311_312 := n8_; have NB312_311 := n9_; clear n0_ n1_ n2_ n3_ n4_ n5_ n6_ n7_ n8_ n9_; clear hb hbox hg; have hnb10 := NB312_310.out; have hnc10 := NB310_312.out; have hnb11 := NB312_311.out; have hnc11 := NB311_312.out; have hcz12_0 : w9.cell? ⟨gb312, 0, none⟩ = some (.int .i64 0) := (an_ BK312.out 0).trans rfl; have hcz12_1 : w9.cell? ⟨gb312, 1, none⟩ = some (.int .i64 0) := (an_ BK312.out 1).trans rfl; have hcz12_2 : w9.cell? ⟨gb312, 2, none⟩ = some (.slice none 0 0) := (an_ BK312.out 2).trans rfl; have hfz12_0 := am_ BK312.out 0; have hfz12_1 := am_ BK312.out 1; have hfz12_2 := am_ BK312.out 2))
  (try simp only [Act.put, List.setIfInBounds_toArray, List.set_cons_zero, List.set_cons_succ])
  go_cut [23] (fun v23 wc => ∃ (kq : Nat) (x23_3 : Bool), v23 = .bool x23_3 ∧ Aside0 (spec_l3Shift.j0 kq a1 a2 x23_3 a0_0 a0_1 l0_2 a0_0 a0_1 = some (r1, r2, r3)) ∧ Aside0 (kq ≤ k) ∧ Aside0 (wc.heap[gb310]? = some (.cells #[.int .i64 a0_0, .int .i64 a0_1, (.slice A0_2 l0_2.length c0_2)] 62 (0, 0))) ∧ Aside0 (wc.heap[gb311]? = some (.cells #[.int .i64 0, .int .i64 0, (.slice none 0 0)] 62 (0, 0))) ∧ Aside0 (wc.heap[gb312]? = some (.cells #[.int .i64 a0_0, .int .i64 a0_1, (.slice none 0 0)] 62 (0, 0))) ∧ Aside0 (Below w.heap.size w wc))
  case first =>
    have H := HC4.out
    clear HC4
    by_cases c13 : a0_0 = 1
    · rw [if_pos c13] at H
      have c13b0 : (a0_0 == 1) = true := beq_iff_eq.mpr c13
      have c13b1 : (a0_0 != 1) = false := bne_eq_false_iff_eq.mpr c13
      clear c13
      (first | rw [c13b0] | (simp only [i64_w, i32_w]; rw [c13b0]) | skip)
      have H' := ab_ H
      clear H
      have hnb14 := NB310_311.out
      have hnc14 := NB311_310.out
      have hnb15 := NB310_312.out
      have hnc15 := NB312_310.out
      have hcz16_0 : w9.cell? ⟨gb310, 0, none⟩ = some (.int .i64 a0_0) := (an_ BK310.out 0).trans rfl
      have hcz16_1 : w9.cell? ⟨gb310, 1, none⟩ = some (.int .i64 a0_1) := (an_ BK310.out 1).trans rfl
      have hcz16_2 : w9.cell? ⟨gb310, 2, none⟩ = some (.slice A0_2 l0_2.length c0_2) := (an_ BK310.out 2).trans rfl
      have hfz16_0 := am_ BK310.out 0
      have hfz16_1 := am_ BK310.out 1
      have hfz16_2 := am_ BK310.out 2
      go_wp2
      go_meet
      case rel => exact ⟨_, (decide (a0_1 ≥ a2)), (by first | rfl | (simp; done) | (simp [*]; done)), H', ⟨by first | omega | exact Nat.le_refl _⟩, ⟨by (with_reducible repeat (first | refine ac_ ?_ _ | refine ae_ ?_ | refine ad_ ?_ _)); refine blk_far ?_ NB310_312.out _; (with_reducible repeat (first | refine ac_ ?_ _ | refine ae_ ?_ | refine ad_ ?_ _)); refine blk_far ?_ NB310_312.out _; (with_reducible repeat (first | refine ac_ ?_ _ | refine ae_ ?_ | refine ad_ ?_ _)); refine blk_far ?_ NB310_312.out _; (with_reducible repeat (first | refine ac_ ?_ _ | refine ae_ ?_ | refine ad_ ?_ _)); exact BK310.out⟩, ⟨by (with_reducible repeat (first | refine ac_ ?_ _ | refine ae_ ?_ | refine ad_ ?_ _)); refine blk_far ?_ NB311_312.out _; (with_reducible repeat (first | refine ac_ ?_ _ | refine ae_ ?_ | refine ad_ ?_ _)); refine blk_far ?_ NB311_312.out _; (with_reducible repeat (first | refine ac_ ?_ _ | refine ae_ ?_ | refine ad_ ?_ _)); refine blk_far ?_ NB311_312.out _; (with_reducible repeat (first | refine ac_ ?_ _ | refine ae_ ?_ | refine ad_ ?_ _)); exact BK311.out⟩, ⟨by (with_reducible repeat (first | refine ac_ ?_ _ | refine ae_ ?_ | refine ad_ ?_ _)); refine blk_put (cs := #[.int .i64 a0_0, .int .i64 a0_1, .slice none 0 0]) ?_ 2 _ rfl; (with_reducible repeat (first | refine ac_ ?_ _ | refine ae_ ?_ | refine ad_ ?_ _)); refine blk_put (cs := #[.int .i64 a0_0, .int .i64 0, .slice none 0 0]) ?_ 1 _ rfl; (with_reducible repeat (first | refine ac_ ?_ _ | refine ae_ ?_ | refine ad_ ?_ _)); refine blk_put (cs := #[.int .i64 0, .int .i64 0, .slice none 0 0]) ?_ 0 _ rfl; (with_reducible repeat (first | refine ac_ ?_ _ | refine ae_ ?_ | refine ad_ ?_ _)); exact BK312.out⟩, ⟨by repeat (first | (with_reducible first | exact HB.out | apply ai_ | apply ag_ | apply ah_ | refine af_ ?_ GE310.out | refine af_ ?_ GE311.out | refine af_ ?_ GE312.out) | exact HB.out)⟩⟩
    · rw [if_neg c13] at H
      have c13b0 : (a0_0 == 1) = false := beq_eq_false_iff_ne.mpr c13
      have c13b1 : (a0_0 != 1) = true := bne_iff_ne.mpr c13
      (first | rw [c13b0] | (simp only [i64_w, i32_w]; rw [c13b0]) | skip)
      have H' := ab_ H
      clear H
      have hnb17 := NB310_311.out
      have hnc17 := NB311_310.out
      have hnb18 := NB310_312.out
      have hnc18 := NB312_310.out
      have hcz19_0 : w9.cell? ⟨gb310, 0, none⟩ = some (.int .i64 a0_0) := (an_ BK310.out 0).trans rfl
      have hcz19_1 : w9.cell? ⟨gb310, 1, none⟩ = some (.int .i64 a0_1) := (an_ BK310.out 1).trans rfl
      have hcz19_2 : w9.cell? ⟨gb310, 2, none⟩ = some (.slice A0_2 l0_2.length c0_2) := (an_ BK310.out 2).trans rfl
      have hfz19_0 := am_ BK310.out 0
      have hfz19_1 := am_ BK310.out 1
      have hfz19_2 := am_ BK310.out 2
      go_wp2
      go_meet
      case rel => exact ⟨_, (false), (by first | rfl | (simp; done) | (simp [*]; done)), H', ⟨by first | omega | exact Nat.le_refl _⟩, ⟨by (with_reducible repeat (first | refine ac_ ?_ _ | refine ae_ ?_ | refine ad_ ?_ _)); refine blk_far ?_ NB310_312.out _; (with_reducible repeat (first | refine ac_ ?_ _ | refine ae_ ?_ | refine ad_ ?_ _)); refine blk_far ?_ NB310_312.out _; (with_reducible repeat (first | refine ac_ ?_ _ | refine ae_ ?_ | refine ad_ ?_ _)); refine blk_far ?_ NB310_312.out _; (with_reducible repeat (first | refine ac_ ?_ _ | refine ae_ ?_ | refine ad_ ?_ _)); exact BK310.out⟩, ⟨by (with_reducible repeat (first | refine ac_ ?_ _ | refine ae_ ?_ | refine ad_ ?_ _)); refine blk_far ?_ NB311_312.out _; (with_reducible repeat (first | refine ac_ ?_ _ | refine ae_ ?_ | refine ad_ ?_ _)); refine blk_far ?_ NB311_312.out _; (with_reducible repeat (first | refine ac_ ?_ _ | refine ae_ ?_ | refine ad_ ?_ _)); refine blk_far ?_ NB311_312.out _; (with_reducible repeat (first | refine ac_ ?_ _ | refine ae_ ?_ | refine ad_ ?_ _)); exact BK311.out⟩, ⟨by (with_reducible repeat (first | refine ac_ ?_ _ | refine ae_ ?_ | refine ad_ ?_ _)); refine blk_put (cs := #[.int .i64 a0_0, .int .i64 a0_1, .slice none 0 0]) ?_ 2 _ rfl; (with_reducible repeat (first | refine ac_ ?_ _ | refine ae_ ?_ | refine ad_ ?_ _)); refine blk_put (cs := #[.int .i64 a0_0, .int .i64 0, .slice none 0 0]) ?_ 1 _ rfl; (with_reducible repeat (first | refine ac_ ?_ _ | refine ae_ ?_ | refine ad_ ?_ _)); refine blk_put (cs := #[.int .i64 0, .int .i64 0, .slice none 0 0]) ?_ 0 _ rfl; (with_reducible repeat (first | refine ac_ ?_ _ | refine ae_ ?_ | refine ad_ ?_ _)); exact BK312.out⟩, ⟨by repeat (first | (with_reducible first | exact HB.out | apply ai_ | apply ag_ | apply ah_ | refine af_ ?_ GE310.out | refine af_ ?_ GE311.out | refine af_ ?_ GE312.out) | exact HB.out)⟩⟩
  case rest =>
    clear HC4
    try clear c1
    try clear p2
    try clear c7
    try clear c10
    try clear c11
    try clear c12
    try clear c13
    try clear c13b0
    try clear c13b1
    try clear c14
    try clear c15
    try clear c17
    try clear c18
    try clear hcz12_0
    try clear hcz12_1
    try clear hcz12_2
    try clear hcz16_0
    try clear hcz16_1
    try clear hcz16_2
    try clear hcz19_0
    try clear hcz19_1
    try clear hcz19_2
    try clear hcz8_0
    try clear hcz8_1
    try clear hcz8_2
    try clear hfz12_0
    try clear hfz12_1
    try clear hfz12_2
    try clear hfz16_0
    try clear hfz16_1
    try clear hfz16_2
    try clear hfz19_0
    try clear hfz19_1
    try clear hfz19_2
    try clear hfz8_0
    try clear hfz8_1
    try clear hfz8_2
    obtain ⟨kq, x23_3, rfl, HA, HJ3, BK310, BK311, BK312, HB⟩ := hcut
    cases kq with
    | zero => exact absurd HA.out (by simp [spec_l3Shift.j0])
    | succ kj3 =>
      have H := HA.out
      clear HA
      simp only [spec_l3Shift.j0] at H
      have HC20 := ab_ H
      clear H
      go_upto_if 23 with (fail)
      go_cut [] (fun wc => ∃ (kq : Nat) (x313001_19 : Int), Aside0 (spec_l3Shift.j1 kq a1 a2 a0_0 a0_1 l0_2 a0_0 x313001_19 = some (r1, r2, r3)) ∧ Aside0 (kq ≤ kj3) ∧ Aside0 (wc.heap[gb310]? = some (.cells #[.int .i64 a0_0, .int .i64 a0_1, (.slice A0_2 l0_2.length c0_2)] 62 (0, 0))) ∧ Aside0 (wc.heap[gb311]? = some (.cells #[.int .i64 0, .int .i64 0, (.slice none 0 0)] 62 (0, 0))) ∧ Aside0 (wc.heap[gb312]? = some (.cells #[.int .i64 a0_0, .int .i64 x313001_19, (.slice none 0 0)] 62 (0, 0))) ∧ Aside0 (Below w.heap.size w wc))
      case first =>
        have H := HC20.out
        clear HC20
        by_cases c21 : x23_3 = true
        · subst c21
          have H1 : (spec_l3Shift.j1 kj3 a1 a2 a0_0 a0_1 l0_2 a0_0 (wrap64 (a0_1 + a1))) = some (r1, r2, r3) := by rw [if_pos rfl] at H; exact H
          clear H
          have H := H1
          clear H1
          have H' := ab_ H
          clear H
          have hnb22 := NB312_310.out
          have hnc22 := NB310_312.out
          have hnb23 := NB312_311.out
          have hnc23 := NB311_312.out
          have hcz24_0 : wc.cell? ⟨gb312, 0, none⟩ = some (.int .i64 a0_0) := (an_ BK312.out 0).trans rfl
          have hcz24_1 : wc.cell? ⟨gb312, 1, none⟩ = some (.int .i64 a0_1) := (an_ BK312.out 1).trans rfl
          have hcz24_2 : wc.cell? ⟨gb312, 2, none⟩ = some (.slice none 0 0) := (an_ BK312.out 2).trans rfl
          have hfz24_0 := am_ BK312.out 0
          have hfz24_1 := am_ BK312.out 1
          have hfz24_2 := am_ BK312.out 2
          go_wp2
          go_meet
          case rel => exact ⟨_, (wrap64 (a0_1 + a1)), H', ⟨by have := HJ3.out; first | omega | exact Nat.le_refl _⟩, ⟨by (with_reducible repeat (first | refine ac_ ?_ _ | refine ae_ ?_ | refine ad_ ?_ _)); refine blk_far ?_ NB310_312.out _; (with_reducible repeat (first | refine ac_ ?_ _ | refine ae_ ?_ | refine ad_ ?_ _)); exact BK310.out⟩, ⟨by (with_reducible repeat (first | refine ac_ ?_ _ | refine ae_ ?_ | refine ad_ ?_ _)); refine blk_far ?_ NB311_312.out _; (with_reducible repeat (first | refine ac_ ?_ _ | refine ae_ ?_ | refine ad_ ?_ _)); exact BK311.out⟩, ⟨by (with_reducible repeat (first | refine ac_ ?_ _ | refine ae_ ?_ | refine ad_ ?_ _)); refine blk_put (cs := #[.int .i64 a0_0, .int .i64 a0_1, .slice none 0 0]) ?_ 1 _ rfl; (with_reducible repeat (first | refine ac_ ?_ _ | refine ae_ ?_ | refine ad_ ?_ _)); exact BK312.out⟩, ⟨by repeat (first | (with_reducible first | exact HB.out | apply ai_ | apply ag_ | apply ah_ | refine af_ ?_ GE310.out | refine af_ ?_ GE311.out | refine af_ ?_ GE312.out) | exact HB.out)⟩⟩
        · replace c21 := Bool.eq_false_iff.mpr c21
          subst c21
          have H1 : (spec_l3Shift.j1 kj3 a1 a2 a0_0 a0_1 l0_2 a0_0 a0_1) = some (r1, r2, r3) := by rw [if_neg (show ¬ (false = true) by decide)] at H; exact H
          clear H
          have H := H1
          clear H1
          have H' := ab_ H
          clear H
          go_wp2
          go_meet
          case rel => exact ⟨_, (a0_1), H', ⟨by have := HJ3.out; first | omega | exact Nat.le_refl _⟩, ⟨by (with_reducible repeat (first | refine ac_ ?_ _ | refine ae_ ?_ | refine ad_ ?_ _)); exact BK310.out⟩, ⟨by (with_reducible repeat (first | refine ac_ ?_ _ | refine ae_ ?_ | refine ad_ ?_ _)); exact BK311.out⟩, ⟨by (with_reducible repeat (first | refine ac_ ?_ _ | refine ae_ ?_ | refine ad_ ?_ _)); exact BK312.out⟩, ⟨by repeat (first | (with_reducible first | exact HB.out | apply ai_ | apply ag_ | apply ah_ | refine af_ ?_ GE310.out | refine af_ ?_ GE311.out | refine af_ ?_ GE312.out) | exact HB.out)⟩⟩
      case rest =>
        clear HC20
        try clear c1
        try clear c2
        try clear p2
        try clear p6
        try clear c7
        try clear c10
        try clear c11
        try clear c12
        try clear c13
        try clear c13b0
        try clear c13b1
        try clear c14
        try clear c15
        try clear c17
        try clear c18
        try clear c21
        try clear c22
        try clear c23
        try clear hcz12_0
        try clear hcz12_1
        try clear hcz12_2
        try clear hcz16_0
        try clear hcz16_1
        try clear hcz16_2
        try clear hcz19_0
        try clear hcz19_1
        try clear hcz19_2
        try clear hcz24_0
        try clear hcz24_1
        try clear hcz24_2
        try clear hcz8_0
        try clear hcz8_1
        try clear hcz8_2
        try clear hfz12_0
        try clear hfz12_1
        try clear hfz12_2
        try clear hfz16_0
        try clear hfz16_1
        try clear hfz16_2
        try clear hfz19_0
        try clear hfz19_1
        try clear hfz19_2
        try clear hfz24_0
        try clear hfz24_1
        try clear hfz24_2
        try clear hfz8_0
        try clear hfz8_1
        try clear hfz8_2
        try clear p2
        obtain ⟨kq, x313001_19, HA, HJ19, BK310, BK311, BK312, HB⟩ := hcut
        cases kq with
        | zero => exact absurd HA.out (by simp [spec_l3Shift.j1])
        | succ kj19 =>
          have H := HA.out
          clear HA
          simp only [spec_l3Shift.j1] at H
          have H' := ab_ H
          clear H
          have hnb25 := NB310_311.out
          have hnc25 := NB311_310.out
          have hnb26 := NB310_312.out
          have hnc26 := NB312_310.out
          have hcz27_0 : wc.cell? ⟨gb310, 0, none⟩ = some (.int .i64 a0_0) := (an_ BK310.out 0).trans rfl
          have hcz27_1 : wc.cell? ⟨gb310, 1, none⟩ = some (.int .i64 a0_1) := (an_ BK310.out 1).trans rfl
          have hcz27_2 : wc.cell? ⟨gb310, 2, none⟩ = some (.slice A0_2 l0_2.length c0_2) := (an_ BK310.out 2).trans rfl
          have hfz27_0 := am_ BK310.out 0
          have hfz27_1 := am_ BK310.out 1
          have hfz27_2 := am_ BK310.out 2
          go_wp2
          go_loopg [32] kj19 (fun kq v32 w' => ∃ (x32_3 : Int) (x313002_3 : List (S62)) (u313002 : Value), v32 = .int .i64 x32_3 ∧ Aside0 (spec_l3Shift.l0 kq a1 a2 l0_2 (l0_2.length : Int) x32_3 a0_0 a0_1 l0_2 a0_0 x313001_19 x313002_3 = some (r1, r2, r3)) ∧ Aside0 (kq ≤ kj19) ∧ Aside0 (Kd.R k62 62 w' w.heap.size (fun k_ => k_ ≠ gb310 ∧ k_ ≠ gb311 ∧ k_ ≠ gb312) u313002 x313002_3) ∧ Aside0 (w'.heap[gb310]? = some (.cells #[.int .i64 a0_0, .int .i64 a0_1, (.slice A0_2 l0_2.length c0_2)] 62 (0, 0))) ∧ Aside0 (w'.heap[gb311]? = some (.cells #[.int .i64 0, .int .i64 0, (.slice none 0 0)] 62 (0, 0))) ∧ Aside0 (w'.heap[gb312]? = some (.cells #[.int .i64 a0_0, .int .i64 x313001_19, u313002] 62 (0, 0))) ∧ Aside0 (Below w.heap.size w w'))
          case atStart => exact ⟨(0), (([] : List (S62))), (.slice none 0 0), (by first | rfl | (simp; done) | (simp [*]; done)), H', ⟨Nat.le_refl _⟩, ⟨by first | exact Kd.R_nil _ _ _ _ _ | exact Kd.N_nil _ _ _ _ _ | exact Kd.V_nil _ _ _ _ _ | exact Kd.Q_nil _ _ _ _ _ | exact Kd.S_nil _ _ _ _ _⟩, ⟨by (with_reducible repeat (first | refine ac_ ?_ _ | refine ae_ ?_ | refine ad_ ?_ _)); exact BK310.out⟩, ⟨by (with_reducible repeat (first | refine ac_ ?_ _ | refine ae_ ?_ | refine ad_ ?_ _)); exact BK311.out⟩, ⟨by (with_reducible repeat (first | refine ac_ ?_ _ | refine ae_ ?_ | refine ad_ ?_ _)); exact BK312.out⟩, ⟨by repeat (first | (with_reducible first | exact HB.out | apply ai_ | apply ag_ | apply ah_ | refine af_ ?_ GE310.out | refine af_ ?_ GE311.out | refine af_ ?_ GE312.out) | exact HB.out)⟩⟩
          case round =>
            clear H'
            try clear c1
            try clear c2
            try clear p2
            try clear p6
            try clear c7
            try clear c10
            try clear c11
            try clear c12
            try clear c13
            try clear c13b0
            try clear c13b1
            try clear c14
            try clear c15
            try clear c17
            try clear c18
            try clear c21
            try clear c22
            try clear c23
            try clear c25
            try clear c26
            try clear hcz12_0
            try clear hcz12_1
            try clear hcz12_2
            try clear hcz16_0
            try clear hcz16_1
            try clear hcz16_2
            try clear hcz19_0
            try clear hcz19_1
            try clear hcz19_2
            try clear hcz24_0
            try clear hcz24_1
            try clear hcz24_2
            try clear hcz27_0
            try clear hcz27_1
            try clear hcz27_2
            try clear hcz8_0
            try clear hcz8_1
            try clear hcz8_2
            try clear hfz12_0
            try clear hfz12_1
            try clear hfz12_2
            try clear hfz16_0
            try clear hfz16_1
            try clear hfz16_2
            try clear hfz19_0
            try clear hfz19_1
            try clear hfz19_2
            try clear hfz24_0
            try clear hfz24_1
            try clear hfz24_2
            try clear hfz27_0
            try clear hfz27_1
            try clear hfz27_2
            try clear hfz8_0
            try clear hfz8_1
            try clear hfz8_2
            try clear p2
            try clear p6
            obtain ⟨x32_3, x313002_3, u313002, rfl, HA, HK3, HO_313002, BK310, BK311, BK312, HB⟩ := hrel
            cases gk with
            | zero => exact absurd HA.out (by simp [spec_l3Shift.l0])
            | succ k3 =>
              have H := HA.out
              clear HA
              simp only [spec_l3Shift.l0] at H
              by_cases c28 : x32_3 < (l0_2.length : Int)
              · rw [if_pos c28] at H
                have c28b0 : decide (x32_3 < (l0_2.length : Int)) = true := ao_ c28
                clear c28
                by_cases c29 : 0 ≤ x32_3
                · rw [if_pos c29] at H
                  have c29b0 : decide (0 ≤ x32_3) = true := ao_ c29
                  clear c29
                  by_cases c30 : x32_3 < (l0_2.length : Int)
                  · rw [if_pos c30] at H
                    have c30b0 : decide (x32_3 < (l0_2.length : Int)) = true := ao_ c30
                    clear c30
                    replace H := Option.bind_eq_some_iff.mp H
                    obtain ⟨t315, A310, H⟩ := H
                    replace H : ((spec_l3Shift.f k3 ((rd_T62 l0_2 x32_3).f0) ((rd_T62 l0_2 x32_3).f1) ((rd_T62 l0_2 x32_3).f2) a1 (wrap64 (a2 + t315))).bind fun bt316 => (if x313002_3.length < 3518437208883 then (spec_l3Shift.l0 k3 a1 a2 l0_2 (l0_2.length : Int) (wrap64 (x32_3 + 1)) a0_0 a0_1 l0_2 a0_0 x313001_19 (x313002_3 ++ [(⟨bt316.1, bt316.2.1, bt316.2.2⟩ : S62)])) else (none))) = some (r1, r2, r3) := H
                    have A31 := ab_ A310
                    clear A310
                    replace H := Option.bind_eq_some_iff.mp H
                    obtain ⟨⟨t316, t317, t318⟩, A320, H⟩ := H
                    replace H : (if x313002_3.length < 3518437208883 then (spec_l3Shift.l0 k3 a1 a2 l0_2 (l0_2.length : Int) (wrap64 (x32_3 + 1)) a0_0 a0_1 l0_2 a0_0 x313001_19 (x313002_3 ++ [(⟨t316, t317, t318⟩ : S62)])) else (none)) = some (r1, r2, r3) := H
                    have A32 := ab_ A320
                    clear A320
                    by_cases c33 : x313002_3.length < 3518437208883
                    · rw [if_pos c33] at H
                      have LMc33 := ab_ c33
                      clear c33
                      obtain ⟨y321, hy321⟩ : ∃ y_ : List (S62), y_ = (x313002_3 ++ [(⟨t316, t317, t318⟩ : S62)]) := ⟨_, rfl⟩
                      replace H : (spec_l3Shift.l0 k3 a1 a2 l0_2 (l0_2.length : Int) (wrap64 (x32_3 + 1)) a0_0 a0_1 l0_2 a0_0 x313001_19 y321) = some (r1, r2, r3) := by first | (rw [hy321]; with_reducible exact H) | (have H2_ := (Option.bind_some _ _).symm.trans H; rw [hy321]; with_reducible exact H2_) | (have H2_ := (Option.bind_some _ _).symm.trans H; with_reducible exact H2_) | with_reducible exact H | (rw [hy321]; exact H) | exact H
                      have Ny321 := ab_ hy321
                      clear hy321
                      have H' := ab_ H
                      clear H
                      have p313 : 0 ≤ (x32_3 : Int) := of_decide_eq_true (by first | (with_reducible assumption) | assumption)
                      have q313 : x32_3 < (l0_2.length : Int) := of_decide_eq_true (by first | (with_reducible assumption) | assumption)
                      obtain ⟨ad313, A313_2, c313_2, e313, hx313_0, hx313_1, hx313_2, hl313_2, hi313_2⟩ := at_T62 HR0_2.out x32_3 p313 q313
                      cases e313
                      replace hx313_0 := (HB.out.cell (aa_ w _ hx313_0)).trans hx313_0
                      replace hx313_1 := (HB.out.cell (aa_ w _ hx313_1)).trans hx313_1
                      replace hx313_2 := (HB.out.cell (aa_ w _ hx313_2)).trans hx313_2
                      have HR313_2 := ab_ hi313_2
                      have HC313_2 := ab_ hl313_2
                      clear hi313_2 hl313_2
                      replace p313 := eq_true p313
                      replace q313 := eq_true q313
                      try go_wp2_with (first | ((with_reducible refine gate_dst (N := 9) rfl ?_); refine box_event ?hg (N := 9) ?hd (cs := #[.int .i64 0, .int .i64 0, .slice none 0 0]) (t := 62) ?hr ?_; (case hd => rfl); (case hg => rfl); (case hr => first | (go_simp; done) | (go_simp; rfl)); intro gb314 hg w34 hbox hb; have n0_ := ab_ (Kd.R_below (Kd.R_elderB (by (with_reducible repeat (first | apply Kd.R_alloc | apply Kd.R_drewN | apply Kd.R_drew)); exact HO_313002.out) gb314 (Nat.le_of_eq hg.symm)) hb); have n1_ := ab_ (blk_below (g := gb310) (o := .cells #[.int .i64 a0_0, .int .i64 a0_1, .slice (some ad313) l0_2.length c0_2] 62 (0, 0)) (by (with_reducible repeat (first | refine ac_ ?_ _ | refine ae_ ?_ | refine ad_ ?_ _)); exact BK310.out) hb); have n2_ := ab_ (blk_below (g := gb311) (o := .cells #[.int .i64 0, .int .i64 0, .slice none 0 0] 62 (0, 0)) (by (with_reducible repeat (first | refine ac_ ?_ _ | refine ae_ ?_ | refine ad_ ?_ _)); exact BK311.out) hb); have n3_ := ab_ (blk_below (g := gb312) (o := .cells #[.int .i64 a0_0, .int .i64 x313001_19, u313002] 62 (0, 0)) (by (with_reducible repeat (first | refine ac_ ?_ _ | refine ae_ ?_ | refine ad_ ?_ _)); exact BK312.out) hb); have n4_ := ab_ (ap_ (by repeat (first | (with_reducible first | exact HB.out | apply ai_ | apply ag_ | apply ah_ | refine af_ ?_ GE310.out | refine af_ ?_ GE311.out | refine af_ ?_ GE312.out) | exact HB.out)) hb); have n5_ := ab_ (hbox); have n6_ := ab_ ((by rw [hg]; exact (below_size (by repeat (first | (with_reducible first | exact HB.out | apply ai_ | apply ag_ | apply ah_ | refine af_ ?_ GE310.out | refine af_ ?_ GE311.out | refine af_ ?_ GE312.out) | exact HB.out))) : w.heap.size ≤ gb314)); have n7_ := ab_ ((by rw [hg]; exact (below_size (by repeat (first | (with_reducible first | exact HB.out | apply ai_ | apply ag_ | apply ah_ | refine af_ ?_ GE310.out | refine af_ ?_ GE311.out | refine af_ ?_ GE312.out) | exact HB.out))) : w.heap.size ≤ gb314)); have n8_ := ab_ ((by rw [hg]; exact ak_ (blk_lt (g := gb310) (o := .cells #[.int .i64 a0_0, .int .i64 a0_1, .slice (some ad313) l0_2.length c0_2] 62 (0, 0)) (by (with_reducible repeat (first | refine ac_ ?_ _ | refine ae_ ?_ | refine ad_ ?_ _)); exact BK310.out)) : gb310 ≠ gb314)); have n9_ := ab_ ((by rw [hg]; exact Nat.ne_of_gt (blk_lt (g := gb310) (o := .cells #[.int .i64 a0_0, .int .i64 a0_1, .slice (some ad313) l0_2.length c0_2] 62 (0, 0)) (by (with_reducible repeat (first | refine ac_ ?_ _ | refine ae_ ?_ | refine ad_ ?_ _)); exact BK310.out)) : gb314 ≠ gb310)); have n10_ := ab_ ((by rw [hg]; exact ak_ (blk_lt (g := gb311) (o := .cells #[.int .i64 0, .int .i64 0, .slice none 0 0] 62 (0, 0)) (by (with_reducible repeat (first | refine ac_ ?_ _ | refine ae_ ?_ | refine ad_ ?_ _)); exact BK311.out)) : gb311 ≠ gb314)); have n11_ := ab_ ((by rw [hg]; exact Nat.ne_of_gt (blk_lt (g := gb311) (o := .cells #[.int .i64 0, .int .i64 0, .slice none 0 0] 62 (0, 0)) (by (with_reducible repeat (first | refine ac_ ?_ _ | refine ae_ ?_ | refine ad_ ?_ _)); exact BK311.out)) : gb314 ≠ gb311)); have n12_ := ab_ ((by rw [hg]; exact ak_ (blk_lt (g := gb312) (o := .cells #[.int .i64 a0_0, .int .i64 x313001_19, u313002] 62 (0, 0)) (by (with_reducible repeat (first | refine ac_ ?_ _ | refine ae_ ?_ | refine ad_ ?_ _)); exact BK312.out)) : gb312 ≠ gb314)); have n13_ := ab_ ((by rw [hg]; exact Nat.ne_of_gt (blk_lt (g := gb312) (o := .cells #[.int .i64 a0_0, .int .i64 x313001_19, u313002] 62 (0, 0)) (by (with_reducible repeat (first | refine ac_ ?_ _ | refine ae_ ?_ | refine ad_ ?_ _)); exact BK312.out)) : gb314 ≠ gb312)); clear HO_313002; clear BK310; clear BK311; clear BK312; clear HB; have HO_313002 := n0_; have BK310 := n1_; have BK311 := n2_; have BK312 := n3_; have HB := n4_; have BK314 := n5_; have GW314 := n6_; have GE314 := n7_; have NB310_314 := n8_; have NB314_310 := n9_; have NB311_314 := n10_; have NB314_311 := n11_; have NB312_314 := n12_; have NB314_312 := n13_; clear n0_ n1_ n2_ n3_ n4_ n5_ n6_ n7_ n8_ n9_ n10_ n11_ n12_ n13_; clear hb hbox hg; have hnb35 := NB314_310.out; have hnc35 := NB310_314.out; have hnb36 := NB314_311.out; have hnc36 := NB311_314.out; have hnb37 := NB314_312.out; have hnc37 := NB312_314.out; have hcz38_0 : w34.cell? ⟨gb314, 0, none⟩ = some (.int .i64 0) := (an_ BK314.out 0).trans rfl; have hcz38_1 : w34.cell? ⟨gb314, 1, none⟩ = some (.int .i64 0) := (an_ BK314.out 1).trans rfl; have hcz38_2 : w34.cell? ⟨gb314, 2, none⟩ = some (.slice none 0 0) := (an_ BK314.out 2).trans rfl; have hfz38_0 := am_ BK314.out 0; have hfz38_1 := am_ BK314.out 1; have hfz38_2 := am_ BK314.out 2))
                      have n0_ : Aside0 (Kd.R k62 62 (((w34.setCell ⟨gb314, 0, none⟩ (.int .i64 ((rd_T62 l0_2 x32_3).f0))).setCell ⟨gb314, 1, none⟩ (.int .i64 ((rd_T62 l0_2 x32_3).f1))).setCell ⟨gb314, 2, none⟩ (.slice A313_2 ((rd_T62 l0_2 x32_3).f2).length c313_2)) w.heap.size (fun k_ => k_ ≠ gb310 ∧ k_ ≠ gb311 ∧ k_ ≠ gb312 ∧ k_ ≠ gb314) u313002 x313002_3) := ⟨by (with_reducible repeat (first | apply Kd.R_alloc | apply Kd.R_drewN | apply Kd.R_drew)); exact Kd.R_mono (Kd.R_far (p := ⟨gb314, 2, none⟩) (Kd.R_far (p := ⟨gb314, 1, none⟩) (Kd.R_far (p := ⟨gb314, 0, none⟩) (Kd.R_mono HO_313002.out (fun k_ hk => (⟨hk, hk.2⟩ : _ ∧ k_ ≠ gb314))) (fun _ hk => hk.2) (.int .i64 ((rd_T62 l0_2 x32_3).f0))) (fun _ hk => hk.2) (.int .i64 ((rd_T62 l0_2 x32_3).f1))) (fun _ hk => hk.2) (.slice A313_2 ((rd_T62 l0_2 x32_3).f2).length c313_2)) (fun _ hk => ⟨hk.1.1.1, ⟨hk.1.1.2.1, ⟨hk.1.1.2.2, hk.1.2⟩⟩⟩)⟩
                      have n1_ : Aside0 ((((w34.setCell ⟨gb314, 0, none⟩ (.int .i64 ((rd_T62 l0_2 x32_3).f0))).setCell ⟨gb314, 1, none⟩ (.int .i64 ((rd_T62 l0_2 x32_3).f1))).setCell ⟨gb314, 2, none⟩ (.slice A313_2 ((rd_T62 l0_2 x32_3).f2).length c313_2)).heap[gb310]? = some (.cells #[.int .i64 a0_0, .int .i64 a0_1, .slice (some ad313) l0_2.length c0_2] 62 (0, 0))) := ⟨by (with_reducible repeat (first | refine ac_ ?_ _ | refine ae_ ?_ | refine ad_ ?_ _)); refine blk_far ?_ NB310_314.out _; (with_reducible repeat (first | refine ac_ ?_ _ | refine ae_ ?_ | refine ad_ ?_ _)); refine blk_far ?_ NB310_314.out _; (with_reducible repeat (first | refine ac_ ?_ _ | refine ae_ ?_ | refine ad_ ?_ _)); refine blk_far ?_ NB310_314.out _; (with_reducible repeat (first | refine ac_ ?_ _ | refine ae_ ?_ | refine ad_ ?_ _)); exact BK310.out⟩
                      have n2_ : Aside0 ((((w34.setCell ⟨gb314, 0, none⟩ (.int .i64 ((rd_T62 l0_2 x32_3).f0))).setCell ⟨gb314, 1, none⟩ (.int .i64 ((rd_T62 l0_2 x32_3).f1))).setCell ⟨gb314, 2, none⟩ (.slice A313_2 ((rd_T62 l0_2 x32_3).f2).length c313_2)).heap[gb311]? = some (.cells #[.int .i64 0, .int .i64 0, .slice none 0 0] 62 (0, 0))) := ⟨by (with_reducible repeat (first | refine ac_ ?_ _ | refine ae_ ?_ | refine ad_ ?_ _)); refine blk_far ?_ NB311_314.out _; (with_reducible repeat (first | refine ac_ ?_ _ | refine ae_ ?_ | refine ad_ ?_ _)); refine blk_far ?_ NB311_314.out _; (with_reducible repeat (first | refine ac_ ?_ _ | refine ae_ ?_ | refine ad_ ?_ _)); refine blk_far ?_ NB311_314.out _; (with_reducible repeat (first | refine ac_ ?_ _ | refine ae_ ?_ | refine ad_ ?_ _)); exact BK311.out⟩
                      have n3_ : Aside0 ((((w34.setCell ⟨gb314, 0, none⟩ (.int .i64 ((rd_T62 l0_2 x32_3).f0))).setCell ⟨gb314, 1, none⟩ (.int .i64 ((rd_T62 l0_2 x32_3).f1))).setCell ⟨gb314, 2, none⟩ (.slice A313_2 ((rd_T62 l0_2 x32_3).f2).length c313_2)).heap[gb312]? = some (.cells #[.int .i64 a0_0, .int .i64 x313001_19, u313002] 62 (0, 0))) := ⟨by (with_reducible repeat (first | refine ac_ ?_ _ | refine ae_ ?_ | refine ad_ ?_ _)); refine blk_far ?_ NB312_314.out _; (with_reducible repeat (first | refine ac_ ?_ _ | refine ae_ ?_ | refine ad_ ?_ _)); refine blk_far ?_ NB312_314.out _; (with_reducible repeat (first | refine ac_ ?_ _ | refine ae_ ?_ | refine ad_ ?_ _)); refine blk_far ?_ NB312_314.out _; (with_reducible repeat (first | refine ac_ ?_ _ | refine ae_ ?_ | refine ad_ ?_ _)); exact BK312.out⟩
                      have n4_ : Aside0 ((((w34.setCell ⟨gb314, 0, none⟩ (.int .i64 ((rd_T62 l0_2 x32_3).f0))).setCell ⟨gb314, 1, none⟩ (.int .i64 ((rd_T62 l0_2 x32_3).f1))).setCell ⟨gb314, 2, none⟩ (.slice A313_2 ((rd_T62 l0_2 x32_3).f2).length c313_2)).heap[gb314]? = some (.cells #[.int .i64 ((rd_T62 l0_2 x32_3).f0), .int .i64 ((rd_T62 l0_2 x32_3).f1), .slice A313_2 ((rd_T62 l0_2 x32_3).f2).length c313_2] 62 (0, 0))) := ⟨by (with_reducible repeat (first | refine ac_ ?_ _ | refine ae_ ?_ | refine ad_ ?_ _)); refine blk_put (cs := #[.int .i64 ((rd_T62 l0_2 x32_3).f0), .int .i64 ((rd_T62 l0_2 x32_3).f1), .slice none 0 0]) ?_ 2 _ rfl; (with_reducible repeat (first | refine ac_ ?_ _ | refine ae_ ?_ | refine ad_ ?_ _)); refine blk_put (cs := #[.int .i64 ((rd_T62 l0_2 x32_3).f0), .int .i64 0, .slice none 0 0]) ?_ 1 _ rfl; (with_reducible repeat (first | refine ac_ ?_ _ | refine ae_ ?_ | refine ad_ ?_ _)); refine blk_put (cs := #[.int .i64 0, .int .i64 0, .slice none 0 0]) ?_ 0 _ rfl; (with_reducible repeat (first | refine ac_ ?_ _ | refine ae_ ?_ | refine ad_ ?_ _)); exact BK314.out⟩
                      have n5_ : Aside0 (Below w.heap.size w (((w34.setCell ⟨gb314, 0, none⟩ (.int .i64 ((rd_T62 l0_2 x32_3).f0))).setCell ⟨gb314, 1, none⟩ (.int .i64 ((rd_T62 l0_2 x32_3).f1))).setCell ⟨gb314, 2, none⟩ (.slice A313_2 ((rd_T62 l0_2 x32_3).f2).length c313_2))) := ⟨by repeat (first | (with_reducible first | exact HB.out | apply ai_ | apply ag_ | apply ah_ | refine af_ ?_ GE310.out | refine af_ ?_ GE311.out | refine af_ ?_ GE312.out | refine af_ ?_ GE314.out) | exact HB.out)⟩
                      (try clear HO_313002)
                      (try clear BK310)
                      (try clear BK311)
                      (try clear BK312)
                      (try clear BK314)
                      (try clear HB)
                      generalize (((w34.setCell ⟨gb314, 0, none⟩ (.int .i64 ((rd_T62 l0_2 x32_3).f0))).setCell ⟨gb314, 1, none⟩ (.int .i64 ((rd_T62 l0_2 x32_3).f1))).setCell ⟨gb314, 2, none⟩ (.slice A313_2 ((rd_T62 l0_2 x32_3).f2).length c313_2)) = w39 at n0_ n1_ n2_ n3_ n4_ n5_ ⊢
                      have HO_313002 := n0_
                      have BK310 := n1_
                      have BK311 := n2_
                      have BK312 := n3_
                      have BK314 := n4_
                      have HB := n5_
                      clear n0_ n1_ n2_ n3_ n4_ n5_
                      have n0_ := ab_ (Kd.R_drew HO_313002.out)
                      have n1_ := ab_ (ae_ BK310.out)
                      have n2_ := ab_ (ae_ BK311.out)
                      have n3_ := ab_ (ae_ BK312.out)
                      have n4_ := ab_ (ae_ BK314.out)
                      have n5_ := ab_ (ah_ HB.out)
                      clear HO_313002
                      clear BK310
                      clear BK311
                      clear BK312
                      clear BK314
                      clear HB
                      have HO_313002 := n0_
                      have BK310 := n1_
                      have BK311 := n2_
                      have BK312 := n3_
                      have BK314 := n4_
                      have HB := n5_
                      clear n0_ n1_ n2_ n3_ n4_ n5_
                      refine start_ (n := 15) (S := fun w' => w'.cell? ⟨gb312, 0, none⟩ = some (.int .i64 a0_0) ∧ w'.cell? ⟨gb312, 1, none⟩ = some (.int .i64 x313001_19) ∧ w'.cell? ⟨gb312, 2, none⟩ = some (u313002) ∧ w'.cell? ⟨gb314, 0, none⟩ = some (.int .i64 ((rd_T62 l0_2 x32_3).f0)) ∧ w'.cell? ⟨gb314, 1, none⟩ = some (.int .i64 ((rd_T62 l0_2 x32_3).f1)) ∧ w'.cell? ⟨gb314, 2, none⟩ = some (.slice A313_2 ((rd_T62 l0_2 x32_3).f2).length c313_2) ∧ w'.cell? ⟨gb310, 0, none⟩ = some (.int .i64 a0_0) ∧ w'.cell? ⟨gb310, 1, none⟩ = some (.int .i64 a0_1) ∧ w'.cell? ⟨gb310, 2, none⟩ = some (.slice (some ad313) l0_2.length c0_2)) (ds := [14]) #[false, false, false, false, false, false, false, false, false, false, false, false, false, false, false] (by kernel_rfl) rfl rfl ⟨(an_ BK312.out 0).trans rfl, (an_ BK312.out 1).trans rfl, (an_ BK312.out 2).trans rfl, (an_ BK314.out 0).trans rfl, (an_ BK314.out 1).trans rfl, (an_ BK314.out 2).trans rfl, (an_ BK310.out 0).trans rfl, (an_ BK310.out 1).trans rfl, (an_ BK310.out 2).trans rfl⟩ (fun hHeld => ?_); refine with_tabW spec_l3Shift.tab7 spec_l3Shift.bits7 (fun HT_ HW_ => ?_)
                      generalize w39.drew = w40 at HO_313002 BK310 BK311 BK312 BK314 HB hHeld ⊢
                      refine pure_ (i := 0) (N := some 37) (v := ?_) (a' := ?_) #[true, false, false, false, false, false, false, false, false, false, false, false, false, false, false] rfl rfl (any_of HT_.out (by kernel_rfl)) (fun _ _ _ h => h) (Or.inl ⟨by rfl, ?_⟩) ?_ ?_
                      rotate_left
                      · intro w'
                        go_simp
                        with_reducible rfl
                      rotate_left
                      · simp only [Act.put, List.setIfInBounds_toArray, List.set_cons_zero, List.set_cons_succ, i64_w, i32_w]
                        rfl
                      refine pure_ (i := 3) (N := some 40) (v := ?_) (a' := ?_) #[true, false, false, true, false, false, false, false, false, false, false, false, false, false, false] rfl rfl (any_of HT_.out (by kernel_rfl)) (fun _ _ _ h => h) (Or.inl ⟨by rfl, ?_⟩) ?_ ?_
                      rotate_left
                      · intro w'
                        go_simp
                        with_reducible rfl
                      rotate_left
                      · simp only [Act.put, List.setIfInBounds_toArray, List.set_cons_zero, List.set_cons_succ, i64_w, i32_w]
                        rfl
                      refine pure_ (i := 4) (N := some 41) (v := ?_) (a' := ?_) #[true, false, false, true, true, false, false, false, false, false, false, false, false, false, false] rfl rfl (any_of HT_.out (by kernel_rfl)) (fun _ _ _ h => h) (Or.inl ⟨by rfl, ?_⟩) ?_ ?_
                      rotate_left
                      · intro w'
                        go_simp
                        with_reducible rfl
                      rotate_left
                      · simp only [Act.put, List.setIfInBounds_toArray, List.set_cons_zero, List.set_cons_succ, i64_w, i32_w]
                        rfl
                      refine pure_ (i := 5) (N := some 42) (v := ?_) (a' := ?_) #[true, false, false, true, true, true, false, false, false, false, false, false, false, false, false] rfl rfl (any_of HT_.out (by kernel_rfl)) (fun _ _ _ h => h) (Or.inl ⟨by rfl, ?_⟩) ?_ ?_
                      rotate_left
                      · intro w'
                        go_simp
                        with_reducible rfl
                      rotate_left
                      · simp only [Act.put, List.setIfInBounds_toArray, List.set_cons_zero, List.set_cons_succ, i64_w, i32_w]
                        rfl
                      refine pure_ (i := 7) (N := some 44) (v := ?_) (a' := ?_) #[true, false, false, true, true, true, false, true, false, false, false, false, false, false, false] rfl rfl (any_of HT_.out (by kernel_rfl)) (fun _ _ _ h => h) (Or.inl ⟨by rfl, ?_⟩) ?_ ?_
                      rotate_left
                      · intro w'
                        go_simp
                        with_reducible rfl
                      rotate_left
                      · simp only [Act.put, List.setIfInBounds_toArray, List.set_cons_zero, List.set_cons_succ, i64_w, i32_w]
                        rfl
                      refine take_ (i := 1) (N := some 38) (v := ?_) (a' := ?_) #[true, true, false, true, true, true, false, true, false, false, false, false, false, false, false] rfl rfl (take_ofW HT_.out HW_.out (by kernel_rfl)) (fun _ _ _ h => h) (Or.inl ⟨by rfl, ?_⟩) hHeld ?_ ?_
                      rotate_left
                      · rintro w' ⟨s0, s1, s2, s3, s4, s5, s6, s7, s8⟩
                        go_simp
                        with_reducible rfl
                      rotate_left
                      · simp only [Act.put, List.setIfInBounds_toArray, List.set_cons_zero, List.set_cons_succ, i64_w, i32_w]
                        rfl
                      refine take_ (i := 2) (N := some 39) (v := ?_) (a' := ?_) #[true, true, true, true, true, true, false, true, false, false, false, false, false, false, false] rfl rfl (take_ofW HT_.out HW_.out (by kernel_rfl)) (fun _ _ _ h => h) (Or.inl ⟨by rfl, ?_⟩) hHeld ?_ ?_
                      rotate_left
                      · rintro w' ⟨s0, s1, s2, s3, s4, s5, s6, s7, s8⟩
                        go_simp
                        with_reducible rfl
                      rotate_left
                      · simp only [Act.put, List.setIfInBounds_toArray, List.set_cons_zero, List.set_cons_succ, i64_w, i32_w]
                        rfl
                      refine take_ (i := 6) (N := some 43) (v := ?_) (a' := ?_) #[true, true, true, true, true, true, true, true, false, false, false, false, false, false, false] rfl rfl (take_ofW HT_.out HW_.out (by kernel_rfl)) (fun _ _ _ h => h) (Or.inl ⟨by rfl, ?_⟩) hHeld ?_ ?_
                      rotate_left
                      · rintro w' ⟨s0, s1, s2, s3, s4, s5, s6, s7, s8⟩
                        go_simp
                        with_reducible rfl
                      rotate_left
                      · simp only [Act.put, List.setIfInBounds_toArray, List.set_cons_zero, List.set_cons_succ, i64_w, i32_w]
                        rfl
                      refine one_ (i := 8) (N := some 45) #[true, true, true, true, true, true, true, true, true, false, false, false, false, false, false] rfl rfl (one_of HT_.out (by kernel_rfl)) (by decide) (fun K hK => ?_)
                      refine goes_ Try.func118 (by kernel_rfl) rfl #[.int .i64 a0_0, .int .i64 x32_3] (by rfl) rfl rfl (by (try simp only [List.map_toArray, List.map_cons, List.map_nil]); first | done | rfl | (simp only [List.length_drop, List.length_take]; rfl)) ?_
                      with_reducible refine (spec_l3Binds.calls a0_0 x32_3 t315 _ A31.out).mono ?_
                      rintro e w' ⟨rfl, ⟨nd, rfl⟩⟩
                      refine ⟨_, rfl, ?_⟩
                      refine hK.out _ _ ⟨(an_ BK312.out 0).trans rfl, (an_ BK312.out 1).trans rfl, (an_ BK312.out 2).trans rfl, (an_ BK314.out 0).trans rfl, (an_ BK314.out 1).trans rfl, (an_ BK314.out 2).trans rfl, (an_ BK310.out 0).trans rfl, (an_ BK310.out 1).trans rfl, (an_ BK310.out 2).trans rfl⟩ (fun hHeld => ?_)
                      clear hK K
                      refine norm_ (a' := ?_) ?_ ?_
                      rotate_left
                      · show Act.put _ (some 45) _ = _
                        simp only [Act.put, List.setIfInBounds_toArray, List.set_cons_zero, List.set_cons_succ, i64_w, i32_w]
                        rfl
                      refine pure_ (i := 9) (N := some 46) (v := ?_) (a' := ?_) #[true, true, true, true, true, true, true, true, true, true, false, false, false, false, false] rfl rfl (any_of HT_.out (by kernel_rfl)) (fun _ _ _ h => h) (Or.inl ⟨by rfl, ?_⟩) ?_ ?_
                      rotate_left
                      · intro w'
                        go_simp
                        with_reducible rfl
                      rotate_left
                      · simp only [Act.put, List.setIfInBounds_toArray, List.set_cons_zero, List.set_cons_succ, i64_w, i32_w]
                        rfl
                      refine one_ (i := 10) (N := some 47) #[true, true, true, true, true, true, true, true, true, true, true, false, false, false, false] rfl rfl (one_of HT_.out (by kernel_rfl)) (by decide) (fun K hK => ?_)
                      refine goes_ Try.func127 (by kernel_rfl) rfl #[.agg #[.int .i64 ((rd_T62 l0_2 x32_3).f0), .int .i64 ((rd_T62 l0_2 x32_3).f1), .slice A313_2 ((rd_T62 l0_2 x32_3).f2).length c313_2], .int .i64 a1, .int .i64 (wrap64 (a2 + t315))] (by rfl) rfl rfl (by (try simp only [List.map_toArray, List.map_cons, List.map_nil]); first | done | rfl | (simp only [List.length_drop, List.length_take]; rfl)) ?_
                      with_reducible refine (ih k3 (by have := HJ3.out; have := HJ19.out; have := HK3.out; omega) ((rd_T62 l0_2 x32_3).f0) ((rd_T62 l0_2 x32_3).f1) _ _ ((rd_T62 l0_2 x32_3).f2) a1 (wrap64 (a2 + t315)) t316 t317 t318 _ ?side1 ?side2 A32.out).mono ?_
                      (case side1 => repeat (first | exact (Kd.C_below HR313_2.out (by repeat (first | (with_reducible first | exact HB.out | apply ai_ | apply ag_ | apply ah_ | refine af_ ?_ GE310.out | refine af_ ?_ GE311.out | refine af_ ?_ GE312.out | refine af_ ?_ GE314.out) | exact HB.out))) | (with_reducible refine Kd.C_alloc ?_ _) | (with_reducible refine Kd.C_drewN ?_ _) | (with_reducible refine Kd.C_drew ?_)))
                      (case side2 => exact HC313_2.out)
                      rintro e w41 ⟨v319, rfl, ho0, hb⟩
                      refine ⟨_, rfl, ?_⟩
                      have n0_ := ab_ (Kd.R_elder' (by (with_reducible repeat (first | apply Kd.R_alloc | apply Kd.R_drewN | apply Kd.R_drew)); exact HO_313002.out) (Kd.R_base ho0) hb)
                      have n1_ := ab_ (Kd.R_lower (Kd.R_newB (Kd.R_newB (Kd.R_newB (Kd.R_newB (Kd.R_new' ho0 (Kd.R_lt (by (with_reducible repeat (first | apply Kd.R_alloc | apply Kd.R_drewN | apply Kd.R_drew)); exact HO_313002.out))) (g := gb310) (o := .cells #[.int .i64 a0_0, .int .i64 a0_1, .slice (some ad313) l0_2.length c0_2] 62 (0, 0)) (by (with_reducible repeat (first | refine ac_ ?_ _ | refine ae_ ?_ | refine ad_ ?_ _)); exact BK310.out)) (g := gb311) (o := .cells #[.int .i64 0, .int .i64 0, .slice none 0 0] 62 (0, 0)) (by (with_reducible repeat (first | refine ac_ ?_ _ | refine ae_ ?_ | refine ad_ ?_ _)); exact BK311.out)) (g := gb312) (o := .cells #[.int .i64 a0_0, .int .i64 x313001_19, u313002] 62 (0, 0)) (by (with_reducible repeat (first | refine ac_ ?_ _ | refine ae_ ?_ | refine ad_ ?_ _)); exact BK312.out)) (g := gb314) (o := .cells #[.int .i64 ((rd_T62 l0_2 x32_3).f0), .int .i64 ((rd_T62 l0_2 x32_3).f1), .slice A313_2 ((rd_T62 l0_2 x32_3).f2).length c313_2] 62 (0, 0)) (by (with_reducible repeat (first | refine ac_ ?_ _ | refine ae_ ?_ | refine ad_ ?_ _)); exact BK314.out)) (below_size (by repeat (first | (with_reducible first | exact HB.out | apply ai_ | apply ag_ | apply ah_ | refine af_ ?_ GE310.out | refine af_ ?_ GE311.out | refine af_ ?_ GE312.out | refine af_ ?_ GE314.out) | exact HB.out))))
                      have n2_ := ab_ (blk_below (g := gb310) (o := .cells #[.int .i64 a0_0, .int .i64 a0_1, .slice (some ad313) l0_2.length c0_2] 62 (0, 0)) (by (with_reducible repeat (first | refine ac_ ?_ _ | refine ae_ ?_ | refine ad_ ?_ _)); exact BK310.out) hb)
                      have n3_ := ab_ (blk_below (g := gb311) (o := .cells #[.int .i64 0, .int .i64 0, .slice none 0 0] 62 (0, 0)) (by (with_reducible repeat (first | refine ac_ ?_ _ | refine ae_ ?_ | refine ad_ ?_ _)); exact BK311.out) hb)
                      have n4_ := ab_ (blk_below (g := gb312) (o := .cells #[.int .i64 a0_0, .int .i64 x313001_19, u313002] 62 (0, 0)) (by (with_reducible repeat (first | refine ac_ ?_ _ | refine ae_ ?_ | refine ad_ ?_ _)); exact BK312.out) hb)
                      have n5_ := ab_ (blk_below (g := gb314) (o := .cells #[.int .i64 ((rd_T62 l0_2 x32_3).f0), .int .i64 ((rd_T62 l0_2 x32_3).f1), .slice A313_2 ((rd_T62 l0_2 x32_3).f2).length c313_2] 62 (0, 0)) (by (with_reducible repeat (first | refine ac_ ?_ _ | refine ae_ ?_ | refine ad_ ?_ _)); exact BK314.out) hb)
                      have n6_ := ab_ (ap_ (by repeat (first | (with_reducible first | exact HB.out | apply ai_ | apply ag_ | apply ah_ | refine af_ ?_ GE310.out | refine af_ ?_ GE311.out | refine af_ ?_ GE312.out | refine af_ ?_ GE314.out) | exact HB.out)) hb)
                      clear HO_313002
                      clear BK310
                      clear BK311
                      clear BK312
                      clear BK314
                      clear HB
                      have HO_313002 := n0_
                      have HO320 := n1_
                      have BK310 := n2_
                      have BK311 := n3_
                      have BK312 := n4_
                      have BK314 := n5_
                      have HB := n6_
                      clear n0_ n1_ n2_ n3_ n4_ n5_ n6_
                      (try clear hb)
                      (try clear hb2)
                      (try clear hk)
                      (try clear hi)
                      (try clear ho0)
                      obtain ⟨Ao43, co43, eo43⟩ := Kd.R_slice HO320.out
                      (first | subst eo43 | (injection eo43 with f1_ f2_ f3_; have f4_ := f1_.symm; have f5_ := f3_.symm; clear f1_ f2_ f3_; subst f4_; subst f5_))
                      refine hK.out _ _ ⟨(an_ BK312.out 0).trans rfl, (an_ BK312.out 1).trans rfl, (an_ BK312.out 2).trans rfl, (an_ BK314.out 0).trans rfl, (an_ BK314.out 1).trans rfl, (an_ BK314.out 2).trans rfl, (an_ BK310.out 0).trans rfl, (an_ BK310.out 1).trans rfl, (an_ BK310.out 2).trans rfl⟩ (fun hHeld => ?_)
                      clear hK K
                      refine norm_ (a' := ?_) ?_ ?_
                      rotate_left
                      · show Act.put _ (some 47) _ = _
                        simp only [Act.put, List.setIfInBounds_toArray, List.set_cons_zero, List.set_cons_succ, i64_w, i32_w]
                        rfl
                      refine one_ (i := 11) (N := some 48) #[true, true, true, true, true, true, true, true, true, true, true, true, false, false, false] rfl rfl (one_of HT_.out (by kernel_rfl)) (by decide) (fun K hK => ?_)
                      refine value_ (w1 := ?_) (v := ?_) (by rfl) rfl ?_ ?_
                      rotate_left 2
                      · go_simp
                        constructor
                        · rfl
                        · rfl
                      refine hK.out _ _ ⟨(an_ (ad_ BK312.out _) 0).trans rfl, (an_ (ad_ BK312.out _) 1).trans rfl, (an_ (ad_ BK312.out _) 2).trans rfl, (an_ (ad_ BK314.out _) 0).trans rfl, (an_ (ad_ BK314.out _) 1).trans rfl, (an_ (ad_ BK314.out _) 2).trans rfl, (an_ (ad_ BK310.out _) 0).trans rfl, (an_ (ad_ BK310.out _) 1).trans rfl, (an_ (ad_ BK310.out _) 2).trans rfl⟩ (fun hHeld => ?_)
                      clear hK K
                      refine norm_ (a' := ?_) ?_ ?_
                      rotate_left
                      · show Act.put _ (some 48) _ = _
                        simp only [Act.put, List.setIfInBounds_toArray, List.set_cons_zero, List.set_cons_succ, i64_w, i32_w]
                        rfl
                      refine one_ (i := 12) (N := some 49) #[true, true, true, true, true, true, true, true, true, true, true, true, true, false, false] rfl rfl (one_of HT_.out (by kernel_rfl)) (by decide) (fun K hK => ?_)
                      refine Kd.R_append_step k62 (w0 := w) w.heap.size (by rfl) (.tmp 38) (.tmp 48) 60 62 (.agg #[(.int .i64 0), (.int .i64 0), (.slice none 0 0)]) 40 rfl Try.underlying60 info62 rfl (by decide) (by omega) u313002 x313002_3 (⟨t316, t317, t318⟩ : S62) [.int .i64 t316, .int .i64 t317, .slice Ao43 t318.length co43] (fun k_ => k_ ≠ gb310 ∧ k_ ≠ gb311 ∧ k_ ≠ gb312 ∧ k_ ≠ gb314) (fun k_ => ((fun k_ => k_ ≠ gb310 ∧ k_ ≠ gb311 ∧ k_ ≠ gb312 ∧ k_ ≠ gb314)) k_ ∧ some k_ ≠ (u313002 : Value).ownBlock) rfl rfl ?aP (fun _ hk => hk) ?aF ?aO ?aB ?aS ?aL ?_
                      (case aP => exact k62_mkM _ _ _ (⟨t316, t317, t318⟩ : S62) (Kd.R_mono (HO320.out) (fun k_ hk => ⟨⟨hk.1.1.1.2, ⟨hk.1.1.2, ⟨hk.1.2, hk.2⟩⟩⟩, hk.1.1.1.1.2⟩)))
                      (case aB => exact (by repeat (first | (with_reducible first | exact HB.out | apply ai_ | apply ag_ | apply ah_ | refine af_ ?_ GE310.out | refine af_ ?_ GE311.out | refine af_ ?_ GE312.out | refine af_ ?_ GE314.out) | exact HB.out)))
                      (case aF => exact (fun k_ hk => ⟨Kd.freshB (g := gb310) (o := .cells #[.int .i64 a0_0, .int .i64 a0_1, .slice (some ad313) l0_2.length c0_2] 62 (0, 0)) (by (with_reducible repeat (first | refine ac_ ?_ _ | refine ae_ ?_ | refine ad_ ?_ _)); exact BK310.out) k_ hk, Kd.freshB (g := gb311) (o := .cells #[.int .i64 0, .int .i64 0, .slice none 0 0] 62 (0, 0)) (by (with_reducible repeat (first | refine ac_ ?_ _ | refine ae_ ?_ | refine ad_ ?_ _)); exact BK311.out) k_ hk, Kd.freshB (g := gb312) (o := .cells #[.int .i64 a0_0, .int .i64 x313001_19, u313002] 62 (0, 0)) (by (with_reducible repeat (first | refine ac_ ?_ _ | refine ae_ ?_ | refine ad_ ?_ _)); exact BK312.out) k_ hk, Kd.freshB (g := gb314) (o := .cells #[.int .i64 ((rd_T62 l0_2 x32_3).f0), .int .i64 ((rd_T62 l0_2 x32_3).f1), .slice A313_2 ((rd_T62 l0_2 x32_3).f2).length c313_2] 62 (0, 0)) (by (with_reducible repeat (first | refine ac_ ?_ _ | refine ae_ ?_ | refine ad_ ?_ _)); exact BK314.out) k_ hk⟩))
                      (case aO => exact (by (with_reducible repeat (first | apply Kd.R_alloc | apply Kd.R_drewN | apply Kd.R_drew)); exact Kd.R_mono HO_313002.out (fun _ hk => ⟨hk.1.1, ⟨hk.1.2.1, ⟨hk.1.2.2.1, hk.1.2.2.2⟩⟩⟩)))
                      (case aS => exact (below_size (by repeat (first | (with_reducible first | exact HB.out | apply ai_ | apply ag_ | apply ah_ | refine af_ ?_ GE310.out | refine af_ ?_ GE311.out | refine af_ ?_ GE312.out | refine af_ ?_ GE314.out) | exact HB.out))))
                      (case aL => have := LMc33.out; omega)
                      intro v322 w42 ho hb hg hat
                      rw [← Ny321.out] at ho
                      have n0_ := ab_ (blk_grown (g := gb310) (o := .cells #[.int .i64 a0_0, .int .i64 a0_1, .slice (some ad313) l0_2.length c0_2] 62 (0, 0)) (by (with_reducible repeat (first | refine ac_ ?_ _ | refine ae_ ?_ | refine ad_ ?_ _)); exact BK310.out) hg (Kd.R_away HO_313002.out (fun _ hk => hk.1.1)))
                      have n1_ := ab_ (blk_grown (g := gb311) (o := .cells #[.int .i64 0, .int .i64 0, .slice none 0 0] 62 (0, 0)) (by (with_reducible repeat (first | refine ac_ ?_ _ | refine ae_ ?_ | refine ad_ ?_ _)); exact BK311.out) hg (Kd.R_away HO_313002.out (fun _ hk => hk.1.2.1)))
                      have n2_ := ab_ (blk_grown (g := gb312) (o := .cells #[.int .i64 a0_0, .int .i64 x313001_19, u313002] 62 (0, 0)) (by (with_reducible repeat (first | refine ac_ ?_ _ | refine ae_ ?_ | refine ad_ ?_ _)); exact BK312.out) hg (Kd.R_away HO_313002.out (fun _ hk => hk.1.2.2.1)))
                      have n3_ := ab_ (blk_grown (g := gb314) (o := .cells #[.int .i64 ((rd_T62 l0_2 x32_3).f0), .int .i64 ((rd_T62 l0_2 x32_3).f1), .slice A313_2 ((rd_T62 l0_2 x32_3).f2).length c313_2] 62 (0, 0)) (by (with_reducible repeat (first | refine ac_ ?_ _ | refine ae_ ?_ | refine ad_ ?_ _)); exact BK314.out) hg (Kd.R_away HO_313002.out (fun _ hk => hk.1.2.2.2)))
                      have n4_ := ab_ (hb)
                      have n5_ := ab_ (ho)
                      clear BK310
                      clear BK311
                      clear BK312
                      clear BK314
                      clear HB
                      clear HO_313002
                      clear HO320
                      have BK310 := n0_
                      have BK311 := n1_
                      have BK312 := n2_
                      have BK314 := n3_
                      have HB := n4_
                      have HO323 := n5_
                      clear n0_ n1_ n2_ n3_ n4_ n5_
                      clear ho hb hg hat
                      obtain ⟨Ao44, co44, eo44⟩ := Kd.R_slice HO323.out
                      (first | subst eo44 | (injection eo44 with f1_ f2_ f3_; have f4_ := f1_.symm; have f5_ := f3_.symm; clear f1_ f2_ f3_; subst f4_; subst f5_))
                      refine hK.out _ _ ⟨(an_ BK312.out 0).trans rfl, (an_ BK312.out 1).trans rfl, (an_ BK312.out 2).trans rfl, (an_ BK314.out 0).trans rfl, (an_ BK314.out 1).trans rfl, (an_ BK314.out 2).trans rfl, (an_ BK310.out 0).trans rfl, (an_ BK310.out 1).trans rfl, (an_ BK310.out 2).trans rfl⟩ (fun hHeld => ?_)
                      clear hK K
                      refine norm_ (a' := ?_) ?_ ?_
                      rotate_left
                      · show Act.put _ (some 49) _ = _
                        simp only [Act.put, List.setIfInBounds_toArray, List.set_cons_zero, List.set_cons_succ, i64_w, i32_w]
                        rfl
                      refine pure_ (i := 13) (N := some 50) (v := ?_) (a' := ?_) #[true, true, true, true, true, true, true, true, true, true, true, true, true, true, false] rfl rfl (any_of HT_.out (by kernel_rfl)) (fun _ _ _ h => h) (Or.inl ⟨by rfl, ?_⟩) ?_ ?_
                      rotate_left
                      · intro w'
                        go_simp
                        with_reducible rfl
                      rotate_left
                      · simp only [Act.put, List.setIfInBounds_toArray, List.set_cons_zero, List.set_cons_succ, i64_w, i32_w]
                        rfl
                      refine last_ (i := 14) (N := none) #[true, true, true, true, true, true, true, true, true, true, true, true, true, true, true] rfl rfl (one_of HT_.out (by kernel_rfl)) (by decide) (fun K hK => ?_)
                      have hs45 : w42.cell? ⟨gb312, 2, none⟩ = some (u313002) := (an_ BK312.out 2).trans rfl
                      have hfs45 := am_ BK312.out 2
                      have hns45_0 := NB310_312.out
                      have hns45_1 := NB311_312.out
                      have hns45_3 := NB314_312.out
                      have hms45_0 := NB312_310.out
                      have hms45_1 := NB312_311.out
                      have hms45_3 := NB312_314.out
                      refine skip_ (w1 := ?_) (by rfl) rfl ?_ ?_
                      rotate_left
                      · go_simp
                        rfl
                      refine hK.out _ _ ?_
                      clear hK K
                      refine done_ (done_of HT_.out (by kernel_rfl)) ?_
                      try go_wp2
                      go_roundg k3
                      case measure => have := HJ3.out; have := HJ19.out; have := HK3.out; omega
                      case rel => exact ⟨(wrap64 (x32_3 + 1)), (y321), (.slice Ao44 y321.length co44), (by first | rfl | (simp; done) | (simp [*]; done)), H', ⟨by have := HJ3.out; have := HJ19.out; have := HK3.out; omega⟩, ⟨by (with_reducible repeat (first | apply Kd.R_alloc | apply Kd.R_drewN | apply Kd.R_drew)); exact Kd.R_mono (Kd.R_far (p := ⟨gb312, 2, none⟩) (Kd.R_mono HO323.out (fun k_ hk => (⟨hk, hk.2.2.1⟩ : _ ∧ k_ ≠ gb312))) (fun _ hk => hk.2) (.slice Ao44 y321.length co44)) (fun _ hk => ⟨hk.1.1, ⟨hk.1.2.1, hk.1.2.2.1⟩⟩)⟩, ⟨by (with_reducible repeat (first | refine ac_ ?_ _ | refine ae_ ?_ | refine ad_ ?_ _)); refine blk_far ?_ NB310_312.out _; (with_reducible repeat (first | refine ac_ ?_ _ | refine ae_ ?_ | refine ad_ ?_ _)); exact BK310.out⟩, ⟨by (with_reducible repeat (first | refine ac_ ?_ _ | refine ae_ ?_ | refine ad_ ?_ _)); refine blk_far ?_ NB311_312.out _; (with_reducible repeat (first | refine ac_ ?_ _ | refine ae_ ?_ | refine ad_ ?_ _)); exact BK311.out⟩, ⟨by (with_reducible repeat (first | refine ac_ ?_ _ | refine ae_ ?_ | refine ad_ ?_ _)); refine blk_put (cs := #[.int .i64 a0_0, .int .i64 x313001_19, u313002]) ?_ 2 _ rfl; (with_reducible repeat (first | refine ac_ ?_ _ | refine ae_ ?_ | refine ad_ ?_ _)); exact BK312.out⟩, ⟨by repeat (first | (with_reducible first | exact HB.out | apply ai_ | apply ag_ | apply ah_ | refine af_ ?_ GE310.out | refine af_ ?_ GE311.out | refine af_ ?_ GE312.out | refine af_ ?_ GE314.out) | exact HB.out)⟩⟩
                    · rw [if_neg c33] at H
                      exact absurd H (by simp)
                  · rw [if_neg c30] at H
                    exact absurd H (by simp)
                · rw [if_neg c29] at H
                  exact absurd H (by simp)
              · rw [if_neg c28] at H
                have c28b0 : decide (x32_3 < (l0_2.length : Int)) = false := decide_eq_false c28
                clear c28
                simp only [Option.some.injEq, Prod.mk.injEq] at H
                obtain ⟨rfl, rfl, rfl⟩ := H
                have hnb46 := NB312_310.out
                have hnc46 := NB310_312.out
                have hnb47 := NB312_311.out
                have hnc47 := NB311_312.out
                have hcz48_0 : wr.cell? ⟨gb312, 0, none⟩ = some (.int .i64 a0_0) := (an_ BK312.out 0).trans rfl
                have hcz48_1 : wr.cell? ⟨gb312, 1, none⟩ = some (.int .i64 x313001_19) := (an_ BK312.out 1).trans rfl
                have hcz48_2 : wr.cell? ⟨gb312, 2, none⟩ = some (u313002) := (an_ BK312.out 2).trans rfl
                have hfz48_0 := am_ BK312.out 0
                have hfz48_1 := am_ BK312.out 1
                have hfz48_2 := am_ BK312.out 2
                have hnb49 := NB311_310.out
                have hnc49 := NB310_311.out
                have hcz50_0 : wr.cell? ⟨gb311, 0, none⟩ = some (.int .i64 0) := (an_ BK311.out 0).trans rfl
                have hcz50_1 : wr.cell? ⟨gb311, 1, none⟩ = some (.int .i64 0) := (an_ BK311.out 1).trans rfl
                have hcz50_2 : wr.cell? ⟨gb311, 2, none⟩ = some (.slice none 0 0) := (an_ BK311.out 2).trans rfl
                have hfz50_0 := am_ BK311.out 0
                have hfz50_1 := am_ BK311.out 1
                have hfz50_2 := am_ BK311.out 2
                obtain ⟨Ao51, co51, eo51⟩ := Kd.R_slice HO_313002.out
                subst eo51
                go_wp2
                refine bodyPost_ret (results_cell_row rfl _ _ gb311 62 #[.int .i64 a0_0, .int .i64 x313001_19, .slice Ao51 x313002_3.length co51] (0, 0) _ rfl (by (with_reducible repeat (first | refine ac_ ?_ _ | refine ae_ ?_ | refine ad_ ?_ _)); refine blk_put (cs := #[.int .i64 a0_0, .int .i64 x313001_19, .slice none 0 0]) ?_ 2 _ rfl; (with_reducible repeat (first | refine ac_ ?_ _ | refine ae_ ?_ | refine ad_ ?_ _)); refine blk_put (cs := #[.int .i64 a0_0, .int .i64 0, .slice none 0 0]) ?_ 1 _ rfl; (with_reducible repeat (first | refine ac_ ?_ _ | refine ae_ ?_ | refine ad_ ?_ _)); refine blk_put (cs := #[.int .i64 0, .int .i64 0, .slice none 0 0]) ?_ 0 _ rfl; (with_reducible repeat (first | refine ac_ ?_ _ | refine ae_ ?_ | refine ad_ ?_ _)); exact BK311.out) Try.underlying62 rfl (by kernel_rfl)) rfl ?_
                exact ⟨_, by first | rfl | (simp [errW_none, errW_some] <;> rfl) | (simp [*, errW_none, errW_some] <;> rfl), by (with_reducible repeat (first | apply Kd.R_alloc | apply Kd.R_drewN | apply Kd.R_drew)); exact Kd.R_mono (Kd.R_far (p := ⟨gb311, 2, none⟩) (Kd.R_far (p := ⟨gb311, 1, none⟩) (Kd.R_far (p := ⟨gb311, 0, none⟩) (Kd.R_mono HO_313002.out (fun k_ hk => (⟨hk, hk.2.1⟩ : _ ∧ k_ ≠ gb311))) (fun _ hk => hk.2) (.int .i64 a0_0)) (fun _ hk => hk.2) (.int .i64 x313001_19)) (fun _ hk => hk.2) (.slice Ao51 x313002_3.length co51)) (fun _ hk => trivial), by repeat (first | (with_reducible first | exact HB.out | apply ai_ | apply ag_ | apply ah_ | refine af_ ?_ GE310.out | refine af_ ?_ GE311.out | refine af_ ?_ GE312.out) | exact HB.out)⟩
end Go.Proofs.Ytgoiifpimpnlpaa.PAll

end

section
namespace Go.Proofs.Ytgoiifpimpnlpaa.PAll
open Go.RowKit Go.Proofs.YtgoiifpimpnlpaaW.PrintWords Go.Proofs.YtgoiifpimpnlpaaW.PrintLast Go.Proofs.YtgoiifpimpnlpaaW.PrintMore
attribute [local go_sem] max2_int min2_int max_two min_two max_three min_three max_four min_four   -- for this text's walks alone
set_option linter.unusedVariables false
set_option linter.unusedSimpArgs false
mutual
def spec_l3Subst.l0 : Nat → Int → Int → List (S62) → Int → Int → Int → Int → List (S62) → Int → Int → List (S62) → Int → Int → List (S62) → Option (Int × Int × (List (S62)))
  | 0, _, _, _, _, _, _, _, _, _, _, _, _, _, _ => none
  | k + 1, x1, x3, x43, x44, x45, x325000, x325001, x325002, x326000, x326001, x326002, x333000, x333001, x333002 => if x45 < x44 then (if 0 ≤ x45 then (if x45 < (x43.length : Int) then ((spec_l3Binds.f x325000 x45).bind fun t335 => ((spec_l3Subst.f k ((rd_T62 x43 x45).f0) ((rd_T62 x43 x45).f1) ((rd_T62 x43 x45).f2) x1 x326000 x326001 x326002 (wrap64 (x3 + t335))).bind fun bt336 => (if x333002.length < 3518437208883 then (spec_l3Subst.l0 k x1 x3 x43 x44 (wrap64 (x45 + 1)) x325000 x325001 x325002 x326000 x326001 x326002 x333000 x333001 (x333002 ++ [(⟨bt336.1, bt336.2.1, bt336.2.2⟩ : S62)])) else (none)))) else (none)) else (none)) else (some (x333000, x333001, x333002))
def spec_l3Subst.f : Nat → Int → Int → List (S62) → Int → Int → Int → List (S62) → Int → Option (Int × Int × (List (S62)))
  | 0, _, _, _, _, _, _, _, _ => none
  | k + 1, a0_0, a0_1, l0_2, a1, a2_0, a2_1, l2_2, a3 => if a0_0 = 1 then (if a0_1 = (wrap64 (a1 + a3)) then ((spec_l3Shift.f k a2_0 a2_1 l2_2 a3 0).bind fun bt327 => (some (bt327.1, bt327.2.1, bt327.2.2))) else (if a0_1 > (wrap64 (a1 + a3)) then (some (1, wrap64 (a0_1 - 1), ([] : List (S62)))) else (some (a0_0, a0_1, l0_2)))) else (spec_l3Subst.l0 k a1 a3 l0_2 (l0_2.length : Int) 0 a0_0 a0_1 l0_2 a2_0 a2_1 l2_2 a0_0 a0_1 ([] : List (S62)))
end
def spec_l3Subst.T11 : Bool × List (List Nat × List Nat) := (true, [([], []), ([0], [0]), ([], []), ([], []), ([], []), ([], []), ([], []), ([6], [6]), ([], []), ([7, 8], [7, 8]), ([5, 9], [5, 9]), ([2, 3, 4, 10, 9], [2, 3, 4, 10]), ([11], [11]), ([1, 12, 11], [1, 12]), ([0, 1, 2, 3, 4, 5, 6, 7, 8, 9, 10, 11, 12, 13], []), ([14, 13, 13, 0, 1, 2, 3, 4, 5, 6, 7, 8, 9, 10, 11, 12, 13], [13, 14])])
def spec_l3Subst.B11 : List Nat := [0, 1, 0, 0, 0, 0, 0, 64, 0, 448, 992, 2044, 4092, 8191, 16383, 32767]
theorem spec_l3Subst.tab11 : rtab .any (opsOf Try.f100 11) = spec_l3Subst.T11 := by kernel_rfl
theorem spec_l3Subst.bits11 : waitsOk spec_l3Subst.T11.2 spec_l3Subst.B11 = true := by kernel_rfl
set_option maxHeartbeats 8000000 in
set_option maxRecDepth 100000 in
theorem spec_l3Subst.calls (k : Nat) : ∀ (a0_0 : Int) (a0_1 : Int) (P0_2_ : Nat → Prop) (A0_2 : Option Addr) (c0_2 : Nat) (l0_2 : List (S62)) (a1 : Int) (a2_0 : Int) (a2_1 : Int) (A2_2 : Option Addr) (c2_2 : Nat) (l2_2 : List (S62)) (a3 : Int) (r1 : Int) (r2 : Int) (r3 : List (S62)) (w : World) (hs0_2 : Kd.V k62 62 w w.heap.size (fun k_ => P0_2_ k_) (.slice A0_2 l0_2.length c0_2) l0_2) (hr2_2 : Kd.C k62 w A2_2 l2_2.length l2_2) (hc2_2 : l2_2.length ≤ c2_2) (h : spec_l3Subst.f k a0_0 a0_1 l0_2 a1 a2_0 a2_1 l2_2 a3 = some (r1, r2, r3)),
    Calls Try.prog 100 #[.agg #[.int .i64 a0_0, .int .i64 a0_1, .slice A0_2 l0_2.length c0_2], .int .i64 a1, .agg #[.int .i64 a2_0, .int .i64 a2_1, .slice A2_2 l2_2.length c2_2], .int .i64 a3] w fun e w' => ∃ v2_ : Value, e = .returned (.agg #[.int .i64 r1, .int .i64 r2, v2_]) ∧ Kd.V k62 62 w' w.heap.size (fun k_ => (P0_2_ k_ ∨ w.heap.size ≤ k_)) v2_ r3 ∧ Below w.heap.size w w' := by
  induction k using Nat.strongRecOn with
  | _ k ih =>
  intro a0_0 a0_1 P0_2_ A0_2 c0_2 l0_2 a1 a2_0 a2_1 A2_2 c2_2 l2_2 a3 r1 r2 r3 w hs0_2 hr2_2 hc2_2 h
  cases k with
  | zero => exact absurd h (by simp [spec_l3Subst.f])
  | succ k =>
  simp only [spec_l3Subst.f] at h
  have hu62 := Try.underlying62
  have HO0_2 := ab_ (show Kd.V k62 62 w w.heap.size (fun k_ => (P0_2_ k_ ∨ w.heap.size ≤ k_)) (.slice A0_2 l0_2.length c0_2) l0_2 from Kd.V_mono hs0_2 (fun k_ hk => .inl hk))
  have HR2_2 := ab_ hr2_2
  have HC2_2 := ab_ hc2_2
  clear hr2_2 hc2_2
  have HB := ab_ (aq_ w.heap.size w)
  have H : (if a0_0 = 1 then (if a0_1 = (wrap64 (a1 + a3)) then ((spec_l3Shift.f k a2_0 a2_1 l2_2 a3 0).bind fun bt327 => (some (bt327.1, bt327.2.1, bt327.2.2))) else (if a0_1 > (wrap64 (a1 + a3)) then (some (1, wrap64 (a0_1 - 1), ([] : List (S62)))) else (some (a0_0, a0_1, l0_2)))) else (spec_l3Subst.l0 k a1 a3 l0_2 (l0_2.length : Int) 0 a0_0 a0_1 l0_2 a2_0 a2_1 l2_2 a0_0 a0_1 ([] : List (S62)))) = some (r1, r2, r3) := h
  clear h
  by_cases c5 : a0_0 = 1
  · rw [if_pos c5] at H
    have c5b0 : (a0_0 == 1) = true := beq_iff_eq.mpr c5
    have c5b1 : (a0_0 != 1) = false := bne_eq_false_iff_eq.mpr c5
    clear c5
    by_cases c6 : a0_1 = (wrap64 (a1 + a3))
    · rw [if_pos c6] at H
      have c6b0 : (a0_1 == (wrap64 (a1 + a3))) = true := beq_iff_eq.mpr c6
      have c6b1 : (a0_1 != (wrap64 (a1 + a3))) = false := bne_eq_false_iff_eq.mpr c6
      clear c6
      replace H := Option.bind_eq_some_iff.mp H
      obtain ⟨⟨t327, t328, t329⟩, A70, H⟩ := H
      replace H : (some (t327, t328, t329)) = some (r1, r2, r3) := H
      have A7 := ab_ A70
      clear A70
      simp only [Option.some.injEq, Prod.mk.injEq] at H
      obtain ⟨rfl, rfl, rfl⟩ := H
      go_enter Try.func100, Try.ntmps100
      go_wp2_with (first | ((with_reducible refine gate_dst (N := 4) rfl ?_); refine box_event ?hg (N := 4) ?hd (cs := #[.int .i64 a0_0, .int .i64 a0_1, .slice A0_2 l0_2.length c0_2]) (t := 62) ?hr ?_; (case hd => rfl); (case hg => rfl); (case hr => first | (go_simp; done) | (go_simp; rfl)); intro gb324 hg w8 hbox hb; have n0_ := ab_ (Kd.V_below (Kd.V_elderB (by (with_reducible repeat (first | apply Kd.V_alloc | apply Kd.V_drewN | apply Kd.V_drew)); exact HO0_2.out) gb324 (Nat.le_of_eq hg.symm)) hb); have n1_ := ab_ (ap_ (by repeat (first | (with_reducible first | exact HB.out | apply ai_ | apply ag_ | apply ah_) | exact HB.out)) hb); have n2_ := ab_ (hbox); have n3_ := ab_ ((by rw [hg]; exact (below_size (by repeat (first | (with_reducible first | exact HB.out | apply ai_ | apply ag_ | apply ah_) | exact HB.out))) : w.heap.size ≤ gb324)); have n4_ := ab_ ((by rw [hg]; exact (below_size (by repeat (first | (with_reducible first | exact HB.out | apply ai_ | apply ag_ | apply ah_) | exact HB.out))) : w.heap.size ≤ gb324)); clear HO0_2; clear HB; have HO0_2 := n0_; have HB := n1_; have BK324 := n2_; have GW324 := n3_; have GE324 := n4_; clear n0_ n1_ n2_ n3_ n4_; clear hb hbox hg) | ((with_reducible refine gate_dst (N := 6) rfl ?_); refine box_event ?hg (N := 6) ?hd (cs := #[.int .i64 a2_0, .int .i64 a2_1, .slice A2_2 l2_2.length c2_2]) (t := 62) ?hr ?_; (case hd => rfl); (case hg => rfl); (case hr => first | (go_simp; done) | (go_simp; rfl)); intro gb325 hg w9 hbox hb; have n0_ := ab_ (Kd.V_below (Kd.V_elderB (by (with_reducible repeat (first | apply Kd.V_alloc | apply Kd.V_drewN | apply Kd.V_drew)); exact HO0_2.out) gb325 (Nat.le_of_eq hg.symm)) hb); have n1_ := ab_ (blk_below (g := gb324) (o := .cells #[.int .i64 a0_0, .int .i64 a0_1, .slice A0_2 l0_2.length c0_2] 62 (0, 0)) (by (with_reducible repeat (first | refine ac_ ?_ _ | refine ae_ ?_ | refine ad_ ?_ _)); exact BK324.out) hb); have n2_ := ab_ (ap_ (by repeat (first | (with_reducible first | exact HB.out | apply ai_ | apply ag_ | apply ah_ | refine af_ ?_ GE324.out) | exact HB.out)) hb); have n3_ := ab_ (hbox); have n4_ := ab_ ((by rw [hg]; exact (below_size (by repeat (first | (with_reducible first | exact HB.out | apply ai_ | apply ag_ | apply ah_ | refine af_ ?_ GE324.out) | exact HB.out))) : w.heap.size ≤ gb325)); have n5_ := ab_ ((by rw [hg]; exact (below_size (by repeat (first | (with_reducible first | exact HB.out | apply ai_ | apply ag_ | apply ah_ | refine af_ ?_ GE324.out) | exact HB.out))) : w.heap.size ≤ gb325)); have n6_ := ab_ ((by rw [hg]; exact ak_ (blk_lt (g := gb324) (o := .cells #[.int .i64 a0_0, .int .i64 a0_1, .slice A0_2 l0_2.length c0_2] 62 (0, 0)) (by (with_reducible repeat (first | refine ac_ ?_ _ | refine ae_ ?_ | refine ad_ ?_ _)); exact BK324.out)) : gb324 ≠ gb325)); have n7_ := ab_ ((by rw [hg]; exact Nat.ne_of_gt (blk_lt (g := gb324) (o := .cells #[.int .i64 a0_0, .int .i64 a0_1, .slice A0_2 l0_2.length c0_2] 62 (0, 0)) (by (with_reducible repeat (first | refine ac_ ?_ _ | refine ae_ ?_ | refine ad_ ?_ _)); exact BK324.out)) : gb325 ≠ gb324)); clear HO0_2; clear BK324; clear HB; have HO0_2 := n0_; have BK324 := n1_; have HB := n2_; have BK325 := n3_; have GW325 := n4_; have GE325 := n5_; have NB324_325 := n6_; have NB325_324 := n7_; clear n0_ n1_ n2_ n3_ n4_ n5_ n6_ n7_; clear hb hbox hg) | ((with_reducible refine gate_dst (N := 8) rfl ?_); refine box_event ?hg (N := 8) ?hd (cs := #[.int .i64 0, .int .i64 0, .slice none 0 0]) (t := 62) ?hr ?_; (case hd => rfl); (case hg => rfl); (case hr => first | (go_simp; done) | (go_simp; rfl)); intro gb326 hg w10 hbox hb; have n0_ := ab_ (Kd.V_below (Kd.V_elderB (by (with_reducible repeat (first | apply Kd.V_alloc | apply Kd.V_drewN | apply Kd.V_drew)); exact HO0_2.out) gb326 (Nat.le_of_eq hg.symm)) hb); have n1_ := ab_ (blk_below (g := gb324) (o := .cells #[.int .i64 a0_0, .int .i64 a0_1, .slice A0_2 l0_2.length c0_2] 62 (0, 0)) (by (with_reducible repeat (first | refine ac_ ?_ _ | refine ae_ ?_ | refine ad_ ?_ _)); exact BK324.out) hb); have n2_ := ab_ (blk_below (g := gb325) (o := .cells #[.int .i64 a2_0, .int .i64 a2_1, .slice A2_2 l2_2.length c2_2] 62 (0, 0)) (by (with_reducible repeat (first | refine ac_ ?_ _ | refine ae_ ?_ | refine ad_ ?_ _)); exact BK325.out) hb); have n3_ := ab_ (ap_ (by repeat (first | (with_reducible first | exact HB.out | apply ai_ | apply ag_ | apply ah_ | refine af_ ?_ GE324.out | refine af_ ?_ GE325.out) | exact HB.out)) hb); have n4_ := ab_ (hbox); have n5_ := ab_ ((by rw [hg]; exact (below_size (by repeat (first | (with_reducible first | exact HB.out | apply ai_ | apply ag_ | apply ah_ | refine af_ ?_ GE324.out | refine af_ ?_ GE325.out) | exact HB.out))) : w.heap.size ≤ gb326)); have n6_ := ab_ ((by rw [hg]; exact (below_size (by repeat (first | (with_reducible first | exact HB.out | apply ai_ | apply ag_ | apply ah_ | refine af_ ?_ GE324.out | refine af_ ?_ GE325.out) | exact HB.out))) : w.heap.size ≤ gb326)); have n7_ := ab_ ((by rw [hg]; exact ak_ (blk_lt (g := gb324) (o := .cells #[.int .i64 a0_0, .int .i64 a0_1, .slice A0_2 l0_2.length c0_2] 62 (0, 0)) (by (with_reducible repeat (first | refine ac_ ?_ _ | refine ae_ ?_ | refine ad_ ?_ _)); exact BK324.out)) : gb324 ≠ gb326)); have n8_ := ab_ ((by rw [hg]; exact Nat.ne_of_gt (blk_lt (g := gb324) (o := .cells #[.int .i64 a0_0, .int .i64 a0_1, .slice A0_2 l0_2.length c0_2] 62 (0, 0)) (by (with_reducible repeat (first | refine ac_ ?_ _ | refine ae_ ?_ | refine ad_ ?_ _)); exact BK324.out)) : gb326 ≠ gb324)); have n9_ := ab_ ((by rw [hg]; exact ak_ (blk_lt (g := gb325) (o := .cells #[.int .i64 a2_0, .int .i64 a2_1, .slice A2_2 l2_2.length c2_2] 62 (0, 0)) (by (with_reducible repeat (first | refine ac_ ?_ _ | refine ae_ ?_ | refine ad_ ?_ _)); exact BK325.out)) : gb325 ≠ gb326)); have n10_ := ab_ ((by rw [hg]; exact Nat.ne_of_gt (blk_lt (g := gb325) (o := .cells #[.int .i64 a2_0, .int .i64 a2_1, .slice A2_2 l2_2.length c2_2] 62 (0, 0)) (by (with_reducible repeat (first | refine ac_ ?_ _ | refine ae_ ?_ | refine ad_ ?_ _)); exact BK325.out)) : gb326 ≠ gb325)); clear HO0_2; clear BK324; clear BK325; clear HB; have HO0_2 := n0_; have BK324 := n1_; have BK325 := n2_; have HB := n3_; have BK326 := n4_; have GW326 := n5_; have GE326 := n6_; have NB324_326 := n7_; have NB326_324 := n8_; have NB325_326 := n9_; have NB326_325 := n10_; clear n0_ n1_ n2_ n3_ n4_ n5_ n6_ n7_ n8_ n9_ n10_; clear hb hbox hg; have hnb11 := NB324_325.out; have hnc11 := NB325_324.out; have hnb12 := NB324_326.out; have hnc12 := NB326_324.out; have hcz13_0 : w10.cell? ⟨gb324, 0, none⟩ = some (.int .i64 a0_0) := (an_ BK324.out 0).trans rfl; have hcz13_1 : w10.cell? ⟨gb324, 1, none⟩ = some (.int .i64 a0_1) := (an_ BK324.out 1).trans rfl; have hcz13_2 : w10.cell? ⟨gb324, 2, none⟩ = some (.slice A0_2 l0_2.length c0_2) := (an_ BK324.out 2).trans rfl; have hfz13_0 := am_ BK324.out 0; have hfz13_1 := am_ BK324.out 1; have hfz13_2 := am_ BK324.out 2; have hnb14 := NB325_326.out; have hnc14 := NB326_325.out; have hcz15_0 : w10.cell? ⟨gb325, 0, none⟩ = some (.int .i64 a2_0) := (an_ BK325.out 0).trans rfl; have hcz15_1 : w10.cell? ⟨gb325, 1, none⟩ = some (.int .i64 a2_1) := (an_ BK325.out 1).trans rfl; have hcz15_2 : w10.cell? ⟨gb325, 2, none⟩ = some (.slice A2_2 l2_2.length c2_2) := (an_ BK325.out 2).trans rfl; have hfz15_0 := am_ BK325.out 0; have hfz15_1 := am_ BK325.out 1; have hfz15_2 := am_ BK325.out 2) | ((with_reducible refine gate_callee (f := 127) rfl ?_); refine goesL_ (some 24) rfl rfl Try.func127 (by kernel_rfl) rfl #[.agg #[.int .i64 a2_0, .int .i64 a2_1, .slice A2_2 l2_2.length c2_2], .int .i64 a3, .int .i64 0] rfl (by (try simp only [List.map_toArray, List.map_cons, List.map_nil]); first | done | rfl | (simp only [List.length_drop, List.length_take]; rfl)) ?_; (with_reducible refine (spec_l3Shift.calls k a2_0 a2_1 _ _ l2_2 a3 0 t327 t328 t329 _ ?side1 ?side2 A7.out).mono ?_); (case side1 => repeat (first | exact (Kd.C_below HR2_2.out HB.out) | (with_reducible refine Kd.C_alloc ?_ _) | (with_reducible refine Kd.C_drewN ?_ _) | (with_reducible refine Kd.C_drew ?_))); (case side2 => exact HC2_2.out); rintro e w16 ⟨v330, rfl, ho0, hb⟩; refine ⟨_, rfl, ?_⟩; have n0_ := ab_ (Kd.V_elder' (by (with_reducible repeat (first | apply Kd.V_alloc | apply Kd.V_drewN | apply Kd.V_drew)); exact HO0_2.out) (by first | exact Kd.N_base ho0 | exact Kd.R_base ho0) hb); have n1_ := ab_ (Kd.N_lower (Kd.N_mono (ok' := fun k_ => (P0_2_ k_ ∨ w.heap.size ≤ k_) ∧ k_ ≠ gb324 ∧ k_ ≠ gb325 ∧ k_ ≠ gb326) (Kd.R_N (Kd.R_bound ho0)) (fun k_ hk_ => ⟨(.inr (Nat.le_trans (below_size (by repeat (first | (with_reducible first | exact HB.out | apply ai_ | apply ag_ | apply ah_ | refine af_ ?_ GE324.out | refine af_ ?_ GE325.out | refine af_ ?_ GE326.out) | exact HB.out))) hk_.2.1)), (Kd.freshB (g := gb324) (o := .cells #[.int .i64 a0_0, .int .i64 a0_1, .slice A0_2 l0_2.length c0_2] 62 (0, 0)) (by (with_reducible repeat (first | refine ac_ ?_ _ | refine ae_ ?_ | refine ad_ ?_ _)); exact BK324.out) k_ hk_.2.1), (Kd.freshB (g := gb325) (o := .cells #[.int .i64 a2_0, .int .i64 a2_1, .slice A2_2 l2_2.length c2_2] 62 (0, 0)) (by (with_reducible repeat (first | refine ac_ ?_ _ | refine ae_ ?_ | refine ad_ ?_ _)); exact BK325.out) k_ hk_.2.1), (Kd.freshB (g := gb326) (o := .cells #[.int .i64 0, .int .i64 0, .slice none 0 0] 62 (0, 0)) (by (with_reducible repeat (first | refine ac_ ?_ _ | refine ae_ ?_ | refine ad_ ?_ _)); exact BK326.out) k_ hk_.2.1)⟩)) (below_size (by repeat (first | (with_reducible first | exact HB.out | apply ai_ | apply ag_ | apply ah_ | refine af_ ?_ GE324.out | refine af_ ?_ GE325.out | refine af_ ?_ GE326.out) | exact HB.out)))); have n2_ := ab_ (blk_below (g := gb324) (o := .cells #[.int .i64 a0_0, .int .i64 a0_1, .slice A0_2 l0_2.length c0_2] 62 (0, 0)) (by (with_reducible repeat (first | refine ac_ ?_ _ | refine ae_ ?_ | refine ad_ ?_ _)); exact BK324.out) hb); have n3_ := ab_ (blk_below (g := gb325) (o := .cells #[.int .i64 a2_0, .int .i64 a2_1, .slice A2_2 l2_2.length c2_2] 62 (0, 0)) (by (with_reducible repeat (first | refine ac_ ?_ _ | refine ae_ ?_ | refine ad_ ?_ _)); exact BK325.out) hb); have n4_ := ab_ (blk_below (g := gb326) (o := .cells #[.int .i64 0, .int .i64 0, .slice none 0 0] 62 (0, 0)) (by (with_reducible repeat (first | refine ac_ ?_ _ | refine ae_ ?_ | refine ad_ ?_ _)); exact BK326.out) hb); have n5_ := ab_ (ap_ (by repeat (first | (with_reducible first | exact HB.out | apply ai_ | apply ag_ | apply ah_ | refine af_ ?_ GE324.out | refine af_ ?_ GE325.out | refine af_ ?_ GE326.out) | exact HB.out)) hb); clear HO0_2; clear BK324; clear BK325; clear BK326; clear HB; have HO0_2 := n0_; have HO331 := n1_; have BK324 := n2_; have BK325 := n3_; have BK326 := n4_; have HB := n5_; clear n0_ n1_ n2_ n3_ n4_ n5_; (try clear hb); (try clear hb2); (try clear hk); (try clear hi); (try clear ho0); have hcz17_0 : w16.cell? ⟨gb326, 0, none⟩ = some (.int .i64 0) := (an_ BK326.out 0).trans rfl; have hcz17_1 : w16.cell? ⟨gb326, 1, none⟩ = some (.int .i64 0) := (an_ BK326.out 1).trans rfl; have hcz17_2 : w16.cell? ⟨gb326, 2, none⟩ = some (.slice none 0 0) := (an_ BK326.out 2).trans rfl; have hfz17_0 := am_ BK326.out 0; have hfz17_1 := am_ BK326.out 1; have hfz17_2 := am_ BK326.out 2; obtain ⟨Ao18, co18, eo18⟩ := Kd.N_slice HO331.out; subst eo18))
      refine bodyPost_ret (results_cell_row rfl _ _ gb326 62 #[.int .i64 t327, .int .i64 t328, .slice Ao18 t329.length co18] (0, 0) _ rfl (by (with_reducible repeat (first | refine ac_ ?_ _ | refine ae_ ?_ | refine ad_ ?_ _)); refine blk_put (cs := #[.int .i64 t327, .int .i64 t328, .slice none 0 0]) ?_ 2 _ rfl; (with_reducible repeat (first | refine ac_ ?_ _ | refine ae_ ?_ | refine ad_ ?_ _)); refine blk_put (cs := #[.int .i64 t327, .int .i64 0, .slice none 0 0]) ?_ 1 _ rfl; (with_reducible repeat (first | refine ac_ ?_ _ | refine ae_ ?_ | refine ad_ ?_ _)); refine blk_put (cs := #[.int .i64 0, .int .i64 0, .slice none 0 0]) ?_ 0 _ rfl; (with_reducible repeat (first | refine ac_ ?_ _ | refine ae_ ?_ | refine ad_ ?_ _)); exact BK326.out) Try.underlying62 rfl (by kernel_rfl)) rfl ?_
      exact ⟨_, by first | rfl | (simp [errW_none, errW_some] <;> rfl) | (simp [*, errW_none, errW_some] <;> rfl), Kd.N_V (by (with_reducible repeat (first | apply Kd.N_alloc | apply Kd.N_drewN | apply Kd.N_drew)); exact Kd.N_mono (Kd.N_far (p := ⟨gb326, 2, none⟩) (Kd.N_far (p := ⟨gb326, 1, none⟩) (Kd.N_far (p := ⟨gb326, 0, none⟩) (Kd.N_mono HO331.out (fun k_ hk => (⟨hk, hk.2.2.2⟩ : _ ∧ k_ ≠ gb326))) (fun _ hk => hk.2) (.int .i64 t327)) (fun _ hk => hk.2) (.int .i64 t328)) (fun _ hk => hk.2) (.slice Ao18 t329.length co18)) (fun _ hk => hk.1.1)), by repeat (first | (with_reducible first | exact HB.out | apply ai_ | apply ag_ | apply ah_ | refine af_ ?_ GE324.out | refine af_ ?_ GE325.out | refine af_ ?_ GE326.out) | exact HB.out)⟩
    · rw [if_neg c6] at H
      have c6b0 : (a0_1 == (wrap64 (a1 + a3))) = false := beq_eq_false_iff_ne.mpr c6
      have c6b1 : (a0_1 != (wrap64 (a1 + a3))) = true := bne_iff_ne.mpr c6
      by_cases c19 : a0_1 > (wrap64 (a1 + a3))
      · rw [if_pos c19] at H
        have c19b0 : decide ((wrap64 (a1 + a3)) < a0_1) = true := ao_ c19
        clear c19
        simp only [Option.some.injEq, Prod.mk.injEq] at H
        obtain ⟨rfl, rfl, rfl⟩ := H
        go_enter Try.func100, Try.ntmps100
        go_wp2_with (first | ((with_reducible refine gate_dst (N := 4) rfl ?_); refine box_event ?hg (N := 4) ?hd (cs := #[.int .i64 a0_0, .int .i64 a0_1, .slice A0_2 l0_2.length c0_2]) (t := 62) ?hr ?_; (case hd => rfl); (case hg => rfl); (case hr => first | (go_simp; done) | (go_simp; rfl)); intro gb324 hg w20 hbox hb; have n0_ := ab_ (Kd.V_below (Kd.V_elderB (by (with_reducible repeat (first | apply Kd.V_alloc | apply Kd.V_drewN | apply Kd.V_drew)); exact HO0_2.out) gb324 (Nat.le_of_eq hg.symm)) hb); have n1_ := ab_ (ap_ (by repeat (first | (with_reducible first | exact HB.out | apply ai_ | apply ag_ | apply ah_) | exact HB.out)) hb); have n2_ := ab_ (hbox); have n3_ := ab_ ((by rw [hg]; exact (below_size (by repeat (first | (with_reducible first | exact HB.out | apply ai_ | apply ag_ | apply ah_) | exact HB.out))) : w.heap.size ≤ gb324)); have n4_ := ab_ ((by rw [hg]; exact (below_size (by repeat (first | (with_reducible first | exact HB.out | apply ai_ | apply ag_ | apply ah_) | exact HB.out))) : w.heap.size ≤ gb324)); clear HO0_2; clear HB; have HO0_2 := n0_; have HB := n1_; have BK324 := n2_; have GW324 := n3_; have GE324 := n4_; clear n0_ n1_ n2_ n3_ n4_; clear hb hbox hg) | ((with_reducible refine gate_dst (N := 6) rfl ?_); refine box_event ?hg (N := 6) ?hd (cs := #[.int .i64 a2_0, .int .i64 a2_1, .slice A2_2 l2_2.length c2_2]) (t := 62) ?hr ?_; (case hd => rfl); (case hg => rfl); (case hr => first | (go_simp; done) | (go_simp; rfl)); intro gb325 hg w21 hbox hb; have n0_ := ab_ (Kd.V_below (Kd.V_elderB (by (with_reducible repeat (first | apply Kd.V_alloc | apply Kd.V_drewN | apply Kd.V_drew)); exact HO0_2.out) gb325 (Nat.le_of_eq hg.symm)) hb); have n1_ := ab_ (blk_below (g := gb324) (o := .cells #[.int .i64 a0_0, .int .i64 a0_1, .slice A0_2 l0_2.length c0_2] 62 (0, 0)) (by (with_reducible repeat (first | refine ac_ ?_ _ | refine ae_ ?_ | refine ad_ ?_ _)); exact BK324.out) hb); have n2_ := ab_ (ap_ (by repeat (first | (with_reducible first | exact HB.out | apply ai_ | apply ag_ | apply ah_ | refine af_ ?_ GE324.out) | exact HB.out)) hb); have n3_ := ab_ (hbox); have n4_ := ab_ ((by rw [hg]; exact (below_size (by repeat (first | (with_reducible first | exact HB.out | apply ai_ | apply ag_ | apply ah_ | refine af_ ?_ GE324.out) | exact HB.out))) : w.heap.size ≤ gb325)); have n5_ := ab_ ((by rw [hg]; exact (below_size (by repeat (first | (with_reducible first | exact HB.out | apply ai_ | apply ag_ | apply ah_ | refine af_ ?_ GE324.out) | exact HB.out))) : w.heap.size ≤ gb325)); have n6_ := ab_ ((by rw [hg]; exact ak_ (blk_lt (g := gb324) (o := .cells #[.int .i64 a0_0, .int .i64 a0_1, .slice A0_2 l0_2.length c0_2] 62 (0, 0)) (by (with_reducible repeat (first | refine ac_ ?_ _ | refine ae_ ?_ | refine ad_ ?_ _)); exact BK324.out)) : gb324 ≠ gb325)); have n7_ := ab_ ((by rw [hg]; exact Nat.ne_of_gt (blk_lt (g := gb324) (o := .cells #[.int .i64 a0_0, .int .i64 a0_1, .slice A0_2 l0_2.length c0_2] 62 (0, 0)) (by (with_reducible repeat (first | refine ac_ ?_ _ | refine ae_ ?_ | refine ad_ ?_ _)); exact BK324.out)) : gb325 ≠ gb324)); clear HO0_2; clear BK324; clear HB; have HO0_2 := n0_; have BK324 := n1_; have HB := n2_; have BK325 := n3_; have GW325 := n4_; have GE325 := n5_; have NB324_325 := n6_; have NB325_324 := n7_; clear n0_ n1_ n2_ n3_ n4_ n5_ n6_ n7_; clear hb hbox hg) | ((with_reducible refine gate_dst (N := 8) rfl ?_); refine box_event ?hg (N := 8) ?hd (cs := #[.int .i64 0, .int .i64 0, .slice none 0 0]) (t := 62) ?hr ?_; (case hd => rfl); (case hg => rfl); (case hr => first | (go_simp; done) | (go_simp; rfl)); intro gb326 hg w22 hbox hb; have n0_ := ab_ (Kd.V_below (Kd.V_elderB (by (with_reducible repeat (first | apply Kd.V_alloc | apply Kd.V_drewN | apply Kd.V_drew)); exact HO0_2.out) gb326 (Nat.le_of_eq hg.symm)) hb); have n1_ := ab_ (blk_below (g := gb324) (o := .cells #[.int .i64 a0_0, .int .i64 a0_1, .slice A0_2 l0_2.length c0_2] 62 (0, 0)) (by (with_reducible repeat (first | refine ac_ ?_ _ | refine ae_ ?_ | refine ad_ ?_ _)); exact BK324.out) hb); have n2_ := ab_ (blk_below (g := gb325) (o := .cells #[.int .i64 a2_0, .int .i64 a2_1, .slice A2_2 l2_2.length c2_2] 62 (0, 0)) (by (with_reducible repeat (first | refine ac_ ?_ _ | refine ae_ ?_ | refine ad_ ?_ _)); exact BK325.out) hb); have n3_ := ab_ (ap_ (by repeat (first | (with_reducible first | exact HB.out | apply ai_ | apply ag_ | apply ah_ | refine af_ ?_ GE324.out | refine af_ ?_ GE325.out) | exact HB.out)) hb); have n4_ := ab_ (hbox); have n5_ := ab_ ((by rw [hg]; exact (below_size (by repeat (first | (with_reducible first | exact HB.out | apply ai_ | apply ag_ | apply ah_ | refine af_ ?_ GE324.out | refine af_ ?_ GE325.out) | exact HB.out))) : w.heap.size ≤ gb326)); have n6_ := ab_ ((by rw [hg]; exact (below_size (by repeat (first | (with_reducible first | exact HB.out | apply ai_ | apply ag_ | apply ah_ | refine af_ ?_ GE324.out | refine af_ ?_ GE325.out) | exact HB.out))) : w.heap.size ≤ gb326)); have n7_ := ab_ ((by rw [hg]; exact ak_ (blk_lt (g := gb324) (o := .cells #[.int .i64 a0_0, .int .i64 a0_1, .slice A0_2 l0_2.length c0_2] 62 (0, 0)) (by (with_reducible repeat (first | refine ac_ ?_ _ | refine ae_ ?_ | refine ad_ ?_ _)); exact BK324.out)) : gb324 ≠ gb326)); have n8_ := ab_ ((by rw [hg]; exact Nat.ne_of_gt (blk_lt (g := gb324) (o := .cells #[.int .i64 a0_0, .int .i64 a0_1, .slice A0_2 l0_2.length c0_2] 62 (0, 0)) (by (with_reducible repeat (first | refine ac_ ?_ _ | refine ae_ ?_ | refine ad_ ?_ _)); exact BK324.out)) : gb326 ≠ gb324)); have n9_ := ab_ ((by rw [hg]; exact ak_ (blk_lt (g := gb325) (o := .cells #[.int .i64 a2_0, .int .i64 a2_1, .slice A2_2 l2_2.length c2_2] 62 (0, 0)) (by (with_reducible repeat (first | refine ac_ ?_ _ | refine ae_ ?_ | refine ad_ ?_ _)); exact BK325.out)) : gb325 ≠ gb326)); have n10_ := ab_ ((by rw [hg]; exact Nat.ne_of_gt (blk_lt (g := gb325) (o := .cells #[.int .i64 a2_0, .int .i64 a2_1, .slice A2_2 l2_2.length c2_2] 62 (0, 0)) (by (with_reducible repeat (first | refine ac_ ?_ _ | refine ae_ ?_ | refine ad_ ?_ _)); exact BK325.out)) : gb326 ≠ gb325)); clear HO0_2; clear BK324; clear BK325; clear HB; have HO0_2 := n0_; have BK324 := n1_; have BK325 := n2_; have HB := n3_; have BK326 := n4_; have GW326 := n5_; have GE326 := n6_; have NB324_326 := n7_; have NB326_324 := n8_; have NB325_326 := n9_; have NB326_325 := n10_; clear n0_ n1_ n2_ n3_ n4_ n5_ n6_ n7_ n8_ n9_ n10_; clear hb hbox hg; have hnb23 := NB324_325.out; have hnc23 := NB325_324.out; have hnb24 := NB324_326.out; have hnc24 := NB326_324.out; have hcz25_0 : w22.cell? ⟨gb324, 0, none⟩ = some (.int .i64 a0_0) := (an_ BK324.out 0).trans rfl; have hcz25_1 : w22.cell? ⟨gb324, 1, none⟩ = some (.int .i64 a0_1) := (an_ BK324.out 1).trans rfl; have hcz25_2 : w22.cell? ⟨gb324, 2, none⟩ = some (.slice A0_2 l0_2.length c0_2) := (an_ BK324.out 2).trans rfl; have hfz25_0 := am_ BK324.out 0; have hfz25_1 := am_ BK324.out 1; have hfz25_2 := am_ BK324.out 2; have hnb26 := NB326_325.out; have hnc26 := NB325_326.out; have hcz27_0 : w22.cell? ⟨gb326, 0, none⟩ = some (.int .i64 0) := (an_ BK326.out 0).trans rfl; have hcz27_1 : w22.cell? ⟨gb326, 1, none⟩ = some (.int .i64 0) := (an_ BK326.out 1).trans rfl; have hcz27_2 : w22.cell? ⟨gb326, 2, none⟩ = some (.slice none 0 0) := (an_ BK326.out 2).trans rfl; have hfz27_0 := am_ BK326.out 0; have hfz27_1 := am_ BK326.out 1; have hfz27_2 := am_ BK326.out 2))
        refine bodyPost_ret (results_cell_row rfl _ _ gb326 62 #[.int .i64 1, .int .i64 (wrap64 (a0_1 - 1)), .slice none 0 0] (0, 0) _ rfl (by (with_reducible repeat (first | refine ac_ ?_ _ | refine ae_ ?_ | refine ad_ ?_ _)); refine blk_put (cs := #[.int .i64 1, .int .i64 (wrap64 (a0_1 - 1)), .slice none 0 0]) ?_ 2 _ rfl; (with_reducible repeat (first | refine ac_ ?_ _ | refine ae_ ?_ | refine ad_ ?_ _)); refine blk_put (cs := #[.int .i64 1, .int .i64 0, .slice none 0 0]) ?_ 1 _ rfl; (with_reducible repeat (first | refine ac_ ?_ _ | refine ae_ ?_ | refine ad_ ?_ _)); refine blk_put (cs := #[.int .i64 0, .int .i64 0, .slice none 0 0]) ?_ 0 _ rfl; (with_reducible repeat (first | refine ac_ ?_ _ | refine ae_ ?_ | refine ad_ ?_ _)); exact BK326.out) Try.underlying62 rfl (by kernel_rfl)) rfl ?_
        exact ⟨_, by first | rfl | (simp [errW_none, errW_some] <;> rfl) | (simp [*, errW_none, errW_some] <;> rfl), (by exact Kd.V_nil _ _ _ _ _), by repeat (first | (with_reducible first | exact HB.out | apply ai_ | apply ag_ | apply ah_ | refine af_ ?_ GE324.out | refine af_ ?_ GE325.out | refine af_ ?_ GE326.out) | exact HB.out)⟩
      · rw [if_neg c19] at H
        have c19b0 : decide ((wrap64 (a1 + a3)) < a0_1) = false := decide_eq_false c19
        clear c19
        simp only [Option.some.injEq, Prod.mk.injEq] at H
        obtain ⟨rfl, rfl, rfl⟩ := H
        go_enter Try.func100, Try.ntmps100
        go_wp2_with (first | ((with_reducible refine gate_dst (N := 4) rfl ?_); refine box_event ?hg (N := 4) ?hd (cs := #[.int .i64 a0_0, .int .i64 a0_1, .slice A0_2 l0_2.length c0_2]) (t := 62) ?hr ?_; (case hd => rfl); (case hg => rfl); (case hr => first | (go_simp; done) | (go_simp; rfl)); intro gb324 hg w28 hbox hb; have n0_ := ab_ (Kd.V_below (Kd.V_elderB (by (with_reducible repeat (first | apply Kd.V_alloc | apply Kd.V_drewN | apply Kd.V_drew)); exact HO0_2.out) gb324 (Nat.le_of_eq hg.symm)) hb); have n1_ := ab_ (ap_ (by repeat (first | (with_reducible first | exact HB.out | apply ai_ | apply ag_ | apply ah_) | exact HB.out)) hb); have n2_ := ab_ (hbox); have n3_ := ab_ ((by rw [hg]; exact (below_size (by repeat (first | (with_reducible first | exact HB.out | apply ai_ | apply ag_ | apply ah_) | exact HB.out))) : w.heap.size ≤ gb324)); have n4_ := ab_ ((by rw [hg]; exact (below_size (by repeat (first | (with_reducible first | exact HB.out | apply ai_ | apply ag_ | apply ah_) | exact HB.out))) : w.heap.size ≤ gb324)); clear HO0_2; clear HB; have HO0_2 := n0_; have HB := n1_; have BK324 := n2_; have GW324 := n3_; have GE324 := n4_; clear n0_ n1_ n2_ n3_ n4_; clear hb hbox hg) | ((with_reducible refine gate_dst (N := 6) rfl ?_); refine box_event ?hg (N := 6) ?hd (cs := #[.int .i64 a2_0, .int .i64 a2_1, .slice A2_2 l2_2.length c2_2]) (t := 62) ?hr ?_; (case hd => rfl); (case hg => rfl); (case hr => first | (go_simp; done) | (go_simp; rfl)); intro gb325 hg w29 hbox hb; have n0_ := ab_ (Kd.V_below (Kd.V_elderB (by (with_reducible repeat (first | apply Kd.V_alloc | apply Kd.V_drewN | apply Kd.V_drew)); exact HO0_2.out) gb325 (Nat.le_of_eq hg.symm)) hb); have n1_ := ab_ (blk_below (g := gb324) (o := .cells #[.int .i64 a0_0, .int .i64 a0_1, .slice A0_2 l0_2.length c0_2] 62 (0, 0)) (by (with_reducible repeat (first | refine ac_ ?_ _ | refine ae_ ?_ | refine ad_ ?_ _)); exact BK324.out) hb); have n2_ := ab_ (ap_ (by repeat (first | (with_reducible first | exact HB.out | apply ai_ | apply ag_ | apply ah_ | refine af_ ?_ GE324.out) | exact HB.out)) hb); have n3_ := ab_ (hbox); have n4_ := ab_ ((by rw [hg]; exact (below_size (by repeat (first | (with_reducible first | exact HB.out | apply ai_ | apply ag_ | apply ah_ | refine af_ ?_ GE324.out) | exact HB.out))) : w.heap.size ≤ gb325)); have n5_ := ab_ ((by rw [hg]; exact (below_size (by repeat (first | (with_reducible first | exact HB.out | apply ai_ | apply ag_ | apply ah_ | refine af_ ?_ GE324.out) | exact HB.out))) : w.heap.size ≤ gb325)); have n6_ := ab_ ((by rw [hg]; exact ak_ (blk_lt (g := gb324) (o := .cells #[.int .i64 a0_0, .int .i64 a0_1, .slice A0_2 l0_2.length c0_2] 62 (0, 0)) (by (with_reducible repeat (first | refine ac_ ?_ _ | refine ae_ ?_ | refine ad_ ?_ _)); exact BK324.out)) : gb324 ≠ gb325)); have n7_ := ab_ ((by rw [hg]; exact Nat.ne_of_gt (blk_lt (g := gb324) (o := .cells #[.int .i64 a0_0, .int .i64 a0_1, .slice A0_2 l0_2.length c0_2] 62 (0, 0)) (by (with_reducible repeat (first | refine ac_ ?_ _ | refine ae_ ?_ | refine ad_ ?_ _)); exact BK324.out)) : gb325 ≠ gb324)); clear HO0_2; clear BK324; clear HB; have HO0_2 := n0_; have BK324 := n1_; have HB := n2_; have BK325 := n3_; have GW325 := n4_; have GE325 := n5_; have NB324_325 := n6_; have NB325_324 := n7_; clear n0_ n1_ n2_ n3_ n4_ n5_ n6_ n7_; clear hb hbox hg) | ((with_reducible refine gate_dst (N := 8) rfl ?_); refine box_event ?hg (N := 8) ?hd (cs := #[.int .i64 0, .int .i64 0, .slice none 0 0]) (t := 62) ?hr ?_; (case hd => rfl); (case hg => rfl); (case hr => first | (go_simp; done) | (go_simp; rfl)); intro gb326 hg w30 hbox hb; have n0_ := ab_ (Kd.V_below (Kd.V_elderB (by (with_reducible repeat (first | apply Kd.V_alloc | apply Kd.V_drewN | apply Kd.V_drew)); exact HO0_2.out) gb326 (Nat.le_of_eq hg.symm)) hb); have n1_ := ab_ (blk_below (g := gb324) (o := .cells #[.int .i64 a0_0, .int .i64 a0_1, .slice A0_2 l0_2.length c0_2] 62 (0, 0)) (by (with_reducible repeat (first | refine ac_ ?_ _ | refine ae_ ?_ | refine ad_ ?_ _)); exact BK324.out) hb); have n2_ := ab_ (blk_below (g := gb325) (o := .cells #[.int .i64 a2_0, .int .i64 a2_1, .slice A2_2 l2_2.length c2_2] 62 (0, 0)) (by (with_reducible repeat (first | refine ac_ ?_ _ | refine ae_ ?_ | refine ad_ ?_ _)); exact BK325.out) hb); have n3_ := ab_ (ap_ (by repeat (first | (with_reducible first | exact HB.out | apply ai_ | apply ag_ | apply ah_ | refine af_ ?_ GE324.out | refine af_ ?_ GE325.out) | exact HB.out)) hb); have n4_ := ab_ (hbox); have n5_ := ab_ ((by rw [hg]; exact (below_size (by repeat (first | (with_reducible first | exact HB.out | apply ai_ | apply ag_ | apply ah_ | refine af_ ?_ GE324.out | refine af_ ?_ GE325.out) | exact HB.out))) : w.heap.size ≤ gb326)); have n6_ := ab_ ((by rw [hg]; exact (below_size (by repeat (first | (with_reducible first | exact HB.out | apply ai_ | apply ag_ | apply ah_ | refine af_ ?_ GE324.out | refine af_ ?_ GE325.out) | exact HB.out))) : w.heap.size ≤ gb326)); have n7_ := ab_ ((by rw [hg]; exact ak_ (blk_lt (g := gb324) (o := .cells #[.int .i64 a0_0, .int .i64 a0_1, .slice A0_2 l0_2.length c0_2] 62 (0, 0)) (by (with_reducible repeat (first | refine ac_ ?_ _ | refine ae_ ?_ | refine ad_ ?_ _)); exact BK324.out)) : gb324 ≠ gb326)); have n8_ := ab_ ((by rw [hg]; exact Nat.ne_of_gt (blk_lt (g := gb324) (o := .cells #[.int .i64 a0_0, .int .i64 a0_1, .slice A0_2 l0_2.length c0_2] 62 (0, 0)) (by (with_reducible repeat (first | refine ac_ ?_ _ | refine ae_ ?_ | refine ad_ ?_ _)); exact BK324.out)) : gb326 ≠ gb324)); have n9_ := ab_ ((by rw [hg]; exact ak_ (blk_lt (g := gb325) (o := .cells #[.int .i64 a2_0, .int .i64 a2_1, .slice A2_2 l2_2.length c2_2] 62 (0, 0)) (by (with_reducible repeat (first | refine ac_ ?_ _ | refine ae_ ?_ | refine ad_ ?_ _)); exact BK325.out)) : gb325 ≠ gb326)); have n10_ := ab_ ((by rw [hg]; exact Nat.ne_of_gt (blk_lt (g := gb325) (o := .cells #[.int .i64 a2_0, .int .i64 a2_1, .slice A2_2 l2_2.length c2_2] 62 (0, 0)) (by (with_reducible repeat (first | refine ac_ ?_ _ | refine ae_ ?_ | refine ad_ ?_ _)); exact BK325.out)) : gb326 ≠ gb325)); clear HO0_2; clear BK324; clear BK325; clear HB; have HO0_2 := n0_; have BK324 := n1_; have BK325 := n2_; have HB := n3_; have BK326 := n4_; have GW326 := n5_; have GE326 := n6_; have NB324_326 := n7_; have NB326_324 := n8_; have NB325_326 := n9_; have NB326_325 := n10_; clear n0_ n1_ n2_ n3_ n4_ n5_ n6_ n7_ n8_ n9_ n10_; clear hb hbox hg; have hnb31 := NB324_325.out; have hnc31 := NB325_324.out; have hnb32 := NB324_326.out; have hnc32 := NB326_324.out; have hcz33_0 : w30.cell? ⟨gb324, 0, none⟩ = some (.int .i64 a0_0) := (an_ BK324.out 0).trans rfl; have hcz33_1 : w30.cell? ⟨gb324, 1, none⟩ = some (.int .i64 a0_1) := (an_ BK324.out 1).trans rfl; have hcz33_2 : w30.cell? ⟨gb324, 2, none⟩ = some (.slice A0_2 l0_2.length c0_2) := (an_ BK324.out 2).trans rfl; have hfz33_0 := am_ BK324.out 0; have hfz33_1 := am_ BK324.out 1; have hfz33_2 := am_ BK324.out 2; have hnb34 := NB326_325.out; have hnc34 := NB325_326.out; have hcz35_0 : w30.cell? ⟨gb326, 0, none⟩ = some (.int .i64 0) := (an_ BK326.out 0).trans rfl; have hcz35_1 : w30.cell? ⟨gb326, 1, none⟩ = some (.int .i64 0) := (an_ BK326.out 1).trans rfl; have hcz35_2 : w30.cell? ⟨gb326, 2, none⟩ = some (.slice none 0 0) := (an_ BK326.out 2).trans rfl; have hfz35_0 := am_ BK326.out 0; have hfz35_1 := am_ BK326.out 1; have hfz35_2 := am_ BK326.out 2))
        refine bodyPost_ret (results_cell_row rfl _ _ gb326 62 #[.int .i64 a0_0, .int .i64 a0_1, .slice A0_2 l0_2.length c0_2] (0, 0) _ rfl (by (with_reducible repeat (first | refine ac_ ?_ _ | refine ae_ ?_ | refine ad_ ?_ _)); refine blk_put (cs := #[.int .i64 a0_0, .int .i64 a0_1, .slice none 0 0]) ?_ 2 _ rfl; (with_reducible repeat (first | refine ac_ ?_ _ | refine ae_ ?_ | refine ad_ ?_ _)); refine blk_put (cs := #[.int .i64 a0_0, .int .i64 0, .slice none 0 0]) ?_ 1 _ rfl; (with_reducible repeat (first | refine ac_ ?_ _ | refine ae_ ?_ | refine ad_ ?_ _)); refine blk_put (cs := #[.int .i64 0, .int .i64 0, .slice none 0 0]) ?_ 0 _ rfl; (with_reducible repeat (first | refine ac_ ?_ _ | refine ae_ ?_ | refine ad_ ?_ _)); exact BK326.out) Try.underlying62 rfl (by kernel_rfl)) rfl ?_
        exact ⟨_, by first | rfl | (simp [errW_none, errW_some] <;> rfl) | (simp [*, errW_none, errW_some] <;> rfl), by (with_reducible repeat (first | apply Kd.V_alloc | apply Kd.V_drewN | apply Kd.V_drew)); exact Kd.V_mono (Kd.V_far (p := ⟨gb326, 2, none⟩) (Kd.V_far (p := ⟨gb326, 1, none⟩) (Kd.V_far (p := ⟨gb326, 0, none⟩) (Kd.V_mono HO0_2.out (fun k_ hk => (⟨hk, hk.2⟩ : _ ∧ k_ ≠ gb326))) (fun _ hk => hk.2) (.int .i64 a0_0)) (fun _ hk => hk.2) (.int .i64 a0_1)) (fun _ hk => hk.2) (.slice A0_2 l0_2.length c0_2)) (fun _ hk => hk.1.1.1.1), by repeat (first | (with_reducible first | exact HB.out | apply ai_ | apply ag_ | apply ah_ | refine af_ ?_ GE324.out | refine af_ ?_ GE325.out | refine af_ ?_ GE326.out) | exact HB.out)⟩
  · rw [if_neg c5] at H
    have c5b0 : (a0_0 == 1) = false := beq_eq_false_iff_ne.mpr c5
    have c5b1 : (a0_0 != 1) = true := bne_iff_ne.mpr c5
    have H' := ab_ H
    clear H
    go_enter Try.func100, Try.ntmps100
    go_wp2_with (first | ((with_reducible refine gate_dst (N := 4) rfl ?_); refine box_event ?hg (N := 4) ?hd (cs := #[.int .i64 a0_0, .int .i64 a0_1, .slice A0_2 l0_2.length c0_2]) (t := 62) ?hr ?_; (case hd => rfl); (case hg => rfl); (case hr => first | (go_simp; done) | (go_simp; rfl)); intro gb324 hg w36 hbox hb; have n0_ := ab_ (Kd.V_below (Kd.V_elderB (by (with_reducible repeat (first | apply Kd.V_alloc | apply Kd.V_drewN | apply Kd.V_drew)); exact HO0_2.out) gb324 (Nat.le_of_eq hg.symm)) hb); have n1_ := ab_ (ap_ (by repeat (first | (with_reducible first | exact HB.out | apply ai_ | apply ag_ | apply ah_) | exact HB.out)) hb); have n2_ := ab_ (hbox); have n3_ := ab_ ((by rw [hg]; exact (below_size (by repeat (first | (with_reducible first | exact HB.out | apply ai_ | apply ag_ | apply ah_) | exact HB.out))) : w.heap.size ≤ gb324)); have n4_ := ab_ ((by rw [hg]; exact (below_size (by repeat (first | (with_reducible first | exact HB.out | apply ai_ | apply ag_ | apply ah_) | exact HB.out))) : w.heap.size ≤ gb324)); clear HO0_2; clear HB; have HO0_2 := n0_; have HB := n1_; have BK324 := n2_; have GW324 := n3_; have GE324 := n4_; clear n0_ n1_ n2_ n3_ n4_; clear hb hbox hg) | ((with_reducible refine gate_dst (N := 6) rfl ?_); refine box_event ?hg (N := 6) ?hd (cs := #[.int .i64 a2_0, .int .i64 a2_1, .slice A2_2 l2_2.length c2_2]) (t := 62) ?hr ?_; (case hd => rfl); (case hg => rfl); (case hr => first | (go_simp; done) | (go_simp; rfl)); intro gb325 hg w37 hbox hb; have n0_ := ab_ (Kd.V_below (Kd.V_elderB (by (with_reducible repeat (first | apply Kd.V_alloc | apply Kd.V_drewN | apply Kd.V_drew)); exact HO0_2.out) gb325 (Nat.le_of_eq hg.symm)) hb); have n1_ := ab_ (blk_below (g := gb324) (o := .cells #[.int .i64 a0_0, .int .i64 a0_1, .slice A0_2 l0_2.length c0_2] 62 (0, 0)) (by (with_reducible repeat (first | refine ac_ ?_ _ | refine ae_ ?_ | refine ad_ ?_ _)); exact BK324.out) hb); have n2_ := ab_ (ap_ (by repeat (first | (with_reducible first | exact HB.out | apply ai_ | apply ag_ | apply ah_ | refine af_ ?_ GE324.out) | exact HB.out)) hb); have n3_ := ab_ (hbox); have n4_ := ab_ ((by rw [hg]; exact (below_size (by repeat (first | (with_reducible first | exact HB.out | apply ai_ | apply ag_ | apply ah_ | refine af_ ?_ GE324.out) | exact HB.out))) : w.heap.size ≤ gb325)); have n5_ := ab_ ((by rw [hg]; exact (below_size (by repeat (first | (with_reducible first | exact HB.out | apply ai_ | apply ag_ | apply ah_ | refine af_ ?_ GE324.out) | exact HB.out))) : w.heap.size ≤ gb325)); have n6_ := ab_ ((by rw [hg]; exact ak_ (blk_lt (g := gb324) (o := .cells #[.int .i64 a0_0, .int .i64 a0_1, .slice A0_2 l0_2.length c0_2] 62 (0, 0)) (by (with_reducible repeat (first | refine ac_ ?_ _ | refine ae_ ?_ | refine ad_ ?_ _)); exact BK324.out)) : gb324 ≠ gb325)); have n7_ := ab_ ((by rw [hg]; exact Nat.ne_of_gt (blk_lt (g := gb324) (o := .cells #[.int .i64 a0_0, .int .i64 a0_1, .slice A0_2 l0_2.length c0_2] 62 (0, 0)) (by (with_reducible repeat (first | refine ac_ ?_ _ | refine ae_ ?_ | refine ad_ ?_ _)); exact BK324.out)) : gb325 ≠ gb324)); clear HO0_2; clear BK324; clear HB; have HO0_2 := n0_; have BK324 := n1_; have HB := n2_; have BK325 := n3_; have GW325 := n4_; have GE325 := n5_; have NB324_325 := n6_; have NB325_324 := n7_; clear n0_ n1_ n2_ n3_ n4_ n5_ n6_ n7_; clear hb hbox hg) | ((with_reducible refine gate_dst (N := 8) rfl ?_); refine box_event ?hg (N := 8) ?hd (cs := #[.int .i64 0, .int .i64 0, .slice none 0 0]) (t := 62) ?hr ?_; (case hd => rfl); (case hg => rfl); (case hr => first | (go_simp; done) | (go_simp; rfl)); intro gb326 hg w38 hbox hb; have n0_ := ab_ (Kd.V_below (Kd.V_elderB (by (with_reducible repeat (first | apply Kd.V_alloc | apply Kd.V_drewN | apply Kd.V_drew)); exact HO0_2.out) gb326 (Nat.le_of_eq hg.symm)) hb); have n1_ := ab_ (blk_below (g := gb324) (o := .cells #[.int .i64 a0_0, .int .i64 a0_1, .slice A0_2 l0_2.length c0_2] 62 (0, 0)) (by (with_reducible repeat (first | refine ac_ ?_ _ | refine ae_ ?_ | refine ad_ ?_ _)); exact BK324.out) hb); have n2_ := ab_ (blk_below (g := gb325) (o := .cells #[.int .i64 a2_0, .int .i64 a2_1, .slice A2_2 l2_2.length c2_2] 62 (0, 0)) (by (with_reducible repeat (first | refine ac_ ?_ _ | refine ae_ ?_ | refine ad_ ?_ _)); exact BK325.out) hb); have n3_ := ab_ (ap_ (by repeat (first | (with_reducible first | exact HB.out | apply ai_ | apply ag_ | apply ah_ | refine af_ ?_ GE324.out | refine af_ ?_ GE325.out) | exact HB.out)) hb); have n4_ := ab_ (hbox); have n5_ := ab_ ((by rw [hg]; exact (below_size (by repeat (first | (with_reducible first | exact HB.out | apply ai_ | apply ag_ | apply ah_ | refine af_ ?_ GE324.out | refine af_ ?_ GE325.out) | exact HB.out))) : w.heap.size ≤ gb326)); have n6_ := ab_ ((by rw [hg]; exact (below_size (by repeat (first | (with_reducible first | exact HB.out | apply ai_ | apply ag_ | apply ah_ | refine af_ ?_ GE324.out | refine af_ ?_ GE325.out) | exact HB.out))) : w.heap.size ≤ gb326)); have n7_ := ab_ ((by rw [hg]; exact ak_ (blk_lt (g := gb324) (o := .cells #[.int .i64 a0_0, .int .i64 a0_1, .slice A0_2 l0_2.length c0_2] 62 (0, 0)) (by (with_reducible repeat (first | refine ac_ ?_ _ | refine ae_ ?_ | refine ad_ ?_ _)); exact BK324.out)) : gb324 ≠ gb326)); have n8_ := ab_ ((by rw [hg]; exact Nat.ne_of_gt (blk_lt (g := gb324) (o := .cells #[.int .i64 a0_0, .int .i64 a0_1, .slice A0_2 l0_2.length c0_2] 62 (0, 0)) (by (with_reducible repeat (first | refine ac_ ?_ _ | refine ae_ ?_ | refine ad_ ?_ _)); exact BK324.out)) : gb326 ≠ gb324)); have n9_ := ab_ ((by rw [hg]; exact ak_ (blk_lt (g := gb325) (o := .cells #[.int .i64 a2_0, .int .i64 a2_1, .slice A2_2 l2_2.length c2_2] 62 (0, 0)) (by (with_reducible repeat (first | refine ac_ ?_ _ | refine ae_ ?_ | refine ad_ ?_ _)); exact BK325.out)) : gb325 ≠ gb326)); have n10_ := ab_ ((by rw [hg]; exact Nat.ne_of_gt (blk_lt (g := gb325) (o := .cells #[.int .i64 a2_0, .int .i64 a2_1, .slice A2_2 l2_2.length c2_2] 62 (0, 0)) (by (with_reducible repeat (first | refine ac_ ?_ _ | refine ae_ ?_ | refine ad_ ?_ _)); exact BK325.out)) : gb326 ≠ gb325)); clear HO0_2; clear BK324; clear BK325; clear HB; have HO0_2 := n0_; have BK324 := n1_; have BK325 := n2_; have HB := n3_; have BK326 := n4_; have GW326 := n5_; have GE326 := n6_; have NB324_326 := n7_; have NB326_324 := n8_; have NB325_326 := n9_; have NB326_325 := n10_; clear n0_ n1_ n2_ n3_ n4_ n5_ n6_ n7_ n8_ n9_ n10_; clear hb hbox hg; have hnb39 := NB324_325.out; have hnc39 := NB325_324.out; have hnb40 := NB324_326.out; have hnc40 := NB326_324.out; have hcz41_0 : w38.cell? ⟨gb324, 0, none⟩ = some (.int .i64 a0_0) := (an_ BK324.out 0).trans rfl; have hcz41_1 : w38.cell? ⟨gb324, 1, none⟩ = some (.int .i64 a0_1) := (an_ BK324.out 1).trans rfl; have hcz41_2 : w38.cell? ⟨gb324, 2, none⟩ = some (.slice A0_2 l0_2.length c0_2) := (an_ BK324.out 2).trans rfl; have hfz41_0 := am_ BK324.out 0; have hfz41_1 := am_ BK324.out 1; have hfz41_2 := am_ BK324.out 2) | ((with_reducible refine gate_dst (N := 9) rfl ?_); refine box_event ?hg (N := 9) ?hd (cs := #[.int .i64 0, .int .i64 0, .slice none 0 0]) (t := 62) ?hr ?_; (case hd => rfl); (case hg => rfl); (case hr => first | (go_simp; done) | (go_simp; rfl)); intro gb332 hg w42 hbox hb; have n0_ := ab_ (Kd.V_below (Kd.V_elderB (by (with_reducible repeat (first | apply Kd.V_alloc | apply Kd.V_drewN | apply Kd.V_drew)); exact HO0_2.out) gb332 (Nat.le_of_eq hg.symm)) hb); have n1_ := ab_ (blk_below (g := gb324) (o := .cells #[.int .i64 a0_0, .int .i64 a0_1, .slice A0_2 l0_2.length c0_2] 62 (0, 0)) (by (with_reducible repeat (first | refine ac_ ?_ _ | refine ae_ ?_ | refine ad_ ?_ _)); exact BK324.out) hb); have n2_ := ab_ (blk_below (g := gb325) (o := .cells #[.int .i64 a2_0, .int .i64 a2_1, .slice A2_2 l2_2.length c2_2] 62 (0, 0)) (by (with_reducible repeat (first | refine ac_ ?_ _ | refine ae_ ?_ | refine ad_ ?_ _)); exact BK325.out) hb); have n3_ := ab_ (blk_below (g := gb326) (o := .cells #[.int .i64 0, .int .i64 0, .slice none 0 0] 62 (0, 0)) (by (with_reducible repeat (first | refine ac_ ?_ _ | refine ae_ ?_ | refine ad_ ?_ _)); exact BK326.out) hb); have n4_ := ab_ (ap_ (by repeat (first | (with_reducible first | exact HB.out | apply ai_ | apply ag_ | apply ah_ | refine af_ ?_ GE324.out | refine af_ ?_ GE325.out | refine af_ ?_ GE326.out) | exact HB.out)) hb); have n5_ := ab_ (hbox); have n6_ := ab_ ((by rw [hg]; exact (below_size (by repeat (first | (with_reducible first | exact HB.out | apply ai_ | apply ag_ | apply ah_ | refine af_ ?_ GE324.out | refine af_ ?_ GE325.out | refine af_ ?_ GE326.out) | exact HB.out))) : w.heap.size ≤ gb332)); have n7_ := ab_ ((by rw [hg]; exact (below_size (by repeat (first | (with_reducible first | exact HB.out | apply ai_ | apply ag_ | apply ah_ | refine af_ ?_ GE324.out | refine af_ ?_ GE325.out | refine af_ ?_ GE326.out) | exact HB.out))) : w.heap.size ≤ gb332)); have n8_ := ab_ ((by rw [hg]; exact ak_ (blk_lt (g := gb324) (o := .cells #[.int .i64 a0_0, .int .i64 a0_1, .slice A0_2 l0_2.length c0_2] 62 (0, 0)) (by (with_reducible repeat (first | refine ac_ ?_ _ | refine ae_ ?_ | refine ad_ ?_ _)); exact BK324.out)) : gb324 ≠ gb332)); have n9_ := ab_ ((by rw [hg]; exact Nat.ne_of_gt (blk_lt (g := gb324) (o := .cells #[.int .i64 a0_0, .int .i64 a0_1, .slice A0_2 l0_2.length c0_2] 62 (0, 0)) (by (with_reducible repeat (first | refine ac_ ?_ _ | refine ae_ ?_ | refine ad_ ?_ _)); exact BK324.out)) : gb332 ≠ gb324)); have n10_ := ab_ ((by rw [hg]; exact ak_ (blk_lt (g := gb325) (o := .cells #[.int .i64 a2_0, .int .i64 a2_1, .slice A2_2 l2_2.length c2_2] 62 (0, 0)) (by (with_reducible repeat (first | refine ac_ ?_ _ | refine ae_ ?_ | refine ad_ ?_ _)); exact BK325.out)) : gb325 ≠ gb332)); have n11_ := ab_ ((by rw [hg]; exact Nat.ne_of_gt (blk_lt (g := gb325) (o := .cells #[.int .i64 a2_0, .int .i64 a2_1, .slice A2_2 l2_2.length c2_2] 62 (0, 0)) (by (with_reducible repeat (first | refine ac_ ?_ _ | refine ae_ ?_ | refine ad_ ?_ _)); exact BK325.out)) : gb332 ≠ gb325)); have n12_ := ab_ ((by rw [hg]; exact ak_ (blk_lt (g := gb326) (o := .cells #[.int .i64 0, .int .i64 0, .slice none 0 0] 62 (0, 0)) (by (with_reducible repeat (first | refine ac_ ?_ _ | refine ae_ ?_ | refine ad_ ?_ _)); exact BK326.out)) : gb326 ≠ gb332)); have n13_ := ab_ ((by rw [hg]; exact Nat.ne_of_gt (blk_lt (g := gb326) (o := .cells #[.int .i64 0, .int .i64 0, .slice none 0 0] 62 (0, 0)) (by (with_reducible repeat (first | refine ac_ ?_ _ | refine ae_ ?_ | refine ad_ ?_ _)); exact BK326.out)) : gb332 ≠ gb326)); clear HO0_2; clear BK324; clear BK325; clear BK326; clear HB; have HO0_2 := n0_; have BK324 := n1_; have BK325 := n2_; have BK326 := n3_; have HB := n4_; have BK332 := n5_; have GW332 := n6_; have GE332 := n7_; have NB324_332 := n8_; have NB332_324 := n9_; have NB325_332 := n10_; have NB332_325 := n11_; have NB326_332 := n12_; have NB332_326 := n13_; clear n0_ n1_ n2_ n3_ n4_ n5_ n6_ n7_ n8_ n9_ n10_ n11_ n12_ n13_; clear hb hbox hg; have hnb43 := NB332_324.out; have hnc43 := NB324_332.out; have hnb44 := NB332_325.out; have hnc44 := NB325_332.out; have hnb45 := NB332_326.out; have hnc45 := NB326_332.out; have hcz46_0 : w42.cell? ⟨gb332, 0, none⟩ = some (.int .i64 0) := (an_ BK332.out 0).trans rfl; have hcz46_1 : w42.cell? ⟨gb332, 1, none⟩ = some (.int .i64 0) := (an_ BK332.out 1).trans rfl; have hcz46_2 : w42.cell? ⟨gb332, 2, none⟩ = some (.slice none 0 0) := (an_ BK332.out 2).trans rfl; have hfz46_0 := am_ BK332.out 0; have hfz46_1 := am_ BK332.out 1; have hfz46_2 := am_ BK332.out 2; have hcz47_0 : w42.cell? ⟨gb324, 0, none⟩ = some (.int .i64 a0_0) := (an_ BK324.out 0).trans rfl; have hcz47_1 : w42.cell? ⟨gb324, 1, none⟩ = some (.int .i64 a0_1) := (an_ BK324.out 1).trans rfl; have hcz47_2 : w42.cell? ⟨gb324, 2, none⟩ = some (.slice A0_2 l0_2.length c0_2) := (an_ BK324.out 2).trans rfl; have hfz47_0 := am_ BK324.out 0; have hfz47_1 := am_ BK324.out 1; have hfz47_2 := am_ BK324.out 2))
    go_loopg [45] k (fun kq v45 w' => ∃ (x45_1 : Int) (x333002_1 : List (S62)) (u333002 : Value), v45 = .int .i64 x45_1 ∧ Aside0 (spec_l3Subst.l0 kq a1 a3 l0_2 (l0_2.length : Int) x45_1 a0_0 a0_1 l0_2 a2_0 a2_1 l2_2 a0_0 a0_1 x333002_1 = some (r1, r2, r3)) ∧ Aside0 (kq ≤ k) ∧ Aside0 (Kd.V k62 62 w' w.heap.size (fun k_ => (P0_2_ k_ ∨ w.heap.size ≤ k_) ∧ some k_ ≠ (u333002 : Value).ownBlock ∧ k_ ≠ gb324 ∧ k_ ≠ gb325 ∧ k_ ≠ gb326 ∧ k_ ≠ gb332) (.slice A0_2 l0_2.length c0_2) l0_2) ∧ Aside0 (Kd.V k62 62 w' w.heap.size (fun k_ => (P0_2_ k_ ∨ w.heap.size ≤ k_) ∧ some k_ ≠ (u333002 : Value).ownBlock ∧ k_ ≠ gb324 ∧ k_ ≠ gb325 ∧ k_ ≠ gb326 ∧ k_ ≠ gb332) (.slice A0_2 l0_2.length c0_2) l0_2) ∧ Aside0 (Kd.N k62 62 w' w.heap.size (fun k_ => (P0_2_ k_ ∨ w.heap.size ≤ k_) ∧ k_ ≠ gb324 ∧ k_ ≠ gb325 ∧ k_ ≠ gb326 ∧ k_ ≠ gb332) u333002 x333002_1) ∧ Aside0 (w'.heap[gb324]? = some (.cells #[.int .i64 a0_0, .int .i64 a0_1, (.slice A0_2 l0_2.length c0_2)] 62 (0, 0))) ∧ Aside0 (w'.heap[gb325]? = some (.cells #[.int .i64 a2_0, .int .i64 a2_1, (.slice A2_2 l2_2.length c2_2)] 62 (0, 0))) ∧ Aside0 (w'.heap[gb326]? = some (.cells #[.int .i64 0, .int .i64 0, (.slice none 0 0)] 62 (0, 0))) ∧ Aside0 (w'.heap[gb332]? = some (.cells #[.int .i64 a0_0, .int .i64 a0_1, u333002] 62 (0, 0))) ∧ Aside0 (Below w.heap.size w w'))
    case atStart => exact ⟨(0), (([] : List (S62))), (.slice none 0 0), (by first | rfl | (simp; done) | (simp [*]; done)), H', ⟨Nat.le_refl _⟩, ⟨by (with_reducible repeat (first | apply Kd.V_alloc | apply Kd.V_drewN | apply Kd.V_drew)); exact Kd.V_mono (Kd.V_far (p := ⟨gb332, 2, none⟩) (Kd.V_far (p := ⟨gb332, 1, none⟩) (Kd.V_far (p := ⟨gb332, 0, none⟩) (Kd.V_mono HO0_2.out (fun k_ hk => (⟨hk, hk.2⟩ : _ ∧ k_ ≠ gb332))) (fun _ hk => hk.2) (.int .i64 a0_0)) (fun _ hk => hk.2) (.int .i64 a0_1)) (fun _ hk => hk.2) (.slice none 0 0)) (fun _ hk => ⟨hk.1.1.1.1.1, ⟨(by simp [Value.ownBlock]), ⟨hk.1.1.1.1.2, ⟨hk.1.1.1.2, ⟨hk.1.1.2, hk.1.2⟩⟩⟩⟩⟩)⟩, ⟨by (with_reducible repeat (first | apply Kd.V_alloc | apply Kd.V_drewN | apply Kd.V_drew)); exact Kd.V_mono (Kd.V_far (p := ⟨gb332, 2, none⟩) (Kd.V_far (p := ⟨gb332, 1, none⟩) (Kd.V_far (p := ⟨gb332, 0, none⟩) (Kd.V_mono HO0_2.out (fun k_ hk => (⟨hk, hk.2⟩ : _ ∧ k_ ≠ gb332))) (fun _ hk => hk.2) (.int .i64 a0_0)) (fun _ hk => hk.2) (.int .i64 a0_1)) (fun _ hk => hk.2) (.slice none 0 0)) (fun _ hk => ⟨hk.1.1.1.1.1, ⟨(by simp [Value.ownBlock]), ⟨hk.1.1.1.1.2, ⟨hk.1.1.1.2, ⟨hk.1.1.2, hk.1.2⟩⟩⟩⟩⟩)⟩, ⟨by first | exact Kd.R_nil _ _ _ _ _ | exact Kd.N_nil _ _ _ _ _ | exact Kd.V_nil _ _ _ _ _ | exact Kd.Q_nil _ _ _ _ _ | exact Kd.S_nil _ _ _ _ _⟩, ⟨by (with_reducible repeat (first | refine ac_ ?_ _ | refine ae_ ?_ | refine ad_ ?_ _)); refine blk_far ?_ NB324_332.out _; (with_reducible repeat (first | refine ac_ ?_ _ | refine ae_ ?_ | refine ad_ ?_ _)); refine blk_far ?_ NB324_332.out _; (with_reducible repeat (first | refine ac_ ?_ _ | refine ae_ ?_ | refine ad_ ?_ _)); refine blk_far ?_ NB324_332.out _; (with_reducible repeat (first | refine ac_ ?_ _ | refine ae_ ?_ | refine ad_ ?_ _)); exact BK324.out⟩, ⟨by (with_reducible repeat (first | refine ac_ ?_ _ | refine ae_ ?_ | refine ad_ ?_ _)); refine blk_far ?_ NB325_332.out _; (with_reducible repeat (first | refine ac_ ?_ _ | refine ae_ ?_ | refine ad_ ?_ _)); refine blk_far ?_ NB325_332.out _; (with_reducible repeat (first | refine ac_ ?_ _ | refine ae_ ?_ | refine ad_ ?_ _)); refine blk_far ?_ NB325_332.out _; (with_reducible repeat (first | refine ac_ ?_ _ | refine ae_ ?_ | refine ad_ ?_ _)); exact BK325.out⟩, ⟨by (with_reducible repeat (first | refine ac_ ?_ _ | refine ae_ ?_ | refine ad_ ?_ _)); refine blk_far ?_ NB326_332.out _; (with_reducible repeat (first | refine ac_ ?_ _ | refine ae_ ?_ | refine ad_ ?_ _)); refine blk_far ?_ NB326_332.out _; (with_reducible repeat (first | refine ac_ ?_ _ | refine ae_ ?_ | refine ad_ ?_ _)); refine blk_far ?_ NB326_332.out _; (with_reducible repeat (first | refine ac_ ?_ _ | refine ae_ ?_ | refine ad_ ?_ _)); exact BK326.out⟩, ⟨by (with_reducible repeat (first | refine ac_ ?_ _ | refine ae_ ?_ | refine ad_ ?_ _)); refine blk_put (cs := #[.int .i64 a0_0, .int .i64 a0_1, .slice none 0 0]) ?_ 2 _ rfl; (with_reducible repeat (first | refine ac_ ?_ _ | refine ae_ ?_ | refine ad_ ?_ _)); refine blk_put (cs := #[.int .i64 a0_0, .int .i64 0, .slice none 0 0]) ?_ 1 _ rfl; (with_reducible repeat (first | refine ac_ ?_ _ | refine ae_ ?_ | refine ad_ ?_ _)); refine blk_put (cs := #[.int .i64 0, .int .i64 0, .slice none 0 0]) ?_ 0 _ rfl; (with_reducible repeat (first | refine ac_ ?_ _ | refine ae_ ?_ | refine ad_ ?_ _)); exact BK332.out⟩, ⟨by repeat (first | (with_reducible first | exact HB.out | apply ai_ | apply ag_ | apply ah_ | refine af_ ?_ GE324.out | refine af_ ?_ GE325.out | refine af_ ?_ GE326.out | refine af_ ?_ GE332.out) | exact HB.out)⟩⟩
    case round =>
      clear H'
      try clear c1
      try clear c2
      try clear p2
      try clear c3
      try clear c4
      try clear c5
      try clear c5b0
      try clear c5b1
      try clear c6
      try clear c6b0
      try clear c6b1
      try clear p6
      try clear c10
      try clear c11
      try clear c12
      try clear c14
      try clear c19
      try clear c19b0
      try clear c23
      try clear c24
      try clear c26
      try clear c31
      try clear c32
      try clear c34
      try clear c39
      try clear c40
      try clear c43
      try clear c44
      try clear c45
      try clear hcz13_0
      try clear hcz13_1
      try clear hcz13_2
      try clear hcz15_0
      try clear hcz15_1
      try clear hcz15_2
      try clear hcz17_0
      try clear hcz17_1
      try clear hcz17_2
      try clear hcz25_0
      try clear hcz25_1
      try clear hcz25_2
      try clear hcz27_0
      try clear hcz27_1
      try clear hcz27_2
      try clear hcz33_0
      try clear hcz33_1
      try clear hcz33_2
      try clear hcz35_0
      try clear hcz35_1
      try clear hcz35_2
      try clear hcz41_0
      try clear hcz41_1
      try clear hcz41_2
      try clear hcz46_0
      try clear hcz46_1
      try clear hcz46_2
      try clear hcz47_0
      try clear hcz47_1
      try clear hcz47_2
      try clear hfz13_0
      try clear hfz13_1
      try clear hfz13_2
      try clear hfz15_0
      try clear hfz15_1
      try clear hfz15_2
      try clear hfz17_0
      try clear hfz17_1
      try clear hfz17_2
      try clear hfz25_0
      try clear hfz25_1
      try clear hfz25_2
      try clear hfz27_0
      try clear hfz27_1
      try clear hfz27_2
      try clear hfz33_0
      try clear hfz33_1
      try clear hfz33_2
      try clear hfz35_0
      try clear hfz35_1
      try clear hfz35_2
      try clear hfz41_0
      try clear hfz41_1
      try clear hfz41_2
      try clear hfz46_0
      try clear hfz46_1
      try clear hfz46_2
      try clear hfz47_0
      try clear hfz47_1
      try clear hfz47_2
      obtain ⟨x45_1, x333002_1, u333002, rfl, HA, HK1, HO_43, HO_325002, HO_333002, BK324, BK325, BK326, BK332, HB⟩ := hrel
      cases gk with
      | zero => exact absurd HA.out (by simp [spec_l3Subst.l0])
      | succ k1 =>
        have H := HA.out
        clear HA
        simp only [spec_l3Subst.l0] at H
        by_cases c48 : x45_1 < (l0_2.length : Int)
        · rw [if_pos c48] at H
          have c48b0 : decide (x45_1 < (l0_2.length : Int)) = true := ao_ c48
          clear c48
          by_cases c49 : 0 ≤ x45_1
          · rw [if_pos c49] at H
            have c49b0 : decide (0 ≤ x45_1) = true := ao_ c49
            clear c49
            by_cases c50 : x45_1 < (l0_2.length : Int)
            · rw [if_pos c50] at H
              have c50b0 : decide (x45_1 < (l0_2.length : Int)) = true := ao_ c50
              clear c50
              replace H := Option.bind_eq_some_iff.mp H
              obtain ⟨t335, A510, H⟩ := H
              replace H : ((spec_l3Subst.f k1 ((rd_T62 l0_2 x45_1).f0) ((rd_T62 l0_2 x45_1).f1) ((rd_T62 l0_2 x45_1).f2) a1 a2_0 a2_1 l2_2 (wrap64 (a3 + t335))).bind fun bt336 => (if x333002_1.length < 3518437208883 then (spec_l3Subst.l0 k1 a1 a3 l0_2 (l0_2.length : Int) (wrap64 (x45_1 + 1)) a0_0 a0_1 l0_2 a2_0 a2_1 l2_2 a0_0 a0_1 (x333002_1 ++ [(⟨bt336.1, bt336.2.1, bt336.2.2⟩ : S62)])) else (none))) = some (r1, r2, r3) := H
              have A51 := ab_ A510
              clear A510
              replace H := Option.bind_eq_some_iff.mp H
              obtain ⟨⟨t336, t337, t338⟩, A520, H⟩ := H
              replace H : (if x333002_1.length < 3518437208883 then (spec_l3Subst.l0 k1 a1 a3 l0_2 (l0_2.length : Int) (wrap64 (x45_1 + 1)) a0_0 a0_1 l0_2 a2_0 a2_1 l2_2 a0_0 a0_1 (x333002_1 ++ [(⟨t336, t337, t338⟩ : S62)])) else (none)) = some (r1, r2, r3) := H
              have A52 := ab_ A520
              clear A520
              by_cases c53 : x333002_1.length < 3518437208883
              · rw [if_pos c53] at H
                have LMc53 := ab_ c53
                clear c53
                obtain ⟨y341, hy341⟩ : ∃ y_ : List (S62), y_ = (x333002_1 ++ [(⟨t336, t337, t338⟩ : S62)]) := ⟨_, rfl⟩
                replace H : (spec_l3Subst.l0 k1 a1 a3 l0_2 (l0_2.length : Int) (wrap64 (x45_1 + 1)) a0_0 a0_1 l0_2 a2_0 a2_1 l2_2 a0_0 a0_1 y341) = some (r1, r2, r3) := by first | (rw [hy341]; with_reducible exact H) | (have H2_ := (Option.bind_some _ _).symm.trans H; rw [hy341]; with_reducible exact H2_) | (have H2_ := (Option.bind_some _ _).symm.trans H; with_reducible exact H2_) | with_reducible exact H | (rw [hy341]; exact H) | exact H
                have Ny341 := ab_ hy341
                clear hy341
                have H' := ab_ H
                clear H
                have p333 : 0 ≤ (x45_1 : Int) := of_decide_eq_true (by first | (with_reducible assumption) | assumption)
                have q333 : x45_1 < (l0_2.length : Int) := of_decide_eq_true (by first | (with_reducible assumption) | assumption)
                obtain ⟨ad333, A333_2, c333_2, e333, hx333_0, hx333_1, hx333_2, hl333_2, hi333_2⟩ := at_T62 (Kd.V_reads' HO_43.out).2.2 x45_1 p333 q333
                cases e333
                obtain ⟨ce333, hce333, hMe333, hcc333⟩ := Kd.V_get HO_43.out z62 x45_1 p333 (by first | exact q333 | exact of_decide_eq_true (by first | (with_reducible assumption) | assumption) | (have e_ := (Kd.V_reads' HO_43.out).1; omega))
                obtain ⟨ua333_2, uc333_2, rfl, ul333_2, ge333_2⟩ := k62_openF hMe333
                have hv333_2 := hcc333 2 _ rfl
                rw [add_field _ _ 2 (by omega)] at hv333_2
                replace hv333_2 := Option.some.inj (hv333_2.symm.trans hx333_2)
                injection hv333_2 with hva_ hvn_ hvc_
                rw [hva_] at ge333_2
                rw [hvc_] at ul333_2
                have HL333_2 := ab_ (show Kd.V k62 62 _ w.heap.size _ _ ((rd_T62 l0_2 x45_1).f2) from Kd.V_mk ul333_2 ge333_2)
                clear hva_ hvn_ hvc_ ge333_2 ul333_2
                clear hcc333 hce333
                have HR333_2 := ab_ hi333_2
                have HC333_2 := ab_ hl333_2
                clear hi333_2 hl333_2
                replace p333 := eq_true p333
                replace q333 := eq_true q333
                try go_wp2_with (first | ((with_reducible refine gate_dst (N := 11) rfl ?_); refine box_event ?hg (N := 11) ?hd (cs := #[.int .i64 0, .int .i64 0, .slice none 0 0]) (t := 62) ?hr ?_; (case hd => rfl); (case hg => rfl); (case hr => first | (go_simp; done) | (go_simp; rfl)); intro gb334 hg w54 hbox hb; have n0_ := ab_ (Kd.V_below (Kd.V_elderB (by (with_reducible repeat (first | apply Kd.V_alloc | apply Kd.V_drewN | apply Kd.V_drew)); exact HO_43.out) gb334 (Nat.le_of_eq hg.symm)) hb); have n1_ := ab_ (Kd.V_below (Kd.V_elderB (by (with_reducible repeat (first | apply Kd.V_alloc | apply Kd.V_drewN | apply Kd.V_drew)); exact HO_325002.out) gb334 (Nat.le_of_eq hg.symm)) hb); have n2_ := ab_ (Kd.N_below (Kd.N_elderB (by (with_reducible repeat (first | apply Kd.N_alloc | apply Kd.N_drewN | apply Kd.N_drew)); exact HO_333002.out) gb334 (Nat.le_of_eq hg.symm)) hb); have n3_ := ab_ (Kd.V_below (Kd.V_elderB (by (with_reducible repeat (first | apply Kd.V_alloc | apply Kd.V_drewN | apply Kd.V_drew)); exact HL333_2.out) gb334 (Nat.le_of_eq hg.symm)) hb); have n4_ := ab_ (blk_below (g := gb324) (o := .cells #[.int .i64 a0_0, .int .i64 a0_1, .slice (some ad333) l0_2.length c0_2] 62 (0, 0)) (by (with_reducible repeat (first | refine ac_ ?_ _ | refine ae_ ?_ | refine ad_ ?_ _)); exact BK324.out) hb); have n5_ := ab_ (blk_below (g := gb325) (o := .cells #[.int .i64 a2_0, .int .i64 a2_1, .slice A2_2 l2_2.length c2_2] 62 (0, 0)) (by (with_reducible repeat (first | refine ac_ ?_ _ | refine ae_ ?_ | refine ad_ ?_ _)); exact BK325.out) hb); have n6_ := ab_ (blk_below (g := gb326) (o := .cells #[.int .i64 0, .int .i64 0, .slice none 0 0] 62 (0, 0)) (by (with_reducible repeat (first | refine ac_ ?_ _ | refine ae_ ?_ | refine ad_ ?_ _)); exact BK326.out) hb); have n7_ := ab_ (blk_below (g := gb332) (o := .cells #[.int .i64 a0_0, .int .i64 a0_1, u333002] 62 (0, 0)) (by (with_reducible repeat (first | refine ac_ ?_ _ | refine ae_ ?_ | refine ad_ ?_ _)); exact BK332.out) hb); have n8_ := ab_ (Kd.C_below (by repeat (first | (with_reducible exact HR333_2.out) | (with_reducible refine Kd.C_alloc ?_ _) | (with_reducible refine Kd.C_drewN ?_ _) | (with_reducible refine Kd.C_drew ?_) | exact HR333_2.out)) hb); have n9_ := ab_ (ap_ (by repeat (first | (with_reducible first | exact HB.out | apply ai_ | apply ag_ | apply ah_ | refine af_ ?_ GE324.out | refine af_ ?_ GE325.out | refine af_ ?_ GE326.out | refine af_ ?_ GE332.out) | exact HB.out)) hb); have n10_ := ab_ (hbox); have n11_ := ab_ ((by rw [hg]; exact (below_size (by repeat (first | (with_reducible first | exact HB.out | apply ai_ | apply ag_ | apply ah_ | refine af_ ?_ GE324.out | refine af_ ?_ GE325.out | refine af_ ?_ GE326.out | refine af_ ?_ GE332.out) | exact HB.out))) : w.heap.size ≤ gb334)); have n12_ := ab_ ((by rw [hg]; exact (below_size (by repeat (first | (with_reducible first | exact HB.out | apply ai_ | apply ag_ | apply ah_ | refine af_ ?_ GE324.out | refine af_ ?_ GE325.out | refine af_ ?_ GE326.out | refine af_ ?_ GE332.out) | exact HB.out))) : w.heap.size ≤ gb334)); have n13_ := ab_ ((by rw [hg]; exact ak_ (blk_lt (g := gb324) (o := .cells #[.int .i64 a0_0, .int .i64 a0_1, .slice (some ad333) l0_2.length c0_2] 62 (0, 0)) (by (with_reducible repeat (first | refine ac_ ?_ _ | refine ae_ ?_ | refine ad_ ?_ _)); exact BK324.out)) : gb324 ≠ gb334)); have n14_ := ab_ ((by rw [hg]; exact Nat.ne_of_gt (blk_lt (g := gb324) (o := .cells #[.int .i64 a0_0, .int .i64 a0_1, .slice (some ad333) l0_2.length c0_2] 62 (0, 0)) (by (with_reducible repeat (first | refine ac_ ?_ _ | refine ae_ ?_ | refine ad_ ?_ _)); exact BK324.out)) : gb334 ≠ gb324)); have n15_ := ab_ ((by rw [hg]; exact ak_ (blk_lt (g := gb325) (o := .cells #[.int .i64 a2_0, .int .i64 a2_1, .slice A2_2 l2_2.length c2_2] 62 (0, 0)) (by (with_reducible repeat (first | refine ac_ ?_ _ | refine ae_ ?_ | refine ad_ ?_ _)); exact BK325.out)) : gb325 ≠ gb334)); have n16_ := ab_ ((by rw [hg]; exact Nat.ne_of_gt (blk_lt (g := gb325) (o := .cells #[.int .i64 a2_0, .int .i64 a2_1, .slice A2_2 l2_2.length c2_2] 62 (0, 0)) (by (with_reducible repeat (first | refine ac_ ?_ _ | refine ae_ ?_ | refine ad_ ?_ _)); exact BK325.out)) : gb334 ≠ gb325)); have n17_ := ab_ ((by rw [hg]; exact ak_ (blk_lt (g := gb326) (o := .cells #[.int .i64 0, .int .i64 0, .slice none 0 0] 62 (0, 0)) (by (with_reducible repeat (first | refine ac_ ?_ _ | refine ae_ ?_ | refine ad_ ?_ _)); exact BK326.out)) : gb326 ≠ gb334)); have n18_ := ab_ ((by rw [hg]; exact Nat.ne_of_gt (blk_lt (g := gb326) (o := .cells #[.int .i64 0, .int .i64 0, .slice none 0 0] 62 (0, 0)) (by (with_reducible repeat (first | refine ac_ ?_ _ | refine ae_ ?_ | refine ad_ ?_ _)); exact BK326.out)) : gb334 ≠ gb326)); have n19_ := ab_ ((by rw [hg]; exact ak_ (blk_lt (g := gb332) (o := .cells #[.int .i64 a0_0, .int .i64 a0_1, u333002] 62 (0, 0)) (by (with_reducible repeat (first | refine ac_ ?_ _ | refine ae_ ?_ | refine ad_ ?_ _)); exact BK332.out)) : gb332 ≠ gb334)); have n20_ := ab_ ((by rw [hg]; exact Nat.ne_of_gt (blk_lt (g := gb332) (o := .cells #[.int .i64 a0_0, .int .i64 a0_1, u333002] 62 (0, 0)) (by (with_reducible repeat (first | refine ac_ ?_ _ | refine ae_ ?_ | refine ad_ ?_ _)); exact BK332.out)) : gb334 ≠ gb332)); clear HO_43; clear HO_325002; clear HO_333002; clear HL333_2; clear BK324; clear BK325; clear BK326; clear BK332; clear HR333_2; clear HB; have HO_43 := n0_; have HO_325002 := n1_; have HO_333002 := n2_; have HL333_2 := n3_; have BK324 := n4_; have BK325 := n5_; have BK326 := n6_; have BK332 := n7_; have HR333_2 := n8_; have HB := n9_; have BK334 := n10_; have GW334 := n11_; have GE334 := n12_; have NB324_334 := n13_; have NB334_324 := n14_; have NB325_334 := n15_; have NB334_325 := n16_; have NB326_334 := n17_; have NB334_326 := n18_; have NB332_334 := n19_; have NB334_332 := n20_; clear n0_ n1_ n2_ n3_ n4_ n5_ n6_ n7_ n8_ n9_ n10_ n11_ n12_ n13_ n14_ n15_ n16_ n17_ n18_ n19_ n20_; clear hb hbox hg; have hnb55 := NB334_324.out; have hnc55 := NB324_334.out; have hnb56 := NB334_325.out; have hnc56 := NB325_334.out; have hnb57 := NB334_326.out; have hnc57 := NB326_334.out; have hnb58 := NB334_332.out; have hnc58 := NB332_334.out; have hcz59_0 : w54.cell? ⟨gb334, 0, none⟩ = some (.int .i64 0) := (an_ BK334.out 0).trans rfl; have hcz59_1 : w54.cell? ⟨gb334, 1, none⟩ = some (.int .i64 0) := (an_ BK334.out 1).trans rfl; have hcz59_2 : w54.cell? ⟨gb334, 2, none⟩ = some (.slice none 0 0) := (an_ BK334.out 2).trans rfl; have hfz59_0 := am_ BK334.out 0; have hfz59_1 := am_ BK334.out 1; have hfz59_2 := am_ BK334.out 2))
                have n0_ : Aside0 (Kd.V k62 62 (((w54.setCell ⟨gb334, 0, none⟩ (.int .i64 ((rd_T62 l0_2 x45_1).f0))).setCell ⟨gb334, 1, none⟩ (.int .i64 ((rd_T62 l0_2 x45_1).f1))).setCell ⟨gb334, 2, none⟩ (.slice A333_2 ((rd_T62 l0_2 x45_1).f2).length c333_2)) w.heap.size (fun k_ => (P0_2_ k_ ∨ w.heap.size ≤ k_) ∧ some k_ ≠ (u333002 : Value).ownBlock ∧ k_ ≠ gb324 ∧ k_ ≠ gb325 ∧ k_ ≠ gb326 ∧ k_ ≠ gb332 ∧ k_ ≠ gb334) (.slice (some ad333) l0_2.length c0_2) l0_2) := ⟨by (with_reducible repeat (first | apply Kd.V_alloc | apply Kd.V_drewN | apply Kd.V_drew)); exact Kd.V_mono (Kd.V_far (p := ⟨gb334, 2, none⟩) (Kd.V_far (p := ⟨gb334, 1, none⟩) (Kd.V_far (p := ⟨gb334, 0, none⟩) (Kd.V_mono HO_43.out (fun k_ hk => (⟨hk, hk.2⟩ : _ ∧ k_ ≠ gb334))) (fun _ hk => hk.2) (.int .i64 ((rd_T62 l0_2 x45_1).f0))) (fun _ hk => hk.2) (.int .i64 ((rd_T62 l0_2 x45_1).f1))) (fun _ hk => hk.2) (.slice A333_2 ((rd_T62 l0_2 x45_1).f2).length c333_2)) (fun _ hk => ⟨hk.1.1.1, ⟨hk.1.1.2.1, ⟨hk.1.1.2.2.1, ⟨hk.1.1.2.2.2.1, ⟨hk.1.1.2.2.2.2.1, ⟨hk.1.1.2.2.2.2.2, hk.1.2⟩⟩⟩⟩⟩⟩)⟩
                have n1_ : Aside0 (Kd.V k62 62 (((w54.setCell ⟨gb334, 0, none⟩ (.int .i64 ((rd_T62 l0_2 x45_1).f0))).setCell ⟨gb334, 1, none⟩ (.int .i64 ((rd_T62 l0_2 x45_1).f1))).setCell ⟨gb334, 2, none⟩ (.slice A333_2 ((rd_T62 l0_2 x45_1).f2).length c333_2)) w.heap.size (fun k_ => (P0_2_ k_ ∨ w.heap.size ≤ k_) ∧ some k_ ≠ (u333002 : Value).ownBlock ∧ k_ ≠ gb324 ∧ k_ ≠ gb325 ∧ k_ ≠ gb326 ∧ k_ ≠ gb332 ∧ k_ ≠ gb334) (.slice (some ad333) l0_2.length c0_2) l0_2) := ⟨by (with_reducible repeat (first | apply Kd.V_alloc | apply Kd.V_drewN | apply Kd.V_drew)); exact Kd.V_mono (Kd.V_far (p := ⟨gb334, 2, none⟩) (Kd.V_far (p := ⟨gb334, 1, none⟩) (Kd.V_far (p := ⟨gb334, 0, none⟩) (Kd.V_mono HO_325002.out (fun k_ hk => (⟨hk, hk.2⟩ : _ ∧ k_ ≠ gb334))) (fun _ hk => hk.2) (.int .i64 ((rd_T62 l0_2 x45_1).f0))) (fun _ hk => hk.2) (.int .i64 ((rd_T62 l0_2 x45_1).f1))) (fun _ hk => hk.2) (.slice A333_2 ((rd_T62 l0_2 x45_1).f2).length c333_2)) (fun _ hk => ⟨hk.1.1.1, ⟨hk.1.1.2.1, ⟨hk.1.1.2.2.1, ⟨hk.1.1.2.2.2.1, ⟨hk.1.1.2.2.2.2.1, ⟨hk.1.1.2.2.2.2.2, hk.1.2⟩⟩⟩⟩⟩⟩)⟩
                have n2_ : Aside0 (Kd.N k62 62 (((w54.setCell ⟨gb334, 0, none⟩ (.int .i64 ((rd_T62 l0_2 x45_1).f0))).setCell ⟨gb334, 1, none⟩ (.int .i64 ((rd_T62 l0_2 x45_1).f1))).setCell ⟨gb334, 2, none⟩ (.slice A333_2 ((rd_T62 l0_2 x45_1).f2).length c333_2)) w.heap.size (fun k_ => (P0_2_ k_ ∨ w.heap.size ≤ k_) ∧ k_ ≠ gb324 ∧ k_ ≠ gb325 ∧ k_ ≠ gb326 ∧ k_ ≠ gb332 ∧ k_ ≠ gb334) u333002 x333002_1) := ⟨by (with_reducible repeat (first | apply Kd.N_alloc | apply Kd.N_drewN | apply Kd.N_drew)); exact Kd.N_mono (Kd.N_far (p := ⟨gb334, 2, none⟩) (Kd.N_far (p := ⟨gb334, 1, none⟩) (Kd.N_far (p := ⟨gb334, 0, none⟩) (Kd.N_mono HO_333002.out (fun k_ hk => (⟨hk, hk.2⟩ : _ ∧ k_ ≠ gb334))) (fun _ hk => hk.2) (.int .i64 ((rd_T62 l0_2 x45_1).f0))) (fun _ hk => hk.2) (.int .i64 ((rd_T62 l0_2 x45_1).f1))) (fun _ hk => hk.2) (.slice A333_2 ((rd_T62 l0_2 x45_1).f2).length c333_2)) (fun _ hk => ⟨hk.1.1.1, ⟨hk.1.1.2.1, ⟨hk.1.1.2.2.1, ⟨hk.1.1.2.2.2.1, ⟨hk.1.1.2.2.2.2, hk.1.2⟩⟩⟩⟩⟩)⟩
                have n3_ : Aside0 (Kd.V k62 62 (((w54.setCell ⟨gb334, 0, none⟩ (.int .i64 ((rd_T62 l0_2 x45_1).f0))).setCell ⟨gb334, 1, none⟩ (.int .i64 ((rd_T62 l0_2 x45_1).f1))).setCell ⟨gb334, 2, none⟩ (.slice A333_2 ((rd_T62 l0_2 x45_1).f2).length c333_2)) w.heap.size (fun k_ => (P0_2_ k_ ∨ w.heap.size ≤ k_) ∧ some k_ ≠ (u333002 : Value).ownBlock ∧ k_ ≠ gb324 ∧ k_ ≠ gb325 ∧ k_ ≠ gb326 ∧ k_ ≠ gb332 ∧ k_ ≠ gb334) (.slice A333_2 ((rd_T62 l0_2 x45_1).f2).length c333_2) ((rd_T62 l0_2 x45_1).f2)) := ⟨by (with_reducible repeat (first | apply Kd.V_alloc | apply Kd.V_drewN | apply Kd.V_drew)); exact Kd.V_mono (Kd.V_far (p := ⟨gb334, 2, none⟩) (Kd.V_far (p := ⟨gb334, 1, none⟩) (Kd.V_far (p := ⟨gb334, 0, none⟩) (Kd.V_mono HL333_2.out (fun k_ hk => (⟨hk, hk.2⟩ : _ ∧ k_ ≠ gb334))) (fun _ hk => hk.2) (.int .i64 ((rd_T62 l0_2 x45_1).f0))) (fun _ hk => hk.2) (.int .i64 ((rd_T62 l0_2 x45_1).f1))) (fun _ hk => hk.2) (.slice A333_2 ((rd_T62 l0_2 x45_1).f2).length c333_2)) (fun _ hk => ⟨hk.1.1.1, ⟨hk.1.1.2.1, ⟨hk.1.1.2.2.1, ⟨hk.1.1.2.2.2.1, ⟨hk.1.1.2.2.2.2.1, ⟨hk.1.1.2.2.2.2.2, hk.1.2⟩⟩⟩⟩⟩⟩)⟩
                have n4_ : Aside0 ((((w54.setCell ⟨gb334, 0, none⟩ (.int .i64 ((rd_T62 l0_2 x45_1).f0))).setCell ⟨gb334, 1, none⟩ (.int .i64 ((rd_T62 l0_2 x45_1).f1))).setCell ⟨gb334, 2, none⟩ (.slice A333_2 ((rd_T62 l0_2 x45_1).f2).length c333_2)).heap[gb324]? = some (.cells #[.int .i64 a0_0, .int .i64 a0_1, .slice (some ad333) l0_2.length c0_2] 62 (0, 0))) := ⟨by (with_reducible repeat (first | refine ac_ ?_ _ | refine ae_ ?_ | refine ad_ ?_ _)); refine blk_far ?_ NB324_334.out _; (with_reducible repeat (first | refine ac_ ?_ _ | refine ae_ ?_ | refine ad_ ?_ _)); refine blk_far ?_ NB324_334.out _; (with_reducible repeat (first | refine ac_ ?_ _ | refine ae_ ?_ | refine ad_ ?_ _)); refine blk_far ?_ NB324_334.out _; (with_reducible repeat (first | refine ac_ ?_ _ | refine ae_ ?_ | refine ad_ ?_ _)); exact BK324.out⟩
                have n5_ : Aside0 ((((w54.setCell ⟨gb334, 0, none⟩ (.int .i64 ((rd_T62 l0_2 x45_1).f0))).setCell ⟨gb334, 1, none⟩ (.int .i64 ((rd_T62 l0_2 x45_1).f1))).setCell ⟨gb334, 2, none⟩ (.slice A333_2 ((rd_T62 l0_2 x45_1).f2).length c333_2)).heap[gb325]? = some (.cells #[.int .i64 a2_0, .int .i64 a2_1, .slice A2_2 l2_2.length c2_2] 62 (0, 0))) := ⟨by (with_reducible repeat (first | refine ac_ ?_ _ | refine ae_ ?_ | refine ad_ ?_ _)); refine blk_far ?_ NB325_334.out _; (with_reducible repeat (first | refine ac_ ?_ _ | refine ae_ ?_ | refine ad_ ?_ _)); refine blk_far ?_ NB325_334.out _; (with_reducible repeat (first | refine ac_ ?_ _ | refine ae_ ?_ | refine ad_ ?_ _)); refine blk_far ?_ NB325_334.out _; (with_reducible repeat (first | refine ac_ ?_ _ | refine ae_ ?_ | refine ad_ ?_ _)); exact BK325.out⟩
                have n6_ : Aside0 ((((w54.setCell ⟨gb334, 0, none⟩ (.int .i64 ((rd_T62 l0_2 x45_1).f0))).setCell ⟨gb334, 1, none⟩ (.int .i64 ((rd_T62 l0_2 x45_1).f1))).setCell ⟨gb334, 2, none⟩ (.slice A333_2 ((rd_T62 l0_2 x45_1).f2).length c333_2)).heap[gb326]? = some (.cells #[.int .i64 0, .int .i64 0, .slice none 0 0] 62 (0, 0))) := ⟨by (with_reducible repeat (first | refine ac_ ?_ _ | refine ae_ ?_ | refine ad_ ?_ _)); refine blk_far ?_ NB326_334.out _; (with_reducible repeat (first | refine ac_ ?_ _ | refine ae_ ?_ | refine ad_ ?_ _)); refine blk_far ?_ NB326_334.out _; (with_reducible repeat (first | refine ac_ ?_ _ | refine ae_ ?_ | refine ad_ ?_ _)); refine blk_far ?_ NB326_334.out _; (with_reducible repeat (first | refine ac_ ?_ _ | refine ae_ ?_ | refine ad_ ?_ _)); exact BK326.out⟩
                have n7_ : Aside0 ((((w54.setCell ⟨gb334, 0, none⟩ (.int .i64 ((rd_T62 l0_2 x45_1).f0))).setCell ⟨gb334, 1, none⟩ (.int .i64 ((rd_T62 l0_2 x45_1).f1))).setCell ⟨gb334, 2, none⟩ (.slice A333_2 ((rd_T62 l0_2 x45_1).f2).length c333_2)).heap[gb332]? = some (.cells #[.int .i64 a0_0, .int .i64 a0_1, u333002] 62 (0, 0))) := ⟨by (with_reducible repeat (first | refine ac_ ?_ _ | refine ae_ ?_ | refine ad_ ?_ _)); refine blk_far ?_ NB332_334.out _; (with_reducible repeat (first | refine ac_ ?_ _ | refine ae_ ?_ | refine ad_ ?_ _)); refine blk_far ?_ NB332_334.out _; (with_reducible repeat (first | refine ac_ ?_ _ | refine ae_ ?_ | refine ad_ ?_ _)); refine blk_far ?_ NB332_334.out _; (with_reducible repeat (first | refine ac_ ?_ _ | refine ae_ ?_ | refine ad_ ?_ _)); exact BK332.out⟩
                have n8_ : Aside0 ((((w54.setCell ⟨gb334, 0, none⟩ (.int .i64 ((rd_T62 l0_2 x45_1).f0))).setCell ⟨gb334, 1, none⟩ (.int .i64 ((rd_T62 l0_2 x45_1).f1))).setCell ⟨gb334, 2, none⟩ (.slice A333_2 ((rd_T62 l0_2 x45_1).f2).length c333_2)).heap[gb334]? = some (.cells #[.int .i64 ((rd_T62 l0_2 x45_1).f0), .int .i64 ((rd_T62 l0_2 x45_1).f1), .slice A333_2 ((rd_T62 l0_2 x45_1).f2).length c333_2] 62 (0, 0))) := ⟨by (with_reducible repeat (first | refine ac_ ?_ _ | refine ae_ ?_ | refine ad_ ?_ _)); refine blk_put (cs := #[.int .i64 ((rd_T62 l0_2 x45_1).f0), .int .i64 ((rd_T62 l0_2 x45_1).f1), .slice none 0 0]) ?_ 2 _ rfl; (with_reducible repeat (first | refine ac_ ?_ _ | refine ae_ ?_ | refine ad_ ?_ _)); refine blk_put (cs := #[.int .i64 ((rd_T62 l0_2 x45_1).f0), .int .i64 0, .slice none 0 0]) ?_ 1 _ rfl; (with_reducible repeat (first | refine ac_ ?_ _ | refine ae_ ?_ | refine ad_ ?_ _)); refine blk_put (cs := #[.int .i64 0, .int .i64 0, .slice none 0 0]) ?_ 0 _ rfl; (with_reducible repeat (first | refine ac_ ?_ _ | refine ae_ ?_ | refine ad_ ?_ _)); exact BK334.out⟩
                have n9_ : Aside0 (Below w.heap.size w (((w54.setCell ⟨gb334, 0, none⟩ (.int .i64 ((rd_T62 l0_2 x45_1).f0))).setCell ⟨gb334, 1, none⟩ (.int .i64 ((rd_T62 l0_2 x45_1).f1))).setCell ⟨gb334, 2, none⟩ (.slice A333_2 ((rd_T62 l0_2 x45_1).f2).length c333_2))) := ⟨by repeat (first | (with_reducible first | exact HB.out | apply ai_ | apply ag_ | apply ah_ | refine af_ ?_ GE324.out | refine af_ ?_ GE325.out | refine af_ ?_ GE326.out | refine af_ ?_ GE332.out | refine af_ ?_ GE334.out) | exact HB.out)⟩
                (try clear HO_43)
                (try clear HO_325002)
                (try clear HO_333002)
                (try clear HL333_2)
                (try clear BK324)
                (try clear BK325)
                (try clear BK326)
                (try clear BK332)
                (try clear BK334)
                (try clear HB)
                generalize (((w54.setCell ⟨gb334, 0, none⟩ (.int .i64 ((rd_T62 l0_2 x45_1).f0))).setCell ⟨gb334, 1, none⟩ (.int .i64 ((rd_T62 l0_2 x45_1).f1))).setCell ⟨gb334, 2, none⟩ (.slice A333_2 ((rd_T62 l0_2 x45_1).f2).length c333_2)) = w60 at n0_ n1_ n2_ n3_ n4_ n5_ n6_ n7_ n8_ n9_ ⊢
                have HO_43 := n0_
                have HO_325002 := n1_
                have HO_333002 := n2_
                have HL333_2 := n3_
                have BK324 := n4_
                have BK325 := n5_
                have BK326 := n6_
                have BK332 := n7_
                have BK334 := n8_
                have HB := n9_
                clear n0_ n1_ n2_ n3_ n4_ n5_ n6_ n7_ n8_ n9_
                have n0_ := ab_ (Kd.V_drew HO_43.out)
                have n1_ := ab_ (Kd.V_drew HO_325002.out)
                have n2_ := ab_ (Kd.N_drew HO_333002.out)
                have n3_ := ab_ (Kd.V_drew HL333_2.out)
                have n4_ := ab_ (ae_ BK324.out)
                have n5_ := ab_ (ae_ BK325.out)
                have n6_ := ab_ (ae_ BK326.out)
                have n7_ := ab_ (ae_ BK332.out)
                have n8_ := ab_ (ae_ BK334.out)
                have n9_ := ab_ (ah_ HB.out)
                clear HO_43
                clear HO_325002
                clear HO_333002
                clear HL333_2
                clear BK324
                clear BK325
                clear BK326
                clear BK332
                clear BK334
                clear HB
                have HO_43 := n0_
                have HO_325002 := n1_
                have HO_333002 := n2_
                have HL333_2 := n3_
                have BK324 := n4_
                have BK325 := n5_
                have BK326 := n6_
                have BK332 := n7_
                have BK334 := n8_
                have HB := n9_
                clear n0_ n1_ n2_ n3_ n4_ n5_ n6_ n7_ n8_ n9_
                refine start_ (n := 16) (S := fun w' => w'.cell? ⟨gb332, 0, none⟩ = some (.int .i64 a0_0) ∧ w'.cell? ⟨gb332, 1, none⟩ = some (.int .i64 a0_1) ∧ w'.cell? ⟨gb332, 2, none⟩ = some (u333002) ∧ w'.cell? ⟨gb334, 0, none⟩ = some (.int .i64 ((rd_T62 l0_2 x45_1).f0)) ∧ w'.cell? ⟨gb334, 1, none⟩ = some (.int .i64 ((rd_T62 l0_2 x45_1).f1)) ∧ w'.cell? ⟨gb334, 2, none⟩ = some (.slice A333_2 ((rd_T62 l0_2 x45_1).f2).length c333_2) ∧ w'.cell? ⟨gb325, 0, none⟩ = some (.int .i64 a2_0) ∧ w'.cell? ⟨gb325, 1, none⟩ = some (.int .i64 a2_1) ∧ w'.cell? ⟨gb325, 2, none⟩ = some (.slice A2_2 l2_2.length c2_2) ∧ w'.cell? ⟨gb324, 0, none⟩ = some (.int .i64 a0_0) ∧ w'.cell? ⟨gb324, 1, none⟩ = some (.int .i64 a0_1) ∧ w'.cell? ⟨gb324, 2, none⟩ = some (.slice (some ad333) l0_2.length c0_2)) (ds := [15]) #[false, false, false, false, false, false, false, false, false, false, false, false, false, false, false, false] (by kernel_rfl) rfl rfl ⟨(an_ BK332.out 0).trans rfl, (an_ BK332.out 1).trans rfl, (an_ BK332.out 2).trans rfl, (an_ BK334.out 0).trans rfl, (an_ BK334.out 1).trans rfl, (an_ BK334.out 2).trans rfl, (an_ BK325.out 0).trans rfl, (an_ BK325.out 1).trans rfl, (an_ BK325.out 2).trans rfl, (an_ BK324.out 0).trans rfl, (an_ BK324.out 1).trans rfl, (an_ BK324.out 2).trans rfl⟩ (fun hHeld => ?_); refine with_tabW spec_l3Subst.tab11 spec_l3Subst.bits11 (fun HT_ HW_ => ?_)
                generalize w60.drew = w61 at HO_43 HO_325002 HO_333002 HL333_2 BK324 BK325 BK326 BK332 BK334 HB hHeld ⊢
                refine pure_ (i := 0) (N := some 50) (v := ?_) (a' := ?_) #[true, false, false, false, false, false, false, false, false, false, false, false, false, false, false, false] rfl rfl (any_of HT_.out (by kernel_rfl)) (fun _ _ _ h => h) (Or.inl ⟨by rfl, ?_⟩) ?_ ?_
                rotate_left
                · intro w'
                  go_simp
                  with_reducible rfl
                rotate_left
                · simp only [Act.put, List.setIfInBounds_toArray, List.set_cons_zero, List.set_cons_succ, i64_w, i32_w]
                  rfl
                refine pure_ (i := 3) (N := some 53) (v := ?_) (a' := ?_) #[true, false, false, true, false, false, false, false, false, false, false, false, false, false, false, false] rfl rfl (any_of HT_.out (by kernel_rfl)) (fun _ _ _ h => h) (Or.inl ⟨by rfl, ?_⟩) ?_ ?_
                rotate_left
                · intro w'
                  go_simp
                  with_reducible rfl
                rotate_left
                · simp only [Act.put, List.setIfInBounds_toArray, List.set_cons_zero, List.set_cons_succ, i64_w, i32_w]
                  rfl
                refine pure_ (i := 5) (N := some 55) (v := ?_) (a' := ?_) #[true, false, false, true, false, true, false, false, false, false, false, false, false, false, false, false] rfl rfl (any_of HT_.out (by kernel_rfl)) (fun _ _ _ h => h) (Or.inl ⟨by rfl, ?_⟩) ?_ ?_
                rotate_left
                · intro w'
                  go_simp
                  with_reducible rfl
                rotate_left
                · simp only [Act.put, List.setIfInBounds_toArray, List.set_cons_zero, List.set_cons_succ, i64_w, i32_w]
                  rfl
                refine pure_ (i := 6) (N := some 56) (v := ?_) (a' := ?_) #[true, false, false, true, false, true, true, false, false, false, false, false, false, false, false, false] rfl rfl (any_of HT_.out (by kernel_rfl)) (fun _ _ _ h => h) (Or.inl ⟨by rfl, ?_⟩) ?_ ?_
                rotate_left
                · intro w'
                  go_simp
                  with_reducible rfl
                rotate_left
                · simp only [Act.put, List.setIfInBounds_toArray, List.set_cons_zero, List.set_cons_succ, i64_w, i32_w]
                  rfl
                refine pure_ (i := 8) (N := some 58) (v := ?_) (a' := ?_) #[true, false, false, true, false, true, true, false, true, false, false, false, false, false, false, false] rfl rfl (any_of HT_.out (by kernel_rfl)) (fun _ _ _ h => h) (Or.inl ⟨by rfl, ?_⟩) ?_ ?_
                rotate_left
                · intro w'
                  go_simp
                  with_reducible rfl
                rotate_left
                · simp only [Act.put, List.setIfInBounds_toArray, List.set_cons_zero, List.set_cons_succ, i64_w, i32_w]
                  rfl
                refine take_ (i := 1) (N := some 51) (v := ?_) (a' := ?_) #[true, true, false, true, false, true, true, false, true, false, false, false, false, false, false, false] rfl rfl (take_ofW HT_.out HW_.out (by kernel_rfl)) (fun _ _ _ h => h) (Or.inl ⟨by rfl, ?_⟩) hHeld ?_ ?_
                rotate_left
                · rintro w' ⟨s0, s1, s2, s3, s4, s5, s6, s7, s8, s9, s10, s11⟩
                  go_simp
                  with_reducible rfl
                rotate_left
                · simp only [Act.put, List.setIfInBounds_toArray, List.set_cons_zero, List.set_cons_succ, i64_w, i32_w]
                  rfl
                refine take_ (i := 2) (N := some 52) (v := ?_) (a' := ?_) #[true, true, true, true, false, true, true, false, true, false, false, false, false, false, false, false] rfl rfl (take_ofW HT_.out HW_.out (by kernel_rfl)) (fun _ _ _ h => h) (Or.inl ⟨by rfl, ?_⟩) hHeld ?_ ?_
                rotate_left
                · rintro w' ⟨s0, s1, s2, s3, s4, s5, s6, s7, s8, s9, s10, s11⟩
                  go_simp
                  with_reducible rfl
                rotate_left
                · simp only [Act.put, List.setIfInBounds_toArray, List.set_cons_zero, List.set_cons_succ, i64_w, i32_w]
                  rfl
                refine take_ (i := 4) (N := some 54) (v := ?_) (a' := ?_) #[true, true, true, true, true, true, true, false, true, false, false, false, false, false, false, false] rfl rfl (take_ofW HT_.out HW_.out (by kernel_rfl)) (fun _ _ _ h => h) (Or.inl ⟨by rfl, ?_⟩) hHeld ?_ ?_
                rotate_left
                · rintro w' ⟨s0, s1, s2, s3, s4, s5, s6, s7, s8, s9, s10, s11⟩
                  go_simp
                  with_reducible rfl
                rotate_left
                · simp only [Act.put, List.setIfInBounds_toArray, List.set_cons_zero, List.set_cons_succ, i64_w, i32_w]
                  rfl
                refine take_ (i := 7) (N := some 57) (v := ?_) (a' := ?_) #[true, true, true, true, true, true, true, true, true, false, false, false, false, false, false, false] rfl rfl (take_ofW HT_.out HW_.out (by kernel_rfl)) (fun _ _ _ h => h) (Or.inl ⟨by rfl, ?_⟩) hHeld ?_ ?_
                rotate_left
                · rintro w' ⟨s0, s1, s2, s3, s4, s5, s6, s7, s8, s9, s10, s11⟩
                  go_simp
                  with_reducible rfl
                rotate_left
                · simp only [Act.put, List.setIfInBounds_toArray, List.set_cons_zero, List.set_cons_succ, i64_w, i32_w]
                  rfl
                refine one_ (i := 9) (N := some 59) #[true, true, true, true, true, true, true, true, true, true, false, false, false, false, false, false] rfl rfl (one_of HT_.out (by kernel_rfl)) (by decide) (fun K hK => ?_)
                refine goes_ Try.func118 (by kernel_rfl) rfl #[.int .i64 a0_0, .int .i64 x45_1] (by rfl) rfl rfl (by (try simp only [List.map_toArray, List.map_cons, List.map_nil]); first | done | rfl | (simp only [List.length_drop, List.length_take]; rfl)) ?_
                with_reducible refine (spec_l3Binds.calls a0_0 x45_1 t335 _ A51.out).mono ?_
                rintro e w' ⟨rfl, ⟨nd, rfl⟩⟩
                refine ⟨_, rfl, ?_⟩
                refine hK.out _ _ ⟨(an_ BK332.out 0).trans rfl, (an_ BK332.out 1).trans rfl, (an_ BK332.out 2).trans rfl, (an_ BK334.out 0).trans rfl, (an_ BK334.out 1).trans rfl, (an_ BK334.out 2).trans rfl, (an_ BK325.out 0).trans rfl, (an_ BK325.out 1).trans rfl, (an_ BK325.out 2).trans rfl, (an_ BK324.out 0).trans rfl, (an_ BK324.out 1).trans rfl, (an_ BK324.out 2).trans rfl⟩ (fun hHeld => ?_)
                clear hK K
                refine norm_ (a' := ?_) ?_ ?_
                rotate_left
                · show Act.put _ (some 59) _ = _
                  simp only [Act.put, List.setIfInBounds_toArray, List.set_cons_zero, List.set_cons_succ, i64_w, i32_w]
                  rfl
                refine pure_ (i := 10) (N := some 60) (v := ?_) (a' := ?_) #[true, true, true, true, true, true, true, true, true, true, true, false, false, false, false, false] rfl rfl (any_of HT_.out (by kernel_rfl)) (fun _ _ _ h => h) (Or.inl ⟨by rfl, ?_⟩) ?_ ?_
                rotate_left
                · intro w'
                  go_simp
                  with_reducible rfl
                rotate_left
                · simp only [Act.put, List.setIfInBounds_toArray, List.set_cons_zero, List.set_cons_succ, i64_w, i32_w]
                  rfl
                refine one_ (i := 11) (N := some 61) #[true, true, true, true, true, true, true, true, true, true, true, true, false, false, false, false] rfl rfl (one_of HT_.out (by kernel_rfl)) (by decide) (fun K hK => ?_)
                refine goes_ Try.func100 (by kernel_rfl) rfl #[.agg #[.int .i64 ((rd_T62 l0_2 x45_1).f0), .int .i64 ((rd_T62 l0_2 x45_1).f1), .slice A333_2 ((rd_T62 l0_2 x45_1).f2).length c333_2], .int .i64 a1, .agg #[.int .i64 a2_0, .int .i64 a2_1, .slice A2_2 l2_2.length c2_2], .int .i64 (wrap64 (a3 + t335))] (by rfl) rfl rfl (by (try simp only [List.map_toArray, List.map_cons, List.map_nil]); first | done | rfl | (simp only [List.length_drop, List.length_take]; rfl)) ?_
                with_reducible refine (ih k1 (by have := HK1.out; omega) ((rd_T62 l0_2 x45_1).f0) ((rd_T62 l0_2 x45_1).f1) (fun k_ => ((P0_2_ k_ ∨ w.heap.size ≤ k_) ∧ (some k_ ≠ (u333002 : Value).ownBlock ∧ (k_ ≠ gb324 ∧ (k_ ≠ gb325 ∧ (k_ ≠ gb326 ∧ (k_ ≠ gb332 ∧ k_ ≠ gb334))))))) _ _ ((rd_T62 l0_2 x45_1).f2) a1 a2_0 a2_1 _ _ l2_2 (wrap64 (a3 + t335)) t336 t337 t338 _ ?side1 ?side2 ?side3 A52.out).mono ?_
                (case side1 => exact HL333_2.out)
                (case side2 => repeat (first | exact (Kd.C_below HR2_2.out (by repeat (first | (with_reducible first | exact HB.out | apply ai_ | apply ag_ | apply ah_ | refine af_ ?_ GE324.out | refine af_ ?_ GE325.out | refine af_ ?_ GE326.out | refine af_ ?_ GE332.out | refine af_ ?_ GE334.out) | exact HB.out))) | (with_reducible refine Kd.C_alloc ?_ _) | (with_reducible refine Kd.C_drewN ?_ _) | (with_reducible refine Kd.C_drew ?_)))
                (case side3 => exact HC2_2.out)
                rintro e w62 ⟨v339, rfl, ho0, hb⟩
                refine ⟨_, rfl, ?_⟩
                have n0_ := ab_ (Kd.V_below (by (with_reducible repeat (first | apply Kd.V_alloc | apply Kd.V_drewN | apply Kd.V_drew)); exact HO_43.out) hb)
                have n1_ := ab_ (Kd.V_below (by (with_reducible repeat (first | apply Kd.V_alloc | apply Kd.V_drewN | apply Kd.V_drew)); exact HO_325002.out) hb)
                have n2_ := ab_ (Kd.N_below (by (with_reducible repeat (first | apply Kd.N_alloc | apply Kd.N_drewN | apply Kd.N_drew)); exact HO_333002.out) hb)
                have n3_ := ab_ (Kd.V_below (by (with_reducible repeat (first | apply Kd.V_alloc | apply Kd.V_drewN | apply Kd.V_drew)); exact HL333_2.out) hb)
                have n4_ := ab_ (Kd.V_lower (Kd.V_mono (ok' := fun k_ => (P0_2_ k_ ∨ w.heap.size ≤ k_) ∧ some k_ ≠ (u333002 : Value).ownBlock ∧ k_ ≠ gb324 ∧ k_ ≠ gb325 ∧ k_ ≠ gb326 ∧ k_ ≠ gb332 ∧ k_ ≠ gb334) ho0 (fun k_ hk_ => ⟨Or.elim hk_ (fun hs_ => hs_.1) (fun hn_ => (.inr (Nat.le_trans (below_size (by repeat (first | (with_reducible first | exact HB.out | apply ai_ | apply ag_ | apply ah_ | refine af_ ?_ GE324.out | refine af_ ?_ GE325.out | refine af_ ?_ GE326.out | refine af_ ?_ GE332.out | refine af_ ?_ GE334.out) | exact HB.out))) hn_))), Or.elim hk_ (fun hs_ => hs_.2.1) (fun hn_ => (Kd.fresh' (Kd.N_lt (by (with_reducible repeat (first | apply Kd.N_alloc | apply Kd.N_drewN | apply Kd.N_drew)); exact HO_333002.out)) k_ hn_)), Or.elim hk_ (fun hs_ => hs_.2.2.1) (fun hn_ => (Kd.freshB (g := gb324) (o := .cells #[.int .i64 a0_0, .int .i64 a0_1, .slice (some ad333) l0_2.length c0_2] 62 (0, 0)) (by (with_reducible repeat (first | refine ac_ ?_ _ | refine ae_ ?_ | refine ad_ ?_ _)); exact BK324.out) k_ hn_)), Or.elim hk_ (fun hs_ => hs_.2.2.2.1) (fun hn_ => (Kd.freshB (g := gb325) (o := .cells #[.int .i64 a2_0, .int .i64 a2_1, .slice A2_2 l2_2.length c2_2] 62 (0, 0)) (by (with_reducible repeat (first | refine ac_ ?_ _ | refine ae_ ?_ | refine ad_ ?_ _)); exact BK325.out) k_ hn_)), Or.elim hk_ (fun hs_ => hs_.2.2.2.2.1) (fun hn_ => (Kd.freshB (g := gb326) (o := .cells #[.int .i64 0, .int .i64 0, .slice none 0 0] 62 (0, 0)) (by (with_reducible repeat (first | refine ac_ ?_ _ | refine ae_ ?_ | refine ad_ ?_ _)); exact BK326.out) k_ hn_)), Or.elim hk_ (fun hs_ => hs_.2.2.2.2.2.1) (fun hn_ => (Kd.freshB (g := gb332) (o := .cells #[.int .i64 a0_0, .int .i64 a0_1, u333002] 62 (0, 0)) (by (with_reducible repeat (first | refine ac_ ?_ _ | refine ae_ ?_ | refine ad_ ?_ _)); exact BK332.out) k_ hn_)), Or.elim hk_ (fun hs_ => hs_.2.2.2.2.2.2) (fun hn_ => (Kd.freshB (g := gb334) (o := .cells #[.int .i64 ((rd_T62 l0_2 x45_1).f0), .int .i64 ((rd_T62 l0_2 x45_1).f1), .slice A333_2 ((rd_T62 l0_2 x45_1).f2).length c333_2] 62 (0, 0)) (by (with_reducible repeat (first | refine ac_ ?_ _ | refine ae_ ?_ | refine ad_ ?_ _)); exact BK334.out) k_ hn_))⟩)) (below_size (by repeat (first | (with_reducible first | exact HB.out | apply ai_ | apply ag_ | apply ah_ | refine af_ ?_ GE324.out | refine af_ ?_ GE325.out | refine af_ ?_ GE326.out | refine af_ ?_ GE332.out | refine af_ ?_ GE334.out) | exact HB.out))))
                have n5_ := ab_ (blk_below (g := gb324) (o := .cells #[.int .i64 a0_0, .int .i64 a0_1, .slice (some ad333) l0_2.length c0_2] 62 (0, 0)) (by (with_reducible repeat (first | refine ac_ ?_ _ | refine ae_ ?_ | refine ad_ ?_ _)); exact BK324.out) hb)
                have n6_ := ab_ (blk_below (g := gb325) (o := .cells #[.int .i64 a2_0, .int .i64 a2_1, .slice A2_2 l2_2.length c2_2] 62 (0, 0)) (by (with_reducible repeat (first | refine ac_ ?_ _ | refine ae_ ?_ | refine ad_ ?_ _)); exact BK325.out) hb)
                have n7_ := ab_ (blk_below (g := gb326) (o := .cells #[.int .i64 0, .int .i64 0, .slice none 0 0] 62 (0, 0)) (by (with_reducible repeat (first | refine ac_ ?_ _ | refine ae_ ?_ | refine ad_ ?_ _)); exact BK326.out) hb)
                have n8_ := ab_ (blk_below (g := gb332) (o := .cells #[.int .i64 a0_0, .int .i64 a0_1, u333002] 62 (0, 0)) (by (with_reducible repeat (first | refine ac_ ?_ _ | refine ae_ ?_ | refine ad_ ?_ _)); exact BK332.out) hb)
                have n9_ := ab_ (blk_below (g := gb334) (o := .cells #[.int .i64 ((rd_T62 l0_2 x45_1).f0), .int .i64 ((rd_T62 l0_2 x45_1).f1), .slice A333_2 ((rd_T62 l0_2 x45_1).f2).length c333_2] 62 (0, 0)) (by (with_reducible repeat (first | refine ac_ ?_ _ | refine ae_ ?_ | refine ad_ ?_ _)); exact BK334.out) hb)
                have n10_ := ab_ (ap_ (by repeat (first | (with_reducible first | exact HB.out | apply ai_ | apply ag_ | apply ah_ | refine af_ ?_ GE324.out | refine af_ ?_ GE325.out | refine af_ ?_ GE326.out | refine af_ ?_ GE332.out | refine af_ ?_ GE334.out) | exact HB.out)) hb)
                clear HO_43
                clear HO_325002
                clear HO_333002
                clear HL333_2
                clear BK324
                clear BK325
                clear BK326
                clear BK332
                clear BK334
                clear HB
                have HO_43 := n0_
                have HO_325002 := n1_
                have HO_333002 := n2_
                have HL333_2 := n3_
                have HO340 := n4_
                have BK324 := n5_
                have BK325 := n6_
                have BK326 := n7_
                have BK332 := n8_
                have BK334 := n9_
                have HB := n10_
                clear n0_ n1_ n2_ n3_ n4_ n5_ n6_ n7_ n8_ n9_ n10_
                (try clear hb)
                (try clear hb2)
                (try clear hk)
                (try clear hi)
                (try clear ho0)
                obtain ⟨Ao64, co64, eo64⟩ := Kd.V_slice HO340.out
                (first | subst eo64 | (injection eo64 with f1_ f2_ f3_; have f4_ := f1_.symm; have f5_ := f3_.symm; clear f1_ f2_ f3_; subst f4_; subst f5_))
                refine hK.out _ _ ⟨(an_ BK332.out 0).trans rfl, (an_ BK332.out 1).trans rfl, (an_ BK332.out 2).trans rfl, (an_ BK334.out 0).trans rfl, (an_ BK334.out 1).trans rfl, (an_ BK334.out 2).trans rfl, (an_ BK325.out 0).trans rfl, (an_ BK325.out 1).trans rfl, (an_ BK325.out 2).trans rfl, (an_ BK324.out 0).trans rfl, (an_ BK324.out 1).trans rfl, (an_ BK324.out 2).trans rfl⟩ (fun hHeld => ?_)
                clear hK K
                refine norm_ (a' := ?_) ?_ ?_
                rotate_left
                · show Act.put _ (some 61) _ = _
                  simp only [Act.put, List.setIfInBounds_toArray, List.set_cons_zero, List.set_cons_succ, i64_w, i32_w]
                  rfl
                refine one_ (i := 12) (N := some 62) #[true, true, true, true, true, true, true, true, true, true, true, true, true, false, false, false] rfl rfl (one_of HT_.out (by kernel_rfl)) (by decide) (fun K hK => ?_)
                refine value_ (w1 := ?_) (v := ?_) (by rfl) rfl ?_ ?_
                rotate_left 2
                · go_simp
                  constructor
                  · rfl
                  · rfl
                refine hK.out _ _ ⟨(an_ (ad_ BK332.out _) 0).trans rfl, (an_ (ad_ BK332.out _) 1).trans rfl, (an_ (ad_ BK332.out _) 2).trans rfl, (an_ (ad_ BK334.out _) 0).trans rfl, (an_ (ad_ BK334.out _) 1).trans rfl, (an_ (ad_ BK334.out _) 2).trans rfl, (an_ (ad_ BK325.out _) 0).trans rfl, (an_ (ad_ BK325.out _) 1).trans rfl, (an_ (ad_ BK325.out _) 2).trans rfl, (an_ (ad_ BK324.out _) 0).trans rfl, (an_ (ad_ BK324.out _) 1).trans rfl, (an_ (ad_ BK324.out _) 2).trans rfl⟩ (fun hHeld => ?_)
                clear hK K
                refine norm_ (a' := ?_) ?_ ?_
                rotate_left
                · show Act.put _ (some 62) _ = _
                  simp only [Act.put, List.setIfInBounds_toArray, List.set_cons_zero, List.set_cons_succ, i64_w, i32_w]
                  rfl
                refine one_ (i := 13) (N := some 63) #[true, true, true, true, true, true, true, true, true, true, true, true, true, true, false, false] rfl rfl (one_of HT_.out (by kernel_rfl)) (by decide) (fun K hK => ?_)
                refine Kd.N_append_step k62 (w0 := w) w.heap.size (by rfl) (.tmp 51) (.tmp 62) 60 62 (.agg #[(.int .i64 0), (.int .i64 0), (.slice none 0 0)]) 40 rfl Try.underlying60 info62 rfl (by decide) (by omega) u333002 x333002_1 (⟨t336, t337, t338⟩ : S62) [.int .i64 t336, .int .i64 t337, .slice Ao64 t338.length co64] (fun k_ => (P0_2_ k_ ∨ w.heap.size ≤ k_) ∧ k_ ≠ gb324 ∧ k_ ≠ gb325 ∧ k_ ≠ gb326 ∧ k_ ≠ gb332 ∧ k_ ≠ gb334) (fun k_ => ((fun k_ => (P0_2_ k_ ∨ w.heap.size ≤ k_) ∧ k_ ≠ gb324 ∧ k_ ≠ gb325 ∧ k_ ≠ gb326 ∧ k_ ≠ gb332 ∧ k_ ≠ gb334)) k_ ∧ some k_ ≠ (u333002 : Value).ownBlock) rfl rfl ?aP (fun _ hk => hk) ?aF ?aO ?aB ?aS ?aL ?_
                (case aP => exact (k62_mkF _ _ (⟨t336, t337, t338⟩ : S62) (Kd.V_reads' (Kd.V_mono (ok' := (fun k_ => ((fun k_ => (P0_2_ k_ ∨ w.heap.size ≤ k_) ∧ k_ ≠ gb324 ∧ k_ ≠ gb325 ∧ k_ ≠ gb326 ∧ k_ ≠ gb332 ∧ k_ ≠ gb334)) k_ ∧ some k_ ≠ (u333002 : Value).ownBlock)) (HO340.out) (fun k_ hk => ⟨⟨hk.1, ⟨hk.2.2.1, ⟨hk.2.2.2.1, ⟨hk.2.2.2.2.1, ⟨hk.2.2.2.2.2.1, hk.2.2.2.2.2.2⟩⟩⟩⟩⟩, hk.2.1⟩))).2.1 (Kd.V_F (Kd.V_mono (ok' := (fun k_ => ((fun k_ => (P0_2_ k_ ∨ w.heap.size ≤ k_) ∧ k_ ≠ gb324 ∧ k_ ≠ gb325 ∧ k_ ≠ gb326 ∧ k_ ≠ gb332 ∧ k_ ≠ gb334)) k_ ∧ some k_ ≠ (u333002 : Value).ownBlock)) (HO340.out) (fun k_ hk => ⟨⟨hk.1, ⟨hk.2.2.1, ⟨hk.2.2.2.1, ⟨hk.2.2.2.2.1, ⟨hk.2.2.2.2.2.1, hk.2.2.2.2.2.2⟩⟩⟩⟩⟩, hk.2.1⟩)))))
                (case aB => exact (by repeat (first | (with_reducible first | exact HB.out | apply ai_ | apply ag_ | apply ah_ | refine af_ ?_ GE324.out | refine af_ ?_ GE325.out | refine af_ ?_ GE326.out | refine af_ ?_ GE332.out | refine af_ ?_ GE334.out) | exact HB.out)))
                (case aF => exact (fun k_ hk => ⟨(.inr (Nat.le_trans (below_size (by repeat (first | (with_reducible first | exact HB.out | apply ai_ | apply ag_ | apply ah_ | refine af_ ?_ GE324.out | refine af_ ?_ GE325.out | refine af_ ?_ GE326.out | refine af_ ?_ GE332.out | refine af_ ?_ GE334.out) | exact HB.out))) hk)), Kd.freshB (g := gb324) (o := .cells #[.int .i64 a0_0, .int .i64 a0_1, .slice (some ad333) l0_2.length c0_2] 62 (0, 0)) (by (with_reducible repeat (first | refine ac_ ?_ _ | refine ae_ ?_ | refine ad_ ?_ _)); exact BK324.out) k_ hk, Kd.freshB (g := gb325) (o := .cells #[.int .i64 a2_0, .int .i64 a2_1, .slice A2_2 l2_2.length c2_2] 62 (0, 0)) (by (with_reducible repeat (first | refine ac_ ?_ _ | refine ae_ ?_ | refine ad_ ?_ _)); exact BK325.out) k_ hk, Kd.freshB (g := gb326) (o := .cells #[.int .i64 0, .int .i64 0, .slice none 0 0] 62 (0, 0)) (by (with_reducible repeat (first | refine ac_ ?_ _ | refine ae_ ?_ | refine ad_ ?_ _)); exact BK326.out) k_ hk, Kd.freshB (g := gb332) (o := .cells #[.int .i64 a0_0, .int .i64 a0_1, u333002] 62 (0, 0)) (by (with_reducible repeat (first | refine ac_ ?_ _ | refine ae_ ?_ | refine ad_ ?_ _)); exact BK332.out) k_ hk, Kd.freshB (g := gb334) (o := .cells #[.int .i64 ((rd_T62 l0_2 x45_1).f0), .int .i64 ((rd_T62 l0_2 x45_1).f1), .slice A333_2 ((rd_T62 l0_2 x45_1).f2).length c333_2] 62 (0, 0)) (by (with_reducible repeat (first | refine ac_ ?_ _ | refine ae_ ?_ | refine ad_ ?_ _)); exact BK334.out) k_ hk⟩))
                (case aO => exact (by (with_reducible repeat (first | apply Kd.N_alloc | apply Kd.N_drewN | apply Kd.N_drew)); exact HO_333002.out))
                (case aS => exact (below_size (by repeat (first | (with_reducible first | exact HB.out | apply ai_ | apply ag_ | apply ah_ | refine af_ ?_ GE324.out | refine af_ ?_ GE325.out | refine af_ ?_ GE326.out | refine af_ ?_ GE332.out | refine af_ ?_ GE334.out) | exact HB.out))))
                (case aL => have := LMc53.out; omega)
                intro v342 w63 ho hb hg hat
                rw [← Ny341.out] at ho
                have n0_ := ab_ (Kd.V_afterv (ok := (fun k_ => (P0_2_ k_ ∨ w.heap.size ≤ k_) ∧ k_ ≠ gb324 ∧ k_ ≠ gb325 ∧ k_ ≠ gb326 ∧ k_ ≠ gb332 ∧ k_ ≠ gb334)) (by (with_reducible repeat (first | apply Kd.V_alloc | apply Kd.V_drewN | apply Kd.V_drew)); exact Kd.V_mono HO_43.out (fun _ hk => ⟨⟨hk.1, ⟨hk.2.2.1, ⟨hk.2.2.2.1, ⟨hk.2.2.2.2.1, ⟨hk.2.2.2.2.2.1, hk.2.2.2.2.2.2⟩⟩⟩⟩⟩, hk.2.1⟩)) hg hat)
                have n1_ := ab_ (Kd.V_afterv (ok := (fun k_ => (P0_2_ k_ ∨ w.heap.size ≤ k_) ∧ k_ ≠ gb324 ∧ k_ ≠ gb325 ∧ k_ ≠ gb326 ∧ k_ ≠ gb332 ∧ k_ ≠ gb334)) (by (with_reducible repeat (first | apply Kd.V_alloc | apply Kd.V_drewN | apply Kd.V_drew)); exact Kd.V_mono HO_325002.out (fun _ hk => ⟨⟨hk.1, ⟨hk.2.2.1, ⟨hk.2.2.2.1, ⟨hk.2.2.2.2.1, ⟨hk.2.2.2.2.2.1, hk.2.2.2.2.2.2⟩⟩⟩⟩⟩, hk.2.1⟩)) hg hat)
                have n2_ := ab_ (blk_grown (g := gb324) (o := .cells #[.int .i64 a0_0, .int .i64 a0_1, .slice (some ad333) l0_2.length c0_2] 62 (0, 0)) (by (with_reducible repeat (first | refine ac_ ?_ _ | refine ae_ ?_ | refine ad_ ?_ _)); exact BK324.out) hg (Kd.N_away HO_333002.out (fun _ hk => hk.2.1)))
                have n3_ := ab_ (blk_grown (g := gb325) (o := .cells #[.int .i64 a2_0, .int .i64 a2_1, .slice A2_2 l2_2.length c2_2] 62 (0, 0)) (by (with_reducible repeat (first | refine ac_ ?_ _ | refine ae_ ?_ | refine ad_ ?_ _)); exact BK325.out) hg (Kd.N_away HO_333002.out (fun _ hk => hk.2.2.1)))
                have n4_ := ab_ (blk_grown (g := gb326) (o := .cells #[.int .i64 0, .int .i64 0, .slice none 0 0] 62 (0, 0)) (by (with_reducible repeat (first | refine ac_ ?_ _ | refine ae_ ?_ | refine ad_ ?_ _)); exact BK326.out) hg (Kd.N_away HO_333002.out (fun _ hk => hk.2.2.2.1)))
                have n5_ := ab_ (blk_grown (g := gb332) (o := .cells #[.int .i64 a0_0, .int .i64 a0_1, u333002] 62 (0, 0)) (by (with_reducible repeat (first | refine ac_ ?_ _ | refine ae_ ?_ | refine ad_ ?_ _)); exact BK332.out) hg (Kd.N_away HO_333002.out (fun _ hk => hk.2.2.2.2.1)))
                have n6_ := ab_ (Kd.V_afterv (ok := (fun k_ => (P0_2_ k_ ∨ w.heap.size ≤ k_) ∧ k_ ≠ gb324 ∧ k_ ≠ gb325 ∧ k_ ≠ gb326 ∧ k_ ≠ gb332 ∧ k_ ≠ gb334)) (by (with_reducible repeat (first | apply Kd.V_alloc | apply Kd.V_drewN | apply Kd.V_drew)); exact Kd.V_mono HL333_2.out (fun _ hk => ⟨⟨hk.1, ⟨hk.2.2.1, ⟨hk.2.2.2.1, ⟨hk.2.2.2.2.1, ⟨hk.2.2.2.2.2.1, hk.2.2.2.2.2.2⟩⟩⟩⟩⟩, hk.2.1⟩)) hg hat)
                have n7_ := ab_ (blk_grown (g := gb334) (o := .cells #[.int .i64 ((rd_T62 l0_2 x45_1).f0), .int .i64 ((rd_T62 l0_2 x45_1).f1), .slice A333_2 ((rd_T62 l0_2 x45_1).f2).length c333_2] 62 (0, 0)) (by (with_reducible repeat (first | refine ac_ ?_ _ | refine ae_ ?_ | refine ad_ ?_ _)); exact BK334.out) hg (Kd.N_away HO_333002.out (fun _ hk => hk.2.2.2.2.2)))
                have n8_ := ab_ (Kd.V_afterv (ok := (fun k_ => (P0_2_ k_ ∨ w.heap.size ≤ k_) ∧ k_ ≠ gb324 ∧ k_ ≠ gb325 ∧ k_ ≠ gb326 ∧ k_ ≠ gb332 ∧ k_ ≠ gb334)) (by (with_reducible repeat (first | apply Kd.V_alloc | apply Kd.V_drewN | apply Kd.V_drew)); exact Kd.V_mono HO340.out (fun _ hk => ⟨⟨hk.1, ⟨hk.2.2.1, ⟨hk.2.2.2.1, ⟨hk.2.2.2.2.1, ⟨hk.2.2.2.2.2.1, hk.2.2.2.2.2.2⟩⟩⟩⟩⟩, hk.2.1⟩)) hg hat)
                have n9_ := ab_ (hb)
                have n10_ := ab_ (ho)
                clear HO_43
                clear HO_325002
                clear BK324
                clear BK325
                clear BK326
                clear BK332
                clear HL333_2
                clear BK334
                clear HO340
                clear HB
                clear HO_333002
                have HO_43 := n0_
                have HO_325002 := n1_
                have BK324 := n2_
                have BK325 := n3_
                have BK326 := n4_
                have BK332 := n5_
                have HL333_2 := n6_
                have BK334 := n7_
                have HO340 := n8_
                have HB := n9_
                have HO343 := n10_
                clear n0_ n1_ n2_ n3_ n4_ n5_ n6_ n7_ n8_ n9_ n10_
                clear ho hb hg hat
                obtain ⟨Ao65, co65, eo65⟩ := Kd.N_slice HO343.out
                (first | subst eo65 | (injection eo65 with f1_ f2_ f3_; have f4_ := f1_.symm; have f5_ := f3_.symm; clear f1_ f2_ f3_; subst f4_; subst f5_))
                refine hK.out _ _ ⟨(an_ BK332.out 0).trans rfl, (an_ BK332.out 1).trans rfl, (an_ BK332.out 2).trans rfl, (an_ BK334.out 0).trans rfl, (an_ BK334.out 1).trans rfl, (an_ BK334.out 2).trans rfl, (an_ BK325.out 0).trans rfl, (an_ BK325.out 1).trans rfl, (an_ BK325.out 2).trans rfl, (an_ BK324.out 0).trans rfl, (an_ BK324.out 1).trans rfl, (an_ BK324.out 2).trans rfl⟩ (fun hHeld => ?_)
                clear hK K
                refine norm_ (a' := ?_) ?_ ?_
                rotate_left
                · show Act.put _ (some 63) _ = _
                  simp only [Act.put, List.setIfInBounds_toArray, List.set_cons_zero, List.set_cons_succ, i64_w, i32_w]
                  rfl
                refine pure_ (i := 14) (N := some 64) (v := ?_) (a' := ?_) #[true, true, true, true, true, true, true, true, true, true, true, true, true, true, true, false] rfl rfl (any_of HT_.out (by kernel_rfl)) (fun _ _ _ h => h) (Or.inl ⟨by rfl, ?_⟩) ?_ ?_
                rotate_left
                · intro w'
                  go_simp
                  with_reducible rfl
                rotate_left
                · simp only [Act.put, List.setIfInBounds_toArray, List.set_cons_zero, List.set_cons_succ, i64_w, i32_w]
                  rfl
                refine last_ (i := 15) (N := none) #[true, true, true, true, true, true, true, true, true, true, true, true, true, true, true, true] rfl rfl (one_of HT_.out (by kernel_rfl)) (by decide) (fun K hK => ?_)
                have hs66 : w63.cell? ⟨gb332, 2, none⟩ = some (u333002) := (an_ BK332.out 2).trans rfl
                have hfs66 := am_ BK332.out 2
                have hns66_0 := NB324_332.out
                have hns66_1 := NB325_332.out
                have hns66_2 := NB326_332.out
                have hns66_4 := NB334_332.out
                have hms66_0 := NB332_324.out
                have hms66_1 := NB332_325.out
                have hms66_2 := NB332_326.out
                have hms66_4 := NB332_334.out
                refine skip_ (w1 := ?_) (by rfl) rfl ?_ ?_
                rotate_left
                · go_simp
                  rfl
                refine hK.out _ _ ?_
                clear hK K
                refine done_ (done_of HT_.out (by kernel_rfl)) ?_
                try go_wp2
                go_roundg k1
                case measure => have := HK1.out; omega
                case rel => exact ⟨(wrap64 (x45_1 + 1)), (y341), (.slice Ao65 y341.length co65), (by first | rfl | (simp; done) | (simp [*]; done)), H', ⟨by have := HK1.out; omega⟩, ⟨by (with_reducible repeat (first | apply Kd.V_alloc | apply Kd.V_drewN | apply Kd.V_drew)); exact Kd.V_mono (Kd.V_far (p := ⟨gb332, 2, none⟩) (Kd.V_mono HO_43.out (fun k_ hk => (⟨hk, hk.1.2.2.2.2.1⟩ : _ ∧ k_ ≠ gb332))) (fun _ hk => hk.2) (.slice Ao65 y341.length co65)) (fun _ hk => ⟨hk.1.1.1, ⟨hk.1.2, ⟨hk.1.1.2.1, ⟨hk.1.1.2.2.1, ⟨hk.1.1.2.2.2.1, hk.1.1.2.2.2.2.1⟩⟩⟩⟩⟩)⟩, ⟨by (with_reducible repeat (first | apply Kd.V_alloc | apply Kd.V_drewN | apply Kd.V_drew)); exact Kd.V_mono (Kd.V_far (p := ⟨gb332, 2, none⟩) (Kd.V_mono HO_325002.out (fun k_ hk => (⟨hk, hk.1.2.2.2.2.1⟩ : _ ∧ k_ ≠ gb332))) (fun _ hk => hk.2) (.slice Ao65 y341.length co65)) (fun _ hk => ⟨hk.1.1.1, ⟨hk.1.2, ⟨hk.1.1.2.1, ⟨hk.1.1.2.2.1, ⟨hk.1.1.2.2.2.1, hk.1.1.2.2.2.2.1⟩⟩⟩⟩⟩)⟩, ⟨by (with_reducible repeat (first | apply Kd.N_alloc | apply Kd.N_drewN | apply Kd.N_drew)); exact Kd.N_mono (Kd.N_far (p := ⟨gb332, 2, none⟩) (Kd.N_mono HO343.out (fun k_ hk => (⟨hk, hk.2.2.2.2.1⟩ : _ ∧ k_ ≠ gb332))) (fun _ hk => hk.2) (.slice Ao65 y341.length co65)) (fun _ hk => ⟨hk.1.1, ⟨hk.1.2.1, ⟨hk.1.2.2.1, ⟨hk.1.2.2.2.1, hk.1.2.2.2.2.1⟩⟩⟩⟩)⟩, ⟨by (with_reducible repeat (first | refine ac_ ?_ _ | refine ae_ ?_ | refine ad_ ?_ _)); refine blk_far ?_ NB324_332.out _; (with_reducible repeat (first | refine ac_ ?_ _ | refine ae_ ?_ | refine ad_ ?_ _)); exact BK324.out⟩, ⟨by (with_reducible repeat (first | refine ac_ ?_ _ | refine ae_ ?_ | refine ad_ ?_ _)); refine blk_far ?_ NB325_332.out _; (with_reducible repeat (first | refine ac_ ?_ _ | refine ae_ ?_ | refine ad_ ?_ _)); exact BK325.out⟩, ⟨by (with_reducible repeat (first | refine ac_ ?_ _ | refine ae_ ?_ | refine ad_ ?_ _)); refine blk_far ?_ NB326_332.out _; (with_reducible repeat (first | refine ac_ ?_ _ | refine ae_ ?_ | refine ad_ ?_ _)); exact BK326.out⟩, ⟨by (with_reducible repeat (first | refine ac_ ?_ _ | refine ae_ ?_ | refine ad_ ?_ _)); refine blk_put (cs := #[.int .i64 a0_0, .int .i64 a0_1, u333002]) ?_ 2 _ rfl; (with_reducible repeat (first | refine ac_ ?_ _ | refine ae_ ?_ | refine ad_ ?_ _)); exact BK332.out⟩, ⟨by repeat (first | (with_reducible first | exact HB.out | apply ai_ | apply ag_ | apply ah_ | refine af_ ?_ GE324.out | refine af_ ?_ GE325.out | refine af_ ?_ GE326.out | refine af_ ?_ GE332.out | refine af_ ?_ GE334.out) | exact HB.out)⟩⟩
              · rw [if_neg c53] at H
                exact absurd H (by simp)
            · rw [if_neg c50] at H
              exact absurd H (by simp)
          · rw [if_neg c49] at H
            exact absurd H (by simp)
        · rw [if_neg c48] at H
          have c48b0 : decide (x45_1 < (l0_2.length : Int)) = false := decide_eq_false c48
          clear c48
          simp only [Option.some.injEq, Prod.mk.injEq] at H
          obtain ⟨rfl, rfl, rfl⟩ := H
          have hnb67 := NB332_324.out
          have hnc67 := NB324_332.out
          have hnb68 := NB332_325.out
          have hnc68 := NB325_332.out
          have hnb69 := NB332_326.out
          have hnc69 := NB326_332.out
          have hcz70_0 : wr.cell? ⟨gb332, 0, none⟩ = some (.int .i64 a0_0) := (an_ BK332.out 0).trans rfl
          have hcz70_1 : wr.cell? ⟨gb332, 1, none⟩ = some (.int .i64 a0_1) := (an_ BK332.out 1).trans rfl
          have hcz70_2 : wr.cell? ⟨gb332, 2, none⟩ = some (u333002) := (an_ BK332.out 2).trans rfl
          have hfz70_0 := am_ BK332.out 0
          have hfz70_1 := am_ BK332.out 1
          have hfz70_2 := am_ BK332.out 2
          have hnb71 := NB326_324.out
          have hnc71 := NB324_326.out
          have hnb72 := NB326_325.out
          have hnc72 := NB325_326.out
          have hcz73_0 : wr.cell? ⟨gb326, 0, none⟩ = some (.int .i64 0) := (an_ BK326.out 0).trans rfl
          have hcz73_1 : wr.cell? ⟨gb326, 1, none⟩ = some (.int .i64 0) := (an_ BK326.out 1).trans rfl
          have hcz73_2 : wr.cell? ⟨gb326, 2, none⟩ = some (.slice none 0 0) := (an_ BK326.out 2).trans rfl
          have hfz73_0 := am_ BK326.out 0
          have hfz73_1 := am_ BK326.out 1
          have hfz73_2 := am_ BK326.out 2
          obtain ⟨Ao74, co74, eo74⟩ := Kd.N_slice HO_333002.out
          subst eo74
          go_wp2
          refine bodyPost_ret (results_cell_row rfl _ _ gb326 62 #[.int .i64 a0_0, .int .i64 a0_1, .slice Ao74 x333002_1.length co74] (0, 0) _ rfl (by (with_reducible repeat (first | refine ac_ ?_ _ | refine ae_ ?_ | refine ad_ ?_ _)); refine blk_put (cs := #[.int .i64 a0_0, .int .i64 a0_1, .slice none 0 0]) ?_ 2 _ rfl; (with_reducible repeat (first | refine ac_ ?_ _ | refine ae_ ?_ | refine ad_ ?_ _)); refine blk_put (cs := #[.int .i64 a0_0, .int .i64 0, .slice none 0 0]) ?_ 1 _ rfl; (with_reducible repeat (first | refine ac_ ?_ _ | refine ae_ ?_ | refine ad_ ?_ _)); refine blk_put (cs := #[.int .i64 0, .int .i64 0, .slice none 0 0]) ?_ 0 _ rfl; (with_reducible repeat (first | refine ac_ ?_ _ | refine ae_ ?_ | refine ad_ ?_ _)); exact BK326.out) Try.underlying62 rfl (by kernel_rfl)) rfl ?_
          exact ⟨_, by first | rfl | (simp [errW_none, errW_some] <;> rfl) | (simp [*, errW_none, errW_some] <;> rfl), Kd.N_V (by (with_reducible repeat (first | apply Kd.N_alloc | apply Kd.N_drewN | apply Kd.N_drew)); exact Kd.N_mono (Kd.N_far (p := ⟨gb326, 2, none⟩) (Kd.N_far (p := ⟨gb326, 1, none⟩) (Kd.N_far (p := ⟨gb326, 0, none⟩) (Kd.N_mono HO_333002.out (fun k_ hk => (⟨hk, hk.2.2.2.1⟩ : _ ∧ k_ ≠ gb326))) (fun _ hk => hk.2) (.int .i64 a0_0)) (fun _ hk => hk.2) (.int .i64 a0_1)) (fun _ hk => hk.2) (.slice Ao74 x333002_1.length co74)) (fun _ hk => hk.1.1)), by repeat (first | (with_reducible first | exact HB.out | apply ai_ | apply ag_ | apply ah_ | refine af_ ?_ GE324.out | refine af_ ?_ GE325.out | refine af_ ?_ GE326.out | refine af_ ?_ GE332.out) | exact HB.out)⟩
end Go.Proofs.Ytgoiifpimpnlpaa.PAll

end
