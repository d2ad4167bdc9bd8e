-- Made by pack.py of the texts that the law reaches.
import Derived.Test.YtgoiifpimpnlpaaV3
section
namespace Go.Proofs.Ytgoiifpimpnlpaa.PAll
open Go.RowKit Go.Proofs.YtgoiifpimpnlpaaW.PrintWords Go.Proofs.YtgoiifpimpnlpaaW.PrintLast Go.Proofs.YtgoiifpimpnlpaaW.PrintMore
attribute [local go_sem] max2_int min2_int max_two min_two max_three min_three max_four min_four   -- for this text's walks alone
set_option linter.unusedVariables false
set_option linter.unusedSimpArgs false
def spec_l3Put.f (k : Nat) (a0_0 : Int) (a0_1 : Int) (l0_2 : List (S62)) (a1 : Int) (a2_0 : Int) (a2_1 : Int) (l2_2 : List (S62)) : Option (Int × Int × (List (S62)) × Bool) := (spec_l3Size.f k a0_0 a0_1 l0_2).bind fun t347 => ((spec_l3Uses.f k a0_0 a0_1 l0_2 a1).bind fun t348 => ((spec_l3Size.f k a2_0 a2_1 l2_2).bind fun t349 => (if (wrap64 (t347 + (wrap64 (t348 * (wrap64 (t349 - 1)))))) > 600 then (some (0, 0, ([] : List (S62)), false)) else ((spec_l3Subst.f k a0_0 a0_1 l0_2 a1 a2_0 a2_1 l2_2 0).bind fun bt350 => (some (bt350.1, bt350.2.1, bt350.2.2, true))))))
def spec_l3Put.T1 : Bool × List (List Nat × List Nat) := (true, [([], []), ([0], [0]), ([], []), ([], []), ([2, 3, 1], [2, 3]), ([], []), ([5, 4], [5]), ([6], [6]), ([4, 7], [4, 7]), ([1, 8], [1, 8]), ([9], [9])])
def spec_l3Put.B1 : List Nat := [0, 1, 0, 0, 15, 0, 63, 127, 255, 511, 1023]
theorem spec_l3Put.tab1 : rtab .any (opsOf Try.f60 1) = spec_l3Put.T1 := by kernel_rfl
theorem spec_l3Put.bits1 : waitsOk spec_l3Put.T1.2 spec_l3Put.B1 = true := by kernel_rfl
set_option maxHeartbeats 8000000 in
set_option maxRecDepth 100000 in
theorem spec_l3Put.calls (k : Nat) (a0_0 : Int) (a0_1 : Int) (P0_2_ : Nat → Prop) (A0_2 : Option Addr) (c0_2 : Nat) (l0_2 : List (S62)) (a1 : Int) (a2_0 : Int) (a2_1 : Int) (A2_2 : Option Addr) (c2_2 : Nat) (l2_2 : List (S62)) (r1 : Int) (r2 : Int) (r3 : List (S62)) (r4 : Bool) (w : World) (hs0_2 : Kd.V k62 62 w w.heap.size (fun k_ => P0_2_ k_) (.slice A0_2 l0_2.length c0_2) l0_2) (hr2_2 : Kd.C k62 w A2_2 l2_2.length l2_2) (hc2_2 : l2_2.length ≤ c2_2) (h : spec_l3Put.f k a0_0 a0_1 l0_2 a1 a2_0 a2_1 l2_2 = some (r1, r2, r3, r4)) :
    Calls Try.prog 60 #[.agg #[.int .i64 a0_0, .int .i64 a0_1, .slice A0_2 l0_2.length c0_2], .int .i64 a1, .agg #[.int .i64 a2_0, .int .i64 a2_1, .slice A2_2 l2_2.length c2_2]] w fun e w' => ∃ v2_ : Value, e = .returned (.tuple #[.agg #[.int .i64 r1, .int .i64 r2, v2_], .bool r4]) ∧ Kd.V k62 62 w' w.heap.size (fun k_ => (P0_2_ k_ ∨ w.heap.size ≤ k_)) v2_ r3 ∧ Below w.heap.size w w' := by
  have hu62 := Try.underlying62
  have HO0_2 := ab_ (show Kd.V k62 62 w w.heap.size (fun k_ => (P0_2_ k_ ∨ w.heap.size ≤ k_)) (.slice A0_2 l0_2.length c0_2) l0_2 from Kd.V_mono hs0_2 (fun k_ hk => .inl hk))
  have HR2_2 := ab_ hr2_2
  have HC2_2 := ab_ hc2_2
  clear hr2_2 hc2_2
  have HB := ab_ (aq_ w.heap.size w)
  have H : ((spec_l3Size.f k a0_0 a0_1 l0_2).bind fun t347 => ((spec_l3Uses.f k a0_0 a0_1 l0_2 a1).bind fun t348 => ((spec_l3Size.f k a2_0 a2_1 l2_2).bind fun t349 => (if (wrap64 (t347 + (wrap64 (t348 * (wrap64 (t349 - 1)))))) > 600 then (some (0, 0, ([] : List (S62)), false)) else ((spec_l3Subst.f k a0_0 a0_1 l0_2 a1 a2_0 a2_1 l2_2 0).bind fun bt350 => (some (bt350.1, bt350.2.1, bt350.2.2, true))))))) = some (r1, r2, r3, r4) := h
  clear h
  replace H := Option.bind_eq_some_iff.mp H
  obtain ⟨t347, A40, H⟩ := H
  replace H : ((spec_l3Uses.f k a0_0 a0_1 l0_2 a1).bind fun t348 => ((spec_l3Size.f k a2_0 a2_1 l2_2).bind fun t349 => (if (wrap64 (t347 + (wrap64 (t348 * (wrap64 (t349 - 1)))))) > 600 then (some (0, 0, ([] : List (S62)), false)) else ((spec_l3Subst.f k a0_0 a0_1 l0_2 a1 a2_0 a2_1 l2_2 0).bind fun bt350 => (some (bt350.1, bt350.2.1, bt350.2.2, true)))))) = some (r1, r2, r3, r4) := H
  have A4 := ab_ A40
  clear A40
  replace H := Option.bind_eq_some_iff.mp H
  obtain ⟨t348, A50, H⟩ := H
  replace H : ((spec_l3Size.f k a2_0 a2_1 l2_2).bind fun t349 => (if (wrap64 (t347 + (wrap64 (t348 * (wrap64 (t349 - 1)))))) > 600 then (some (0, 0, ([] : List (S62)), false)) else ((spec_l3Subst.f k a0_0 a0_1 l0_2 a1 a2_0 a2_1 l2_2 0).bind fun bt350 => (some (bt350.1, bt350.2.1, bt350.2.2, true))))) = some (r1, r2, r3, r4) := H
  have A5 := ab_ A50
  clear A50
  replace H := Option.bind_eq_some_iff.mp H
  obtain ⟨t349, A60, H⟩ := H
  replace H : (if (wrap64 (t347 + (wrap64 (t348 * (wrap64 (t349 - 1)))))) > 600 then (some (0, 0, ([] : List (S62)), false)) else ((spec_l3Subst.f k a0_0 a0_1 l0_2 a1 a2_0 a2_1 l2_2 0).bind fun bt350 => (some (bt350.1, bt350.2.1, bt350.2.2, true)))) = some (r1, r2, r3, r4) := H
  have A6 := ab_ A60
  clear A60
  by_cases c7 : (wrap64 (t347 + (wrap64 (t348 * (wrap64 (t349 - 1)))))) > 600
  · rw [if_pos c7] at H
    have c7b0 : decide (600 < (wrap64 (t347 + (wrap64 (t348 * (wrap64 (t349 - 1))))))) = true := ao_ c7
    clear c7
    simp only [Option.some.injEq, Prod.mk.injEq] at H
    obtain ⟨rfl, rfl, rfl, rfl⟩ := H
    go_enter Try.func60, Try.ntmps60
    try go_wp2_with (first | ((with_reducible refine gate_dst (N := 3) rfl ?_); refine box_event ?hg (N := 3) ?hd (cs := #[.int .i64 a0_0, .int .i64 a0_1, .slice A0_2 l0_2.length c0_2]) (t := 62) ?hr ?_; (case hd => rfl); (case hg => rfl); (case hr => first | (go_simp; done) | (go_simp; rfl)); intro gb344 hg w8 hbox hb; have n0_ := ab_ (Kd.V_below (Kd.V_elderB (by (with_reducible repeat (first | apply Kd.V_alloc | apply Kd.V_drewN | apply Kd.V_drew)); exact HO0_2.out) gb344 (Nat.le_of_eq hg.symm)) hb); have n1_ := ab_ (ap_ (by repeat (first | (with_reducible first | exact HB.out | apply ai_ | apply ag_ | apply ah_) | exact HB.out)) hb); have n2_ := ab_ (hbox); have n3_ := ab_ ((by rw [hg]; exact (below_size (by repeat (first | (with_reducible first | exact HB.out | apply ai_ | apply ag_ | apply ah_) | exact HB.out))) : w.heap.size ≤ gb344)); have n4_ := ab_ ((by rw [hg]; exact (below_size (by repeat (first | (with_reducible first | exact HB.out | apply ai_ | apply ag_ | apply ah_) | exact HB.out))) : w.heap.size ≤ gb344)); clear HO0_2; clear HB; have HO0_2 := n0_; have HB := n1_; have BK344 := n2_; have GW344 := n3_; have GE344 := n4_; clear n0_ n1_ n2_ n3_ n4_; clear hb hbox hg) | ((with_reducible refine gate_dst (N := 5) rfl ?_); refine box_event ?hg (N := 5) ?hd (cs := #[.int .i64 a2_0, .int .i64 a2_1, .slice A2_2 l2_2.length c2_2]) (t := 62) ?hr ?_; (case hd => rfl); (case hg => rfl); (case hr => first | (go_simp; done) | (go_simp; rfl)); intro gb345 hg w9 hbox hb; have n0_ := ab_ (Kd.V_below (Kd.V_elderB (by (with_reducible repeat (first | apply Kd.V_alloc | apply Kd.V_drewN | apply Kd.V_drew)); exact HO0_2.out) gb345 (Nat.le_of_eq hg.symm)) hb); have n1_ := ab_ (blk_below (g := gb344) (o := .cells #[.int .i64 a0_0, .int .i64 a0_1, .slice A0_2 l0_2.length c0_2] 62 (0, 0)) (by (with_reducible repeat (first | refine ac_ ?_ _ | refine ae_ ?_ | refine ad_ ?_ _)); exact BK344.out) hb); have n2_ := ab_ (ap_ (by repeat (first | (with_reducible first | exact HB.out | apply ai_ | apply ag_ | apply ah_ | refine af_ ?_ GE344.out) | exact HB.out)) hb); have n3_ := ab_ (hbox); have n4_ := ab_ ((by rw [hg]; exact (below_size (by repeat (first | (with_reducible first | exact HB.out | apply ai_ | apply ag_ | apply ah_ | refine af_ ?_ GE344.out) | exact HB.out))) : w.heap.size ≤ gb345)); have n5_ := ab_ ((by rw [hg]; exact (below_size (by repeat (first | (with_reducible first | exact HB.out | apply ai_ | apply ag_ | apply ah_ | refine af_ ?_ GE344.out) | exact HB.out))) : w.heap.size ≤ gb345)); have n6_ := ab_ ((by rw [hg]; exact ak_ (blk_lt (g := gb344) (o := .cells #[.int .i64 a0_0, .int .i64 a0_1, .slice A0_2 l0_2.length c0_2] 62 (0, 0)) (by (with_reducible repeat (first | refine ac_ ?_ _ | refine ae_ ?_ | refine ad_ ?_ _)); exact BK344.out)) : gb344 ≠ gb345)); have n7_ := ab_ ((by rw [hg]; exact Nat.ne_of_gt (blk_lt (g := gb344) (o := .cells #[.int .i64 a0_0, .int .i64 a0_1, .slice A0_2 l0_2.length c0_2] 62 (0, 0)) (by (with_reducible repeat (first | refine ac_ ?_ _ | refine ae_ ?_ | refine ad_ ?_ _)); exact BK344.out)) : gb345 ≠ gb344)); clear HO0_2; clear BK344; clear HB; have HO0_2 := n0_; have BK344 := n1_; have HB := n2_; have BK345 := n3_; have GW345 := n4_; have GE345 := n5_; have NB344_345 := n6_; have NB345_344 := n7_; clear n0_ n1_ n2_ n3_ n4_ n5_ n6_ n7_; clear hb hbox hg) | ((with_reducible refine gate_dst (N := 6) rfl ?_); refine box_event ?hg (N := 6) ?hd (cs := #[.int .i64 0, .int .i64 0, .slice none 0 0]) (t := 62) ?hr ?_; (case hd => rfl); (case hg => rfl); (case hr => first | (go_simp; done) | (go_simp; rfl)); intro gb346 hg w10 hbox hb; have n0_ := ab_ (Kd.V_below (Kd.V_elderB (by (with_reducible repeat (first | apply Kd.V_alloc | apply Kd.V_drewN | apply Kd.V_drew)); exact HO0_2.out) gb346 (Nat.le_of_eq hg.symm)) hb); have n1_ := ab_ (blk_below (g := gb344) (o := .cells #[.int .i64 a0_0, .int .i64 a0_1, .slice A0_2 l0_2.length c0_2] 62 (0, 0)) (by (with_reducible repeat (first | refine ac_ ?_ _ | refine ae_ ?_ | refine ad_ ?_ _)); exact BK344.out) hb); have n2_ := ab_ (blk_below (g := gb345) (o := .cells #[.int .i64 a2_0, .int .i64 a2_1, .slice A2_2 l2_2.length c2_2] 62 (0, 0)) (by (with_reducible repeat (first | refine ac_ ?_ _ | refine ae_ ?_ | refine ad_ ?_ _)); exact BK345.out) hb); have n3_ := ab_ (ap_ (by repeat (first | (with_reducible first | exact HB.out | apply ai_ | apply ag_ | apply ah_ | refine af_ ?_ GE344.out | refine af_ ?_ GE345.out) | exact HB.out)) hb); have n4_ := ab_ (hbox); have n5_ := ab_ ((by rw [hg]; exact (below_size (by repeat (first | (with_reducible first | exact HB.out | apply ai_ | apply ag_ | apply ah_ | refine af_ ?_ GE344.out | refine af_ ?_ GE345.out) | exact HB.out))) : w.heap.size ≤ gb346)); have n6_ := ab_ ((by rw [hg]; exact (below_size (by repeat (first | (with_reducible first | exact HB.out | apply ai_ | apply ag_ | apply ah_ | refine af_ ?_ GE344.out | refine af_ ?_ GE345.out) | exact HB.out))) : w.heap.size ≤ gb346)); have n7_ := ab_ ((by rw [hg]; exact ak_ (blk_lt (g := gb344) (o := .cells #[.int .i64 a0_0, .int .i64 a0_1, .slice A0_2 l0_2.length c0_2] 62 (0, 0)) (by (with_reducible repeat (first | refine ac_ ?_ _ | refine ae_ ?_ | refine ad_ ?_ _)); exact BK344.out)) : gb344 ≠ gb346)); have n8_ := ab_ ((by rw [hg]; exact Nat.ne_of_gt (blk_lt (g := gb344) (o := .cells #[.int .i64 a0_0, .int .i64 a0_1, .slice A0_2 l0_2.length c0_2] 62 (0, 0)) (by (with_reducible repeat (first | refine ac_ ?_ _ | refine ae_ ?_ | refine ad_ ?_ _)); exact BK344.out)) : gb346 ≠ gb344)); have n9_ := ab_ ((by rw [hg]; exact ak_ (blk_lt (g := gb345) (o := .cells #[.int .i64 a2_0, .int .i64 a2_1, .slice A2_2 l2_2.length c2_2] 62 (0, 0)) (by (with_reducible repeat (first | refine ac_ ?_ _ | refine ae_ ?_ | refine ad_ ?_ _)); exact BK345.out)) : gb345 ≠ gb346)); have n10_ := ab_ ((by rw [hg]; exact Nat.ne_of_gt (blk_lt (g := gb345) (o := .cells #[.int .i64 a2_0, .int .i64 a2_1, .slice A2_2 l2_2.length c2_2] 62 (0, 0)) (by (with_reducible repeat (first | refine ac_ ?_ _ | refine ae_ ?_ | refine ad_ ?_ _)); exact BK345.out)) : gb346 ≠ gb345)); clear HO0_2; clear BK344; clear BK345; clear HB; have HO0_2 := n0_; have BK344 := n1_; have BK345 := n2_; have HB := n3_; have BK346 := n4_; have GW346 := n5_; have GE346 := n6_; have NB344_346 := n7_; have NB346_344 := n8_; have NB345_346 := n9_; have NB346_345 := n10_; clear n0_ n1_ n2_ n3_ n4_ n5_ n6_ n7_ n8_ n9_ n10_; clear hb hbox hg))
    have n0_ := ab_ (Kd.V_drew HO0_2.out)
    have n1_ := ab_ (ae_ BK344.out)
    have n2_ := ab_ (ae_ BK345.out)
    have n3_ := ab_ (ae_ BK346.out)
    have n4_ := ab_ (ah_ HB.out)
    clear HO0_2
    clear BK344
    clear BK345
    clear BK346
    clear HB
    have HO0_2 := n0_
    have BK344 := n1_
    have BK345 := n2_
    have BK346 := n3_
    have HB := n4_
    clear n0_ n1_ n2_ n3_ n4_
    refine start_ (n := 11) (S := fun w' => w'.cell? ⟨gb344, 0, none⟩ = some (.int .i64 a0_0) ∧ w'.cell? ⟨gb344, 1, none⟩ = some (.int .i64 a0_1) ∧ w'.cell? ⟨gb344, 2, none⟩ = some (.slice A0_2 l0_2.length c0_2) ∧ w'.cell? ⟨gb345, 0, none⟩ = some (.int .i64 a2_0) ∧ w'.cell? ⟨gb345, 1, none⟩ = some (.int .i64 a2_1) ∧ w'.cell? ⟨gb345, 2, none⟩ = some (.slice A2_2 l2_2.length c2_2)) (ds := []) #[false, false, false, false, false, false, false, false, false, false, false] (by kernel_rfl) rfl rfl ⟨(an_ BK344.out 0).trans rfl, (an_ BK344.out 1).trans rfl, (an_ BK344.out 2).trans rfl, (an_ BK345.out 0).trans rfl, (an_ BK345.out 1).trans rfl, (an_ BK345.out 2).trans rfl⟩ (fun hHeld => ?_); refine with_tabW spec_l3Put.tab1 spec_l3Put.bits1 (fun HT_ HW_ => ?_)
    generalize w10.drew = w11 at HO0_2 BK344 BK345 BK346 HB hHeld ⊢
    refine pure_ (i := 3) (N := some 11) (v := ?_) (a' := ?_) #[false, false, false, true, false, false, false, false, false, false, false] rfl rfl (any_of HT_.out (by kernel_rfl)) (fun _ _ _ h => h) (Or.inl ⟨by rfl, ?_⟩) ?_ ?_
    rotate_left
    · intro w'
      go_simp
      with_reducible rfl
    rotate_left
    · simp only [Act.put, List.setIfInBounds_toArray, List.set_cons_zero, List.set_cons_succ, i64_w, i32_w]
      rfl
    refine take_ (i := 0) (N := some 8) (v := ?_) (a' := ?_) #[true, false, false, true, false, false, false, false, false, false, false] rfl rfl (take_ofW HT_.out HW_.out (by kernel_rfl)) (fun _ _ _ h => h) (Or.inl ⟨by rfl, ?_⟩) hHeld ?_ ?_
    rotate_left
    · rintro w' ⟨s0, s1, s2, s3, s4, s5⟩
      go_simp
      with_reducible rfl
    rotate_left
    · simp only [Act.put, List.setIfInBounds_toArray, List.set_cons_zero, List.set_cons_succ, i64_w, i32_w]
      rfl
    refine take_ (i := 2) (N := some 10) (v := ?_) (a' := ?_) #[true, false, true, true, false, false, false, false, false, false, false] rfl rfl (take_ofW HT_.out HW_.out (by kernel_rfl)) (fun _ _ _ h => h) (Or.inl ⟨by rfl, ?_⟩) hHeld ?_ ?_
    rotate_left
    · rintro w' ⟨s0, s1, s2, s3, s4, s5⟩
      go_simp
      with_reducible rfl
    rotate_left
    · simp only [Act.put, List.setIfInBounds_toArray, List.set_cons_zero, List.set_cons_succ, i64_w, i32_w]
      rfl
    refine take_ (i := 5) (N := some 13) (v := ?_) (a' := ?_) #[true, false, true, true, false, true, false, false, false, false, false] rfl rfl (take_ofW HT_.out HW_.out (by kernel_rfl)) (fun _ _ _ h => h) (Or.inl ⟨by rfl, ?_⟩) hHeld ?_ ?_
    rotate_left
    · rintro w' ⟨s0, s1, s2, s3, s4, s5⟩
      go_simp
      with_reducible rfl
    rotate_left
    · simp only [Act.put, List.setIfInBounds_toArray, List.set_cons_zero, List.set_cons_succ, i64_w, i32_w]
      rfl
    refine one_ (i := 1) (N := some 9) #[true, true, true, true, false, true, false, false, false, false, false] rfl rfl (one_of HT_.out (by kernel_rfl)) (by decide) (fun K hK => ?_)
    refine goes_ Try.func52 (by kernel_rfl) rfl #[.agg #[.int .i64 a0_0, .int .i64 a0_1, .slice A0_2 l0_2.length c0_2]] (by rfl) rfl rfl (by (try simp only [List.map_toArray, List.map_cons, List.map_nil]); first | done | rfl | (simp only [List.length_drop, List.length_take]; rfl)) ?_
    with_reducible refine (spec_l3Size.calls k a0_0 a0_1 _ _ l0_2 t347 _ ?side1 ?side2 A4.out).mono ?_
    (case side1 => repeat (first | exact (Kd.V_reads' HO0_2.out).2.2 | (with_reducible refine Kd.C_alloc ?_ _) | (with_reducible refine Kd.C_drewN ?_ _) | (with_reducible refine Kd.C_drew ?_)))
    (case side2 => exact (Kd.V_reads' HO0_2.out).2.1)
    rintro e w12 ⟨rfl, hb⟩
    refine ⟨_, rfl, ?_⟩
    have n0_ := ab_ (Kd.V_below (by (with_reducible repeat (first | apply Kd.V_alloc | apply Kd.V_drewN | apply Kd.V_drew)); exact HO0_2.out) hb)
    have n1_ := ab_ (blk_below (g := gb344) (o := .cells #[.int .i64 a0_0, .int .i64 a0_1, .slice A0_2 l0_2.length c0_2] 62 (0, 0)) (by (with_reducible repeat (first | refine ac_ ?_ _ | refine ae_ ?_ | refine ad_ ?_ _)); exact BK344.out) hb)
    have n2_ := ab_ (blk_below (g := gb345) (o := .cells #[.int .i64 a2_0, .int .i64 a2_1, .slice A2_2 l2_2.length c2_2] 62 (0, 0)) (by (with_reducible repeat (first | refine ac_ ?_ _ | refine ae_ ?_ | refine ad_ ?_ _)); exact BK345.out) hb)
    have n3_ := ab_ (blk_below (g := gb346) (o := .cells #[.int .i64 0, .int .i64 0, .slice none 0 0] 62 (0, 0)) (by (with_reducible repeat (first | refine ac_ ?_ _ | refine ae_ ?_ | refine ad_ ?_ _)); exact BK346.out) hb)
    have n4_ := ab_ (ap_ (by repeat (first | (with_reducible first | exact HB.out | apply ai_ | apply ag_ | apply ah_ | refine af_ ?_ GE344.out | refine af_ ?_ GE345.out | refine af_ ?_ GE346.out) | exact HB.out)) hb)
    clear HO0_2
    clear BK344
    clear BK345
    clear BK346
    clear HB
    have HO0_2 := n0_
    have BK344 := n1_
    have BK345 := n2_
    have BK346 := n3_
    have HB := n4_
    clear n0_ n1_ n2_ n3_ n4_
    (try clear hb)
    (try clear hb2)
    (try clear hk)
    (try clear hi)
    refine hK.out _ _ ⟨(an_ BK344.out 0).trans rfl, (an_ BK344.out 1).trans rfl, (an_ BK344.out 2).trans rfl, (an_ BK345.out 0).trans rfl, (an_ BK345.out 1).trans rfl, (an_ BK345.out 2).trans rfl⟩ (fun hHeld => ?_)
    clear hK K
    refine norm_ (a' := ?_) ?_ ?_
    rotate_left
    · show Act.put _ (some 9) _ = _
      simp only [Act.put, List.setIfInBounds_toArray, List.set_cons_zero, List.set_cons_succ, i64_w, i32_w]
      rfl
    refine one_ (i := 4) (N := some 12) #[true, true, true, true, true, true, false, false, false, false, false] rfl rfl (one_of HT_.out (by kernel_rfl)) (by decide) (fun K hK => ?_)
    refine goes_ Try.func99 (by kernel_rfl) rfl #[.agg #[.int .i64 a0_0, .int .i64 a0_1, .slice A0_2 l0_2.length c0_2], .int .i64 a1] (by rfl) rfl rfl (by (try simp only [List.map_toArray, List.map_cons, List.map_nil]); first | done | rfl | (simp only [List.length_drop, List.length_take]; rfl)) ?_
    with_reducible refine (spec_l3Uses.calls k a0_0 a0_1 _ _ l0_2 a1 t348 _ ?side1 ?side2 A5.out).mono ?_
    (case side1 => repeat (first | exact (Kd.V_reads' HO0_2.out).2.2 | (with_reducible refine Kd.C_alloc ?_ _) | (with_reducible refine Kd.C_drewN ?_ _) | (with_reducible refine Kd.C_drew ?_)))
    (case side2 => exact (Kd.V_reads' HO0_2.out).2.1)
    rintro e w13 ⟨rfl, hb⟩
    refine ⟨_, rfl, ?_⟩
    have n0_ := ab_ (Kd.V_below (by (with_reducible repeat (first | apply Kd.V_alloc | apply Kd.V_drewN | apply Kd.V_drew)); exact HO0_2.out) hb)
    have n1_ := ab_ (blk_below (g := gb344) (o := .cells #[.int .i64 a0_0, .int .i64 a0_1, .slice A0_2 l0_2.length c0_2] 62 (0, 0)) (by (with_reducible repeat (first | refine ac_ ?_ _ | refine ae_ ?_ | refine ad_ ?_ _)); exact BK344.out) hb)
    have n2_ := ab_ (blk_below (g := gb345) (o := .cells #[.int .i64 a2_0, .int .i64 a2_1, .slice A2_2 l2_2.length c2_2] 62 (0, 0)) (by (with_reducible repeat (first | refine ac_ ?_ _ | refine ae_ ?_ | refine ad_ ?_ _)); exact BK345.out) hb)
    have n3_ := ab_ (blk_below (g := gb346) (o := .cells #[.int .i64 0, .int .i64 0, .slice none 0 0] 62 (0, 0)) (by (with_reducible repeat (first | refine ac_ ?_ _ | refine ae_ ?_ | refine ad_ ?_ _)); exact BK346.out) hb)
    have n4_ := ab_ (ap_ (by repeat (first | (with_reducible first | exact HB.out | apply ai_ | apply ag_ | apply ah_ | refine af_ ?_ GE344.out | refine af_ ?_ GE345.out | refine af_ ?_ GE346.out) | exact HB.out)) hb)
    clear HO0_2
    clear BK344
    clear BK345
    clear BK346
    clear HB
    have HO0_2 := n0_
    have BK344 := n1_
    have BK345 := n2_
    have BK346 := n3_
    have HB := n4_
    clear n0_ n1_ n2_ n3_ n4_
    (try clear hb)
    (try clear hb2)
    (try clear hk)
    (try clear hi)
    refine hK.out _ _ ⟨(an_ BK344.out 0).trans rfl, (an_ BK344.out 1).trans rfl, (an_ BK344.out 2).trans rfl, (an_ BK345.out 0).trans rfl, (an_ BK345.out 1).trans rfl, (an_ BK345.out 2).trans rfl⟩ (fun hHeld => ?_)
    clear hK K
    refine norm_ (a' := ?_) ?_ ?_
    rotate_left
    · show Act.put _ (some 12) _ = _
      simp only [Act.put, List.setIfInBounds_toArray, List.set_cons_zero, List.set_cons_succ, i64_w, i32_w]
      rfl
    refine one_ (i := 6) (N := some 14) #[true, true, true, true, true, true, true, false, false, false, false] rfl rfl (one_of HT_.out (by kernel_rfl)) (by decide) (fun K hK => ?_)
    refine goes_ Try.func52 (by kernel_rfl) rfl #[.agg #[.int .i64 a2_0, .int .i64 a2_1, .slice A2_2 l2_2.length c2_2]] (by rfl) rfl rfl (by (try simp only [List.map_toArray, List.map_cons, List.map_nil]); first | done | rfl | (simp only [List.length_drop, List.length_take]; rfl)) ?_
    with_reducible refine (spec_l3Size.calls k a2_0 a2_1 _ _ l2_2 t349 _ ?side1 ?side2 A6.out).mono ?_
    (case side1 => repeat (first | exact (Kd.C_below HR2_2.out HB.out) | (with_reducible refine Kd.C_alloc ?_ _) | (with_reducible refine Kd.C_drewN ?_ _) | (with_reducible refine Kd.C_drew ?_)))
    (case side2 => exact HC2_2.out)
    rintro e w14 ⟨rfl, hb⟩
    refine ⟨_, rfl, ?_⟩
    have n0_ := ab_ (Kd.V_below (by (with_reducible repeat (first | apply Kd.V_alloc | apply Kd.V_drewN | apply Kd.V_drew)); exact HO0_2.out) hb)
    have n1_ := ab_ (blk_below (g := gb344) (o := .cells #[.int .i64 a0_0, .int .i64 a0_1, .slice A0_2 l0_2.length c0_2] 62 (0, 0)) (by (with_reducible repeat (first | refine ac_ ?_ _ | refine ae_ ?_ | refine ad_ ?_ _)); exact BK344.out) hb)
    have n2_ := ab_ (blk_below (g := gb345) (o := .cells #[.int .i64 a2_0, .int .i64 a2_1, .slice A2_2 l2_2.length c2_2] 62 (0, 0)) (by (with_reducible repeat (first | refine ac_ ?_ _ | refine ae_ ?_ | refine ad_ ?_ _)); exact BK345.out) hb)
    have n3_ := ab_ (blk_below (g := gb346) (o := .cells #[.int .i64 0, .int .i64 0, .slice none 0 0] 62 (0, 0)) (by (with_reducible repeat (first | refine ac_ ?_ _ | refine ae_ ?_ | refine ad_ ?_ _)); exact BK346.out) hb)
    have n4_ := ab_ (ap_ (by repeat (first | (with_reducible first | exact HB.out | apply ai_ | apply ag_ | apply ah_ | refine af_ ?_ GE344.out | refine af_ ?_ GE345.out | refine af_ ?_ GE346.out) | exact HB.out)) hb)
    clear HO0_2
    clear BK344
    clear BK345
    clear BK346
    clear HB
    have HO0_2 := n0_
    have BK344 := n1_
    have BK345 := n2_
    have BK346 := n3_
    have HB := n4_
    clear n0_ n1_ n2_ n3_ n4_
    (try clear hb)
    (try clear hb2)
    (try clear hk)
    (try clear hi)
    refine hK.out _ _ ⟨(an_ BK344.out 0).trans rfl, (an_ BK344.out 1).trans rfl, (an_ BK344.out 2).trans rfl, (an_ BK345.out 0).trans rfl, (an_ BK345.out 1).trans rfl, (an_ BK345.out 2).trans rfl⟩ (fun hHeld => ?_)
    clear hK K
    refine norm_ (a' := ?_) ?_ ?_
    rotate_left
    · show Act.put _ (some 14) _ = _
      simp only [Act.put, List.setIfInBounds_toArray, List.set_cons_zero, List.set_cons_succ, i64_w, i32_w]
      rfl
    refine pure_ (i := 7) (N := some 15) (v := ?_) (a' := ?_) #[true, true, true, true, true, true, true, true, false, false, false] rfl rfl (any_of HT_.out (by kernel_rfl)) (fun _ _ _ h => h) (Or.inl ⟨by rfl, ?_⟩) ?_ ?_
    rotate_left
    · intro w'
      go_simp
      with_reducible rfl
    rotate_left
    · simp only [Act.put, List.setIfInBounds_toArray, List.set_cons_zero, List.set_cons_succ, i64_w, i32_w]
      rfl
    refine pure_ (i := 8) (N := some 16) (v := ?_) (a' := ?_) #[true, true, true, true, true, true, true, true, true, false, false] rfl rfl (any_of HT_.out (by kernel_rfl)) (fun _ _ _ h => h) (Or.inl ⟨by rfl, ?_⟩) ?_ ?_
    rotate_left
    · intro w'
      go_simp
      with_reducible rfl
    rotate_left
    · simp only [Act.put, List.setIfInBounds_toArray, List.set_cons_zero, List.set_cons_succ, i64_w, i32_w]
      rfl
    refine pure_ (i := 9) (N := some 17) (v := ?_) (a' := ?_) #[true, true, true, true, true, true, true, true, true, true, false] rfl rfl (any_of HT_.out (by kernel_rfl)) (fun _ _ _ h => h) (Or.inl ⟨by rfl, ?_⟩) ?_ ?_
    rotate_left
    · intro w'
      go_simp
      with_reducible rfl
    rotate_left
    · simp only [Act.put, List.setIfInBounds_toArray, List.set_cons_zero, List.set_cons_succ, i64_w, i32_w]
      rfl
    refine pure_ (i := 10) (N := some 18) (v := ?_) (a' := ?_) #[true, true, true, true, true, true, true, true, true, true, true] rfl rfl (any_of HT_.out (by kernel_rfl)) (fun _ _ _ h => h) (Or.inl ⟨by rfl, ?_⟩) ?_ ?_
    rotate_left
    · intro w'
      go_simp
      with_reducible rfl
    rotate_left
    · simp only [Act.put, List.setIfInBounds_toArray, List.set_cons_zero, List.set_cons_succ, i64_w, i32_w]
      rfl
    refine done_ (done_of HT_.out (by kernel_rfl)) ?_
    have hnb15 := NB346_344.out
    have hnc15 := NB344_346.out
    have hnb16 := NB346_345.out
    have hnc16 := NB345_346.out
    have hcz17_0 : w14.cell? ⟨gb346, 0, none⟩ = some (.int .i64 0) := (an_ BK346.out 0).trans rfl
    have hcz17_1 : w14.cell? ⟨gb346, 1, none⟩ = some (.int .i64 0) := (an_ BK346.out 1).trans rfl
    have hcz17_2 : w14.cell? ⟨gb346, 2, none⟩ = some (.slice none 0 0) := (an_ BK346.out 2).trans rfl
    have hfz17_0 := am_ BK346.out 0
    have hfz17_1 := am_ BK346.out 1
    have hfz17_2 := am_ BK346.out 2
    try go_wp2
    refine bodyPost_ret (results_ct rfl _ _ gb346 62 #[.int .i64 0, .int .i64 0, .slice none 0 0] (0, 0) _ rfl (by (with_reducible repeat (first | refine ac_ ?_ _ | refine ae_ ?_ | refine ad_ ?_ _)); refine blk_put (cs := #[.int .i64 0, .int .i64 0, .slice none 0 0]) ?_ 2 _ rfl; (with_reducible repeat (first | refine ac_ ?_ _ | refine ae_ ?_ | refine ad_ ?_ _)); refine blk_put (cs := #[.int .i64 0, .int .i64 0, .slice none 0 0]) ?_ 1 _ rfl; (with_reducible repeat (first | refine ac_ ?_ _ | refine ae_ ?_ | refine ad_ ?_ _)); refine blk_put (cs := #[.int .i64 0, .int .i64 0, .slice none 0 0]) ?_ 0 _ rfl; (with_reducible repeat (first | refine ac_ ?_ _ | refine ae_ ?_ | refine ad_ ?_ _)); exact BK346.out) Try.underlying62 rfl (by kernel_rfl)) rfl ?_
    exact ⟨_, by first | rfl | (simp [errW_none, errW_some] <;> rfl) | (simp [*, errW_none, errW_some] <;> rfl), (by exact Kd.V_nil _ _ _ _ _), by repeat (first | (with_reducible first | exact HB.out | apply ai_ | apply ag_ | apply ah_ | refine af_ ?_ GE344.out | refine af_ ?_ GE345.out | refine af_ ?_ GE346.out) | exact HB.out)⟩
  · rw [if_neg c7] at H
    have c7b0 : decide (600 < (wrap64 (t347 + (wrap64 (t348 * (wrap64 (t349 - 1))))))) = false := decide_eq_false c7
    clear c7
    replace H := Option.bind_eq_some_iff.mp H
    obtain ⟨⟨t350, t351, t352⟩, A180, H⟩ := H
    replace H : (some (t350, t351, t352, true)) = some (r1, r2, r3, r4) := H
    have A18 := ab_ A180
    clear A180
    simp only [Option.some.injEq, Prod.mk.injEq] at H
    obtain ⟨rfl, rfl, rfl, rfl⟩ := H
    go_enter Try.func60, Try.ntmps60
    try go_wp2_with (first | ((with_reducible refine gate_dst (N := 3) rfl ?_); refine box_event ?hg (N := 3) ?hd (cs := #[.int .i64 a0_0, .int .i64 a0_1, .slice A0_2 l0_2.length c0_2]) (t := 62) ?hr ?_; (case hd => rfl); (case hg => rfl); (case hr => first | (go_simp; done) | (go_simp; rfl)); intro gb344 hg w19 hbox hb; have n0_ := ab_ (Kd.V_below (Kd.V_elderB (by (with_reducible repeat (first | apply Kd.V_alloc | apply Kd.V_drewN | apply Kd.V_drew)); exact HO0_2.out) gb344 (Nat.le_of_eq hg.symm)) hb); have n1_ := ab_ (ap_ (by repeat (first | (with_reducible first | exact HB.out | apply ai_ | apply ag_ | apply ah_) | exact HB.out)) hb); have n2_ := ab_ (hbox); have n3_ := ab_ ((by rw [hg]; exact (below_size (by repeat (first | (with_reducible first | exact HB.out | apply ai_ | apply ag_ | apply ah_) | exact HB.out))) : w.heap.size ≤ gb344)); have n4_ := ab_ ((by rw [hg]; exact (below_size (by repeat (first | (with_reducible first | exact HB.out | apply ai_ | apply ag_ | apply ah_) | exact HB.out))) : w.heap.size ≤ gb344)); clear HO0_2; clear HB; have HO0_2 := n0_; have HB := n1_; have BK344 := n2_; have GW344 := n3_; have GE344 := n4_; clear n0_ n1_ n2_ n3_ n4_; clear hb hbox hg) | ((with_reducible refine gate_dst (N := 5) rfl ?_); refine box_event ?hg (N := 5) ?hd (cs := #[.int .i64 a2_0, .int .i64 a2_1, .slice A2_2 l2_2.length c2_2]) (t := 62) ?hr ?_; (case hd => rfl); (case hg => rfl); (case hr => first | (go_simp; done) | (go_simp; rfl)); intro gb345 hg w20 hbox hb; have n0_ := ab_ (Kd.V_below (Kd.V_elderB (by (with_reducible repeat (first | apply Kd.V_alloc | apply Kd.V_drewN | apply Kd.V_drew)); exact HO0_2.out) gb345 (Nat.le_of_eq hg.symm)) hb); have n1_ := ab_ (blk_below (g := gb344) (o := .cells #[.int .i64 a0_0, .int .i64 a0_1, .slice A0_2 l0_2.length c0_2] 62 (0, 0)) (by (with_reducible repeat (first | refine ac_ ?_ _ | refine ae_ ?_ | refine ad_ ?_ _)); exact BK344.out) hb); have n2_ := ab_ (ap_ (by repeat (first | (with_reducible first | exact HB.out | apply ai_ | apply ag_ | apply ah_ | refine af_ ?_ GE344.out) | exact HB.out)) hb); have n3_ := ab_ (hbox); have n4_ := ab_ ((by rw [hg]; exact (below_size (by repeat (first | (with_reducible first | exact HB.out | apply ai_ | apply ag_ | apply ah_ | refine af_ ?_ GE344.out) | exact HB.out))) : w.heap.size ≤ gb345)); have n5_ := ab_ ((by rw [hg]; exact (below_size (by repeat (first | (with_reducible first | exact HB.out | apply ai_ | apply ag_ | apply ah_ | refine af_ ?_ GE344.out) | exact HB.out))) : w.heap.size ≤ gb345)); have n6_ := ab_ ((by rw [hg]; exact ak_ (blk_lt (g := gb344) (o := .cells #[.int .i64 a0_0, .int .i64 a0_1, .slice A0_2 l0_2.length c0_2] 62 (0, 0)) (by (with_reducible repeat (first | refine ac_ ?_ _ | refine ae_ ?_ | refine ad_ ?_ _)); exact BK344.out)) : gb344 ≠ gb345)); have n7_ := ab_ ((by rw [hg]; exact Nat.ne_of_gt (blk_lt (g := gb344) (o := .cells #[.int .i64 a0_0, .int .i64 a0_1, .slice A0_2 l0_2.length c0_2] 62 (0, 0)) (by (with_reducible repeat (first | refine ac_ ?_ _ | refine ae_ ?_ | refine ad_ ?_ _)); exact BK344.out)) : gb345 ≠ gb344)); clear HO0_2; clear BK344; clear HB; have HO0_2 := n0_; have BK344 := n1_; have HB := n2_; have BK345 := n3_; have GW345 := n4_; have GE345 := n5_; have NB344_345 := n6_; have NB345_344 := n7_; clear n0_ n1_ n2_ n3_ n4_ n5_ n6_ n7_; clear hb hbox hg) | ((with_reducible refine gate_dst (N := 6) rfl ?_); refine box_event ?hg (N := 6) ?hd (cs := #[.int .i64 0, .int .i64 0, .slice none 0 0]) (t := 62) ?hr ?_; (case hd => rfl); (case hg => rfl); (case hr => first | (go_simp; done) | (go_simp; rfl)); intro gb346 hg w21 hbox hb; have n0_ := ab_ (Kd.V_below (Kd.V_elderB (by (with_reducible repeat (first | apply Kd.V_alloc | apply Kd.V_drewN | apply Kd.V_drew)); exact HO0_2.out) gb346 (Nat.le_of_eq hg.symm)) hb); have n1_ := ab_ (blk_below (g := gb344) (o := .cells #[.int .i64 a0_0, .int .i64 a0_1, .slice A0_2 l0_2.length c0_2] 62 (0, 0)) (by (with_reducible repeat (first | refine ac_ ?_ _ | refine ae_ ?_ | refine ad_ ?_ _)); exact BK344.out) hb); have n2_ := ab_ (blk_below (g := gb345) (o := .cells #[.int .i64 a2_0, .int .i64 a2_1, .slice A2_2 l2_2.length c2_2] 62 (0, 0)) (by (with_reducible repeat (first | refine ac_ ?_ _ | refine ae_ ?_ | refine ad_ ?_ _)); exact BK345.out) hb); have n3_ := ab_ (ap_ (by repeat (first | (with_reducible first | exact HB.out | apply ai_ | apply ag_ | apply ah_ | refine af_ ?_ GE344.out | refine af_ ?_ GE345.out) | exact HB.out)) hb); have n4_ := ab_ (hbox); have n5_ := ab_ ((by rw [hg]; exact (below_size (by repeat (first | (with_reducible first | exact HB.out | apply ai_ | apply ag_ | apply ah_ | refine af_ ?_ GE344.out | refine af_ ?_ GE345.out) | exact HB.out))) : w.heap.size ≤ gb346)); have n6_ := ab_ ((by rw [hg]; exact (below_size (by repeat (first | (with_reducible first | exact HB.out | apply ai_ | apply ag_ | apply ah_ | refine af_ ?_ GE344.out | refine af_ ?_ GE345.out) | exact HB.out))) : w.heap.size ≤ gb346)); have n7_ := ab_ ((by rw [hg]; exact ak_ (blk_lt (g := gb344) (o := .cells #[.int .i64 a0_0, .int .i64 a0_1, .slice A0_2 l0_2.length c0_2] 62 (0, 0)) (by (with_reducible repeat (first | refine ac_ ?_ _ | refine ae_ ?_ | refine ad_ ?_ _)); exact BK344.out)) : gb344 ≠ gb346)); have n8_ := ab_ ((by rw [hg]; exact Nat.ne_of_gt (blk_lt (g := gb344) (o := .cells #[.int .i64 a0_0, .int .i64 a0_1, .slice A0_2 l0_2.length c0_2] 62 (0, 0)) (by (with_reducible repeat (first | refine ac_ ?_ _ | refine ae_ ?_ | refine ad_ ?_ _)); exact BK344.out)) : gb346 ≠ gb344)); have n9_ := ab_ ((by rw [hg]; exact ak_ (blk_lt (g := gb345) (o := .cells #[.int .i64 a2_0, .int .i64 a2_1, .slice A2_2 l2_2.length c2_2] 62 (0, 0)) (by (with_reducible repeat (first | refine ac_ ?_ _ | refine ae_ ?_ | refine ad_ ?_ _)); exact BK345.out)) : gb345 ≠ gb346)); have n10_ := ab_ ((by rw [hg]; exact Nat.ne_of_gt (blk_lt (g := gb345) (o := .cells #[.int .i64 a2_0, .int .i64 a2_1, .slice A2_2 l2_2.length c2_2] 62 (0, 0)) (by (with_reducible repeat (first | refine ac_ ?_ _ | refine ae_ ?_ | refine ad_ ?_ _)); exact BK345.out)) : gb346 ≠ gb345)); clear HO0_2; clear BK344; clear BK345; clear HB; have HO0_2 := n0_; have BK344 := n1_; have BK345 := n2_; have HB := n3_; have BK346 := n4_; have GW346 := n5_; have GE346 := n6_; have NB344_346 := n7_; have NB346_344 := n8_; have NB345_346 := n9_; have NB346_345 := n10_; clear n0_ n1_ n2_ n3_ n4_ n5_ n6_ n7_ n8_ n9_ n10_; clear hb hbox hg))
    have n0_ := ab_ (Kd.V_drew HO0_2.out)
    have n1_ := ab_ (ae_ BK344.out)
    have n2_ := ab_ (ae_ BK345.out)
    have n3_ := ab_ (ae_ BK346.out)
    have n4_ := ab_ (ah_ HB.out)
    clear HO0_2
    clear BK344
    clear BK345
    clear BK346
    clear HB
    have HO0_2 := n0_
    have BK344 := n1_
    have BK345 := n2_
    have BK346 := n3_
    have HB := n4_
    clear n0_ n1_ n2_ n3_ n4_
    refine start_ (n := 11) (S := fun w' => w'.cell? ⟨gb344, 0, none⟩ = some (.int .i64 a0_0) ∧ w'.cell? ⟨gb344, 1, none⟩ = some (.int .i64 a0_1) ∧ w'.cell? ⟨gb344, 2, none⟩ = some (.slice A0_2 l0_2.length c0_2) ∧ w'.cell? ⟨gb345, 0, none⟩ = some (.int .i64 a2_0) ∧ w'.cell? ⟨gb345, 1, none⟩ = some (.int .i64 a2_1) ∧ w'.cell? ⟨gb345, 2, none⟩ = some (.slice A2_2 l2_2.length c2_2)) (ds := []) #[false, false, false, false, false, false, false, false, false, false, false] (by kernel_rfl) rfl rfl ⟨(an_ BK344.out 0).trans rfl, (an_ BK344.out 1).trans rfl, (an_ BK344.out 2).trans rfl, (an_ BK345.out 0).trans rfl, (an_ BK345.out 1).trans rfl, (an_ BK345.out 2).trans rfl⟩ (fun hHeld => ?_); refine with_tabW spec_l3Put.tab1 spec_l3Put.bits1 (fun HT_ HW_ => ?_)
    generalize w21.drew = w22 at HO0_2 BK344 BK345 BK346 HB hHeld ⊢
    refine pure_ (i := 3) (N := some 11) (v := ?_) (a' := ?_) #[false, false, false, true, false, false, false, false, false, false, false] rfl rfl (any_of HT_.out (by kernel_rfl)) (fun _ _ _ h => h) (Or.inl ⟨by rfl, ?_⟩) ?_ ?_
    rotate_left
    · intro w'
      go_simp
      with_reducible rfl
    rotate_left
    · simp only [Act.put, List.setIfInBounds_toArray, List.set_cons_zero, List.set_cons_succ, i64_w, i32_w]
      rfl
    refine take_ (i := 0) (N := some 8) (v := ?_) (a' := ?_) #[true, false, false, true, false, false, false, false, false, false, false] rfl rfl (take_ofW HT_.out HW_.out (by kernel_rfl)) (fun _ _ _ h => h) (Or.inl ⟨by rfl, ?_⟩) hHeld ?_ ?_
    rotate_left
    · rintro w' ⟨s0, s1, s2, s3, s4, s5⟩
      go_simp
      with_reducible rfl
    rotate_left
    · simp only [Act.put, List.setIfInBounds_toArray, List.set_cons_zero, List.set_cons_succ, i64_w, i32_w]
      rfl
    refine take_ (i := 2) (N := some 10) (v := ?_) (a' := ?_) #[true, false, true, true, false, false, false, false, false, false, false] rfl rfl (take_ofW HT_.out HW_.out (by kernel_rfl)) (fun _ _ _ h => h) (Or.inl ⟨by rfl, ?_⟩) hHeld ?_ ?_
    rotate_left
    · rintro w' ⟨s0, s1, s2, s3, s4, s5⟩
      go_simp
      with_reducible rfl
    rotate_left
    · simp only [Act.put, List.setIfInBounds_toArray, List.set_cons_zero, List.set_cons_succ, i64_w, i32_w]
      rfl
    refine take_ (i := 5) (N := some 13) (v := ?_) (a' := ?_) #[true, false, true, true, false, true, false, false, false, false, false] rfl rfl (take_ofW HT_.out HW_.out (by kernel_rfl)) (fun _ _ _ h => h) (Or.inl ⟨by rfl, ?_⟩) hHeld ?_ ?_
    rotate_left
    · rintro w' ⟨s0, s1, s2, s3, s4, s5⟩
      go_simp
      with_reducible rfl
    rotate_left
    · simp only [Act.put, List.setIfInBounds_toArray, List.set_cons_zero, List.set_cons_succ, i64_w, i32_w]
      rfl
    refine one_ (i := 1) (N := some 9) #[true, true, true, true, false, true, false, false, false, false, false] rfl rfl (one_of HT_.out (by kernel_rfl)) (by decide) (fun K hK => ?_)
    refine goes_ Try.func52 (by kernel_rfl) rfl #[.agg #[.int .i64 a0_0, .int .i64 a0_1, .slice A0_2 l0_2.length c0_2]] (by rfl) rfl rfl (by (try simp only [List.map_toArray, List.map_cons, List.map_nil]); first | done | rfl | (simp only [List.length_drop, List.length_take]; rfl)) ?_
    with_reducible refine (spec_l3Size.calls k a0_0 a0_1 _ _ l0_2 t347 _ ?side1 ?side2 A4.out).mono ?_
    (case side1 => repeat (first | exact (Kd.V_reads' HO0_2.out).2.2 | (with_reducible refine Kd.C_alloc ?_ _) | (with_reducible refine Kd.C_drewN ?_ _) | (with_reducible refine Kd.C_drew ?_)))
    (case side2 => exact (Kd.V_reads' HO0_2.out).2.1)
    rintro e w23 ⟨rfl, hb⟩
    refine ⟨_, rfl, ?_⟩
    have n0_ := ab_ (Kd.V_below (by (with_reducible repeat (first | apply Kd.V_alloc | apply Kd.V_drewN | apply Kd.V_drew)); exact HO0_2.out) hb)
    have n1_ := ab_ (blk_below (g := gb344) (o := .cells #[.int .i64 a0_0, .int .i64 a0_1, .slice A0_2 l0_2.length c0_2] 62 (0, 0)) (by (with_reducible repeat (first | refine ac_ ?_ _ | refine ae_ ?_ | refine ad_ ?_ _)); exact BK344.out) hb)
    have n2_ := ab_ (blk_below (g := gb345) (o := .cells #[.int .i64 a2_0, .int .i64 a2_1, .slice A2_2 l2_2.length c2_2] 62 (0, 0)) (by (with_reducible repeat (first | refine ac_ ?_ _ | refine ae_ ?_ | refine ad_ ?_ _)); exact BK345.out) hb)
    have n3_ := ab_ (blk_below (g := gb346) (o := .cells #[.int .i64 0, .int .i64 0, .slice none 0 0] 62 (0, 0)) (by (with_reducible repeat (first | refine ac_ ?_ _ | refine ae_ ?_ | refine ad_ ?_ _)); exact BK346.out) hb)
    have n4_ := ab_ (ap_ (by repeat (first | (with_reducible first | exact HB.out | apply ai_ | apply ag_ | apply ah_ | refine af_ ?_ GE344.out | refine af_ ?_ GE345.out | refine af_ ?_ GE346.out) | exact HB.out)) hb)
    clear HO0_2
    clear BK344
    clear BK345
    clear BK346
    clear HB
    have HO0_2 := n0_
    have BK344 := n1_
    have BK345 := n2_
    have BK346 := n3_
    have HB := n4_
    clear n0_ n1_ n2_ n3_ n4_
    (try clear hb)
    (try clear hb2)
    (try clear hk)
    (try clear hi)
    refine hK.out _ _ ⟨(an_ BK344.out 0).trans rfl, (an_ BK344.out 1).trans rfl, (an_ BK344.out 2).trans rfl, (an_ BK345.out 0).trans rfl, (an_ BK345.out 1).trans rfl, (an_ BK345.out 2).trans rfl⟩ (fun hHeld => ?_)
    clear hK K
    refine norm_ (a' := ?_) ?_ ?_
    rotate_left
    · show Act.put _ (some 9) _ = _
      simp only [Act.put, List.setIfInBounds_toArray, List.set_cons_zero, List.set_cons_succ, i64_w, i32_w]
      rfl
    refine one_ (i := 4) (N := some 12) #[true, true, true, true, true, true, false, false, false, false, false] rfl rfl (one_of HT_.out (by kernel_rfl)) (by decide) (fun K hK => ?_)
    refine goes_ Try.func99 (by kernel_rfl) rfl #[.agg #[.int .i64 a0_0, .int .i64 a0_1, .slice A0_2 l0_2.length c0_2], .int .i64 a1] (by rfl) rfl rfl (by (try simp only [List.map_toArray, List.map_cons, List.map_nil]); first | done | rfl | (simp only [List.length_drop, List.length_take]; rfl)) ?_
    with_reducible refine (spec_l3Uses.calls k a0_0 a0_1 _ _ l0_2 a1 t348 _ ?side1 ?side2 A5.out).mono ?_
    (case side1 => repeat (first | exact (Kd.V_reads' HO0_2.out).2.2 | (with_reducible refine Kd.C_alloc ?_ _) | (with_reducible refine Kd.C_drewN ?_ _) | (with_reducible refine Kd.C_drew ?_)))
    (case side2 => exact (Kd.V_reads' HO0_2.out).2.1)
    rintro e w24 ⟨rfl, hb⟩
    refine ⟨_, rfl, ?_⟩
    have n0_ := ab_ (Kd.V_below (by (with_reducible repeat (first | apply Kd.V_alloc | apply Kd.V_drewN | apply Kd.V_drew)); exact HO0_2.out) hb)
    have n1_ := ab_ (blk_below (g := gb344) (o := .cells #[.int .i64 a0_0, .int .i64 a0_1, .slice A0_2 l0_2.length c0_2] 62 (0, 0)) (by (with_reducible repeat (first | refine ac_ ?_ _ | refine ae_ ?_ | refine ad_ ?_ _)); exact BK344.out) hb)
    have n2_ := ab_ (blk_below (g := gb345) (o := .cells #[.int .i64 a2_0, .int .i64 a2_1, .slice A2_2 l2_2.length c2_2] 62 (0, 0)) (by (with_reducible repeat (first | refine ac_ ?_ _ | refine ae_ ?_ | refine ad_ ?_ _)); exact BK345.out) hb)
    have n3_ := ab_ (blk_below (g := gb346) (o := .cells #[.int .i64 0, .int .i64 0, .slice none 0 0] 62 (0, 0)) (by (with_reducible repeat (first | refine ac_ ?_ _ | refine ae_ ?_ | refine ad_ ?_ _)); exact BK346.out) hb)
    have n4_ := ab_ (ap_ (by repeat (first | (with_reducible first | exact HB.out | apply ai_ | apply ag_ | apply ah_ | refine af_ ?_ GE344.out | refine af_ ?_ GE345.out | refine af_ ?_ GE346.out) | exact HB.out)) hb)
    clear HO0_2
    clear BK344
    clear BK345
    clear BK346
    clear HB
    have HO0_2 := n0_
    have BK344 := n1_
    have BK345 := n2_
    have BK346 := n3_
    have HB := n4_
    clear n0_ n1_ n2_ n3_ n4_
    (try clear hb)
    (try clear hb2)
    (try clear hk)
    (try clear hi)
    refine hK.out _ _ ⟨(an_ BK344.out 0).trans rfl, (an_ BK344.out 1).trans rfl, (an_ BK344.out 2).trans rfl, (an_ BK345.out 0).trans rfl, (an_ BK345.out 1).trans rfl, (an_ BK345.out 2).trans rfl⟩ (fun hHeld => ?_)
    clear hK K
    refine norm_ (a' := ?_) ?_ ?_
    rotate_left
    · show Act.put _ (some 12) _ = _
      simp only [Act.put, List.setIfInBounds_toArray, List.set_cons_zero, List.set_cons_succ, i64_w, i32_w]
      rfl
    refine one_ (i := 6) (N := some 14) #[true, true, true, true, true, true, true, false, false, false, false] rfl rfl (one_of HT_.out (by kernel_rfl)) (by decide) (fun K hK => ?_)
    refine goes_ Try.func52 (by kernel_rfl) rfl #[.agg #[.int .i64 a2_0, .int .i64 a2_1, .slice A2_2 l2_2.length c2_2]] (by rfl) rfl rfl (by (try simp only [List.map_toArray, List.map_cons, List.map_nil]); first | done | rfl | (simp only [List.length_drop, List.length_take]; rfl)) ?_
    with_reducible refine (spec_l3Size.calls k a2_0 a2_1 _ _ l2_2 t349 _ ?side1 ?side2 A6.out).mono ?_
    (case side1 => repeat (first | exact (Kd.C_below HR2_2.out HB.out) | (with_reducible refine Kd.C_alloc ?_ _) | (with_reducible refine Kd.C_drewN ?_ _) | (with_reducible refine Kd.C_drew ?_)))
    (case side2 => exact HC2_2.out)
    rintro e w25 ⟨rfl, hb⟩
    refine ⟨_, rfl, ?_⟩
    have n0_ := ab_ (Kd.V_below (by (with_reducible repeat (first | apply Kd.V_alloc | apply Kd.V_drewN | apply Kd.V_drew)); exact HO0_2.out) hb)
    have n1_ := ab_ (blk_below (g := gb344) (o := .cells #[.int .i64 a0_0, .int .i64 a0_1, .slice A0_2 l0_2.length c0_2] 62 (0, 0)) (by (with_reducible repeat (first | refine ac_ ?_ _ | refine ae_ ?_ | refine ad_ ?_ _)); exact BK344.out) hb)
    have n2_ := ab_ (blk_below (g := gb345) (o := .cells #[.int .i64 a2_0, .int .i64 a2_1, .slice A2_2 l2_2.length c2_2] 62 (0, 0)) (by (with_reducible repeat (first | refine ac_ ?_ _ | refine ae_ ?_ | refine ad_ ?_ _)); exact BK345.out) hb)
    have n3_ := ab_ (blk_below (g := gb346) (o := .cells #[.int .i64 0, .int .i64 0, .slice none 0 0] 62 (0, 0)) (by (with_reducible repeat (first | refine ac_ ?_ _ | refine ae_ ?_ | refine ad_ ?_ _)); exact BK346.out) hb)
    have n4_ := ab_ (ap_ (by repeat (first | (with_reducible first | exact HB.out | apply ai_ | apply ag_ | apply ah_ | refine af_ ?_ GE344.out | refine af_ ?_ GE345.out | refine af_ ?_ GE346.out) | exact HB.out)) hb)
    clear HO0_2
    clear BK344
    clear BK345
    clear BK346
    clear HB
    have HO0_2 := n0_
    have BK344 := n1_
    have BK345 := n2_
    have BK346 := n3_
    have HB := n4_
    clear n0_ n1_ n2_ n3_ n4_
    (try clear hb)
    (try clear hb2)
    (try clear hk)
    (try clear hi)
    refine hK.out _ _ ⟨(an_ BK344.out 0).trans rfl, (an_ BK344.out 1).trans rfl, (an_ BK344.out 2).trans rfl, (an_ BK345.out 0).trans rfl, (an_ BK345.out 1).trans rfl, (an_ BK345.out 2).trans rfl⟩ (fun hHeld => ?_)
    clear hK K
    refine norm_ (a' := ?_) ?_ ?_
    rotate_left
    · show Act.put _ (some 14) _ = _
      simp only [Act.put, List.setIfInBounds_toArray, List.set_cons_zero, List.set_cons_succ, i64_w, i32_w]
      rfl
    refine pure_ (i := 7) (N := some 15) (v := ?_) (a' := ?_) #[true, true, true, true, true, true, true, true, false, false, false] rfl rfl (any_of HT_.out (by kernel_rfl)) (fun _ _ _ h => h) (Or.inl ⟨by rfl, ?_⟩) ?_ ?_
    rotate_left
    · intro w'
      go_simp
      with_reducible rfl
    rotate_left
    · simp only [Act.put, List.setIfInBounds_toArray, List.set_cons_zero, List.set_cons_succ, i64_w, i32_w]
      rfl
    refine pure_ (i := 8) (N := some 16) (v := ?_) (a' := ?_) #[true, true, true, true, true, true, true, true, true, false, false] rfl rfl (any_of HT_.out (by kernel_rfl)) (fun _ _ _ h => h) (Or.inl ⟨by rfl, ?_⟩) ?_ ?_
    rotate_left
    · intro w'
      go_simp
      with_reducible rfl
    rotate_left
    · simp only [Act.put, List.setIfInBounds_toArray, List.set_cons_zero, List.set_cons_succ, i64_w, i32_w]
      rfl
    refine pure_ (i := 9) (N := some 17) (v := ?_) (a' := ?_) #[true, true, true, true, true, true, true, true, true, true, false] rfl rfl (any_of HT_.out (by kernel_rfl)) (fun _ _ _ h => h) (Or.inl ⟨by rfl, ?_⟩) ?_ ?_
    rotate_left
    · intro w'
      go_simp
      with_reducible rfl
    rotate_left
    · simp only [Act.put, List.setIfInBounds_toArray, List.set_cons_zero, List.set_cons_succ, i64_w, i32_w]
      rfl
    refine pure_ (i := 10) (N := some 18) (v := ?_) (a' := ?_) #[true, true, true, true, true, true, true, true, true, true, true] rfl rfl (any_of HT_.out (by kernel_rfl)) (fun _ _ _ h => h) (Or.inl ⟨by rfl, ?_⟩) ?_ ?_
    rotate_left
    · intro w'
      go_simp
      with_reducible rfl
    rotate_left
    · simp only [Act.put, List.setIfInBounds_toArray, List.set_cons_zero, List.set_cons_succ, i64_w, i32_w]
      rfl
    refine done_ (done_of HT_.out (by kernel_rfl)) ?_
    have hnb26 := NB344_345.out
    have hnc26 := NB345_344.out
    have hnb27 := NB344_346.out
    have hnc27 := NB346_344.out
    have hcz28_0 : w25.cell? ⟨gb344, 0, none⟩ = some (.int .i64 a0_0) := (an_ BK344.out 0).trans rfl
    have hcz28_1 : w25.cell? ⟨gb344, 1, none⟩ = some (.int .i64 a0_1) := (an_ BK344.out 1).trans rfl
    have hcz28_2 : w25.cell? ⟨gb344, 2, none⟩ = some (.slice A0_2 l0_2.length c0_2) := (an_ BK344.out 2).trans rfl
    have hfz28_0 := am_ BK344.out 0
    have hfz28_1 := am_ BK344.out 1
    have hfz28_2 := am_ BK344.out 2
    have hnb29 := NB345_346.out
    have hnc29 := NB346_345.out
    have hcz30_0 : w25.cell? ⟨gb345, 0, none⟩ = some (.int .i64 a2_0) := (an_ BK345.out 0).trans rfl
    have hcz30_1 : w25.cell? ⟨gb345, 1, none⟩ = some (.int .i64 a2_1) := (an_ BK345.out 1).trans rfl
    have hcz30_2 : w25.cell? ⟨gb345, 2, none⟩ = some (.slice A2_2 l2_2.length c2_2) := (an_ BK345.out 2).trans rfl
    have hfz30_0 := am_ BK345.out 0
    have hfz30_1 := am_ BK345.out 1
    have hfz30_2 := am_ BK345.out 2
    try go_wp2_with (first | ((with_reducible refine gate_callee (f := 100) rfl ?_); refine goesL_ (some 23) rfl rfl Try.func100 (by kernel_rfl) rfl #[.agg #[.int .i64 a0_0, .int .i64 a0_1, .slice A0_2 l0_2.length c0_2], .int .i64 a1, .agg #[.int .i64 a2_0, .int .i64 a2_1, .slice A2_2 l2_2.length c2_2], .int .i64 0] rfl (by (try simp only [List.map_toArray, List.map_cons, List.map_nil]); first | done | rfl | (simp only [List.length_drop, List.length_take]; rfl)) ?_; (with_reducible refine (spec_l3Subst.calls k a0_0 a0_1 (fun k_ => ((((P0_2_ k_ ∨ w.heap.size ≤ k_) ∧ k_ ≠ gb344) ∧ k_ ≠ gb345) ∧ k_ ≠ gb346)) _ _ l0_2 a1 a2_0 a2_1 _ _ l2_2 0 t350 t351 t352 _ ?side1 ?side2 ?side3 A18.out).mono ?_); (case side1 => exact HO0_2.out); (case side2 => repeat (first | exact (Kd.C_below HR2_2.out HB.out) | (with_reducible refine Kd.C_alloc ?_ _) | (with_reducible refine Kd.C_drewN ?_ _) | (with_reducible refine Kd.C_drew ?_))); (case side3 => exact HC2_2.out); rintro e w31 ⟨v353, rfl, ho0, hb⟩; refine ⟨_, rfl, ?_⟩; have n0_ := ab_ (Kd.V_below (by (with_reducible repeat (first | apply Kd.V_alloc | apply Kd.V_drewN | apply Kd.V_drew)); exact HO0_2.out) hb); have n1_ := ab_ (Kd.V_lower (Kd.V_mono (ok' := fun k_ => (P0_2_ k_ ∨ w.heap.size ≤ k_) ∧ k_ ≠ gb344 ∧ k_ ≠ gb345 ∧ k_ ≠ gb346) ho0 (fun k_ hk_ => ⟨Or.elim hk_ (fun hs_ => hs_.1.1.1) (fun hn_ => (.inr (Nat.le_trans (below_size (by repeat (first | (with_reducible first | exact HB.out | apply ai_ | apply ag_ | apply ah_ | refine af_ ?_ GE344.out | refine af_ ?_ GE345.out | refine af_ ?_ GE346.out) | exact HB.out))) hn_))), Or.elim hk_ (fun hs_ => hs_.1.1.2) (fun hn_ => (Kd.freshB (g := gb344) (o := .cells #[.int .i64 a0_0, .int .i64 a0_1, .slice A0_2 l0_2.length c0_2] 62 (0, 0)) (by (with_reducible repeat (first | refine ac_ ?_ _ | refine ae_ ?_ | refine ad_ ?_ _)); exact BK344.out) k_ hn_)), Or.elim hk_ (fun hs_ => hs_.1.2) (fun hn_ => (Kd.freshB (g := gb345) (o := .cells #[.int .i64 a2_0, .int .i64 a2_1, .slice A2_2 l2_2.length c2_2] 62 (0, 0)) (by (with_reducible repeat (first | refine ac_ ?_ _ | refine ae_ ?_ | refine ad_ ?_ _)); exact BK345.out) k_ hn_)), Or.elim hk_ (fun hs_ => hs_.2) (fun hn_ => (Kd.freshB (g := gb346) (o := .cells #[.int .i64 0, .int .i64 0, .slice none 0 0] 62 (0, 0)) (by (with_reducible repeat (first | refine ac_ ?_ _ | refine ae_ ?_ | refine ad_ ?_ _)); exact BK346.out) k_ hn_))⟩)) (below_size (by repeat (first | (with_reducible first | exact HB.out | apply ai_ | apply ag_ | apply ah_ | refine af_ ?_ GE344.out | refine af_ ?_ GE345.out | refine af_ ?_ GE346.out) | exact HB.out)))); have n2_ := ab_ (blk_below (g := gb344) (o := .cells #[.int .i64 a0_0, .int .i64 a0_1, .slice A0_2 l0_2.length c0_2] 62 (0, 0)) (by (with_reducible repeat (first | refine ac_ ?_ _ | refine ae_ ?_ | refine ad_ ?_ _)); exact BK344.out) hb); have n3_ := ab_ (blk_below (g := gb345) (o := .cells #[.int .i64 a2_0, .int .i64 a2_1, .slice A2_2 l2_2.length c2_2] 62 (0, 0)) (by (with_reducible repeat (first | refine ac_ ?_ _ | refine ae_ ?_ | refine ad_ ?_ _)); exact BK345.out) hb); have n4_ := ab_ (blk_below (g := gb346) (o := .cells #[.int .i64 0, .int .i64 0, .slice none 0 0] 62 (0, 0)) (by (with_reducible repeat (first | refine ac_ ?_ _ | refine ae_ ?_ | refine ad_ ?_ _)); exact BK346.out) hb); have n5_ := ab_ (ap_ (by repeat (first | (with_reducible first | exact HB.out | apply ai_ | apply ag_ | apply ah_ | refine af_ ?_ GE344.out | refine af_ ?_ GE345.out | refine af_ ?_ GE346.out) | exact HB.out)) hb); clear HO0_2; clear BK344; clear BK345; clear BK346; clear HB; have HO0_2 := n0_; have HO354 := n1_; have BK344 := n2_; have BK345 := n3_; have BK346 := n4_; have HB := n5_; clear n0_ n1_ n2_ n3_ n4_ n5_; (try clear hb); (try clear hb2); (try clear hk); (try clear hi); (try clear ho0); have hcz32_0 : w31.cell? ⟨gb346, 0, none⟩ = some (.int .i64 0) := (an_ BK346.out 0).trans rfl; have hcz32_1 : w31.cell? ⟨gb346, 1, none⟩ = some (.int .i64 0) := (an_ BK346.out 1).trans rfl; have hcz32_2 : w31.cell? ⟨gb346, 2, none⟩ = some (.slice none 0 0) := (an_ BK346.out 2).trans rfl; have hfz32_0 := am_ BK346.out 0; have hfz32_1 := am_ BK346.out 1; have hfz32_2 := am_ BK346.out 2; obtain ⟨Ao33, co33, eo33⟩ := Kd.V_slice HO354.out; subst eo33))
    refine bodyPost_ret (results_ct rfl _ _ gb346 62 #[.int .i64 t350, .int .i64 t351, .slice Ao33 t352.length co33] (0, 0) _ rfl (by (with_reducible repeat (first | refine ac_ ?_ _ | refine ae_ ?_ | refine ad_ ?_ _)); refine blk_put (cs := #[.int .i64 t350, .int .i64 t351, .slice none 0 0]) ?_ 2 _ rfl; (with_reducible repeat (first | refine ac_ ?_ _ | refine ae_ ?_ | refine ad_ ?_ _)); refine blk_put (cs := #[.int .i64 t350, .int .i64 0, .slice none 0 0]) ?_ 1 _ rfl; (with_reducible repeat (first | refine ac_ ?_ _ | refine ae_ ?_ | refine ad_ ?_ _)); refine blk_put (cs := #[.int .i64 0, .int .i64 0, .slice none 0 0]) ?_ 0 _ rfl; (with_reducible repeat (first | refine ac_ ?_ _ | refine ae_ ?_ | refine ad_ ?_ _)); exact BK346.out) Try.underlying62 rfl (by kernel_rfl)) rfl ?_
    exact ⟨_, by first | rfl | (simp [errW_none, errW_some] <;> rfl) | (simp [*, errW_none, errW_some] <;> rfl), by (with_reducible repeat (first | apply Kd.V_alloc | apply Kd.V_drewN | apply Kd.V_drew)); exact Kd.V_mono (Kd.V_far (p := ⟨gb346, 2, none⟩) (Kd.V_far (p := ⟨gb346, 1, none⟩) (Kd.V_far (p := ⟨gb346, 0, none⟩) (Kd.V_mono HO354.out (fun k_ hk => (⟨hk, hk.2.2.2⟩ : _ ∧ k_ ≠ gb346))) (fun _ hk => hk.2) (.int .i64 t350)) (fun _ hk => hk.2) (.int .i64 t351)) (fun _ hk => hk.2) (.slice Ao33 t352.length co33)) (fun _ hk => hk.1.1), by repeat (first | (with_reducible first | exact HB.out | apply ai_ | apply ag_ | apply ah_ | refine af_ ?_ GE344.out | refine af_ ?_ GE345.out | refine af_ ?_ GE346.out) | exact HB.out)⟩
end Go.Proofs.Ytgoiifpimpnlpaa.PAll

end

section
namespace Go.Proofs.Ytgoiifpimpnlpaa.PAll
open Go.RowKit Go.Proofs.YtgoiifpimpnlpaaW.PrintWords Go.Proofs.YtgoiifpimpnlpaaW.PrintLast Go.Proofs.YtgoiifpimpnlpaaW.PrintMore
attribute [local go_sem] max2_int min2_int max_two min_two max_three min_three max_four min_four   -- for this text's walks alone
set_option linter.unusedVariables false
set_option linter.unusedSimpArgs false
def spec_l3Flat.f (a0_0 : Int) (a0_1 : Int) (l0_2 : List (S62)) (l1 : List (S66)) : Option (List (S66)) := l3flat 2000 a0_0 a0_1 l0_2 l1
theorem spec_l3Flat.calls (a0_0 : Int) (a0_1 : Int) (A0_2 : Option Addr) (c0_2 : Nat) (l0_2 : List (S62)) (P1_ : Nat → Prop) (u9000_ : Value) (l1 : List (S66)) (r : List (S66)) (w0 w : World) (hB : Below w0.heap.size w0 w) (hr0_2 : ∀ W_, Kept w W_ (fun k_ => P1_ k_) → Kd.C k62 W_ A0_2 l0_2.length l0_2) (hc0_2 : l0_2.length ≤ c0_2) (ho1 : Kd.R k66 66 w w0.heap.size P1_ u9000_ l1) (h : spec_l3Flat.f a0_0 a0_1 l0_2 l1 = some r) :
    Calls Try.prog 101 #[.agg #[.int .i64 a0_0, .int .i64 a0_1, .slice A0_2 l0_2.length c0_2], u9000_] w fun e w' => ∃ v0_ : Value, e = .returned (v0_) ∧ Kd.R k66 66 w' w0.heap.size (fun k_ => (P1_ k_ ∨ w.heap.size ≤ k_)) v0_ r ∧ Below w0.heap.size w0 w' ∧ Kept w w' (fun k_ => P1_ k_) := by
  exact l3flat_calls 2000 a0_0 a0_1 A0_2 c0_2 l0_2 P1_ u9000_ l1 r w0 w hB hr0_2 hc0_2 ho1 h
end Go.Proofs.Ytgoiifpimpnlpaa.PAll

end

section
namespace Go.Proofs.Ytgoiifpimpnlpaa.PAll
open Go.RowKit Go.Proofs.YtgoiifpimpnlpaaW.PrintWords Go.Proofs.YtgoiifpimpnlpaaW.PrintLast Go.Proofs.YtgoiifpimpnlpaaW.PrintMore
attribute [local go_sem] max2_int min2_int max_two min_two max_three min_three max_four min_four   -- for this text's walks alone
set_option linter.unusedVariables false
set_option linter.unusedSimpArgs false
def spec_l3Tell.f (k : Nat) (a0_0 : Int) (a0_1 : Int) (l0_2 : List (S62)) : Option ((List (S66)) × Bool) := (spec_l3Flat.f a0_0 a0_1 l0_2 ([] : List (S66))).bind fun t360 => ((spec_GoodTerm.f k t360).bind fun t363 => (if t363 = true then (some (t360, true)) else (some (([] : List (S66)), false))))
set_option maxHeartbeats 8000000 in
set_option maxRecDepth 100000 in
theorem spec_l3Tell.calls (k : Nat) (a0_0 : Int) (a0_1 : Int) (A0_2 : Option Addr) (c0_2 : Nat) (l0_2 : List (S62)) (r1 : List (S66)) (r2 : Bool) (w : World) (hr0_2 : Kd.C k62 w A0_2 l0_2.length l0_2) (hc0_2 : l0_2.length ≤ c0_2) (h : spec_l3Tell.f k a0_0 a0_1 l0_2 = some (r1, r2)) :
    Calls Try.prog 61 #[.agg #[.int .i64 a0_0, .int .i64 a0_1, .slice A0_2 l0_2.length c0_2]] w fun e w' => ∃ v0_ : Value, e = .returned (.tuple #[v0_, .bool r2]) ∧ Kd.R k66 66 w' w.heap.size (fun _ => True) v0_ r1 ∧ Below w.heap.size w w' := by
  have hu62 := Try.underlying62
  have HR0_2 := ab_ hr0_2
  have HC0_2 := ab_ hc0_2
  clear hr0_2 hc0_2
  have HB := ab_ (aq_ w.heap.size w)
  have H : ((spec_l3Flat.f a0_0 a0_1 l0_2 ([] : List (S66))).bind fun t360 => ((spec_GoodTerm.f k t360).bind fun t363 => (if t363 = true then (some (t360, true)) else (some (([] : List (S66)), false))))) = some (r1, r2) := h
  clear h
  replace H := Option.bind_eq_some_iff.mp H
  obtain ⟨t360, A20, H⟩ := H
  replace H : ((spec_GoodTerm.f k t360).bind fun t363 => (if t363 = true then (some (t360, true)) else (some (([] : List (S66)), false)))) = some (r1, r2) := H
  have A2 := ab_ A20
  clear A20
  replace H := Option.bind_eq_some_iff.mp H
  obtain ⟨t363, A30, H⟩ := H
  replace H : (if t363 = true then (some (t360, true)) else (some (([] : List (S66)), false))) = some (r1, r2) := H
  have A3 := ab_ A30
  clear A30
  by_cases c4 : t363 = true
  · subst c4
    have H1 : (some (t360, true)) = some (r1, r2) := by rw [if_pos rfl] at H; exact H
    clear H
    have H := H1
    clear H1
    simp only [Option.some.injEq, Prod.mk.injEq] at H
    obtain ⟨rfl, rfl⟩ := H
    go_enter Try.func61, Try.ntmps61
    go_wp2_with (first | ((with_reducible refine gate_dst (N := 1) rfl ?_); refine box_event ?hg (N := 1) ?hd (cs := #[.int .i64 a0_0, .int .i64 a0_1, .slice A0_2 l0_2.length c0_2]) (t := 62) ?hr ?_; (case hd => rfl); (case hg => rfl); (case hr => first | (go_simp; done) | (go_simp; rfl)); intro gb359 hg w5 hbox hb; have n0_ := ab_ (ap_ (by repeat (first | (with_reducible first | exact HB.out | apply ai_ | apply ag_ | apply ah_) | exact HB.out)) hb); have n1_ := ab_ (hbox); have n2_ := ab_ ((by rw [hg]; exact (below_size (by repeat (first | (with_reducible first | exact HB.out | apply ai_ | apply ag_ | apply ah_) | exact HB.out))) : w.heap.size ≤ gb359)); have n3_ := ab_ ((by rw [hg]; exact (below_size (by repeat (first | (with_reducible first | exact HB.out | apply ai_ | apply ag_ | apply ah_) | exact HB.out))) : w.heap.size ≤ gb359)); clear HB; have HB := n0_; have BK359 := n1_; have GW359 := n2_; have GE359 := n3_; clear n0_ n1_ n2_ n3_; clear hb hbox hg; have hcz6_0 : w5.cell? ⟨gb359, 0, none⟩ = some (.int .i64 a0_0) := (an_ BK359.out 0).trans rfl; have hcz6_1 : w5.cell? ⟨gb359, 1, none⟩ = some (.int .i64 a0_1) := (an_ BK359.out 1).trans rfl; have hcz6_2 : w5.cell? ⟨gb359, 2, none⟩ = some (.slice A0_2 l0_2.length c0_2) := (an_ BK359.out 2).trans rfl; have hfz6_0 := am_ BK359.out 0; have hfz6_1 := am_ BK359.out 1; have hfz6_2 := am_ BK359.out 2) | ((with_reducible refine gate_callee (f := 101) rfl ?_); refine goesL_ (some 6) rfl rfl Try.func101 (by kernel_rfl) rfl #[.agg #[.int .i64 a0_0, .int .i64 a0_1, .slice A0_2 l0_2.length c0_2], .slice none 0 0] rfl (by (try simp only [List.map_toArray, List.map_cons, List.map_nil]); first | done | rfl | (simp only [List.length_drop, List.length_take]; rfl)) ?_; (refine (spec_l3Flat.calls a0_0 a0_1 _ _ l0_2 (fun k_ => some k_ = (.slice none 0 0 : Value).ownBlock) (.slice none 0 0) ([] : List (S66)) t360 w _ ?side1 ?side2 ?side3 ?side4 A2.out).mono ?_); (case side1 => repeat (first | (with_reducible first | exact HB.out | apply ai_ | apply ag_ | apply ah_ | refine af_ ?_ GE359.out) | exact HB.out)); (case side2 => exact Kd.C_kept_came k62_heap HR0_2.out (by repeat (first | (with_reducible first | exact HB.out | apply ai_ | apply ag_ | apply ah_ | refine af_ ?_ GE359.out) | exact HB.out)) (fun k_ hs_ => (fun e_ => by simp [Value.ownBlock] at e_) hs_)); (case side3 => exact HC0_2.out); (case side4 => exact Kd.R_nil _ _ _ _ _); rintro e w7 ⟨v361, rfl, ho0, hb, hkp⟩; refine ⟨_, rfl, ?_⟩; have n0_ := ab_ (blk_kept (by (with_reducible repeat (first | refine ac_ ?_ _ | refine ae_ ?_ | refine ad_ ?_ _)); exact BK359.out) hkp (fun hs_ => (fun e_ => by simp [Value.ownBlock] at e_) hs_)); have n1_ := ab_ (Kd.R_mono (ok' := fun k_ => True) ho0 (fun k_ hk_ => trivial)); have n2_ := ab_ (hb); clear BK359; clear HB; have BK359 := n0_; have HO362 := n1_; have HB := n2_; clear n0_ n1_ n2_; (try clear hb); (try clear hkp); (try clear ho0); obtain ⟨Ao8, co8, eo8⟩ := Kd.R_slice HO362.out; subst eo8) | ((with_reducible refine gate_callee (f := 14) rfl ?_); refine goesL_ (some 8) rfl rfl Try.func14 (by kernel_rfl) rfl #[.slice Ao8 t360.length co8] rfl (by (try simp only [List.map_toArray, List.map_cons, List.map_nil]); first | done | rfl | (simp only [List.length_drop, List.length_take]; rfl)) ?_; (with_reducible refine (spec_GoodTerm.calls k _ _ t360 true _ ?side1 ?side2 A3.out).mono ?_); (case side1 => repeat (first | exact (Kd.R_reads' HO362.out).2.2 | (with_reducible refine Kd.C_alloc ?_ _) | (with_reducible refine Kd.C_drewN ?_ _) | (with_reducible refine Kd.C_drew ?_))); (case side2 => exact (Kd.R_reads' HO362.out).2.1); rintro e w9 ⟨rfl, hb⟩; refine ⟨_, rfl, ?_⟩; have n0_ := ab_ (Kd.R_below (by (with_reducible repeat (first | apply Kd.R_alloc | apply Kd.R_drewN | apply Kd.R_drew)); exact HO362.out) hb); have n1_ := ab_ (blk_below (g := gb359) (o := .cells #[.int .i64 a0_0, .int .i64 a0_1, .slice A0_2 l0_2.length c0_2] 62 (0, 0)) (by (with_reducible repeat (first | refine ac_ ?_ _ | refine ae_ ?_ | refine ad_ ?_ _)); exact BK359.out) hb); have n2_ := ab_ (ap_ (by repeat (first | (with_reducible first | exact HB.out | apply ai_ | apply ag_ | apply ah_ | refine af_ ?_ GE359.out) | exact HB.out)) hb); clear HO362; clear BK359; clear HB; have HO362 := n0_; have BK359 := n1_; have HB := n2_; clear n0_ n1_ n2_; (try clear hb); (try clear hb2); (try clear hk); (try clear hi)))
    go_ret2
    exact ⟨_, by first | rfl | (simp [errW_none, errW_some] <;> rfl) | (simp [*, errW_none, errW_some] <;> rfl), by (with_reducible repeat (first | apply Kd.R_alloc | apply Kd.R_drewN | apply Kd.R_drew)); exact HO362.out, by repeat (first | (with_reducible first | exact HB.out | apply ai_ | apply ag_ | apply ah_ | refine af_ ?_ GE359.out) | exact HB.out)⟩
  · replace c4 := Bool.eq_false_iff.mpr c4
    subst c4
    have H1 : (some (([] : List (S66)), false)) = some (r1, r2) := by rw [if_neg (show ¬ (false = true) by decide)] at H; exact H
    clear H
    have H := H1
    clear H1
    simp only [Option.some.injEq, Prod.mk.injEq] at H
    obtain ⟨rfl, rfl⟩ := H
    go_enter Try.func61, Try.ntmps61
    go_wp2_with (first | ((with_reducible refine gate_dst (N := 1) rfl ?_); refine box_event ?hg (N := 1) ?hd (cs := #[.int .i64 a0_0, .int .i64 a0_1, .slice A0_2 l0_2.length c0_2]) (t := 62) ?hr ?_; (case hd => rfl); (case hg => rfl); (case hr => first | (go_simp; done) | (go_simp; rfl)); intro gb359 hg w10 hbox hb; have n0_ := ab_ (ap_ (by repeat (first | (with_reducible first | exact HB.out | apply ai_ | apply ag_ | apply ah_) | exact HB.out)) hb); have n1_ := ab_ (hbox); have n2_ := ab_ ((by rw [hg]; exact (below_size (by repeat (first | (with_reducible first | exact HB.out | apply ai_ | apply ag_ | apply ah_) | exact HB.out))) : w.heap.size ≤ gb359)); have n3_ := ab_ ((by rw [hg]; exact (below_size (by repeat (first | (with_reducible first | exact HB.out | apply ai_ | apply ag_ | apply ah_) | exact HB.out))) : w.heap.size ≤ gb359)); clear HB; have HB := n0_; have BK359 := n1_; have GW359 := n2_; have GE359 := n3_; clear n0_ n1_ n2_ n3_; clear hb hbox hg; have hcz11_0 : w10.cell? ⟨gb359, 0, none⟩ = some (.int .i64 a0_0) := (an_ BK359.out 0).trans rfl; have hcz11_1 : w10.cell? ⟨gb359, 1, none⟩ = some (.int .i64 a0_1) := (an_ BK359.out 1).trans rfl; have hcz11_2 : w10.cell? ⟨gb359, 2, none⟩ = some (.slice A0_2 l0_2.length c0_2) := (an_ BK359.out 2).trans rfl; have hfz11_0 := am_ BK359.out 0; have hfz11_1 := am_ BK359.out 1; have hfz11_2 := am_ BK359.out 2) | ((with_reducible refine gate_callee (f := 101) rfl ?_); refine goesL_ (some 6) rfl rfl Try.func101 (by kernel_rfl) rfl #[.agg #[.int .i64 a0_0, .int .i64 a0_1, .slice A0_2 l0_2.length c0_2], .slice none 0 0] rfl (by (try simp only [List.map_toArray, List.map_cons, List.map_nil]); first | done | rfl | (simp only [List.length_drop, List.length_take]; rfl)) ?_; (refine (spec_l3Flat.calls a0_0 a0_1 _ _ l0_2 (fun k_ => some k_ = (.slice none 0 0 : Value).ownBlock) (.slice none 0 0) ([] : List (S66)) t360 w _ ?side1 ?side2 ?side3 ?side4 A2.out).mono ?_); (case side1 => repeat (first | (with_reducible first | exact HB.out | apply ai_ | apply ag_ | apply ah_ | refine af_ ?_ GE359.out) | exact HB.out)); (case side2 => exact Kd.C_kept_came k62_heap HR0_2.out (by repeat (first | (with_reducible first | exact HB.out | apply ai_ | apply ag_ | apply ah_ | refine af_ ?_ GE359.out) | exact HB.out)) (fun k_ hs_ => (fun e_ => by simp [Value.ownBlock] at e_) hs_)); (case side3 => exact HC0_2.out); (case side4 => exact Kd.R_nil _ _ _ _ _); rintro e w12 ⟨v361, rfl, ho0, hb, hkp⟩; refine ⟨_, rfl, ?_⟩; have n0_ := ab_ (blk_kept (by (with_reducible repeat (first | refine ac_ ?_ _ | refine ae_ ?_ | refine ad_ ?_ _)); exact BK359.out) hkp (fun hs_ => (fun e_ => by simp [Value.ownBlock] at e_) hs_)); have n1_ := ab_ (Kd.R_mono (ok' := fun k_ => True) ho0 (fun k_ hk_ => trivial)); have n2_ := ab_ (hb); clear BK359; clear HB; have BK359 := n0_; have HO362 := n1_; have HB := n2_; clear n0_ n1_ n2_; (try clear hb); (try clear hkp); (try clear ho0); obtain ⟨Ao13, co13, eo13⟩ := Kd.R_slice HO362.out; subst eo13) | ((with_reducible refine gate_callee (f := 14) rfl ?_); refine goesL_ (some 8) rfl rfl Try.func14 (by kernel_rfl) rfl #[.slice Ao13 t360.length co13] rfl (by (try simp only [List.map_toArray, List.map_cons, List.map_nil]); first | done | rfl | (simp only [List.length_drop, List.length_take]; rfl)) ?_; (with_reducible refine (spec_GoodTerm.calls k _ _ t360 false _ ?side1 ?side2 A3.out).mono ?_); (case side1 => repeat (first | exact (Kd.R_reads' HO362.out).2.2 | (with_reducible refine Kd.C_alloc ?_ _) | (with_reducible refine Kd.C_drewN ?_ _) | (with_reducible refine Kd.C_drew ?_))); (case side2 => exact (Kd.R_reads' HO362.out).2.1); rintro e w14 ⟨rfl, hb⟩; refine ⟨_, rfl, ?_⟩; have n0_ := ab_ (Kd.R_below (by (with_reducible repeat (first | apply Kd.R_alloc | apply Kd.R_drewN | apply Kd.R_drew)); exact HO362.out) hb); have n1_ := ab_ (blk_below (g := gb359) (o := .cells #[.int .i64 a0_0, .int .i64 a0_1, .slice A0_2 l0_2.length c0_2] 62 (0, 0)) (by (with_reducible repeat (first | refine ac_ ?_ _ | refine ae_ ?_ | refine ad_ ?_ _)); exact BK359.out) hb); have n2_ := ab_ (ap_ (by repeat (first | (with_reducible first | exact HB.out | apply ai_ | apply ag_ | apply ah_ | refine af_ ?_ GE359.out) | exact HB.out)) hb); clear HO362; clear BK359; clear HB; have HO362 := n0_; have BK359 := n1_; have HB := n2_; clear n0_ n1_ n2_; (try clear hb); (try clear hb2); (try clear hk); (try clear hi)))
    go_ret2
    exact ⟨_, by first | rfl | (simp [errW_none, errW_some] <;> rfl) | (simp [*, errW_none, errW_some] <;> rfl), by first | exact Kd.R_nil _ _ _ _ _ | exact Kd.N_nil _ _ _ _ _ | exact Kd.V_nil _ _ _ _ _ | exact Kd.Q_nil _ _ _ _ _ | exact Kd.S_nil _ _ _ _ _, by repeat (first | (with_reducible first | exact HB.out | apply ai_ | apply ag_ | apply ah_ | refine af_ ?_ GE359.out) | exact HB.out)⟩
end Go.Proofs.Ytgoiifpimpnlpaa.PAll

end

section
namespace Go.Proofs.Ytgoiifpimpnlpaa.PAll
open Go.RowKit Go.Proofs.YtgoiifpimpnlpaaW.PrintWords Go.Proofs.YtgoiifpimpnlpaaW.PrintLast Go.Proofs.YtgoiifpimpnlpaaW.PrintMore
attribute [local go_sem] max2_int min2_int max_two min_two max_three min_three max_four min_four   -- for this text's walks alone
set_option linter.unusedVariables false
set_option linter.unusedSimpArgs false
def laws_markCellS.l0 : Nat → List (S66) → Int → Int → Option (Int × (List (S66)))
  | 0, _, _, _ => none
  | k + 1, x0, x1, x5 => if x5 < (x0.length : Int) then (if 0 ≤ x5 then ((some (x0.set (x5 : Int).toNat (⟨x1, (rd_T66 x0 x5).f1⟩ : S66) : List (S66))).bind fun y416 => (laws_markCellS.l0 k (y416.set (x5 : Int).toNat (⟨(rd_T66 y416 x5).f0, wrap64 (x1 + 1)⟩ : S66)) (wrap64 ((wrap64 (x1 + 1)) + 1)) (wrap64 (x5 + 1)))) else (none)) else (some (x1, x0))
def laws_markCellS.f (k : Nat) (l0 : List (S66)) (a1 : Int) : Option (Int × (List (S66))) := laws_markCellS.l0 k l0 a1 0
set_option maxHeartbeats 8000000 in
set_option maxRecDepth 100000 in
theorem laws_markCellS.calls (k : Nat) (P0_ : Nat → Prop) (u9000_ : Value) (l0 : List (S66)) (a1 : Int) (r1 : Int) (r2 : List (S66)) (w0 w : World) (hB : Below w0.heap.size w0 w) (ho0 : Kd.R k66 66 w w0.heap.size P0_ u9000_ l0) (h : laws_markCellS.f k l0 a1 = some (r1, r2)) :
    Calls Try.prog 26 #[u9000_, .int .i64 a1] w fun e w' => e = .returned (.int .i64 r1) ∧ Kd.R k66 66 w' w0.heap.size (fun k_ => (P0_ k_ ∨ w.heap.size ≤ k_)) u9000_ r2 ∧ Below w0.heap.size w0 w' ∧ Kept w w' (fun k_ => P0_ k_) := by
  have HO0 := ab_ (show Kd.R k66 66 w w0.heap.size (fun k_ => (P0_ k_ ∨ w.heap.size ≤ k_)) u9000_ l0 from Kd.R_mono ho0 (fun k_ hk => (.inl hk)))
  have HK := ab_ (Kept.refl w (fun k_ => P0_ k_))
  have HW0 := ab_ hB.size
  have HB := ab_ hB
  clear hB
  have H : (laws_markCellS.l0 k l0 a1 0) = some (r1, r2) := h
  clear h
  have H' := ab_ H
  clear H
  go_enter Try.func26, Try.ntmps26
  go_wp2
  go_loopg [1, 5] k (fun kq v1 v5 w' => ∃ (x0_1 : List (S66)) (x1_1 : Int) (x5_1 : Int), v1 = .int .i64 x1_1 ∧ v5 = .int .i64 x5_1 ∧ Aside0 (laws_markCellS.l0 kq x0_1 x1_1 x5_1 = some (r1, r2)) ∧ Aside0 (kq ≤ k) ∧ Aside0 (Kd.R k66 66 w' w0.heap.size (fun k_ => (P0_ k_ ∨ w.heap.size ≤ k_)) u9000_ x0_1) ∧ Aside0 (Kept w w' (fun k_ => P0_ k_)) ∧ Aside0 (Below w0.heap.size w0 w'))
  case atStart => exact ⟨(l0), (a1), (0), (by first | rfl | (simp; done) | (simp [*]; done)), (by first | rfl | (simp; done) | (simp [*]; done)), H', ⟨Nat.le_refl _⟩, ⟨by (with_reducible repeat (first | apply Kd.R_alloc | apply Kd.R_drewN | apply Kd.R_drew)); exact HO0.out⟩, ⟨by repeat (first | (with_reducible first | exact HK.out | apply Kept.alloc | apply Kept.drewN | apply Kept.drew) | exact HK.out)⟩, ⟨by repeat (first | (with_reducible first | exact HB.out | apply ai_ | apply ag_ | apply ah_) | exact HB.out)⟩⟩
  case round =>
    clear H'
    try clear c2
    try clear p2
    obtain ⟨x0_1, x1_1, x5_1, rfl, rfl, HA, HK1, HO_0, HK, HB⟩ := hrel
    cases gk with
    | zero => exact absurd HA.out (by simp [laws_markCellS.l0])
    | succ k1 =>
      have H := HA.out
      clear HA
      simp only [laws_markCellS.l0] at H
      by_cases c3 : x5_1 < (x0_1.length : Int)
      · rw [if_pos c3] at H
        have c3b0 : decide (x5_1 < (x0_1.length : Int)) = true := ao_ c3
        clear c3
        by_cases c4 : 0 ≤ x5_1
        · rw [if_pos c4] at H
          have c4b0 : decide (0 ≤ x5_1) = true := ao_ c4
          clear c4
          obtain ⟨y416, hy416⟩ : ∃ y_ : List (S66), y_ = (x0_1.set (x5_1 : Int).toNat (⟨x1_1, (rd_T66 x0_1 x5_1).f1⟩ : S66)) := ⟨_, rfl⟩
          replace H : (laws_markCellS.l0 k1 (y416.set (x5_1 : Int).toNat (⟨(rd_T66 y416 x5_1).f0, wrap64 (x1_1 + 1)⟩ : S66)) (wrap64 ((wrap64 (x1_1 + 1)) + 1)) (wrap64 (x5_1 + 1))) = some (r1, r2) := by first | (rw [hy416]; with_reducible exact H) | (have H2_ := (Option.bind_some _ _).symm.trans H; rw [hy416]; with_reducible exact H2_) | (have H2_ := (Option.bind_some _ _).symm.trans H; with_reducible exact H2_) | with_reducible exact H | (rw [hy416]; exact H) | exact H
          have Ny416 := ab_ hy416
          clear hy416
          obtain ⟨y417, hy417⟩ : ∃ y_ : List (S66), y_ = (y416.set (x5_1 : Int).toNat (⟨(rd_T66 y416 x5_1).f0, wrap64 (x1_1 + 1)⟩ : S66)) := ⟨_, rfl⟩
          replace H : (laws_markCellS.l0 k1 y417 (wrap64 ((wrap64 (x1_1 + 1)) + 1)) (wrap64 (x5_1 + 1))) = some (r1, r2) := by first | (rw [hy417]; with_reducible exact H) | (have H2_ := (Option.bind_some _ _).symm.trans H; rw [hy417]; with_reducible exact H2_) | (have H2_ := (Option.bind_some _ _).symm.trans H; with_reducible exact H2_) | with_reducible exact H | (rw [hy417]; exact H) | exact H
          have Ny417 := ab_ hy417
          clear hy417
          have H' := ab_ H
          clear H
          obtain ⟨Ao7, co7, eo7⟩ := Kd.R_slice HO_0.out
          subst eo7
          have p5 : 0 ≤ (x5_1 : Int) := of_decide_eq_true (by first | (with_reducible assumption) | assumption)
          have q5 : (x5_1 : Int) < ((x0_1.length : Int) : Int) := of_decide_eq_true (by first | (with_reducible assumption) | assumption)
          obtain ⟨go5, co5, eo5, gb5, gl5, cl5, HG5⟩ := Kd.R_form HO_0.out (by omega)
          (first | cases eo5 | (injection eo5 with ea_ en_ ec_; (first | subst ea_ | (injection ea_ with ea_; subst ea_)); subst ec_; clear en_))
          have GB5 := ab_ gb5
          have GG5 := ab_ HG5
          clear gb5 gl5 HG5
          have HMgo5 := ab_ (show (P0_ go5 ∨ w.heap.size ≤ go5) from (HO_0.out.1 _ rfl))
          obtain ⟨ce5, hcl5, hM5, hcc5, hfr5⟩ := Kd.R_elem HO_0.out z66 (x5_1 : Int) p5 q5
          obtain rfl := k66_openM hM5
          have hx5_0 : wr.cell? ⟨go5, (x5_1 : Int).toNat * 2, none⟩ = some (.int .i64 ((rd_T66 x0_1 x5_1).f0)) := hcc5 0 _ rfl
          have hx5_1 : wr.cell? ⟨go5, (x5_1 : Int).toNat * 2 + 1, none⟩ = some (.int .i64 ((rd_T66 x0_1 x5_1).f1)) := hcc5 1 _ rfl
          have hf5_0 : wr.frozen? ⟨go5, (x5_1 : Int).toNat * 2, none⟩ = false := hfr5 0
          have hf5_1 : wr.frozen? ⟨go5, (x5_1 : Int).toNat * 2 + 1, none⟩ = false := hfr5 1
          (try clear hcl5); (try clear hcc5); (try clear hfr5); (try clear hM5)
          replace p5 := eq_true p5
          replace q5 := eq_true q5
          have HX8 := ab_ (show Kd.R k66 66 wr w0.heap.size (fun k_ => (P0_ k_ ∨ w.heap.size ≤ k_)) (.slice (some ⟨go5, 0, none⟩) x0_1.length co7) x0_1 from (by (with_reducible repeat (first | apply Kd.R_alloc | apply Kd.R_drewN | apply Kd.R_drew)); exact HO_0.out))
          obtain ⟨ce8, hcl8, hM8, hcc8, hfr8⟩ := Kd.R_elem HX8.out z66 (x5_1 : Int) (of_decide_eq_true (by first | (with_reducible assumption) | assumption)) (by have h_ : (x5_1 : Int) < ((x0_1.length : Int) : Int) := of_decide_eq_true (by first | (with_reducible assumption) | assumption); first | exact h_ | (have e_ := (Kd.R_reads' HO_0.out).1; omega) | simpa using h_)
          obtain rfl := k66_openM hM8
          have HP8 := Kd.R_seg HX8.out (x5_1 : Int) (of_decide_eq_true (by first | (with_reducible assumption) | assumption)) (by have h_ : (x5_1 : Int) < ((x0_1.length : Int) : Int) := of_decide_eq_true (by first | (with_reducible assumption) | assumption); first | exact h_ | (have e_ := (Kd.R_reads' HO_0.out).1; omega) | simpa using h_) (seg := [.int .i64 x1_1]) (j := 0) hcl8 hcc8 (show 1 ≤ 2 from by decide) (x' := (⟨x1_1, (rd_T66 x0_1 x5_1).f1⟩ : S66)) (k66_mkM _ _ _ (⟨x1_1, (rd_T66 x0_1 x5_1).f1⟩ : S66) ) (fun _ hk => hk)
          have hx8_0 := hcc8 0 _ rfl
          (try simp only [show (k66).sz = 2 from rfl, Nat.mul_one, Nat.add_zero] at hx8_0)
          have hf8_0 := hfr8 0
          (try simp only [show (k66).sz = 2 from rfl, Nat.mul_one, Nat.add_zero] at hf8_0)
          (try clear hcl8); (try clear hcc8); (try clear hfr8); (try clear hM8)
          go_wp2_with (first | ((with_reducible refine gate_store (t := 3) (p := 16) rfl ?_); refine store_event (t := 3) (p := 16) (v := ?vo_w9) (w1 := (wr.setCell ⟨go5, (x5_1 : Int).toNat * 2, none⟩ (.int .i64 x1_1))) ?hg ?ho ?hn ?hr ?_; (case ho => rfl); (case hg => rfl); (case hn => rfl); (case hr => first | (go_simp; done) | (go_simp; rfl)); intro w9 hw; have hg : wr.grownBy w9 (some go5) := (by rw [hw]; exact HP8.2); have hp_ : Kd.R k66 66 w9 w0.heap.size (fun k_ => (P0_ k_ ∨ w.heap.size ≤ k_)) (.slice (some ⟨go5, 0, none⟩) x0_1.length co7) y416 := (by rw [hw, Ny416.out]; exact HP8.1); clear HP8; have n0_ := ab_ (hp_); have n1_ := ab_ ((by rw [hw]; exact af_ (HB.out) GB5.out : Below w0.heap.size w0 w9)); have n2_ := ab_ (Kept.of_grown (S := (fun k_ => P0_ k_)) hg (by repeat (first | (with_reducible first | exact HK.out | apply Kept.alloc | apply Kept.drewN | apply Kept.drew) | exact HK.out)) (fun k_ e_ => (HO_0.out.1 k_ e_))); clear HO_0; clear HB; clear HK; have HO_0 := n0_; have HB := n1_; have HK := n2_; clear n0_ n1_ n2_; clear hg hw hp_; have p6 : 0 ≤ (x5_1 : Int) := of_decide_eq_true (by first | (with_reducible assumption) | assumption); have q6 : (x5_1 : Int) < ((x0_1.length : Int) : Int) := of_decide_eq_true (by first | (with_reducible assumption) | assumption); obtain ⟨ce6, hcl6, hM6, hcc6, hfr6⟩ := Kd.R_elem HO_0.out z66 (x5_1 : Int) p6 q6; obtain rfl := k66_openM hM6; have hx6_0 : w9.cell? ⟨go5, (x5_1 : Int).toNat * 2, none⟩ = some (.int .i64 ((rd_T66 y416 x5_1).f0)) := hcc6 0 _ rfl; have hx6_1 : w9.cell? ⟨go5, (x5_1 : Int).toNat * 2 + 1, none⟩ = some (.int .i64 ((rd_T66 y416 x5_1).f1)) := hcc6 1 _ rfl; have hf6_0 : w9.frozen? ⟨go5, (x5_1 : Int).toNat * 2, none⟩ = false := hfr6 0; have hf6_1 : w9.frozen? ⟨go5, (x5_1 : Int).toNat * 2 + 1, none⟩ = false := hfr6 1; (try clear hcl6); (try clear hcc6); (try clear hfr6); (try clear hM6); replace p6 := eq_true p6; replace q6 := eq_true q6; have HX10 := ab_ (show Kd.R k66 66 w9 w0.heap.size (fun k_ => (P0_ k_ ∨ w.heap.size ≤ k_)) (.slice (some ⟨go5, 0, none⟩) x0_1.length co7) y416 from (by (with_reducible repeat (first | apply Kd.R_alloc | apply Kd.R_drewN | apply Kd.R_drew)); exact HO_0.out)); obtain ⟨ce10, hcl10, hM10, hcc10, hfr10⟩ := Kd.R_elem HX10.out z66 (x5_1 : Int) (of_decide_eq_true (by first | (with_reducible assumption) | assumption)) (by have h_ : (x5_1 : Int) < ((x0_1.length : Int) : Int) := of_decide_eq_true (by first | (with_reducible assumption) | assumption); first | exact h_ | (have e_ := (Kd.R_reads' HO_0.out).1; omega) | simpa using h_); obtain rfl := k66_openM hM10; have HP10 := Kd.R_seg HX10.out (x5_1 : Int) (of_decide_eq_true (by first | (with_reducible assumption) | assumption)) (by have h_ : (x5_1 : Int) < ((x0_1.length : Int) : Int) := of_decide_eq_true (by first | (with_reducible assumption) | assumption); first | exact h_ | (have e_ := (Kd.R_reads' HO_0.out).1; omega) | simpa using h_) (seg := [.int .i64 (wrap64 (x1_1 + 1))]) (j := 1) hcl10 hcc10 (show 2 ≤ 2 from by decide) (x' := (⟨(rd_T66 y416 x5_1).f0, wrap64 (x1_1 + 1)⟩ : S66)) (k66_mkM _ _ _ (⟨(rd_T66 y416 x5_1).f0, wrap64 (x1_1 + 1)⟩ : S66) ) (fun _ hk => hk); have hx10_1 := hcc10 1 _ rfl; (try simp only [show (k66).sz = 2 from rfl, Nat.mul_one, Nat.add_zero] at hx10_1); have hf10_1 := hfr10 1; (try simp only [show (k66).sz = 2 from rfl, Nat.mul_one, Nat.add_zero] at hf10_1); (try clear hcl10); (try clear hcc10); (try clear hfr10); (try clear hM10)) | ((with_reducible refine gate_store (t := 3) (p := 23) rfl ?_); refine store_event (t := 3) (p := 23) (v := ?vo_w11) (w1 := (w9.setCell ⟨go5, (x5_1 : Int).toNat * 2 + 1, none⟩ (.int .i64 (wrap64 (x1_1 + 1))))) ?hg ?ho ?hn ?hr ?_; (case ho => rfl); (case hg => rfl); (case hn => rfl); (case hr => first | (go_simp; done) | (go_simp; rfl)); intro w11 hw; have hg : w9.grownBy w11 (some go5) := (by rw [hw]; exact HP10.2); have hp_ : Kd.R k66 66 w11 w0.heap.size (fun k_ => (P0_ k_ ∨ w.heap.size ≤ k_)) (.slice (some ⟨go5, 0, none⟩) x0_1.length co7) y417 := (by rw [hw, Ny417.out]; exact HP10.1); clear HP10; have n0_ := ab_ (hp_); have n1_ := ab_ ((by rw [hw]; exact af_ (HB.out) GB5.out : Below w0.heap.size w0 w11)); have n2_ := ab_ (Kept.of_grown (S := (fun k_ => P0_ k_)) hg (by repeat (first | (with_reducible first | exact HK.out | apply Kept.alloc | apply Kept.drewN | apply Kept.drew) | exact HK.out)) (fun k_ e_ => (HO_0.out.1 k_ e_))); clear HO_0; clear HB; clear HK; have HO_0 := n0_; have HB := n1_; have HK := n2_; clear n0_ n1_ n2_; clear hg hw hp_))
          go_roundg k1
          case measure => have := HK1.out; omega
          case rel => exact ⟨(y417), (wrap64 ((wrap64 (x1_1 + 1)) + 1)), (wrap64 (x5_1 + 1)), (by first | rfl | (simp; done) | (simp [*]; done)), (by first | rfl | (simp; done) | (simp [*]; done)), H', ⟨by have := HK1.out; omega⟩, ⟨by (with_reducible repeat (first | apply Kd.R_alloc | apply Kd.R_drewN | apply Kd.R_drew)); exact HO_0.out⟩, ⟨by repeat (first | (with_reducible first | exact HK.out | apply Kept.alloc | apply Kept.drewN | apply Kept.drew) | exact HK.out)⟩, ⟨by repeat (first | (with_reducible first | exact HB.out | apply ai_ | apply ag_ | apply ah_) | exact HB.out)⟩⟩
        · rw [if_neg c4] at H
          exact absurd H (by simp)
      · rw [if_neg c3] at H
        have c3b0 : decide (x5_1 < (x0_1.length : Int)) = false := decide_eq_false c3
        clear c3
        simp only [Option.some.injEq, Prod.mk.injEq] at H
        obtain ⟨rfl, rfl⟩ := H
        obtain ⟨Ao12, co12, eo12⟩ := Kd.R_slice HO_0.out
        subst eo12
        go_wp2
        go_ret
        exact ⟨by first | rfl | (simp [errW_none, errW_some] <;> rfl) | (simp [*, errW_none, errW_some] <;> rfl), by (with_reducible repeat (first | apply Kd.R_alloc | apply Kd.R_drewN | apply Kd.R_drew)); exact HO_0.out, by repeat (first | (with_reducible first | exact HB.out | apply ai_ | apply ag_ | apply ah_) | exact HB.out), by repeat (first | (with_reducible first | exact HK.out | apply Kept.alloc | apply Kept.drewN | apply Kept.drew) | exact HK.out)⟩
def laws_heldCellS.l0 : Nat → List (S66) → Int → Int → Option (Int)
  | 0, _, _, _ => none
  | k + 1, x0, x1, x5 => if x5 < (x0.length : Int) then (if 0 ≤ x5 then (if ((rd_T66 x0 x5).f0) = x1 then (if ((rd_T66 x0 x5).f1) = (wrap64 (x1 + 1)) then (laws_heldCellS.l0 k x0 (wrap64 ((wrap64 (x1 + 1)) + 1)) (wrap64 (x5 + 1))) else (some (-1))) else (some (-1))) else (none)) else (some x1)
def laws_heldCellS.f (k : Nat) (l0 : List (S66)) (a1 : Int) : Option (Int) := laws_heldCellS.l0 k l0 a1 0
set_option maxHeartbeats 8000000 in
set_option maxRecDepth 100000 in
theorem laws_heldCellS.calls (k : Nat) (A0 : Option Addr) (c0 : Nat) (l0 : List (S66)) (a1 : Int) (r : Int) (w : World) (hr0 : Kd.C k66 w A0 l0.length l0) (hc0 : l0.length ≤ c0) (h : laws_heldCellS.f k l0 a1 = some r) :
    Calls Try.prog 27 #[.slice A0 l0.length c0, .int .i64 a1] w fun e w' => e = .returned (.int .i64 r) ∧ Drawn0 w w' := by
  have HR0 := ab_ hr0
  have HC0 := ab_ hc0
  clear hr0 hc0
  have H : (laws_heldCellS.l0 k l0 a1 0) = some r := h
  clear h
  have H' := ab_ H
  clear H
  go_enter Try.func27, Try.ntmps27
  go_wp2
  go_loopg [1, 5] k (fun kq v1 v5 w' => ∃ (x1_1 : Int) (x5_1 : Int), v1 = .int .i64 x1_1 ∧ v5 = .int .i64 x5_1 ∧ Aside0 (laws_heldCellS.l0 kq l0 x1_1 x5_1 = some r) ∧ Aside0 (kq ≤ k) ∧ Drawn0 w w')
  case atStart => exact ⟨(a1), (0), (by first | rfl | (simp; done) | (simp [*]; done)), (by first | rfl | (simp; done) | (simp [*]; done)), H', ⟨Nat.le_refl _⟩, by repeat (first | exact Drawn0.refl _ | apply Drawn0.step)⟩
  case round =>
    clear H'
    try clear c2
    try clear p2
    obtain ⟨x1_1, x5_1, rfl, rfl, HA, HK1, ⟨m1, rfl⟩⟩ := hrel
    cases gk with
    | zero => exact absurd HA.out (by simp [laws_heldCellS.l0])
    | succ k1 =>
      have H := HA.out
      clear HA
      simp only [laws_heldCellS.l0] at H
      by_cases c3 : x5_1 < (l0.length : Int)
      · rw [if_pos c3] at H
        have c3b0 : decide (x5_1 < (l0.length : Int)) = true := ao_ c3
        clear c3
        by_cases c4 : 0 ≤ x5_1
        · rw [if_pos c4] at H
          have c4b0 : decide (0 ≤ x5_1) = true := ao_ c4
          clear c4
          by_cases c5 : ((rd_T66 l0 x5_1).f0) = x1_1
          · rw [if_pos c5] at H
            have c5b0 : (((rd_T66 l0 x5_1).f0) == x1_1) = true := beq_iff_eq.mpr c5
            have c5b1 : (((rd_T66 l0 x5_1).f0) != x1_1) = false := bne_eq_false_iff_eq.mpr c5
            clear c5
            by_cases c6 : ((rd_T66 l0 x5_1).f1) = (wrap64 (x1_1 + 1))
            · rw [if_pos c6] at H
              have c6b0 : (((rd_T66 l0 x5_1).f1) == (wrap64 (x1_1 + 1))) = true := beq_iff_eq.mpr c6
              have c6b1 : (((rd_T66 l0 x5_1).f1) != (wrap64 (x1_1 + 1))) = false := bne_eq_false_iff_eq.mpr c6
              clear c6
              have H' := ab_ H
              clear H
              have p418 : 0 ≤ (x5_1 : Int) := of_decide_eq_true (by first | (with_reducible assumption) | assumption)
              have q418 : x5_1 < (l0.length : Int) := of_decide_eq_true (by first | (with_reducible assumption) | assumption)
              obtain ⟨ad418, e418, hx418_0, hx418_1⟩ := at_T66 HR0.out x5_1 p418 q418
              cases e418
              replace p418 := eq_true p418
              replace q418 := eq_true q418
              have p419 : 0 ≤ (x5_1 : Int) := of_decide_eq_true (by first | (with_reducible assumption) | assumption)
              have q419 : x5_1 < (l0.length : Int) := of_decide_eq_true (by first | (with_reducible assumption) | assumption)
              obtain ⟨ad419, e419, hx419_0, hx419_1⟩ := at_T66 HR0.out x5_1 p419 q419
              obtain rfl : ad418 = ad419 := (by injection e419)
              replace p419 := eq_true p419
              replace q419 := eq_true q419
              go_wp2
              go_roundg k1
              case measure => have := HK1.out; omega
              case rel => exact ⟨(wrap64 ((wrap64 (x1_1 + 1)) + 1)), (wrap64 (x5_1 + 1)), (by first | rfl | (simp; done) | (simp [*]; done)), (by first | rfl | (simp; done) | (simp [*]; done)), H', ⟨by have := HK1.out; omega⟩, by repeat (first | exact Drawn0.refl _ | apply Drawn0.step)⟩
            · rw [if_neg c6] at H
              have c6b0 : (((rd_T66 l0 x5_1).f1) == (wrap64 (x1_1 + 1))) = false := beq_eq_false_iff_ne.mpr c6
              have c6b1 : (((rd_T66 l0 x5_1).f1) != (wrap64 (x1_1 + 1))) = true := bne_iff_ne.mpr c6
              obtain rfl := Option.some.inj H
              have p418 : 0 ≤ (x5_1 : Int) := of_decide_eq_true (by first | (with_reducible assumption) | assumption)
              have q418 : x5_1 < (l0.length : Int) := of_decide_eq_true (by first | (with_reducible assumption) | assumption)
              obtain ⟨ad418, e418, hx418_0, hx418_1⟩ := at_T66 HR0.out x5_1 p418 q418
              cases e418
              replace p418 := eq_true p418
              replace q418 := eq_true q418
              have p419 : 0 ≤ (x5_1 : Int) := of_decide_eq_true (by first | (with_reducible assumption) | assumption)
              have q419 : x5_1 < (l0.length : Int) := of_decide_eq_true (by first | (with_reducible assumption) | assumption)
              obtain ⟨ad419, e419, hx419_0, hx419_1⟩ := at_T66 HR0.out x5_1 p419 q419
              obtain rfl : ad418 = ad419 := (by injection e419)
              replace p419 := eq_true p419
              replace q419 := eq_true q419
              go_wp2
              go_ret
              exact ⟨by first | rfl | (simp; done) | (simp [*]; done), by repeat (first | exact Drawn0.refl _ | apply Drawn0.step)⟩
          · rw [if_neg c5] at H
            have c5b0 : (((rd_T66 l0 x5_1).f0) == x1_1) = false := beq_eq_false_iff_ne.mpr c5
            have c5b1 : (((rd_T66 l0 x5_1).f0) != x1_1) = true := bne_iff_ne.mpr c5
            obtain rfl := Option.some.inj H
            have p418 : 0 ≤ (x5_1 : Int) := of_decide_eq_true (by first | (with_reducible assumption) | assumption)
            have q418 : x5_1 < (l0.length : Int) := of_decide_eq_true (by first | (with_reducible assumption) | assumption)
            obtain ⟨ad418, e418, hx418_0, hx418_1⟩ := at_T66 HR0.out x5_1 p418 q418
            cases e418
            replace p418 := eq_true p418
            replace q418 := eq_true q418
            go_wp2
            go_ret
            exact ⟨by first | rfl | (simp; done) | (simp [*]; done), by repeat (first | exact Drawn0.refl _ | apply Drawn0.step)⟩
        · rw [if_neg c4] at H
          exact absurd H (by simp)
      · rw [if_neg c3] at H
        have c3b0 : decide (x5_1 < (l0.length : Int)) = false := decide_eq_false c3
        clear c3
        obtain rfl := Option.some.inj H
        go_wp2
        go_ret
        exact ⟨by first | rfl | (simp; done) | (simp [*]; done), by repeat (first | exact Drawn0.refl _ | apply Drawn0.step)⟩
end Go.Proofs.Ytgoiifpimpnlpaa.PAll

end

section
namespace Go.Proofs.Ytgoiifpimpnlpaa.PAll
open Go.RowKit Go.Proofs.YtgoiifpimpnlpaaW.PrintWords Go.Proofs.YtgoiifpimpnlpaaW.PrintLast Go.Proofs.YtgoiifpimpnlpaaW.PrintMore
set_option linter.unusedVariables false
set_option linter.unusedSimpArgs false
theorem markFrom_loop (n : Nat) (hn : n ≤ 17592186044416) (a : Nat) (ha : a ≤ 100000000000000) : ∀ (d k i : Nat) (xs : List S66), xs.length = n → i + d = n → d < k → ∃ ys, laws_markCellS.l0 k xs ((a + 2 * i : Nat) : Int) (i : Int) = some (((a + 2 * n : Nat) : Int), ys) := by
  intro d
  induction d with
  | zero =>
    intro k i xs hx hi hk
    obtain ⟨k, rfl⟩ : ∃ m, k = m + 1 := ⟨k - 1, by omega⟩
    simp only [laws_markCellS.l0]
    rw [if_neg (by omega)]
    obtain rfl : i = n := by omega
    exact ⟨xs, rfl⟩
  | succ d ih =>
    intro k i xs hx hi hk
    obtain ⟨k, rfl⟩ : ∃ m, k = m + 1 := ⟨k - 1, by omega⟩
    simp only [laws_markCellS.l0]
    rw [if_pos (by omega), if_pos (by omega), Option.bind_some, wrap_id (x := ((a + 2 * i : Nat) : Int) + 1) (by omega) (by omega), wrap_id (x := (i : Int) + 1) (by omega) (by omega), wrap_id (by omega) (by omega)]
    have e1 : ((a + 2 * i : Nat) : Int) + 1 + 1 = ((a + 2 * (i + 1) : Nat) : Int) := by omega
    have e2 : (i : Int) + 1 = ((i + 1 : Nat) : Int) := by omega
    rw [e1, e2]
    exact ih k (i + 1) _ (by simp [hx]) (by omega) (by omega)
theorem markFrom_eq (xs : List S66) (hn : xs.length ≤ 17592186044416) (a : Nat) (ha : a ≤ 100000000000000) (k : Nat) (hk : xs.length < k) : ∃ ys, laws_markCellS.f k xs (a : Int) = some (((a + 2 * xs.length : Nat) : Int), ys) := by
  unfold laws_markCellS.f
  exact markFrom_loop xs.length hn a ha xs.length k 0 xs rfl (by omega) hk
theorem nodes_cnt (t : Tm) : t.nodes = t.cnt := by
  refine (Tm.ind2 (P := fun t => t.nodes = t.cnt) (Q := fun ts => nodesAll ts = cnts ts) ?_ (by simp [nodesAll, cnts]) ?_).1 t
  · intro k n ks h; rw [nodes_mk, cnt_mk, h]
  · intro t ts h1 h2; simp [nodesAll, cnts, h1, h2]
theorem binds_eq (k : Int) (i : Nat) : spec_l3Binds.f k (i : Int) = some (bindsI k i) := by
  unfold spec_l3Binds.f bindsI
  by_cases h3 : k = 3
  · rw [if_pos h3, if_pos h3]
  · rw [if_neg h3, if_neg h3]
    by_cases h7 : k = 7
    · rw [if_pos h7]
      by_cases h1 : i = 1
      · rw [if_pos (by omega), if_pos ⟨h7, h1⟩]
      · rw [if_neg (by omega), if_neg (fun x => h1 x.2)]
    · rw [if_neg h7, if_neg (fun x => h7 x.1)]
theorem cnts_drop (ks : List Tm) (i : Nat) (h : i < ks.length) : cnts (ks.drop i) = ks[i].cnt + cnts (ks.drop (i + 1)) := by
  rw [List.drop_eq_getElem_cons h]; simp [cnts]
theorem var_kids {n : Int} {ks : List Tm} (h : arI 1 = (ks.length : Int)) : ks = [] := by
  simp [arI] at h
  exact List.length_eq_zero_iff.1 (by omega)
theorem usesLoop_eq (kk : Int) (ks : List Tm) (hks : ks.length ≤ 3) (hws : wfs ks) (hc : cnts ks ≤ 1000000) (ih : ∀ t ∈ ks, t.wf → t.cnt ≤ 1000000 → ∀ v : Int, -10000000000 ≤ v → v + t.cnt ≤ 10000000000 → ∀ k, 10 * t.cnt ≤ k → spec_l3Uses.f k (tv t).f0 (tv t).f1 (tv t).f2 v = some (uses t v : Int)) (v : Int) (hv0 : -10000000000 ≤ v) (hv1 : v + cnts ks + 1 ≤ 10000000000) (n : Int) :
    ∀ (d i b k : Nat), i + d = ks.length → d + 10 * cnts ks + 1 ≤ k → b + cnts (ks.drop i) ≤ 2000000 → spec_l3Uses.l0 k v (b : Int) (tvs ks) (ks.length : Int) (i : Int) kk n (tvs ks) = some ((b + usesAll kk i (ks.drop i) v : Nat) : Int) := by
  intro d
  induction d with
  | zero =>
    intro i b k hi hk hb
    obtain ⟨k, rfl⟩ : ∃ m, k = m + 1 := ⟨k - 1, by omega⟩
    simp only [spec_l3Uses.l0]
    rw [if_neg (by omega), List.drop_eq_nil_of_le (by omega)]
    simp [usesAll]
  | succ d ihd =>
    intro i b k hi hk hb
    obtain ⟨k, rfl⟩ : ∃ m, k = m + 1 := ⟨k - 1, by omega⟩
    have hlt : i < ks.length := by omega
    have hg : ks[i]? = some ks[i] := by simp [hlt]
    have hmem : ks[i] ∈ ks := List.getElem_mem hlt
    have hn := cnt_mem hmem
    have hbi := bindsI_bd kk i
    have hd : ks.drop i = ks[i] :: ks.drop (i + 1) := by rw [List.drop_eq_getElem_cons hlt]
    have hcd := cnts_drop ks i hlt
    have hul := uses_le ks[i] (v + bindsI kk i)
    simp only [spec_l3Uses.l0]
    rw [if_pos (by omega), if_pos (by omega), tvs_length, if_pos (by omega), rd62_get ks i _ hg, binds_eq, Option.bind_some, wrap_id (x := v + bindsI kk i) (by omega) (by omega), ih _ hmem (wfs_get hws _ hmem) (by omega) _ (by omega) (by omega) k (by omega), Option.bind_some, wrap_id (x := (i : Int) + 1) (by omega) (by omega), wrap_id (by omega) (by omega), hd]
    have e : (i : Int) + 1 = ((i + 1 : Nat) : Int) := by omega
    have e2 : (b : Int) + (uses ks[i] (v + bindsI kk i) : Int) = ((b + uses ks[i] (v + bindsI kk i) : Nat) : Int) := by omega
    rw [e, e2, ihd (i + 1) _ k (by omega) (by omega) (by omega)]
    simp only [usesAll]
    congr 1
    omega
theorem l3Uses_eq (t : Tm) : t.wf → t.cnt ≤ 1000000 → ∀ v : Int, -10000000000 ≤ v → v + t.cnt ≤ 10000000000 → ∀ k, 10 * t.cnt ≤ k → spec_l3Uses.f k (tv t).f0 (tv t).f1 (tv t).f2 v = some (uses t v : Int) := by
  induction t using Tm.ind with
  | h k n ks ih =>
    intro hwf h6 v hv0 hv1 q hq
    simp only [Tm.wf] at hwf
    have hkl : ks.length ≤ 3 := by have := arI_bd k; omega
    rw [cnt_mk] at hq h6 hv1
    obtain ⟨q, rfl⟩ : ∃ m, q = m + 2 := ⟨q - 2, by omega⟩
    have L := usesLoop_eq k ks hkl hwf.2 (by omega) ih v hv0 (by omega) n ks.length 0 0 q (by omega) (by omega) (by simp; omega)
    simp only [Int.cast_ofNat_Int, List.drop_zero, Nat.zero_add] at L
    rw [tv_f, uses_mk]
    simp only [spec_l3Uses.f, spec_l3Uses.j0, tvs_length]
    by_cases h1 : k = 1
    · rw [if_pos h1, if_pos h1]
      have hk0 : ks = [] := by rw [h1] at hwf; exact var_kids (n := n) hwf.1
      by_cases hn : n = v
      · rw [if_pos (by simp [hn]), if_pos hn]; rfl
      · rw [if_neg (by simp [hn]), if_neg hn, L, hk0]
        simp [usesAll]
    · rw [if_neg h1, if_neg h1, if_neg (by simp), L]
theorem eta62 (x : S62) : (⟨x.f0, x.f1, x.f2⟩ : S62) = x := by cases x; rfl
def tv3 (t : Tm) : Int × Int × List S62 := ((tv t).f0, (tv t).f1, (tv t).f2)
theorem tv3_mk (k n : Int) (ks : List Tm) : tv3 (.mk k n ks) = (k, n, tvs ks) := by simp [tv3, tv_f]
theorem chgs_drop (f : Int → Int → Tm) (kk : Int) (ks : List Tm) (i : Nat) (h : i < ks.length) (b : Int) : chgs f kk i (ks.drop i) b = chg f ks[i] (b + bindsI kk i) :: chgs f kk (i + 1) (ks.drop (i + 1)) b := by
  rw [List.drop_eq_getElem_cons h]; simp [chgs]
theorem shiftLoop_eq (by_ : Int) (kk n m x : Int) (ks : List Tm) (hks : ks.length ≤ 3) (hws : wfs ks) (B : Int) (hvs : vbs B ks) (ih : ∀ t ∈ ks, t.wf → t.vb B → ∀ b : Int, 0 ≤ b → b + t.cnt ≤ 10000000000 → ∀ k, 10 * t.cnt ≤ k → spec_l3Shift.f k (tv t).f0 (tv t).f1 (tv t).f2 by_ b = some (tv3 (chg (shF by_ 0) t b))) (b : Int) (hb0 : 0 ≤ b) (hb1 : b + cnts ks + 1 ≤ 10000000000) (tl : List S62) :
    ∀ (d i k : Nat) (acc : List S62), i + d = ks.length → acc.length + d ≤ 10 → d + 10 * cnts ks + 1 ≤ k → spec_l3Shift.l0 k by_ b (tvs ks) (ks.length : Int) (i : Int) kk n tl m x acc = some (m, x, acc ++ tvs (chgs (shF by_ 0) kk i (ks.drop i) b)) := by
  intro d
  induction d with
  | zero =>
    intro i k acc hi ha hk
    obtain ⟨k, rfl⟩ : ∃ m, k = m + 1 := ⟨k - 1, by omega⟩
    simp only [spec_l3Shift.l0]
    rw [if_neg (by omega), List.drop_eq_nil_of_le (by omega)]
    simp [chgs, tvs]
  | succ d ihd =>
    intro i k acc hi ha hk
    obtain ⟨k, rfl⟩ : ∃ m, k = m + 1 := ⟨k - 1, by omega⟩
    have hlt : i < ks.length := by omega
    have hg : ks[i]? = some ks[i] := by simp [hlt]
    have hmem : ks[i] ∈ ks := List.getElem_mem hlt
    have hn := cnt_mem hmem
    have hbi := bindsI_bd kk i
    simp only [spec_l3Shift.l0]
    rw [if_pos (by omega), if_pos (by omega), tvs_length, if_pos (by omega), rd62_get ks i _ hg, binds_eq, Option.bind_some, wrap_id (x := b + bindsI kk i) (by omega) (by omega), ih _ hmem (wfs_get hws _ hmem) (vbs_get hvs _ hmem) _ (by omega) (by omega) k (by omega), Option.bind_some, if_pos (by omega), wrap_id (x := (i : Int) + 1) (by omega) (by omega)]
    have e : (i : Int) + 1 = ((i + 1 : Nat) : Int) := by omega
    rw [e, ihd (i + 1) k _ (by omega) (by simp; omega) (by omega), chgs_drop _ _ _ _ hlt]
    simp [tvs, tv3, eta62]
theorem l3Shift_eq (by_ : Int) (h0 : 0 ≤ by_) (h1 : by_ ≤ 10000000000) (B : Int) (hB : B ≤ 10000000000) (t : Tm) : t.wf → t.vb B → ∀ b : Int, 0 ≤ b → b + t.cnt ≤ 10000000000 → ∀ k, 10 * t.cnt ≤ k → spec_l3Shift.f k (tv t).f0 (tv t).f1 (tv t).f2 by_ b = some (tv3 (chg (shF by_ 0) t b)) := by
  induction t using Tm.ind with
  | h k n ks ih =>
    intro hwf hvb b hb0 hb1 q hq
    simp only [Tm.wf] at hwf
    rw [vb_mk] at hvb
    have hkl : ks.length ≤ 3 := by have := arI_bd k; omega
    rw [cnt_mk] at hq hb1
    obtain ⟨q, rfl⟩ : ∃ m, q = m + 3 := ⟨q - 3, by omega⟩
    have L := fun m x => shiftLoop_eq by_ k n m x ks hkl hwf.2 B hvb.2 ih b hb0 (by omega) (tvs ks) ks.length 0 q [] (by omega) (by simp; omega) (by omega)
    simp only [Int.cast_ofNat_Int, List.drop_zero, List.nil_append] at L
    rw [tv_f, chg_mk]
    simp only [spec_l3Shift.f, spec_l3Shift.j0, spec_l3Shift.j1, tvs_length]
    by_cases h1 : k = 1
    · rw [if_pos h1, if_pos h1]
      have hk0 : ks = [] := by rw [h1] at hwf; exact var_kids (n := n) hwf.1
      have hn := hvb.1 h1
      unfold shF
      by_cases hge : n ≥ b
      · rw [if_pos (by simp [hge]), if_neg (by omega), wrap_id (by omega) (by omega), L]
        rw [hk0, h1]; simp [chgs, tvar, tv3_mk, tvs]
      · rw [if_neg (by simp [hge]), if_pos (by omega), L]
        rw [hk0, h1]; simp [chgs, tvar, tv3_mk, tvs]
    · rw [if_neg h1, if_neg h1, if_neg (by simp), L, tv3_mk]
theorem chg_zero (fr : Int) (t : Tm) : ∀ b, t.wf → chg (shF 0 fr) t b = t := by
  refine (Tm.ind2 (P := fun t => ∀ b, t.wf → chg (shF 0 fr) t b = t) (Q := fun ts => ∀ k i b, wfs ts → chgs (shF 0 fr) k i ts b = ts) ?_ ?_ ?_).1 t
  · intro k n ks h b hw
    simp only [Tm.wf] at hw
    rw [chg_mk]
    by_cases h1 : k = 1
    · rw [if_pos h1]
      have hk0 : ks = [] := by rw [h1] at hw; exact var_kids (n := n) hw.1
      unfold shF tvar
      rw [h1, hk0]
      split <;> simp
    · rw [if_neg h1, h k 0 b hw.2]
  · intro k i b _; simp [chgs]
  · intro t ts h1 h2 k i b hw
    simp only [wfs] at hw
    simp only [chgs]
    rw [h1 _ hw.1, h2 _ _ _ hw.2]
theorem tshift_chg (by_ : Int) (t : Tm) (hw : t.wf) : tshift by_ 0 t = chg (shF by_ 0) t 0 := by
  unfold tshift
  split
  · rename_i h; rw [h, chg_zero _ _ _ hw]
  · rfl
theorem substLoop_eq (v : Int) (s : Tm) (kk n m x : Int) (ks : List Tm) (hks : ks.length ≤ 3) (hws : wfs ks) (B : Int) (hvs : vbs B ks) (F : Nat) (ih : ∀ t ∈ ks, t.wf → t.vb B → ∀ b : Int, 0 ≤ b → b + t.cnt ≤ 1000000000 → ∀ k, 10 * t.cnt + F ≤ k → spec_l3Subst.f k (tv t).f0 (tv t).f1 (tv t).f2 v (tv s).f0 (tv s).f1 (tv s).f2 b = some (tv3 (chg (sbF v s) t b))) (b : Int) (hb0 : 0 ≤ b) (hb1 : b + cnts ks + 1 ≤ 1000000000) (tl : List S62) :
    ∀ (d i k : Nat) (acc : List S62), i + d = ks.length → acc.length + d ≤ 10 → d + 10 * cnts ks + F + 1 ≤ k → spec_l3Subst.l0 k v b (tvs ks) (ks.length : Int) (i : Int) kk n tl (tv s).f0 (tv s).f1 (tv s).f2 m x acc = some (m, x, acc ++ tvs (chgs (sbF v s) kk i (ks.drop i) b)) := by
  intro d
  induction d with
  | zero =>
    intro i k acc hi ha hk
    obtain ⟨k, rfl⟩ : ∃ m, k = m + 1 := ⟨k - 1, by omega⟩
    simp only [spec_l3Subst.l0]
    rw [if_neg (by omega), List.drop_eq_nil_of_le (by omega)]
    simp [chgs, tvs]
  | succ d ihd =>
    intro i k acc hi ha hk
    obtain ⟨k, rfl⟩ : ∃ m, k = m + 1 := ⟨k - 1, by omega⟩
    have hlt : i < ks.length := by omega
    have hg : ks[i]? = some ks[i] := by simp [hlt]
    have hmem : ks[i] ∈ ks := List.getElem_mem hlt
    have hn := cnt_mem hmem
    have hbi := bindsI_bd kk i
    simp only [spec_l3Subst.l0]
    rw [if_pos (by omega), if_pos (by omega), tvs_length, if_pos (by omega), rd62_get ks i _ hg, binds_eq, Option.bind_some, wrap_id (x := b + bindsI kk i) (by omega) (by omega), ih _ hmem (wfs_get hws _ hmem) (vbs_get hvs _ hmem) _ (by omega) (by omega) k (by omega), Option.bind_some, if_pos (by omega), wrap_id (x := (i : Int) + 1) (by omega) (by omega)]
    have e : (i : Int) + 1 = ((i + 1 : Nat) : Int) := by omega
    rw [e, ihd (i + 1) k _ (by omega) (by simp; omega) (by omega), chgs_drop _ _ _ _ hlt]
    simp [tvs, tv3, eta62]
theorem l3Subst_eq (v : Int) (hv0 : 0 ≤ v) (hv1 : v ≤ 1000) (s : Tm) (hsw : s.wf) (B : Int) (hB : B ≤ 1000000000) (hsv : s.vb B) (hsc : s.cnt ≤ 1000000000) (t : Tm) : t.wf → t.vb B → ∀ b : Int, 0 ≤ b → b + t.cnt ≤ 1000000000 → ∀ k, 10 * t.cnt + 10 * s.cnt ≤ k → spec_l3Subst.f k (tv t).f0 (tv t).f1 (tv t).f2 v (tv s).f0 (tv s).f1 (tv s).f2 b = some (tv3 (chg (sbF v s) t b)) := by
  induction t using Tm.ind with
  | h k n ks ih =>
    intro hwf hvb b hb0 hb1 q hq
    simp only [Tm.wf] at hwf
    rw [vb_mk] at hvb
    have hkl : ks.length ≤ 3 := by have := arI_bd k; omega
    rw [cnt_mk] at hq hb1
    obtain ⟨q, rfl⟩ : ∃ m, q = m + 1 := ⟨q - 1, by omega⟩
    have L := fun m x => substLoop_eq v s k n m x ks hkl hwf.2 B hvb.2 (10 * s.cnt) ih b hb0 (by omega) (tvs ks) ks.length 0 q [] (by omega) (by simp; omega) (by omega)
    simp only [Int.cast_ofNat_Int, List.drop_zero, List.nil_append] at L
    rw [tv_f, chg_mk]
    simp only [spec_l3Subst.f, tvs_length]
    by_cases h1 : k = 1
    · rw [if_pos h1, if_pos h1]
      have hk0 : ks = [] := by rw [h1] at hwf; exact var_kids (n := n) hwf.1
      have hn := hvb.1 h1
      unfold sbF
      rw [wrap_id (x := v + b) (by omega) (by omega)]
      by_cases he : n = v + b
      · rw [if_pos he, if_pos (by omega), l3Shift_eq b (by omega) (by omega) B (by omega) s hsw hsv 0 (by omega) (by omega) q (by omega), tshift_chg _ _ hsw]
        rfl
      · rw [if_neg he]
        by_cases hg : n > v + b
        · rw [if_pos hg, if_neg (show ¬ n - b = v by omega), if_pos (show n - b > v by omega), wrap_id (by omega) (by omega)]
          simp [tvar, tv3_mk, tvs]
        · rw [if_neg hg, if_neg (show ¬ n - b = v by omega), if_neg (show ¬ n - b > v by omega), hk0, h1]
          simp [tvar, tv3_mk, tvs]
    · rw [if_neg h1, if_neg h1, L, tv3_mk]
def putOf (t : Tm) (v : Int) (s : Tm) : Option Tm := if (tsubst v s t).cnt ≤ 600 then some (tsubst v s t) else none
theorem l3Put_eq (v : Int) (hv0 : 0 ≤ v) (hv1 : v ≤ 1000) (s : Tm) (hsw : s.wf) (B : Int) (hB : B ≤ 1000000000) (hsv : s.vb B) (hsc : s.cnt ≤ 1000000) (t : Tm) (htw : t.wf) (htv : t.vb B) (htc : t.cnt ≤ 1000000) (k : Nat) (hk : 10 * t.cnt + 10 * s.cnt ≤ k) :
    spec_l3Put.f k (tv t).f0 (tv t).f1 (tv t).f2 v (tv s).f0 (tv s).f1 (tv s).f2 = some (match putOf t v s with
      | none => (0, 0, [], false)
      | some u => ((tv u).f0, (tv u).f1, (tv u).f2, true)) := by
  have hc := subst_cnt v s hsw t 0 htw
  have hul := uses_le t v
  have hp := cnt_pos s
  obtain ⟨d, hd⟩ : ∃ d, s.cnt = d + 1 := ⟨s.cnt - 1, by omega⟩
  have hmul : uses t v * d ≤ 1000000 * 1000000 := Nat.mul_le_mul (by omega) (by omega)
  rw [Int.add_zero, hd, Nat.add_sub_cancel] at hc
  unfold spec_l3Put.f putOf
  have e1 := l3Size_eq t htw (by rw [nodes_cnt]; omega) k (by rw [nodes_cnt]; omega)
  have e2 := l3Size_eq s hsw (by rw [nodes_cnt]; omega) k (by rw [nodes_cnt]; omega)
  rw [nodes_cnt] at e1 e2
  have e3 : (uses t v : Int) * ((s.cnt : Int) - 1) = ((uses t v * d : Nat) : Int) := by rw [hd]; simp
  rw [e1, Option.bind_some, l3Uses_eq t htw (by omega) v (by omega) (by omega) k (by omega), Option.bind_some, e2, Option.bind_some, wrap_id (x := (s.cnt : Int) - 1) (by omega) (by omega), e3, wrap_id (x := ((uses t v * d : Nat) : Int)) (by omega) (by omega), wrap_id (by omega) (by omega)]
  by_cases h : (tsubst v s t).cnt ≤ 600
  · rw [if_pos h, if_neg (by unfold tsubst at h; omega), l3Subst_eq v hv0 hv1 s hsw B hB hsv (by omega) t htw htv 0 (by omega) (by omega) k (by omega)]
    rfl
  · rw [if_neg h, if_pos (by unfold tsubst at h; omega)]
theorem flat_eq (t : Tm) : ∀ (k : Nat) (out : List S66), t.wf → t.cnt < k → out.length + t.cnt ≤ 1000000 → l3flat k (tv t).f0 (tv t).f1 (tv t).f2 out = some (out ++ tcells t) := by
  refine (Tm.ind2 (P := fun t => ∀ (k : Nat) (out : List S66), t.wf → t.cnt < k → out.length + t.cnt ≤ 1000000 → l3flat k (tv t).f0 (tv t).f1 (tv t).f2 out = some (out ++ tcells t)) (Q := fun ts => ∀ (k : Nat) (out : List S66), wfs ts → cnts ts < k → out.length + cnts ts ≤ 1000000 → l3fl (l3flat k) (tvs ts) out = some (out ++ lcells ts)) ?_ ?_ ?_).1 t
  · intro q n ks h k out hw hk ho
    simp only [Tm.wf] at hw
    rw [cnt_mk] at hk ho
    have hkl : ks.length ≤ 3 := by have := arI_bd q; omega
    obtain ⟨k, rfl⟩ : ∃ m, k = m + 1 := ⟨k - 1, by omega⟩
    rw [tv_f, tcells_mk]
    simp only [l3flat]
    rw [if_pos (by omega), tvs_length, if_pos (by omega), h k _ hw.2 (by omega) (by simp; omega)]
    simp
  · intro k out _ _ _; simp [tvs, l3fl, lcells]
  · intro t ts h1 h2 k out hw hk ho
    simp only [wfs] at hw
    simp only [cnts] at hk ho
    have := cnt_pos t
    simp only [tvs, l3fl]
    rw [h1 k out hw.1 (by omega) (by omega), Option.bind_some, h2 k _ hw.2 (by omega) (by simp [tcells_len]; omega)]
    simp [lcells]
theorem l3Tell_eq (t : Tm) (hw : t.wf) (hc : t.cnt < 2000) (k : Nat) (hk : 3606 ≤ k) : spec_l3Tell.f k (tv t).f0 (tv t).f1 (tv t).f2 = some (goodOfT t) := by
  unfold spec_l3Tell.f
  simp only [spec_l3Flat.f]
  rw [flat_eq t 2000 [] hw (by omega) (by simp; omega), Option.bind_some, List.nil_append, GoodTerm_eq _ k hk, Option.bind_some, goodOfT_tmof t hw]
  split <;> rfl
theorem goodOfT_len (t : Tm) : (goodOfT t).1.length ≤ 600 := by
  unfold goodOfT
  split
  · split
    · rw [tcells_len]; omega
    · simp
  · simp
end Go.Proofs.Ytgoiifpimpnlpaa.PAll

end

section
namespace Go.Proofs.Ytgoiifpimpnlpaa.PAll
open Go.RowKit Go.Proofs.YtgoiifpimpnlpaaW.PrintWords Go.Proofs.YtgoiifpimpnlpaaW.PrintLast Go.Proofs.YtgoiifpimpnlpaaW.PrintMore
attribute [local go_sem] max2_int min2_int max_two min_two max_three min_three max_four min_four   -- for this text's walks alone
set_option linter.unusedVariables false
set_option linter.unusedSimpArgs false
def spec_l4Is.f (a0_0 : Int) (a0_1 : Int) (l0_2 : List (S62)) : Option (Bool) := if a0_0 = 4 then (if 0 < (l0_2.length : Int) then (some (((rd_T62 l0_2 0).f0) == 3)) else (none)) else (if a0_0 = 7 then (some true) else (if a0_0 = 5 then (if 0 < (l0_2.length : Int) then (if ((rd_T62 l0_2 0).f0) = 2 then (if 1 < (l0_2.length : Int) then (if ((rd_T62 l0_2 1).f0) = 2 then ((spec_l1In.f (wrap64 (((rd_T62 l0_2 0).f1) + ((rd_T62 l0_2 1).f1))) (-1000000) 1000000).bind fun t267 => (some t267)) else (some false)) else (none)) else (some false)) else (none)) else (if a0_0 = 6 then (if 0 < (l0_2.length : Int) then (some (((rd_T62 l0_2 0).f0) == 2)) else (none)) else (some false))))
set_option maxHeartbeats 8000000 in
set_option maxRecDepth 100000 in
theorem spec_l4Is.calls (a0_0 : Int) (a0_1 : Int) (A0_2 : Option Addr) (c0_2 : Nat) (l0_2 : List (S62)) (r : Bool) (w : World) (hr0_2 : Kd.C k62 w A0_2 l0_2.length l0_2) (hc0_2 : l0_2.length ≤ c0_2) (h : spec_l4Is.f a0_0 a0_1 l0_2 = some r) :
    Calls Try.prog 96 #[.agg #[.int .i64 a0_0, .int .i64 a0_1, .slice A0_2 l0_2.length c0_2]] w fun e w' => e = .returned (.bool r) ∧ Below w.heap.size w w' := by
  have hu62 := Try.underlying62
  have HR0_2 := ab_ hr0_2
  have HC0_2 := ab_ hc0_2
  clear hr0_2 hc0_2
  have HB := ab_ (aq_ w.heap.size w)
  have H : (if a0_0 = 4 then (if 0 < (l0_2.length : Int) then (some (((rd_T62 l0_2 0).f0) == 3)) else (none)) else (if a0_0 = 7 then (some true) else (if a0_0 = 5 then (if 0 < (l0_2.length : Int) then (if ((rd_T62 l0_2 0).f0) = 2 then (if 1 < (l0_2.length : Int) then (if ((rd_T62 l0_2 1).f0) = 2 then ((spec_l1In.f (wrap64 (((rd_T62 l0_2 0).f1) + ((rd_T62 l0_2 1).f1))) (-1000000) 1000000).bind fun t267 => (some t267)) else (some false)) else (none)) else (some false)) else (none)) else (if a0_0 = 6 then (if 0 < (l0_2.length : Int) then (some (((rd_T62 l0_2 0).f0) == 2)) else (none)) else (some false))))) = some r := h
  clear h
  by_cases c2 : a0_0 = 4
  · rw [if_pos c2] at H
    have c2b0 : (a0_0 == 4) = true := beq_iff_eq.mpr c2
    have c2b1 : (a0_0 != 4) = false := bne_eq_false_iff_eq.mpr c2
    clear c2
    by_cases c3 : 0 < (l0_2.length : Int)
    · rw [if_pos c3] at H
      have c3b0 : decide (0 < (l0_2.length : Int)) = true := ao_ c3
      have c3b1 : decide (0 < l0_2.length) = true := ao_ (by omega)
      clear c3
      obtain rfl := Option.some.inj H
      go_enter Try.func96, Try.ntmps96
      go_wp2_with (first | ((with_reducible refine gate_dst (N := 1) rfl ?_); refine box_event ?hg (N := 1) ?hd (cs := #[.int .i64 a0_0, .int .i64 a0_1, .slice A0_2 l0_2.length c0_2]) (t := 62) ?hr ?_; (case hd => rfl); (case hg => rfl); (case hr => first | (go_simp; done) | (go_simp; rfl)); intro gb261 hg w4 hbox hb; have n0_ := ab_ (ap_ (by repeat (first | (with_reducible first | exact HB.out | apply ai_ | apply ag_ | apply ah_) | exact HB.out)) hb); have n1_ := ab_ (hbox); have n2_ := ab_ ((by rw [hg]; exact (below_size (by repeat (first | (with_reducible first | exact HB.out | apply ai_ | apply ag_ | apply ah_) | exact HB.out))) : w.heap.size ≤ gb261)); have n3_ := ab_ ((by rw [hg]; exact (below_size (by repeat (first | (with_reducible first | exact HB.out | apply ai_ | apply ag_ | apply ah_) | exact HB.out))) : w.heap.size ≤ gb261)); clear HB; have HB := n0_; have BK261 := n1_; have GW261 := n2_; have GE261 := n3_; clear n0_ n1_ n2_ n3_; clear hb hbox hg; have hcz5_0 : w4.cell? ⟨gb261, 0, none⟩ = some (.int .i64 a0_0) := (an_ BK261.out 0).trans rfl; have hcz5_1 : w4.cell? ⟨gb261, 1, none⟩ = some (.int .i64 a0_1) := (an_ BK261.out 1).trans rfl; have hcz5_2 : w4.cell? ⟨gb261, 2, none⟩ = some (.slice A0_2 l0_2.length c0_2) := (an_ BK261.out 2).trans rfl; have hfz5_0 := am_ BK261.out 0; have hfz5_1 := am_ BK261.out 1; have hfz5_2 := am_ BK261.out 2; have p262 : 0 ≤ (0 : Int) := (by omega); have q262 : 0 < (l0_2.length : Int) := of_decide_eq_true (by first | (with_reducible assumption) | assumption); obtain ⟨ad262, A262_2, c262_2, e262, hx262_0, hx262_1, hx262_2, hl262_2, hi262_2⟩ := at_T62 HR0_2.out 0 p262 q262; cases e262; have qi262 : (0 < l0_2.length) = True := eq_true (by omega); (try rw [show ((0 : Int)).toNat = 0 from rfl] at hx262_0); (try rw [show 0 * 3 = 0 from rfl] at hx262_0); (try rw [Addr.add_zero'] at hx262_0); (try rw [show ((0 : Int)).toNat = 0 from rfl] at hx262_1); (try rw [show 0 * 3 = 0 from rfl] at hx262_1); (try rw [Addr.add_zero'] at hx262_1); (try rw [show ((0 : Int)).toNat = 0 from rfl] at hx262_2); (try rw [show 0 * 3 = 0 from rfl] at hx262_2); (try rw [Addr.add_zero'] at hx262_2); replace hx262_0 := (HB.out.cell (aa_ w _ hx262_0)).trans hx262_0; replace hx262_1 := (HB.out.cell (aa_ w _ hx262_1)).trans hx262_1; replace hx262_2 := (HB.out.cell (aa_ w _ hx262_2)).trans hx262_2; have HR262_2 := ab_ hi262_2; have HC262_2 := ab_ hl262_2; clear hi262_2 hl262_2; replace p262 := eq_true p262; replace q262 := eq_true q262))
      repeat (go_quiet (first | ((with_reducible refine gate_dst (N := 1) rfl ?_); refine box_event ?hg (N := 1) ?hd (cs := #[.int .i64 a0_0, .int .i64 a0_1, .slice A0_2 l0_2.length c0_2]) (t := 62) ?hr ?_; (case hd => rfl); (case hg => rfl); (case hr => first | (go_simp; done) | (go_simp; rfl)); intro gb261 hg w4 hbox hb; have n0_ := ab_ (ap_ (by repeat (first | (with_reducible first | exact HB.out | apply ai_ | apply ag_ | apply ah_) | exact HB.out)) hb); have n1_ := ab_ (hbox); have n2_ := ab_ ((by rw [hg]; exact (below_size (by repeat (first | (with_reducible first | exact HB.out | apply ai_ | apply ag_ | apply ah_) | exact HB.out))) : w.heap.size ≤ gb261)); have n3_ := ab_ ((by rw [hg]; exact (below_size (by repeat (first | (with_reducible first | exact HB.out | apply ai_ | apply ag_ | apply ah_) | exact HB.out))) : w.heap.size ≤ gb261)); clear HB; have HB := n0_; have BK261 := n1_; have GW261 := n2_; have GE261 := n3_; clear n0_ n1_ n2_ n3_; clear hb hbox hg; have hcz5_0 : w4.cell? ⟨gb261, 0, none⟩ = some (.int .i64 a0_0) := (an_ BK261.out 0).trans rfl; have hcz5_1 : w4.cell? ⟨gb261, 1, none⟩ = some (.int .i64 a0_1) := (an_ BK261.out 1).trans rfl; have hcz5_2 : w4.cell? ⟨gb261, 2, none⟩ = some (.slice A0_2 l0_2.length c0_2) := (an_ BK261.out 2).trans rfl; have hfz5_0 := am_ BK261.out 0; have hfz5_1 := am_ BK261.out 1; have hfz5_2 := am_ BK261.out 2; have p262 : 0 ≤ (0 : Int) := (by omega); have q262 : 0 < (l0_2.length : Int) := of_decide_eq_true (by first | (with_reducible assumption) | assumption); obtain ⟨ad262, A262_2, c262_2, e262, hx262_0, hx262_1, hx262_2, hl262_2, hi262_2⟩ := at_T62 HR0_2.out 0 p262 q262; cases e262; have qi262 : (0 < l0_2.length) = True := eq_true (by omega); (try rw [show ((0 : Int)).toNat = 0 from rfl] at hx262_0); (try rw [show 0 * 3 = 0 from rfl] at hx262_0); (try rw [Addr.add_zero'] at hx262_0); (try rw [show ((0 : Int)).toNat = 0 from rfl] at hx262_1); (try rw [show 0 * 3 = 0 from rfl] at hx262_1); (try rw [Addr.add_zero'] at hx262_1); (try rw [show ((0 : Int)).toNat = 0 from rfl] at hx262_2); (try rw [show 0 * 3 = 0 from rfl] at hx262_2); (try rw [Addr.add_zero'] at hx262_2); replace hx262_0 := (HB.out.cell (aa_ w _ hx262_0)).trans hx262_0; replace hx262_1 := (HB.out.cell (aa_ w _ hx262_1)).trans hx262_1; replace hx262_2 := (HB.out.cell (aa_ w _ hx262_2)).trans hx262_2; have HR262_2 := ab_ hi262_2; have HC262_2 := ab_ hl262_2; clear hi262_2 hl262_2; replace p262 := eq_true p262; replace q262 := eq_true q262)); try go_wp2_with (first | ((with_reducible refine gate_dst (N := 1) rfl ?_); refine box_event ?hg (N := 1) ?hd (cs := #[.int .i64 a0_0, .int .i64 a0_1, .slice A0_2 l0_2.length c0_2]) (t := 62) ?hr ?_; (case hd => rfl); (case hg => rfl); (case hr => first | (go_simp; done) | (go_simp; rfl)); intro gb261 hg w4 hbox hb; have n0_ := ab_ (ap_ (by repeat (first | (with_reducible first | exact HB.out | apply ai_ | apply ag_ | apply ah_) | exact HB.out)) hb); have n1_ := ab_ (hbox); have n2_ := ab_ ((by rw [hg]; exact (below_size (by repeat (first | (with_reducible first | exact HB.out | apply ai_ | apply ag_ | apply ah_) | exact HB.out))) : w.heap.size ≤ gb261)); have n3_ := ab_ ((by rw [hg]; exact (below_size (by repeat (first | (with_reducible first | exact HB.out | apply ai_ | apply ag_ | apply ah_) | exact HB.out))) : w.heap.size ≤ gb261)); clear HB; have HB := n0_; have BK261 := n1_; have GW261 := n2_; have GE261 := n3_; clear n0_ n1_ n2_ n3_; clear hb hbox hg; have hcz5_0 : w4.cell? ⟨gb261, 0, none⟩ = some (.int .i64 a0_0) := (an_ BK261.out 0).trans rfl; have hcz5_1 : w4.cell? ⟨gb261, 1, none⟩ = some (.int .i64 a0_1) := (an_ BK261.out 1).trans rfl; have hcz5_2 : w4.cell? ⟨gb261, 2, none⟩ = some (.slice A0_2 l0_2.length c0_2) := (an_ BK261.out 2).trans rfl; have hfz5_0 := am_ BK261.out 0; have hfz5_1 := am_ BK261.out 1; have hfz5_2 := am_ BK261.out 2; have p262 : 0 ≤ (0 : Int) := (by omega); have q262 : 0 < (l0_2.length : Int) := of_decide_eq_true (by first | (with_reducible assumption) | assumption); obtain ⟨ad262, A262_2, c262_2, e262, hx262_0, hx262_1, hx262_2, hl262_2, hi262_2⟩ := at_T62 HR0_2.out 0 p262 q262; cases e262; have qi262 : (0 < l0_2.length) = True := eq_true (by omega); (try rw [show ((0 : Int)).toNat = 0 from rfl] at hx262_0); (try rw [show 0 * 3 = 0 from rfl] at hx262_0); (try rw [Addr.add_zero'] at hx262_0); (try rw [show ((0 : Int)).toNat = 0 from rfl] at hx262_1); (try rw [show 0 * 3 = 0 from rfl] at hx262_1); (try rw [Addr.add_zero'] at hx262_1); (try rw [show ((0 : Int)).toNat = 0 from rfl] at hx262_2); (try rw [show 0 * 3 = 0 from rfl] at hx262_2); (try rw [Addr.add_zero'] at hx262_2); replace hx262_0 := (HB.out.cell (aa_ w _ hx262_0)).trans hx262_0; replace hx262_1 := (HB.out.cell (aa_ w _ hx262_1)).trans hx262_1; replace hx262_2 := (HB.out.cell (aa_ w _ hx262_2)).trans hx262_2; have HR262_2 := ab_ hi262_2; have HC262_2 := ab_ hl262_2; clear hi262_2 hl262_2; replace p262 := eq_true p262; replace q262 := eq_true q262)))
      go_ret
      exact ⟨by first | rfl | (simp [errW_none, errW_some] <;> rfl) | (simp [*, errW_none, errW_some] <;> rfl), by repeat (first | (with_reducible first | exact HB.out | apply ai_ | apply ag_ | apply ah_ | refine af_ ?_ GE261.out) | exact HB.out)⟩
    · rw [if_neg c3] at H
      exact absurd H (by simp)
  · rw [if_neg c2] at H
    have c2b0 : (a0_0 == 4) = false := beq_eq_false_iff_ne.mpr c2
    have c2b1 : (a0_0 != 4) = true := bne_iff_ne.mpr c2
    by_cases c6 : a0_0 = 7
    · rw [if_pos c6] at H
      have c6b0 : (a0_0 == 7) = true := beq_iff_eq.mpr c6
      have c6b1 : (a0_0 != 7) = false := bne_eq_false_iff_eq.mpr c6
      clear c6
      obtain rfl := Option.some.inj H
      go_enter Try.func96, Try.ntmps96
      go_wp2_with (first | ((with_reducible refine gate_dst (N := 1) rfl ?_); refine box_event ?hg (N := 1) ?hd (cs := #[.int .i64 a0_0, .int .i64 a0_1, .slice A0_2 l0_2.length c0_2]) (t := 62) ?hr ?_; (case hd => rfl); (case hg => rfl); (case hr => first | (go_simp; done) | (go_simp; rfl)); intro gb261 hg w7 hbox hb; have n0_ := ab_ (ap_ (by repeat (first | (with_reducible first | exact HB.out | apply ai_ | apply ag_ | apply ah_) | exact HB.out)) hb); have n1_ := ab_ (hbox); have n2_ := ab_ ((by rw [hg]; exact (below_size (by repeat (first | (with_reducible first | exact HB.out | apply ai_ | apply ag_ | apply ah_) | exact HB.out))) : w.heap.size ≤ gb261)); have n3_ := ab_ ((by rw [hg]; exact (below_size (by repeat (first | (with_reducible first | exact HB.out | apply ai_ | apply ag_ | apply ah_) | exact HB.out))) : w.heap.size ≤ gb261)); clear HB; have HB := n0_; have BK261 := n1_; have GW261 := n2_; have GE261 := n3_; clear n0_ n1_ n2_ n3_; clear hb hbox hg; have hcz8_0 : w7.cell? ⟨gb261, 0, none⟩ = some (.int .i64 a0_0) := (an_ BK261.out 0).trans rfl; have hcz8_1 : w7.cell? ⟨gb261, 1, none⟩ = some (.int .i64 a0_1) := (an_ BK261.out 1).trans rfl; have hcz8_2 : w7.cell? ⟨gb261, 2, none⟩ = some (.slice A0_2 l0_2.length c0_2) := (an_ BK261.out 2).trans rfl; have hfz8_0 := am_ BK261.out 0; have hfz8_1 := am_ BK261.out 1; have hfz8_2 := am_ BK261.out 2))
      repeat (go_quiet (first | ((with_reducible refine gate_dst (N := 1) rfl ?_); refine box_event ?hg (N := 1) ?hd (cs := #[.int .i64 a0_0, .int .i64 a0_1, .slice A0_2 l0_2.length c0_2]) (t := 62) ?hr ?_; (case hd => rfl); (case hg => rfl); (case hr => first | (go_simp; done) | (go_simp; rfl)); intro gb261 hg w7 hbox hb; have n0_ := ab_ (ap_ (by repeat (first | (with_reducible first | exact HB.out | apply ai_ | apply ag_ | apply ah_) | exact HB.out)) hb); have n1_ := ab_ (hbox); have n2_ := ab_ ((by rw [hg]; exact (below_size (by repeat (first | (with_reducible first | exact HB.out | apply ai_ | apply ag_ | apply ah_) | exact HB.out))) : w.heap.size ≤ gb261)); have n3_ := ab_ ((by rw [hg]; exact (below_size (by repeat (first | (with_reducible first | exact HB.out | apply ai_ | apply ag_ | apply ah_) | exact HB.out))) : w.heap.size ≤ gb261)); clear HB; have HB := n0_; have BK261 := n1_; have GW261 := n2_; have GE261 := n3_; clear n0_ n1_ n2_ n3_; clear hb hbox hg; have hcz8_0 : w7.cell? ⟨gb261, 0, none⟩ = some (.int .i64 a0_0) := (an_ BK261.out 0).trans rfl; have hcz8_1 : w7.cell? ⟨gb261, 1, none⟩ = some (.int .i64 a0_1) := (an_ BK261.out 1).trans rfl; have hcz8_2 : w7.cell? ⟨gb261, 2, none⟩ = some (.slice A0_2 l0_2.length c0_2) := (an_ BK261.out 2).trans rfl; have hfz8_0 := am_ BK261.out 0; have hfz8_1 := am_ BK261.out 1; have hfz8_2 := am_ BK261.out 2)); try go_wp2_with (first | ((with_reducible refine gate_dst (N := 1) rfl ?_); refine box_event ?hg (N := 1) ?hd (cs := #[.int .i64 a0_0, .int .i64 a0_1, .slice A0_2 l0_2.length c0_2]) (t := 62) ?hr ?_; (case hd => rfl); (case hg => rfl); (case hr => first | (go_simp; done) | (go_simp; rfl)); intro gb261 hg w7 hbox hb; have n0_ := ab_ (ap_ (by repeat (first | (with_reducible first | exact HB.out | apply ai_ | apply ag_ | apply ah_) | exact HB.out)) hb); have n1_ := ab_ (hbox); have n2_ := ab_ ((by rw [hg]; exact (below_size (by repeat (first | (with_reducible first | exact HB.out | apply ai_ | apply ag_ | apply ah_) | exact HB.out))) : w.heap.size ≤ gb261)); have n3_ := ab_ ((by rw [hg]; exact (below_size (by repeat (first | (with_reducible first | exact HB.out | apply ai_ | apply ag_ | apply ah_) | exact HB.out))) : w.heap.size ≤ gb261)); clear HB; have HB := n0_; have BK261 := n1_; have GW261 := n2_; have GE261 := n3_; clear n0_ n1_ n2_ n3_; clear hb hbox hg; have hcz8_0 : w7.cell? ⟨gb261, 0, none⟩ = some (.int .i64 a0_0) := (an_ BK261.out 0).trans rfl; have hcz8_1 : w7.cell? ⟨gb261, 1, none⟩ = some (.int .i64 a0_1) := (an_ BK261.out 1).trans rfl; have hcz8_2 : w7.cell? ⟨gb261, 2, none⟩ = some (.slice A0_2 l0_2.length c0_2) := (an_ BK261.out 2).trans rfl; have hfz8_0 := am_ BK261.out 0; have hfz8_1 := am_ BK261.out 1; have hfz8_2 := am_ BK261.out 2)))
      go_ret
      exact ⟨by first | rfl | (simp [errW_none, errW_some] <;> rfl) | (simp [*, errW_none, errW_some] <;> rfl), by repeat (first | (with_reducible first | exact HB.out | apply ai_ | apply ag_ | apply ah_ | refine af_ ?_ GE261.out) | exact HB.out)⟩
    · rw [if_neg c6] at H
      have c6b0 : (a0_0 == 7) = false := beq_eq_false_iff_ne.mpr c6
      have c6b1 : (a0_0 != 7) = true := bne_iff_ne.mpr c6
      by_cases c9 : a0_0 = 5
      · rw [if_pos c9] at H
        have c9b0 : (a0_0 == 5) = true := beq_iff_eq.mpr c9
        have c9b1 : (a0_0 != 5) = false := bne_eq_false_iff_eq.mpr c9
        clear c9
        by_cases c10 : 0 < (l0_2.length : Int)
        · rw [if_pos c10] at H
          have c10b0 : decide (0 < (l0_2.length : Int)) = true := ao_ c10
          have c10b1 : decide (0 < l0_2.length) = true := ao_ (by omega)
          clear c10
          by_cases c11 : ((rd_T62 l0_2 0).f0) = 2
          · rw [if_pos c11] at H
            have c11b0 : (((rd_T62 l0_2 0).f0) == 2) = true := beq_iff_eq.mpr c11
            have c11b1 : (((rd_T62 l0_2 0).f0) != 2) = false := bne_eq_false_iff_eq.mpr c11
            clear c11
            by_cases c12 : 1 < (l0_2.length : Int)
            · rw [if_pos c12] at H
              have c12b0 : decide (1 < (l0_2.length : Int)) = true := ao_ c12
              have c12b1 : decide (1 < l0_2.length) = true := ao_ (by omega)
              clear c12
              by_cases c13 : ((rd_T62 l0_2 1).f0) = 2
              · rw [if_pos c13] at H
                have c13b0 : (((rd_T62 l0_2 1).f0) == 2) = true := beq_iff_eq.mpr c13
                have c13b1 : (((rd_T62 l0_2 1).f0) != 2) = false := bne_eq_false_iff_eq.mpr c13
                clear c13
                replace H := Option.bind_eq_some_iff.mp H
                obtain ⟨t267, A140, H⟩ := H
                replace H : (some t267) = some r := H
                have A14 := ab_ A140
                clear A140
                obtain rfl := Option.some.inj H
                go_enter Try.func96, Try.ntmps96
                go_wp2_with (first | ((with_reducible refine gate_dst (N := 1) rfl ?_); refine box_event ?hg (N := 1) ?hd (cs := #[.int .i64 a0_0, .int .i64 a0_1, .slice A0_2 l0_2.length c0_2]) (t := 62) ?hr ?_; (case hd => rfl); (case hg => rfl); (case hr => first | (go_simp; done) | (go_simp; rfl)); intro gb261 hg w15 hbox hb; have n0_ := ab_ (ap_ (by repeat (first | (with_reducible first | exact HB.out | apply ai_ | apply ag_ | apply ah_) | exact HB.out)) hb); have n1_ := ab_ (hbox); have n2_ := ab_ ((by rw [hg]; exact (below_size (by repeat (first | (with_reducible first | exact HB.out | apply ai_ | apply ag_ | apply ah_) | exact HB.out))) : w.heap.size ≤ gb261)); have n3_ := ab_ ((by rw [hg]; exact (below_size (by repeat (first | (with_reducible first | exact HB.out | apply ai_ | apply ag_ | apply ah_) | exact HB.out))) : w.heap.size ≤ gb261)); clear HB; have HB := n0_; have BK261 := n1_; have GW261 := n2_; have GE261 := n3_; clear n0_ n1_ n2_ n3_; clear hb hbox hg; have hcz16_0 : w15.cell? ⟨gb261, 0, none⟩ = some (.int .i64 a0_0) := (an_ BK261.out 0).trans rfl; have hcz16_1 : w15.cell? ⟨gb261, 1, none⟩ = some (.int .i64 a0_1) := (an_ BK261.out 1).trans rfl; have hcz16_2 : w15.cell? ⟨gb261, 2, none⟩ = some (.slice A0_2 l0_2.length c0_2) := (an_ BK261.out 2).trans rfl; have hfz16_0 := am_ BK261.out 0; have hfz16_1 := am_ BK261.out 1; have hfz16_2 := am_ BK261.out 2; have p263 : 0 ≤ (0 : Int) := (by omega); have q263 : 0 < (l0_2.length : Int) := of_decide_eq_true (by first | (with_reducible assumption) | assumption); obtain ⟨ad263, A263_2, c263_2, e263, hx263_0, hx263_1, hx263_2, hl263_2, hi263_2⟩ := at_T62 HR0_2.out 0 p263 q263; cases e263; have qi263 : (0 < l0_2.length) = True := eq_true (by omega); (try rw [show ((0 : Int)).toNat = 0 from rfl] at hx263_0); (try rw [show 0 * 3 = 0 from rfl] at hx263_0); (try rw [Addr.add_zero'] at hx263_0); (try rw [show ((0 : Int)).toNat = 0 from rfl] at hx263_1); (try rw [show 0 * 3 = 0 from rfl] at hx263_1); (try rw [Addr.add_zero'] at hx263_1); (try rw [show ((0 : Int)).toNat = 0 from rfl] at hx263_2); (try rw [show 0 * 3 = 0 from rfl] at hx263_2); (try rw [Addr.add_zero'] at hx263_2); replace hx263_0 := (HB.out.cell (aa_ w _ hx263_0)).trans hx263_0; replace hx263_1 := (HB.out.cell (aa_ w _ hx263_1)).trans hx263_1; replace hx263_2 := (HB.out.cell (aa_ w _ hx263_2)).trans hx263_2; have HR263_2 := ab_ hi263_2; have HC263_2 := ab_ hl263_2; clear hi263_2 hl263_2; replace p263 := eq_true p263; replace q263 := eq_true q263; have p264 : 0 ≤ (1 : Int) := (by omega); have q264 : 1 < (l0_2.length : Int) := of_decide_eq_true (by first | (with_reducible assumption) | assumption); obtain ⟨ad264, A264_2, c264_2, e264, hx264_0, hx264_1, hx264_2, hl264_2, hi264_2⟩ := at_T62 HR0_2.out 1 p264 q264; obtain rfl : ad263 = ad264 := (by injection e264); (try simp only [show (1 : Int).toNat = 1 from rfl, Nat.reduceMul, Nat.reduceEqDiff, Go.Addr.add, ↓reduceIte] at hx264_0); (try simp only [show (1 : Int).toNat = 1 from rfl, Nat.reduceMul, Nat.reduceEqDiff, Go.Addr.add, ↓reduceIte] at hx264_1); (try simp only [show (1 : Int).toNat = 1 from rfl, Nat.reduceMul, Nat.reduceEqDiff, Go.Addr.add, ↓reduceIte] at hx264_2); have qi264 : (1 < l0_2.length) = True := eq_true (by omega); (try rw [show ((1 : Int)).toNat = 1 from rfl] at hx264_0); (try rw [show 1 * 3 = 3 from rfl] at hx264_0); (try rw [show ((1 : Int)).toNat = 1 from rfl] at hx264_1); (try rw [show 1 * 3 = 3 from rfl] at hx264_1); (try rw [show ((1 : Int)).toNat = 1 from rfl] at hx264_2); (try rw [show 1 * 3 = 3 from rfl] at hx264_2); replace hx264_0 := (HB.out.cell (aa_ w _ hx264_0)).trans hx264_0; replace hx264_1 := (HB.out.cell (aa_ w _ hx264_1)).trans hx264_1; replace hx264_2 := (HB.out.cell (aa_ w _ hx264_2)).trans hx264_2; have HR264_2 := ab_ hi264_2; have HC264_2 := ab_ hl264_2; clear hi264_2 hl264_2; replace p264 := eq_true p264; replace q264 := eq_true q264; have p265 : 0 ≤ (0 : Int) := (by omega); have q265 : 0 < (l0_2.length : Int) := of_decide_eq_true (by first | (with_reducible assumption) | assumption); obtain ⟨ad265, A265_2, c265_2, e265, hx265_0, hx265_1, hx265_2, hl265_2, hi265_2⟩ := at_T62 HR0_2.out 0 p265 q265; obtain rfl : ad263 = ad265 := (by injection e265); have qi265 : (0 < l0_2.length) = True := eq_true (by omega); (try rw [show ((0 : Int)).toNat = 0 from rfl] at hx265_0); (try rw [show 0 * 3 = 0 from rfl] at hx265_0); (try rw [Addr.add_zero'] at hx265_0); (try rw [show ((0 : Int)).toNat = 0 from rfl] at hx265_1); (try rw [show 0 * 3 = 0 from rfl] at hx265_1); (try rw [Addr.add_zero'] at hx265_1); (try rw [show ((0 : Int)).toNat = 0 from rfl] at hx265_2); (try rw [show 0 * 3 = 0 from rfl] at hx265_2); (try rw [Addr.add_zero'] at hx265_2); replace hx265_0 := (HB.out.cell (aa_ w _ hx265_0)).trans hx265_0; replace hx265_1 := (HB.out.cell (aa_ w _ hx265_1)).trans hx265_1; replace hx265_2 := (HB.out.cell (aa_ w _ hx265_2)).trans hx265_2; have HR265_2 := ab_ hi265_2; have HC265_2 := ab_ hl265_2; clear hi265_2 hl265_2; replace p265 := eq_true p265; replace q265 := eq_true q265; have ea_ := Option.some.inj (hx263_2.symm.trans hx265_2); injection ea_ with ea_ en_ ec_; subst ea_; subst ec_; clear en_; have p266 : 0 ≤ (1 : Int) := (by omega); have q266 : 1 < (l0_2.length : Int) := of_decide_eq_true (by first | (with_reducible assumption) | assumption); obtain ⟨ad266, A266_2, c266_2, e266, hx266_0, hx266_1, hx266_2, hl266_2, hi266_2⟩ := at_T62 HR0_2.out 1 p266 q266; obtain rfl : ad263 = ad266 := (by injection e266); (try simp only [show (1 : Int).toNat = 1 from rfl, Nat.reduceMul, Nat.reduceEqDiff, Go.Addr.add, ↓reduceIte] at hx266_0); (try simp only [show (1 : Int).toNat = 1 from rfl, Nat.reduceMul, Nat.reduceEqDiff, Go.Addr.add, ↓reduceIte] at hx266_1); (try simp only [show (1 : Int).toNat = 1 from rfl, Nat.reduceMul, Nat.reduceEqDiff, Go.Addr.add, ↓reduceIte] at hx266_2); have qi266 : (1 < l0_2.length) = True := eq_true (by omega); (try rw [show ((1 : Int)).toNat = 1 from rfl] at hx266_0); (try rw [show 1 * 3 = 3 from rfl] at hx266_0); (try rw [show ((1 : Int)).toNat = 1 from rfl] at hx266_1); (try rw [show 1 * 3 = 3 from rfl] at hx266_1); (try rw [show ((1 : Int)).toNat = 1 from rfl] at hx266_2); (try rw [show 1 * 3 = 3 from rfl] at hx266_2); replace hx266_0 := (HB.out.cell (aa_ w _ hx266_0)).trans hx266_0; replace hx266_1 := (HB.out.cell (aa_ w _ hx266_1)).trans hx266_1; replace hx266_2 := (HB.out.cell (aa_ w _ hx266_2)).trans hx266_2; have HR266_2 := ab_ hi266_2; have HC266_2 := ab_ hl266_2; clear hi266_2 hl266_2; replace p266 := eq_true p266; replace q266 := eq_true q266; have ea_ := Option.some.inj (hx264_2.symm.trans hx266_2); injection ea_ with ea_ en_ ec_; subst ea_; subst ec_; clear en_) | (go_at_call 59; (with_reducible refine (spec_l1In.calls (wrap64 (((rd_T62 l0_2 0).f1) + ((rd_T62 l0_2 1).f1))) (-1000000) 1000000 t267 _ A14.out).mono ?_); rintro e w' ⟨rfl, ⟨nd, rfl⟩⟩; (try first | exact ⟨rfl, _, World.drewN_drewN _ _ _⟩ | exact ⟨rfl, _, Eq.trans (World.drewN_drewN _ _ _) (congrArg (World.drewN _) (Nat.add_assoc _ _ _))⟩)))
                repeat (go_quiet (first | ((with_reducible refine gate_dst (N := 1) rfl ?_); refine box_event ?hg (N := 1) ?hd (cs := #[.int .i64 a0_0, .int .i64 a0_1, .slice A0_2 l0_2.length c0_2]) (t := 62) ?hr ?_; (case hd => rfl); (case hg => rfl); (case hr => first | (go_simp; done) | (go_simp; rfl)); intro gb261 hg w15 hbox hb; have n0_ := ab_ (ap_ (by repeat (first | (with_reducible first | exact HB.out | apply ai_ | apply ag_ | apply ah_) | exact HB.out)) hb); have n1_ := ab_ (hbox); have n2_ := ab_ ((by rw [hg]; exact (below_size (by repeat (first | (with_reducible first | exact HB.out | apply ai_ | apply ag_ | apply ah_) | exact HB.out))) : w.heap.size ≤ gb261)); have n3_ := ab_ ((by rw [hg]; exact (below_size (by repeat (first | (with_reducible first | exact HB.out | apply ai_ | apply ag_ | apply ah_) | exact HB.out))) : w.heap.size ≤ gb261)); clear HB; have HB := n0_; have BK261 := n1_; have GW261 := n2_; have GE261 := n3_; clear n0_ n1_ n2_ n3_; clear hb hbox hg; have hcz16_0 : w15.cell? ⟨gb261, 0, none⟩ = some (.int .i64 a0_0) := (an_ BK261.out 0).trans rfl; have hcz16_1 : w15.cell? ⟨gb261, 1, none⟩ = some (.int .i64 a0_1) := (an_ BK261.out 1).trans rfl; have hcz16_2 : w15.cell? ⟨gb261, 2, none⟩ = some (.slice A0_2 l0_2.length c0_2) := (an_ BK261.out 2).trans rfl; have hfz16_0 := am_ BK261.out 0; have hfz16_1 := am_ BK261.out 1; have hfz16_2 := am_ BK261.out 2; have p263 : 0 ≤ (0 : Int) := (by omega); have q263 : 0 < (l0_2.length : Int) := of_decide_eq_true (by first | (with_reducible assumption) | assumption); obtain ⟨ad263, A263_2, c263_2, e263, hx263_0, hx263_1, hx263_2, hl263_2, hi263_2⟩ := at_T62 HR0_2.out 0 p263 q263; cases e263; have qi263 : (0 < l0_2.length) = True := eq_true (by omega); (try rw [show ((0 : Int)).toNat = 0 from rfl] at hx263_0); (try rw [show 0 * 3 = 0 from rfl] at hx263_0); (try rw [Addr.add_zero'] at hx263_0); (try rw [show ((0 : Int)).toNat = 0 from rfl] at hx263_1); (try rw [show 0 * 3 = 0 from rfl] at hx263_1); (try rw [Addr.add_zero'] at hx263_1); (try rw [show ((0 : Int)).toNat = 0 from rfl] at hx263_2); (try rw [show 0 * 3 = 0 from rfl] at hx263_2); (try rw [Addr.add_zero'] at hx263_2); replace hx263_0 := (HB.out.cell (aa_ w _ hx263_0)).trans hx263_0; replace hx263_1 := (HB.out.cell (aa_ w _ hx263_1)).trans hx263_1; replace hx263_2 := (HB.out.cell (aa_ w _ hx263_2)).trans hx263_2; have HR263_2 := ab_ hi263_2; have HC263_2 := ab_ hl263_2; clear hi263_2 hl263_2; replace p263 := eq_true p263; replace q263 := eq_true q263; have p264 : 0 ≤ (1 : Int) := (by omega); have q264 : 1 < (l0_2.length : Int) := of_decide_eq_true (by first | (with_reducible assumption) | assumption); obtain ⟨ad264, A264_2, c264_2, e264, hx264_0, hx264_1, hx264_2, hl264_2, hi264_2⟩ := at_T62 HR0_2.out 1 p264 q264; obtain rfl : ad263 = ad264 := (by injection e264); (try simp only [show (1 : Int).toNat = 1 from rfl, Nat.reduceMul, Nat.reduceEqDiff, Go.Addr.add, ↓reduceIte] at hx264_0); (try simp only [show (1 : Int).toNat = 1 from rfl, Nat.reduceMul, Nat.reduceEqDiff, Go.Addr.add, ↓reduceIte] at hx264_1); (try simp only [show (1 : Int).toNat = 1 from rfl, Nat.reduceMul, Nat.reduceEqDiff, Go.Addr.add, ↓reduceIte] at hx264_2); have qi264 : (1 < l0_2.length) = True := eq_true (by omega); (try rw [show ((1 : Int)).toNat = 1 from rfl] at hx264_0); (try rw [show 1 * 3 = 3 from rfl] at hx264_0); (try rw [show ((1 : Int)).toNat = 1 from rfl] at hx264_1); (try rw [show 1 * 3 = 3 from rfl] at hx264_1); (try rw [show ((1 : Int)).toNat = 1 from rfl] at hx264_2); (try rw [show 1 * 3 = 3 from rfl] at hx264_2); replace hx264_0 := (HB.out.cell (aa_ w _ hx264_0)).trans hx264_0; replace hx264_1 := (HB.out.cell (aa_ w _ hx264_1)).trans hx264_1; replace hx264_2 := (HB.out.cell (aa_ w _ hx264_2)).trans hx264_2; have HR264_2 := ab_ hi264_2; have HC264_2 := ab_ hl264_2; clear hi264_2 hl264_2; replace p264 := eq_true p264; replace q264 := eq_true q264; have p265 : 0 ≤ (0 : Int) := (by omega); have q265 : 0 < (l0_2.length : Int) := of_decide_eq_true (by first | (with_reducible assumption) | assumption); obtain ⟨ad265, A265_2, c265_2, e265, hx265_0, hx265_1, hx265_2, hl265_2, hi265_2⟩ := at_T62 HR0_2.out 0 p265 q265; obtain rfl : ad263 = ad265 := (by injection e265); have qi265 : (0 < l0_2.length) = True := eq_true (by omega); (try rw [show ((0 : Int)).toNat = 0 from rfl] at hx265_0); (try rw [show 0 * 3 = 0 from rfl] at hx265_0); (try rw [Addr.add_zero'] at hx265_0); (try rw [show ((0 : Int)).toNat = 0 from rfl] at hx265_1); (try rw [show 0 * 3 = 0 from rfl] at hx265_1); (try rw [Addr.add_zero'] at hx265_1); (try rw [show ((0 : Int)).toNat = 0 from rfl] at hx265_2); (try rw [show 0 * 3 = 0 from rfl] at hx265_2); (try rw [Addr.add_zero'] at hx265_2); replace hx265_0 := (HB.out.cell (aa_ w _ hx265_0)).trans hx265_0; replace hx265_1 := (HB.out.cell (aa_ w _ hx265_1)).trans hx265_1; replace hx265_2 := (HB.out.cell (aa_ w _ hx265_2)).trans hx265_2; have HR265_2 := ab_ hi265_2; have HC265_2 := ab_ hl265_2; clear hi265_2 hl265_2; replace p265 := eq_true p265; replace q265 := eq_true q265; have ea_ := Option.some.inj (hx263_2.symm.trans hx265_2); injection ea_ with ea_ en_ ec_; subst ea_; subst ec_; clear en_; have p266 : 0 ≤ (1 : Int) := (by omega); have q266 : 1 < (l0_2.length : Int) := of_decide_eq_true (by first | (with_reducible assumption) | assumption); obtain ⟨ad266, A266_2, c266_2, e266, hx266_0, hx266_1, hx266_2, hl266_2, hi266_2⟩ := at_T62 HR0_2.out 1 p266 q266; obtain rfl : ad263 = ad266 := (by injection e266); (try simp only [show (1 : Int).toNat = 1 from rfl, Nat.reduceMul, Nat.reduceEqDiff, Go.Addr.add, ↓reduceIte] at hx266_0); (try simp only [show (1 : Int).toNat = 1 from rfl, Nat.reduceMul, Nat.reduceEqDiff, Go.Addr.add, ↓reduceIte] at hx266_1); (try simp only [show (1 : Int).toNat = 1 from rfl, Nat.reduceMul, Nat.reduceEqDiff, Go.Addr.add, ↓reduceIte] at hx266_2); have qi266 : (1 < l0_2.length) = True := eq_true (by omega); (try rw [show ((1 : Int)).toNat = 1 from rfl] at hx266_0); (try rw [show 1 * 3 = 3 from rfl] at hx266_0); (try rw [show ((1 : Int)).toNat = 1 from rfl] at hx266_1); (try rw [show 1 * 3 = 3 from rfl] at hx266_1); (try rw [show ((1 : Int)).toNat = 1 from rfl] at hx266_2); (try rw [show 1 * 3 = 3 from rfl] at hx266_2); replace hx266_0 := (HB.out.cell (aa_ w _ hx266_0)).trans hx266_0; replace hx266_1 := (HB.out.cell (aa_ w _ hx266_1)).trans hx266_1; replace hx266_2 := (HB.out.cell (aa_ w _ hx266_2)).trans hx266_2; have HR266_2 := ab_ hi266_2; have HC266_2 := ab_ hl266_2; clear hi266_2 hl266_2; replace p266 := eq_true p266; replace q266 := eq_true q266; have ea_ := Option.some.inj (hx264_2.symm.trans hx266_2); injection ea_ with ea_ en_ ec_; subst ea_; subst ec_; clear en_) | (go_at_call 59; (with_reducible refine (spec_l1In.calls (wrap64 (((rd_T62 l0_2 0).f1) + ((rd_T62 l0_2 1).f1))) (-1000000) 1000000 t267 _ A14.out).mono ?_); rintro e w' ⟨rfl, ⟨nd, rfl⟩⟩; (try first | exact ⟨rfl, _, World.drewN_drewN _ _ _⟩ | exact ⟨rfl, _, Eq.trans (World.drewN_drewN _ _ _) (congrArg (World.drewN _) (Nat.add_assoc _ _ _))⟩))); try go_wp2_with (first | ((with_reducible refine gate_dst (N := 1) rfl ?_); refine box_event ?hg (N := 1) ?hd (cs := #[.int .i64 a0_0, .int .i64 a0_1, .slice A0_2 l0_2.length c0_2]) (t := 62) ?hr ?_; (case hd => rfl); (case hg => rfl); (case hr => first | (go_simp; done) | (go_simp; rfl)); intro gb261 hg w15 hbox hb; have n0_ := ab_ (ap_ (by repeat (first | (with_reducible first | exact HB.out | apply ai_ | apply ag_ | apply ah_) | exact HB.out)) hb); have n1_ := ab_ (hbox); have n2_ := ab_ ((by rw [hg]; exact (below_size (by repeat (first | (with_reducible first | exact HB.out | apply ai_ | apply ag_ | apply ah_) | exact HB.out))) : w.heap.size ≤ gb261)); have n3_ := ab_ ((by rw [hg]; exact (below_size (by repeat (first | (with_reducible first | exact HB.out | apply ai_ | apply ag_ | apply ah_) | exact HB.out))) : w.heap.size ≤ gb261)); clear HB; have HB := n0_; have BK261 := n1_; have GW261 := n2_; have GE261 := n3_; clear n0_ n1_ n2_ n3_; clear hb hbox hg; have hcz16_0 : w15.cell? ⟨gb261, 0, none⟩ = some (.int .i64 a0_0) := (an_ BK261.out 0).trans rfl; have hcz16_1 : w15.cell? ⟨gb261, 1, none⟩ = some (.int .i64 a0_1) := (an_ BK261.out 1).trans rfl; have hcz16_2 : w15.cell? ⟨gb261, 2, none⟩ = some (.slice A0_2 l0_2.length c0_2) := (an_ BK261.out 2).trans rfl; have hfz16_0 := am_ BK261.out 0; have hfz16_1 := am_ BK261.out 1; have hfz16_2 := am_ BK261.out 2; have p263 : 0 ≤ (0 : Int) := (by omega); have q263 : 0 < (l0_2.length : Int) := of_decide_eq_true (by first | (with_reducible assumption) | assumption); obtain ⟨ad263, A263_2, c263_2, e263, hx263_0, hx263_1, hx263_2, hl263_2, hi263_2⟩ := at_T62 HR0_2.out 0 p263 q263; cases e263; have qi263 : (0 < l0_2.length) = True := eq_true (by omega); (try rw [show ((0 : Int)).toNat = 0 from rfl] at hx263_0); (try rw [show 0 * 3 = 0 from rfl] at hx263_0); (try rw [Addr.add_zero'] at hx263_0); (try rw [show ((0 : Int)).toNat = 0 from rfl] at hx263_1); (try rw [show 0 * 3 = 0 from rfl] at hx263_1); (try rw [Addr.add_zero'] at hx263_1); (try rw [show ((0 : Int)).toNat = 0 from rfl] at hx263_2); (try rw [show 0 * 3 = 0 from rfl] at hx263_2); (try rw [Addr.add_zero'] at hx263_2); replace hx263_0 := (HB.out.cell (aa_ w _ hx263_0)).trans hx263_0; replace hx263_1 := (HB.out.cell (aa_ w _ hx263_1)).trans hx263_1; replace hx263_2 := (HB.out.cell (aa_ w _ hx263_2)).trans hx263_2; have HR263_2 := ab_ hi263_2; have HC263_2 := ab_ hl263_2; clear hi263_2 hl263_2; replace p263 := eq_true p263; replace q263 := eq_true q263; have p264 : 0 ≤ (1 : Int) := (by omega); have q264 : 1 < (l0_2.length : Int) := of_decide_eq_true (by first | (with_reducible assumption) | assumption); obtain ⟨ad264, A264_2, c264_2, e264, hx264_0, hx264_1, hx264_2, hl264_2, hi264_2⟩ := at_T62 HR0_2.out 1 p264 q264; obtain rfl : ad263 = ad264 := (by injection e264); (try simp only [show (1 : Int).toNat = 1 from rfl, Nat.reduceMul, Nat.reduceEqDiff, Go.Addr.add, ↓reduceIte] at hx264_0); (try simp only [show (1 : Int).toNat = 1 from rfl, Nat.reduceMul, Nat.reduceEqDiff, Go.Addr.add, ↓reduceIte] at hx264_1); (try simp only [show (1 : Int).toNat = 1 from rfl, Nat.reduceMul, Nat.reduceEqDiff, Go.Addr.add, ↓reduceIte] at hx264_2); have qi264 : (1 < l0_2.length) = True := eq_true (by omega); (try rw [show ((1 : Int)).toNat = 1 from rfl] at hx264_0); (try rw [show 1 * 3 = 3 from rfl] at hx264_0); (try rw [show ((1 : Int)).toNat = 1 from rfl] at hx264_1); (try rw [show 1 * 3 = 3 from rfl] at hx264_1); (try rw [show ((1 : Int)).toNat = 1 from rfl] at hx264_2); (try rw [show 1 * 3 = 3 from rfl] at hx264_2); replace hx264_0 := (HB.out.cell (aa_ w _ hx264_0)).trans hx264_0; replace hx264_1 := (HB.out.cell (aa_ w _ hx264_1)).trans hx264_1; replace hx264_2 := (HB.out.cell (aa_ w _ hx264_2)).trans hx264_2; have HR264_2 := ab_ hi264_2; have HC264_2 := ab_ hl264_2; clear hi264_2 hl264_2; replace p264 := eq_true p264; replace q264 := eq_true q264; have p265 : 0 ≤ (0 : Int) := (by omega); have q265 : 0 < (l0_2.length : Int) := of_decide_eq_true (by first | (with_reducible assumption) | assumption); obtain ⟨ad265, A265_2, c265_2, e265, hx265_0, hx265_1, hx265_2, hl265_2, hi265_2⟩ := at_T62 HR0_2.out 0 p265 q265; obtain rfl : ad263 = ad265 := (by injection e265); have qi265 : (0 < l0_2.length) = True := eq_true (by omega); (try rw [show ((0 : Int)).toNat = 0 from rfl] at hx265_0); (try rw [show 0 * 3 = 0 from rfl] at hx265_0); (try rw [Addr.add_zero'] at hx265_0); (try rw [show ((0 : Int)).toNat = 0 from rfl] at hx265_1); (try rw [show 0 * 3 = 0 from rfl] at hx265_1); (try rw [Addr.add_zero'] at hx265_1); (try rw [show ((0 : Int)).toNat = 0 from rfl] at hx265_2); (try rw [show 0 * 3 = 0 from rfl] at hx265_2); (try rw [Addr.add_zero'] at hx265_2); replace hx265_0 := (HB.out.cell (aa_ w _ hx265_0)).trans hx265_0; replace hx265_1 := (HB.out.cell (aa_ w _ hx265_1)).trans hx265_1; replace hx265_2 := (HB.out.cell (aa_ w _ hx265_2)).trans hx265_2; have HR265_2 := ab_ hi265_2; have HC265_2 := ab_ hl265_2; clear hi265_2 hl265_2; replace p265 := eq_true p265; replace q265 := eq_true q265; have ea_ := Option.some.inj (hx263_2.symm.trans hx265_2); injection ea_ with ea_ en_ ec_; subst ea_; subst ec_; clear en_; have p266 : 0 ≤ (1 : Int) := (by omega); have q266 : 1 < (l0_2.length : Int) := of_decide_eq_true (by first | (with_reducible assumption) | assumption); obtain ⟨ad266, A266_2, c266_2, e266, hx266_0, hx266_1, hx266_2, hl266_2, hi266_2⟩ := at_T62 HR0_2.out 1 p266 q266; obtain rfl : ad263 = ad266 := (by injection e266); (try simp only [show (1 : Int).toNat = 1 from rfl, Nat.reduceMul, Nat.reduceEqDiff, Go.Addr.add, ↓reduceIte] at hx266_0); (try simp only [show (1 : Int).toNat = 1 from rfl, Nat.reduceMul, Nat.reduceEqDiff, Go.Addr.add, ↓reduceIte] at hx266_1); (try simp only [show (1 : Int).toNat = 1 from rfl, Nat.reduceMul, Nat.reduceEqDiff, Go.Addr.add, ↓reduceIte] at hx266_2); have qi266 : (1 < l0_2.length) = True := eq_true (by omega); (try rw [show ((1 : Int)).toNat = 1 from rfl] at hx266_0); (try rw [show 1 * 3 = 3 from rfl] at hx266_0); (try rw [show ((1 : Int)).toNat = 1 from rfl] at hx266_1); (try rw [show 1 * 3 = 3 from rfl] at hx266_1); (try rw [show ((1 : Int)).toNat = 1 from rfl] at hx266_2); (try rw [show 1 * 3 = 3 from rfl] at hx266_2); replace hx266_0 := (HB.out.cell (aa_ w _ hx266_0)).trans hx266_0; replace hx266_1 := (HB.out.cell (aa_ w _ hx266_1)).trans hx266_1; replace hx266_2 := (HB.out.cell (aa_ w _ hx266_2)).trans hx266_2; have HR266_2 := ab_ hi266_2; have HC266_2 := ab_ hl266_2; clear hi266_2 hl266_2; replace p266 := eq_true p266; replace q266 := eq_true q266; have ea_ := Option.some.inj (hx264_2.symm.trans hx266_2); injection ea_ with ea_ en_ ec_; subst ea_; subst ec_; clear en_) | (go_at_call 59; (with_reducible refine (spec_l1In.calls (wrap64 (((rd_T62 l0_2 0).f1) + ((rd_T62 l0_2 1).f1))) (-1000000) 1000000 t267 _ A14.out).mono ?_); rintro e w' ⟨rfl, ⟨nd, rfl⟩⟩; (try first | exact ⟨rfl, _, World.drewN_drewN _ _ _⟩ | exact ⟨rfl, _, Eq.trans (World.drewN_drewN _ _ _) (congrArg (World.drewN _) (Nat.add_assoc _ _ _))⟩))))
                go_ret
                exact ⟨by first | rfl | (simp [errW_none, errW_some] <;> rfl) | (simp [*, errW_none, errW_some] <;> rfl), by repeat (first | (with_reducible first | exact HB.out | apply ai_ | apply ag_ | apply ah_ | refine af_ ?_ GE261.out) | exact HB.out)⟩
              · rw [if_neg c13] at H
                have c13b0 : (((rd_T62 l0_2 1).f0) == 2) = false := beq_eq_false_iff_ne.mpr c13
                have c13b1 : (((rd_T62 l0_2 1).f0) != 2) = true := bne_iff_ne.mpr c13
                obtain rfl := Option.some.inj H
                go_enter Try.func96, Try.ntmps96
                go_wp2_with (first | ((with_reducible refine gate_dst (N := 1) rfl ?_); refine box_event ?hg (N := 1) ?hd (cs := #[.int .i64 a0_0, .int .i64 a0_1, .slice A0_2 l0_2.length c0_2]) (t := 62) ?hr ?_; (case hd => rfl); (case hg => rfl); (case hr => first | (go_simp; done) | (go_simp; rfl)); intro gb261 hg w17 hbox hb; have n0_ := ab_ (ap_ (by repeat (first | (with_reducible first | exact HB.out | apply ai_ | apply ag_ | apply ah_) | exact HB.out)) hb); have n1_ := ab_ (hbox); have n2_ := ab_ ((by rw [hg]; exact (below_size (by repeat (first | (with_reducible first | exact HB.out | apply ai_ | apply ag_ | apply ah_) | exact HB.out))) : w.heap.size ≤ gb261)); have n3_ := ab_ ((by rw [hg]; exact (below_size (by repeat (first | (with_reducible first | exact HB.out | apply ai_ | apply ag_ | apply ah_) | exact HB.out))) : w.heap.size ≤ gb261)); clear HB; have HB := n0_; have BK261 := n1_; have GW261 := n2_; have GE261 := n3_; clear n0_ n1_ n2_ n3_; clear hb hbox hg; have hcz18_0 : w17.cell? ⟨gb261, 0, none⟩ = some (.int .i64 a0_0) := (an_ BK261.out 0).trans rfl; have hcz18_1 : w17.cell? ⟨gb261, 1, none⟩ = some (.int .i64 a0_1) := (an_ BK261.out 1).trans rfl; have hcz18_2 : w17.cell? ⟨gb261, 2, none⟩ = some (.slice A0_2 l0_2.length c0_2) := (an_ BK261.out 2).trans rfl; have hfz18_0 := am_ BK261.out 0; have hfz18_1 := am_ BK261.out 1; have hfz18_2 := am_ BK261.out 2; have p263 : 0 ≤ (0 : Int) := (by omega); have q263 : 0 < (l0_2.length : Int) := of_decide_eq_true (by first | (with_reducible assumption) | assumption); obtain ⟨ad263, A263_2, c263_2, e263, hx263_0, hx263_1, hx263_2, hl263_2, hi263_2⟩ := at_T62 HR0_2.out 0 p263 q263; cases e263; have qi263 : (0 < l0_2.length) = True := eq_true (by omega); (try rw [show ((0 : Int)).toNat = 0 from rfl] at hx263_0); (try rw [show 0 * 3 = 0 from rfl] at hx263_0); (try rw [Addr.add_zero'] at hx263_0); (try rw [show ((0 : Int)).toNat = 0 from rfl] at hx263_1); (try rw [show 0 * 3 = 0 from rfl] at hx263_1); (try rw [Addr.add_zero'] at hx263_1); (try rw [show ((0 : Int)).toNat = 0 from rfl] at hx263_2); (try rw [show 0 * 3 = 0 from rfl] at hx263_2); (try rw [Addr.add_zero'] at hx263_2); replace hx263_0 := (HB.out.cell (aa_ w _ hx263_0)).trans hx263_0; replace hx263_1 := (HB.out.cell (aa_ w _ hx263_1)).trans hx263_1; replace hx263_2 := (HB.out.cell (aa_ w _ hx263_2)).trans hx263_2; have HR263_2 := ab_ hi263_2; have HC263_2 := ab_ hl263_2; clear hi263_2 hl263_2; replace p263 := eq_true p263; replace q263 := eq_true q263; have p264 : 0 ≤ (1 : Int) := (by omega); have q264 : 1 < (l0_2.length : Int) := of_decide_eq_true (by first | (with_reducible assumption) | assumption); obtain ⟨ad264, A264_2, c264_2, e264, hx264_0, hx264_1, hx264_2, hl264_2, hi264_2⟩ := at_T62 HR0_2.out 1 p264 q264; obtain rfl : ad263 = ad264 := (by injection e264); (try simp only [show (1 : Int).toNat = 1 from rfl, Nat.reduceMul, Nat.reduceEqDiff, Go.Addr.add, ↓reduceIte] at hx264_0); (try simp only [show (1 : Int).toNat = 1 from rfl, Nat.reduceMul, Nat.reduceEqDiff, Go.Addr.add, ↓reduceIte] at hx264_1); (try simp only [show (1 : Int).toNat = 1 from rfl, Nat.reduceMul, Nat.reduceEqDiff, Go.Addr.add, ↓reduceIte] at hx264_2); have qi264 : (1 < l0_2.length) = True := eq_true (by omega); (try rw [show ((1 : Int)).toNat = 1 from rfl] at hx264_0); (try rw [show 1 * 3 = 3 from rfl] at hx264_0); (try rw [show ((1 : Int)).toNat = 1 from rfl] at hx264_1); (try rw [show 1 * 3 = 3 from rfl] at hx264_1); (try rw [show ((1 : Int)).toNat = 1 from rfl] at hx264_2); (try rw [show 1 * 3 = 3 from rfl] at hx264_2); replace hx264_0 := (HB.out.cell (aa_ w _ hx264_0)).trans hx264_0; replace hx264_1 := (HB.out.cell (aa_ w _ hx264_1)).trans hx264_1; replace hx264_2 := (HB.out.cell (aa_ w _ hx264_2)).trans hx264_2; have HR264_2 := ab_ hi264_2; have HC264_2 := ab_ hl264_2; clear hi264_2 hl264_2; replace p264 := eq_true p264; replace q264 := eq_true q264))
                repeat (go_quiet (first | ((with_reducible refine gate_dst (N := 1) rfl ?_); refine box_event ?hg (N := 1) ?hd (cs := #[.int .i64 a0_0, .int .i64 a0_1, .slice A0_2 l0_2.length c0_2]) (t := 62) ?hr ?_; (case hd => rfl); (case hg => rfl); (case hr => first | (go_simp; done) | (go_simp; rfl)); intro gb261 hg w17 hbox hb; have n0_ := ab_ (ap_ (by repeat (first | (with_reducible first | exact HB.out | apply ai_ | apply ag_ | apply ah_) | exact HB.out)) hb); have n1_ := ab_ (hbox); have n2_ := ab_ ((by rw [hg]; exact (below_size (by repeat (first | (with_reducible first | exact HB.out | apply ai_ | apply ag_ | apply ah_) | exact HB.out))) : w.heap.size ≤ gb261)); have n3_ := ab_ ((by rw [hg]; exact (below_size (by repeat (first | (with_reducible first | exact HB.out | apply ai_ | apply ag_ | apply ah_) | exact HB.out))) : w.heap.size ≤ gb261)); clear HB; have HB := n0_; have BK261 := n1_; have GW261 := n2_; have GE261 := n3_; clear n0_ n1_ n2_ n3_; clear hb hbox hg; have hcz18_0 : w17.cell? ⟨gb261, 0, none⟩ = some (.int .i64 a0_0) := (an_ BK261.out 0).trans rfl; have hcz18_1 : w17.cell? ⟨gb261, 1, none⟩ = some (.int .i64 a0_1) := (an_ BK261.out 1).trans rfl; have hcz18_2 : w17.cell? ⟨gb261, 2, none⟩ = some (.slice A0_2 l0_2.length c0_2) := (an_ BK261.out 2).trans rfl; have hfz18_0 := am_ BK261.out 0; have hfz18_1 := am_ BK261.out 1; have hfz18_2 := am_ BK261.out 2; have p263 : 0 ≤ (0 : Int) := (by omega); have q263 : 0 < (l0_2.length : Int) := of_decide_eq_true (by first | (with_reducible assumption) | assumption); obtain ⟨ad263, A263_2, c263_2, e263, hx263_0, hx263_1, hx263_2, hl263_2, hi263_2⟩ := at_T62 HR0_2.out 0 p263 q263; cases e263; have qi263 : (0 < l0_2.length) = True := eq_true (by omega); (try rw [show ((0 : Int)).toNat = 0 from rfl] at hx263_0); (try rw [show 0 * 3 = 0 from rfl] at hx263_0); (try rw [Addr.add_zero'] at hx263_0); (try rw [show ((0 : Int)).toNat = 0 from rfl] at hx263_1); (try rw [show 0 * 3 = 0 from rfl] at hx263_1); (try rw [Addr.add_zero'] at hx263_1); (try rw [show ((0 : Int)).toNat = 0 from rfl] at hx263_2); (try rw [show 0 * 3 = 0 from rfl] at hx263_2); (try rw [Addr.add_zero'] at hx263_2); replace hx263_0 := (HB.out.cell (aa_ w _ hx263_0)).trans hx263_0; replace hx263_1 := (HB.out.cell (aa_ w _ hx263_1)).trans hx263_1; replace hx263_2 := (HB.out.cell (aa_ w _ hx263_2)).trans hx263_2; have HR263_2 := ab_ hi263_2; have HC263_2 := ab_ hl263_2; clear hi263_2 hl263_2; replace p263 := eq_true p263; replace q263 := eq_true q263; have p264 : 0 ≤ (1 : Int) := (by omega); have q264 : 1 < (l0_2.length : Int) := of_decide_eq_true (by first | (with_reducible assumption) | assumption); obtain ⟨ad264, A264_2, c264_2, e264, hx264_0, hx264_1, hx264_2, hl264_2, hi264_2⟩ := at_T62 HR0_2.out 1 p264 q264; obtain rfl : ad263 = ad264 := (by injection e264); (try simp only [show (1 : Int).toNat = 1 from rfl, Nat.reduceMul, Nat.reduceEqDiff, Go.Addr.add, ↓reduceIte] at hx264_0); (try simp only [show (1 : Int).toNat = 1 from rfl, Nat.reduceMul, Nat.reduceEqDiff, Go.Addr.add, ↓reduceIte] at hx264_1); (try simp only [show (1 : Int).toNat = 1 from rfl, Nat.reduceMul, Nat.reduceEqDiff, Go.Addr.add, ↓reduceIte] at hx264_2); have qi264 : (1 < l0_2.length) = True := eq_true (by omega); (try rw [show ((1 : Int)).toNat = 1 from rfl] at hx264_0); (try rw [show 1 * 3 = 3 from rfl] at hx264_0); (try rw [show ((1 : Int)).toNat = 1 from rfl] at hx264_1); (try rw [show 1 * 3 = 3 from rfl] at hx264_1); (try rw [show ((1 : Int)).toNat = 1 from rfl] at hx264_2); (try rw [show 1 * 3 = 3 from rfl] at hx264_2); replace hx264_0 := (HB.out.cell (aa_ w _ hx264_0)).trans hx264_0; replace hx264_1 := (HB.out.cell (aa_ w _ hx264_1)).trans hx264_1; replace hx264_2 := (HB.out.cell (aa_ w _ hx264_2)).trans hx264_2; have HR264_2 := ab_ hi264_2; have HC264_2 := ab_ hl264_2; clear hi264_2 hl264_2; replace p264 := eq_true p264; replace q264 := eq_true q264)); try go_wp2_with (first | ((with_reducible refine gate_dst (N := 1) rfl ?_); refine box_event ?hg (N := 1) ?hd (cs := #[.int .i64 a0_0, .int .i64 a0_1, .slice A0_2 l0_2.length c0_2]) (t := 62) ?hr ?_; (case hd => rfl); (case hg => rfl); (case hr => first | (go_simp; done) | (go_simp; rfl)); intro gb261 hg w17 hbox hb; have n0_ := ab_ (ap_ (by repeat (first | (with_reducible first | exact HB.out | apply ai_ | apply ag_ | apply ah_) | exact HB.out)) hb); have n1_ := ab_ (hbox); have n2_ := ab_ ((by rw [hg]; exact (below_size (by repeat (first | (with_reducible first | exact HB.out | apply ai_ | apply ag_ | apply ah_) | exact HB.out))) : w.heap.size ≤ gb261)); have n3_ := ab_ ((by rw [hg]; exact (below_size (by repeat (first | (with_reducible first | exact HB.out | apply ai_ | apply ag_ | apply ah_) | exact HB.out))) : w.heap.size ≤ gb261)); clear HB; have HB := n0_; have BK261 := n1_; have GW261 := n2_; have GE261 := n3_; clear n0_ n1_ n2_ n3_; clear hb hbox hg; have hcz18_0 : w17.cell? ⟨gb261, 0, none⟩ = some (.int .i64 a0_0) := (an_ BK261.out 0).trans rfl; have hcz18_1 : w17.cell? ⟨gb261, 1, none⟩ = some (.int .i64 a0_1) := (an_ BK261.out 1).trans rfl; have hcz18_2 : w17.cell? ⟨gb261, 2, none⟩ = some (.slice A0_2 l0_2.length c0_2) := (an_ BK261.out 2).trans rfl; have hfz18_0 := am_ BK261.out 0; have hfz18_1 := am_ BK261.out 1; have hfz18_2 := am_ BK261.out 2; have p263 : 0 ≤ (0 : Int) := (by omega); have q263 : 0 < (l0_2.length : Int) := of_decide_eq_true (by first | (with_reducible assumption) | assumption); obtain ⟨ad263, A263_2, c263_2, e263, hx263_0, hx263_1, hx263_2, hl263_2, hi263_2⟩ := at_T62 HR0_2.out 0 p263 q263; cases e263; have qi263 : (0 < l0_2.length) = True := eq_true (by omega); (try rw [show ((0 : Int)).toNat = 0 from rfl] at hx263_0); (try rw [show 0 * 3 = 0 from rfl] at hx263_0); (try rw [Addr.add_zero'] at hx263_0); (try rw [show ((0 : Int)).toNat = 0 from rfl] at hx263_1); (try rw [show 0 * 3 = 0 from rfl] at hx263_1); (try rw [Addr.add_zero'] at hx263_1); (try rw [show ((0 : Int)).toNat = 0 from rfl] at hx263_2); (try rw [show 0 * 3 = 0 from rfl] at hx263_2); (try rw [Addr.add_zero'] at hx263_2); replace hx263_0 := (HB.out.cell (aa_ w _ hx263_0)).trans hx263_0; replace hx263_1 := (HB.out.cell (aa_ w _ hx263_1)).trans hx263_1; replace hx263_2 := (HB.out.cell (aa_ w _ hx263_2)).trans hx263_2; have HR263_2 := ab_ hi263_2; have HC263_2 := ab_ hl263_2; clear hi263_2 hl263_2; replace p263 := eq_true p263; replace q263 := eq_true q263; have p264 : 0 ≤ (1 : Int) := (by omega); have q264 : 1 < (l0_2.length : Int) := of_decide_eq_true (by first | (with_reducible assumption) | assumption); obtain ⟨ad264, A264_2, c264_2, e264, hx264_0, hx264_1, hx264_2, hl264_2, hi264_2⟩ := at_T62 HR0_2.out 1 p264 q264; obtain rfl : ad263 = ad264 := (by injection e264); (try simp only [show (1 : Int).toNat = 1 from rfl, Nat.reduceMul, Nat.reduceEqDiff, Go.Addr.add, ↓reduceIte] at hx264_0); (try simp only [show (1 : Int).toNat = 1 from rfl, Nat.reduceMul, Nat.reduceEqDiff, Go.Addr.add, ↓reduceIte] at hx264_1); (try simp only [show (1 : Int).toNat = 1 from rfl, Nat.reduceMul, Nat.reduceEqDiff, Go.Addr.add, ↓reduceIte] at hx264_2); have qi264 : (1 < l0_2.length) = True := eq_true (by omega); (try rw [show ((1 : Int)).toNat = 1 from rfl] at hx264_0); (try rw [show 1 * 3 = 3 from rfl] at hx264_0); (try rw [show ((1 : Int)).toNat = 1 from rfl] at hx264_1); (try rw [show 1 * 3 = 3 from rfl] at hx264_1); (try rw [show ((1 : Int)).toNat = 1 from rfl] at hx264_2); (try rw [show 1 * 3 = 3 from rfl] at hx264_2); replace hx264_0 := (HB.out.cell (aa_ w _ hx264_0)).trans hx264_0; replace hx264_1 := (HB.out.cell (aa_ w _ hx264_1)).trans hx264_1; replace hx264_2 := (HB.out.cell (aa_ w _ hx264_2)).trans hx264_2; have HR264_2 := ab_ hi264_2; have HC264_2 := ab_ hl264_2; clear hi264_2 hl264_2; replace p264 := eq_true p264; replace q264 := eq_true q264)))
                go_ret
                exact ⟨by first | rfl | (simp [errW_none, errW_some] <;> rfl) | (simp [*, errW_none, errW_some] <;> rfl), by repeat (first | (with_reducible first | exact HB.out | apply ai_ | apply ag_ | apply ah_ | refine af_ ?_ GE261.out) | exact HB.out)⟩
            · rw [if_neg c12] at H
              exact absurd H (by simp)
          · rw [if_neg c11] at H
            have c11b0 : (((rd_T62 l0_2 0).f0) == 2) = false := beq_eq_false_iff_ne.mpr c11
            have c11b1 : (((rd_T62 l0_2 0).f0) != 2) = true := bne_iff_ne.mpr c11
            obtain rfl := Option.some.inj H
            go_enter Try.func96, Try.ntmps96
            go_wp2_with (first | ((with_reducible refine gate_dst (N := 1) rfl ?_); refine box_event ?hg (N := 1) ?hd (cs := #[.int .i64 a0_0, .int .i64 a0_1, .slice A0_2 l0_2.length c0_2]) (t := 62) ?hr ?_; (case hd => rfl); (case hg => rfl); (case hr => first | (go_simp; done) | (go_simp; rfl)); intro gb261 hg w19 hbox hb; have n0_ := ab_ (ap_ (by repeat (first | (with_reducible first | exact HB.out | apply ai_ | apply ag_ | apply ah_) | exact HB.out)) hb); have n1_ := ab_ (hbox); have n2_ := ab_ ((by rw [hg]; exact (below_size (by repeat (first | (with_reducible first | exact HB.out | apply ai_ | apply ag_ | apply ah_) | exact HB.out))) : w.heap.size ≤ gb261)); have n3_ := ab_ ((by rw [hg]; exact (below_size (by repeat (first | (with_reducible first | exact HB.out | apply ai_ | apply ag_ | apply ah_) | exact HB.out))) : w.heap.size ≤ gb261)); clear HB; have HB := n0_; have BK261 := n1_; have GW261 := n2_; have GE261 := n3_; clear n0_ n1_ n2_ n3_; clear hb hbox hg; have hcz20_0 : w19.cell? ⟨gb261, 0, none⟩ = some (.int .i64 a0_0) := (an_ BK261.out 0).trans rfl; have hcz20_1 : w19.cell? ⟨gb261, 1, none⟩ = some (.int .i64 a0_1) := (an_ BK261.out 1).trans rfl; have hcz20_2 : w19.cell? ⟨gb261, 2, none⟩ = some (.slice A0_2 l0_2.length c0_2) := (an_ BK261.out 2).trans rfl; have hfz20_0 := am_ BK261.out 0; have hfz20_1 := am_ BK261.out 1; have hfz20_2 := am_ BK261.out 2; have p263 : 0 ≤ (0 : Int) := (by omega); have q263 : 0 < (l0_2.length : Int) := of_decide_eq_true (by first | (with_reducible assumption) | assumption); obtain ⟨ad263, A263_2, c263_2, e263, hx263_0, hx263_1, hx263_2, hl263_2, hi263_2⟩ := at_T62 HR0_2.out 0 p263 q263; cases e263; have qi263 : (0 < l0_2.length) = True := eq_true (by omega); (try rw [show ((0 : Int)).toNat = 0 from rfl] at hx263_0); (try rw [show 0 * 3 = 0 from rfl] at hx263_0); (try rw [Addr.add_zero'] at hx263_0); (try rw [show ((0 : Int)).toNat = 0 from rfl] at hx263_1); (try rw [show 0 * 3 = 0 from rfl] at hx263_1); (try rw [Addr.add_zero'] at hx263_1); (try rw [show ((0 : Int)).toNat = 0 from rfl] at hx263_2); (try rw [show 0 * 3 = 0 from rfl] at hx263_2); (try rw [Addr.add_zero'] at hx263_2); replace hx263_0 := (HB.out.cell (aa_ w _ hx263_0)).trans hx263_0; replace hx263_1 := (HB.out.cell (aa_ w _ hx263_1)).trans hx263_1; replace hx263_2 := (HB.out.cell (aa_ w _ hx263_2)).trans hx263_2; have HR263_2 := ab_ hi263_2; have HC263_2 := ab_ hl263_2; clear hi263_2 hl263_2; replace p263 := eq_true p263; replace q263 := eq_true q263))
            repeat (go_quiet (first | ((with_reducible refine gate_dst (N := 1) rfl ?_); refine box_event ?hg (N := 1) ?hd (cs := #[.int .i64 a0_0, .int .i64 a0_1, .slice A0_2 l0_2.length c0_2]) (t := 62) ?hr ?_; (case hd => rfl); (case hg => rfl); (case hr => first | (go_simp; done) | (go_simp; rfl)); intro gb261 hg w19 hbox hb; have n0_ := ab_ (ap_ (by repeat (first | (with_reducible first | exact HB.out | apply ai_ | apply ag_ | apply ah_) | exact HB.out)) hb); have n1_ := ab_ (hbox); have n2_ := ab_ ((by rw [hg]; exact (below_size (by repeat (first | (with_reducible first | exact HB.out | apply ai_ | apply ag_ | apply ah_) | exact HB.out))) : w.heap.size ≤ gb261)); have n3_ := ab_ ((by rw [hg]; exact (below_size (by repeat (first | (with_reducible first | exact HB.out | apply ai_ | apply ag_ | apply ah_) | exact HB.out))) : w.heap.size ≤ gb261)); clear HB; have HB := n0_; have BK261 := n1_; have GW261 := n2_; have GE261 := n3_; clear n0_ n1_ n2_ n3_; clear hb hbox hg; have hcz20_0 : w19.cell? ⟨gb261, 0, none⟩ = some (.int .i64 a0_0) := (an_ BK261.out 0).trans rfl; have hcz20_1 : w19.cell? ⟨gb261, 1, none⟩ = some (.int .i64 a0_1) := (an_ BK261.out 1).trans rfl; have hcz20_2 : w19.cell? ⟨gb261, 2, none⟩ = some (.slice A0_2 l0_2.length c0_2) := (an_ BK261.out 2).trans rfl; have hfz20_0 := am_ BK261.out 0; have hfz20_1 := am_ BK261.out 1; have hfz20_2 := am_ BK261.out 2; have p263 : 0 ≤ (0 : Int) := (by omega); have q263 : 0 < (l0_2.length : Int) := of_decide_eq_true (by first | (with_reducible assumption) | assumption); obtain ⟨ad263, A263_2, c263_2, e263, hx263_0, hx263_1, hx263_2, hl263_2, hi263_2⟩ := at_T62 HR0_2.out 0 p263 q263; cases e263; have qi263 : (0 < l0_2.length) = True := eq_true (by omega); (try rw [show ((0 : Int)).toNat = 0 from rfl] at hx263_0); (try rw [show 0 * 3 = 0 from rfl] at hx263_0); (try rw [Addr.add_zero'] at hx263_0); (try rw [show ((0 : Int)).toNat = 0 from rfl] at hx263_1); (try rw [show 0 * 3 = 0 from rfl] at hx263_1); (try rw [Addr.add_zero'] at hx263_1); (try rw [show ((0 : Int)).toNat = 0 from rfl] at hx263_2); (try rw [show 0 * 3 = 0 from rfl] at hx263_2); (try rw [Addr.add_zero'] at hx263_2); replace hx263_0 := (HB.out.cell (aa_ w _ hx263_0)).trans hx263_0; replace hx263_1 := (HB.out.cell (aa_ w _ hx263_1)).trans hx263_1; replace hx263_2 := (HB.out.cell (aa_ w _ hx263_2)).trans hx263_2; have HR263_2 := ab_ hi263_2; have HC263_2 := ab_ hl263_2; clear hi263_2 hl263_2; replace p263 := eq_true p263; replace q263 := eq_true q263)); try go_wp2_with (first | ((with_reducible refine gate_dst (N := 1) rfl ?_); refine box_event ?hg (N := 1) ?hd (cs := #[.int .i64 a0_0, .int .i64 a0_1, .slice A0_2 l0_2.length c0_2]) (t := 62) ?hr ?_; (case hd => rfl); (case hg => rfl); (case hr => first | (go_simp; done) | (go_simp; rfl)); intro gb261 hg w19 hbox hb; have n0_ := ab_ (ap_ (by repeat (first | (with_reducible first | exact HB.out | apply ai_ | apply ag_ | apply ah_) | exact HB.out)) hb); have n1_ := ab_ (hbox); have n2_ := ab_ ((by rw [hg]; exact (below_size (by repeat (first | (with_reducible first | exact HB.out | apply ai_ | apply ag_ | apply ah_) | exact HB.out))) : w.heap.size ≤ gb261)); have n3_ := ab_ ((by rw [hg]; exact (below_size (by repeat (first | (with_reducible first | exact HB.out | apply ai_ | apply ag_ | apply ah_) | exact HB.out))) : w.heap.size ≤ gb261)); clear HB; have HB := n0_; have BK261 := n1_; have GW261 := n2_; have GE261 := n3_; clear n0_ n1_ n2_ n3_; clear hb hbox hg; have hcz20_0 : w19.cell? ⟨gb261, 0, none⟩ = some (.int .i64 a0_0) := (an_ BK261.out 0).trans rfl; have hcz20_1 : w19.cell? ⟨gb261, 1, none⟩ = some (.int .i64 a0_1) := (an_ BK261.out 1).trans rfl; have hcz20_2 : w19.cell? ⟨gb261, 2, none⟩ = some (.slice A0_2 l0_2.length c0_2) := (an_ BK261.out 2).trans rfl; have hfz20_0 := am_ BK261.out 0; have hfz20_1 := am_ BK261.out 1; have hfz20_2 := am_ BK261.out 2; have p263 : 0 ≤ (0 : Int) := (by omega); have q263 : 0 < (l0_2.length : Int) := of_decide_eq_true (by first | (with_reducible assumption) | assumption); obtain ⟨ad263, A263_2, c263_2, e263, hx263_0, hx263_1, hx263_2, hl263_2, hi263_2⟩ := at_T62 HR0_2.out 0 p263 q263; cases e263; have qi263 : (0 < l0_2.length) = True := eq_true (by omega); (try rw [show ((0 : Int)).toNat = 0 from rfl] at hx263_0); (try rw [show 0 * 3 = 0 from rfl] at hx263_0); (try rw [Addr.add_zero'] at hx263_0); (try rw [show ((0 : Int)).toNat = 0 from rfl] at hx263_1); (try rw [show 0 * 3 = 0 from rfl] at hx263_1); (try rw [Addr.add_zero'] at hx263_1); (try rw [show ((0 : Int)).toNat = 0 from rfl] at hx263_2); (try rw [show 0 * 3 = 0 from rfl] at hx263_2); (try rw [Addr.add_zero'] at hx263_2); replace hx263_0 := (HB.out.cell (aa_ w _ hx263_0)).trans hx263_0; replace hx263_1 := (HB.out.cell (aa_ w _ hx263_1)).trans hx263_1; replace hx263_2 := (HB.out.cell (aa_ w _ hx263_2)).trans hx263_2; have HR263_2 := ab_ hi263_2; have HC263_2 := ab_ hl263_2; clear hi263_2 hl263_2; replace p263 := eq_true p263; replace q263 := eq_true q263)))
            go_ret
            exact ⟨by first | rfl | (simp [errW_none, errW_some] <;> rfl) | (simp [*, errW_none, errW_some] <;> rfl), by repeat (first | (with_reducible first | exact HB.out | apply ai_ | apply ag_ | apply ah_ | refine af_ ?_ GE261.out) | exact HB.out)⟩
        · rw [if_neg c10] at H
          exact absurd H (by simp)
      · rw [if_neg c9] at H
        have c9b0 : (a0_0 == 5) = false := beq_eq_false_iff_ne.mpr c9
        have c9b1 : (a0_0 != 5) = true := bne_iff_ne.mpr c9
        by_cases c21 : a0_0 = 6
        · rw [if_pos c21] at H
          have c21b0 : (a0_0 == 6) = true := beq_iff_eq.mpr c21
          have c21b1 : (a0_0 != 6) = false := bne_eq_false_iff_eq.mpr c21
          clear c21
          by_cases c22 : 0 < (l0_2.length : Int)
          · rw [if_pos c22] at H
            have c22b0 : decide (0 < (l0_2.length : Int)) = true := ao_ c22
            have c22b1 : decide (0 < l0_2.length) = true := ao_ (by omega)
            clear c22
            obtain rfl := Option.some.inj H
            go_enter Try.func96, Try.ntmps96
            go_wp2_with (first | ((with_reducible refine gate_dst (N := 1) rfl ?_); refine box_event ?hg (N := 1) ?hd (cs := #[.int .i64 a0_0, .int .i64 a0_1, .slice A0_2 l0_2.length c0_2]) (t := 62) ?hr ?_; (case hd => rfl); (case hg => rfl); (case hr => first | (go_simp; done) | (go_simp; rfl)); intro gb261 hg w23 hbox hb; have n0_ := ab_ (ap_ (by repeat (first | (with_reducible first | exact HB.out | apply ai_ | apply ag_ | apply ah_) | exact HB.out)) hb); have n1_ := ab_ (hbox); have n2_ := ab_ ((by rw [hg]; exact (below_size (by repeat (first | (with_reducible first | exact HB.out | apply ai_ | apply ag_ | apply ah_) | exact HB.out))) : w.heap.size ≤ gb261)); have n3_ := ab_ ((by rw [hg]; exact (below_size (by repeat (first | (with_reducible first | exact HB.out | apply ai_ | apply ag_ | apply ah_) | exact HB.out))) : w.heap.size ≤ gb261)); clear HB; have HB := n0_; have BK261 := n1_; have GW261 := n2_; have GE261 := n3_; clear n0_ n1_ n2_ n3_; clear hb hbox hg; have hcz24_0 : w23.cell? ⟨gb261, 0, none⟩ = some (.int .i64 a0_0) := (an_ BK261.out 0).trans rfl; have hcz24_1 : w23.cell? ⟨gb261, 1, none⟩ = some (.int .i64 a0_1) := (an_ BK261.out 1).trans rfl; have hcz24_2 : w23.cell? ⟨gb261, 2, none⟩ = some (.slice A0_2 l0_2.length c0_2) := (an_ BK261.out 2).trans rfl; have hfz24_0 := am_ BK261.out 0; have hfz24_1 := am_ BK261.out 1; have hfz24_2 := am_ BK261.out 2; have p268 : 0 ≤ (0 : Int) := (by omega); have q268 : 0 < (l0_2.length : Int) := of_decide_eq_true (by first | (with_reducible assumption) | assumption); obtain ⟨ad268, A268_2, c268_2, e268, hx268_0, hx268_1, hx268_2, hl268_2, hi268_2⟩ := at_T62 HR0_2.out 0 p268 q268; cases e268; have qi268 : (0 < l0_2.length) = True := eq_true (by omega); (try rw [show ((0 : Int)).toNat = 0 from rfl] at hx268_0); (try rw [show 0 * 3 = 0 from rfl] at hx268_0); (try rw [Addr.add_zero'] at hx268_0); (try rw [show ((0 : Int)).toNat = 0 from rfl] at hx268_1); (try rw [show 0 * 3 = 0 from rfl] at hx268_1); (try rw [Addr.add_zero'] at hx268_1); (try rw [show ((0 : Int)).toNat = 0 from rfl] at hx268_2); (try rw [show 0 * 3 = 0 from rfl] at hx268_2); (try rw [Addr.add_zero'] at hx268_2); replace hx268_0 := (HB.out.cell (aa_ w _ hx268_0)).trans hx268_0; replace hx268_1 := (HB.out.cell (aa_ w _ hx268_1)).trans hx268_1; replace hx268_2 := (HB.out.cell (aa_ w _ hx268_2)).trans hx268_2; have HR268_2 := ab_ hi268_2; have HC268_2 := ab_ hl268_2; clear hi268_2 hl268_2; replace p268 := eq_true p268; replace q268 := eq_true q268))
            repeat (go_quiet (first | ((with_reducible refine gate_dst (N := 1) rfl ?_); refine box_event ?hg (N := 1) ?hd (cs := #[.int .i64 a0_0, .int .i64 a0_1, .slice A0_2 l0_2.length c0_2]) (t := 62) ?hr ?_; (case hd => rfl); (case hg => rfl); (case hr => first | (go_simp; done) | (go_simp; rfl)); intro gb261 hg w23 hbox hb; have n0_ := ab_ (ap_ (by repeat (first | (with_reducible first | exact HB.out | apply ai_ | apply ag_ | apply ah_) | exact HB.out)) hb); have n1_ := ab_ (hbox); have n2_ := ab_ ((by rw [hg]; exact (below_size (by repeat (first | (with_reducible first | exact HB.out | apply ai_ | apply ag_ | apply ah_) | exact HB.out))) : w.heap.size ≤ gb261)); have n3_ := ab_ ((by rw [hg]; exact (below_size (by repeat (first | (with_reducible first | exact HB.out | apply ai_ | apply ag_ | apply ah_) | exact HB.out))) : w.heap.size ≤ gb261)); clear HB; have HB := n0_; have BK261 := n1_; have GW261 := n2_; have GE261 := n3_; clear n0_ n1_ n2_ n3_; clear hb hbox hg; have hcz24_0 : w23.cell? ⟨gb261, 0, none⟩ = some (.int .i64 a0_0) := (an_ BK261.out 0).trans rfl; have hcz24_1 : w23.cell? ⟨gb261, 1, none⟩ = some (.int .i64 a0_1) := (an_ BK261.out 1).trans rfl; have hcz24_2 : w23.cell? ⟨gb261, 2, none⟩ = some (.slice A0_2 l0_2.length c0_2) := (an_ BK261.out 2).trans rfl; have hfz24_0 := am_ BK261.out 0; have hfz24_1 := am_ BK261.out 1; have hfz24_2 := am_ BK261.out 2; have p268 : 0 ≤ (0 : Int) := (by omega); have q268 : 0 < (l0_2.length : Int) := of_decide_eq_true (by first | (with_reducible assumption) | assumption); obtain ⟨ad268, A268_2, c268_2, e268, hx268_0, hx268_1, hx268_2, hl268_2, hi268_2⟩ := at_T62 HR0_2.out 0 p268 q268; cases e268; have qi268 : (0 < l0_2.length) = True := eq_true (by omega); (try rw [show ((0 : Int)).toNat = 0 from rfl] at hx268_0); (try rw [show 0 * 3 = 0 from rfl] at hx268_0); (try rw [Addr.add_zero'] at hx268_0); (try rw [show ((0 : Int)).toNat = 0 from rfl] at hx268_1); (try rw [show 0 * 3 = 0 from rfl] at hx268_1); (try rw [Addr.add_zero'] at hx268_1); (try rw [show ((0 : Int)).toNat = 0 from rfl] at hx268_2); (try rw [show 0 * 3 = 0 from rfl] at hx268_2); (try rw [Addr.add_zero'] at hx268_2); replace hx268_0 := (HB.out.cell (aa_ w _ hx268_0)).trans hx268_0; replace hx268_1 := (HB.out.cell (aa_ w _ hx268_1)).trans hx268_1; replace hx268_2 := (HB.out.cell (aa_ w _ hx268_2)).trans hx268_2; have HR268_2 := ab_ hi268_2; have HC268_2 := ab_ hl268_2; clear hi268_2 hl268_2; replace p268 := eq_true p268; replace q268 := eq_true q268)); try go_wp2_with (first | ((with_reducible refine gate_dst (N := 1) rfl ?_); refine box_event ?hg (N := 1) ?hd (cs := #[.int .i64 a0_0, .int .i64 a0_1, .slice A0_2 l0_2.length c0_2]) (t := 62) ?hr ?_; (case hd => rfl); (case hg => rfl); (case hr => first | (go_simp; done) | (go_simp; rfl)); intro gb261 hg w23 hbox hb; have n0_ := ab_ (ap_ (by repeat (first | (with_reducible first | exact HB.out | apply ai_ | apply ag_ | apply ah_) | exact HB.out)) hb); have n1_ := ab_ (hbox); have n2_ := ab_ ((by rw [hg]; exact (below_size (by repeat (first | (with_reducible first | exact HB.out | apply ai_ | apply ag_ | apply ah_) | exact HB.out))) : w.heap.size ≤ gb261)); have n3_ := ab_ ((by rw [hg]; exact (below_size (by repeat (first | (with_reducible first | exact HB.out | apply ai_ | apply ag_ | apply ah_) | exact HB.out))) : w.heap.size ≤ gb261)); clear HB; have HB := n0_; have BK261 := n1_; have GW261 := n2_; have GE261 := n3_; clear n0_ n1_ n2_ n3_; clear hb hbox hg; have hcz24_0 : w23.cell? ⟨gb261, 0, none⟩ = some (.int .i64 a0_0) := (an_ BK261.out 0).trans rfl; have hcz24_1 : w23.cell? ⟨gb261, 1, none⟩ = some (.int .i64 a0_1) := (an_ BK261.out 1).trans rfl; have hcz24_2 : w23.cell? ⟨gb261, 2, none⟩ = some (.slice A0_2 l0_2.length c0_2) := (an_ BK261.out 2).trans rfl; have hfz24_0 := am_ BK261.out 0; have hfz24_1 := am_ BK261.out 1; have hfz24_2 := am_ BK261.out 2; have p268 : 0 ≤ (0 : Int) := (by omega); have q268 : 0 < (l0_2.length : Int) := of_decide_eq_true (by first | (with_reducible assumption) | assumption); obtain ⟨ad268, A268_2, c268_2, e268, hx268_0, hx268_1, hx268_2, hl268_2, hi268_2⟩ := at_T62 HR0_2.out 0 p268 q268; cases e268; have qi268 : (0 < l0_2.length) = True := eq_true (by omega); (try rw [show ((0 : Int)).toNat = 0 from rfl] at hx268_0); (try rw [show 0 * 3 = 0 from rfl] at hx268_0); (try rw [Addr.add_zero'] at hx268_0); (try rw [show ((0 : Int)).toNat = 0 from rfl] at hx268_1); (try rw [show 0 * 3 = 0 from rfl] at hx268_1); (try rw [Addr.add_zero'] at hx268_1); (try rw [show ((0 : Int)).toNat = 0 from rfl] at hx268_2); (try rw [show 0 * 3 = 0 from rfl] at hx268_2); (try rw [Addr.add_zero'] at hx268_2); replace hx268_0 := (HB.out.cell (aa_ w _ hx268_0)).trans hx268_0; replace hx268_1 := (HB.out.cell (aa_ w _ hx268_1)).trans hx268_1; replace hx268_2 := (HB.out.cell (aa_ w _ hx268_2)).trans hx268_2; have HR268_2 := ab_ hi268_2; have HC268_2 := ab_ hl268_2; clear hi268_2 hl268_2; replace p268 := eq_true p268; replace q268 := eq_true q268)))
            go_ret
            exact ⟨by first | rfl | (simp [errW_none, errW_some] <;> rfl) | (simp [*, errW_none, errW_some] <;> rfl), by repeat (first | (with_reducible first | exact HB.out | apply ai_ | apply ag_ | apply ah_ | refine af_ ?_ GE261.out) | exact HB.out)⟩
          · rw [if_neg c22] at H
            exact absurd H (by simp)
        · rw [if_neg c21] at H
          have c21b0 : (a0_0 == 6) = false := beq_eq_false_iff_ne.mpr c21
          have c21b1 : (a0_0 != 6) = true := bne_iff_ne.mpr c21
          obtain rfl := Option.some.inj H
          go_enter Try.func96, Try.ntmps96
          go_wp2_with (first | ((with_reducible refine gate_dst (N := 1) rfl ?_); refine box_event ?hg (N := 1) ?hd (cs := #[.int .i64 a0_0, .int .i64 a0_1, .slice A0_2 l0_2.length c0_2]) (t := 62) ?hr ?_; (case hd => rfl); (case hg => rfl); (case hr => first | (go_simp; done) | (go_simp; rfl)); intro gb261 hg w25 hbox hb; have n0_ := ab_ (ap_ (by repeat (first | (with_reducible first | exact HB.out | apply ai_ | apply ag_ | apply ah_) | exact HB.out)) hb); have n1_ := ab_ (hbox); have n2_ := ab_ ((by rw [hg]; exact (below_size (by repeat (first | (with_reducible first | exact HB.out | apply ai_ | apply ag_ | apply ah_) | exact HB.out))) : w.heap.size ≤ gb261)); have n3_ := ab_ ((by rw [hg]; exact (below_size (by repeat (first | (with_reducible first | exact HB.out | apply ai_ | apply ag_ | apply ah_) | exact HB.out))) : w.heap.size ≤ gb261)); clear HB; have HB := n0_; have BK261 := n1_; have GW261 := n2_; have GE261 := n3_; clear n0_ n1_ n2_ n3_; clear hb hbox hg; have hcz26_0 : w25.cell? ⟨gb261, 0, none⟩ = some (.int .i64 a0_0) := (an_ BK261.out 0).trans rfl; have hcz26_1 : w25.cell? ⟨gb261, 1, none⟩ = some (.int .i64 a0_1) := (an_ BK261.out 1).trans rfl; have hcz26_2 : w25.cell? ⟨gb261, 2, none⟩ = some (.slice A0_2 l0_2.length c0_2) := (an_ BK261.out 2).trans rfl; have hfz26_0 := am_ BK261.out 0; have hfz26_1 := am_ BK261.out 1; have hfz26_2 := am_ BK261.out 2))
          repeat (go_quiet (first | ((with_reducible refine gate_dst (N := 1) rfl ?_); refine box_event ?hg (N := 1) ?hd (cs := #[.int .i64 a0_0, .int .i64 a0_1, .slice A0_2 l0_2.length c0_2]) (t := 62) ?hr ?_; (case hd => rfl); (case hg => rfl); (case hr => first | (go_simp; done) | (go_simp; rfl)); intro gb261 hg w25 hbox hb; have n0_ := ab_ (ap_ (by repeat (first | (with_reducible first | exact HB.out | apply ai_ | apply ag_ | apply ah_) | exact HB.out)) hb); have n1_ := ab_ (hbox); have n2_ := ab_ ((by rw [hg]; exact (below_size (by repeat (first | (with_reducible first | exact HB.out | apply ai_ | apply ag_ | apply ah_) | exact HB.out))) : w.heap.size ≤ gb261)); have n3_ := ab_ ((by rw [hg]; exact (below_size (by repeat (first | (with_reducible first | exact HB.out | apply ai_ | apply ag_ | apply ah_) | exact HB.out))) : w.heap.size ≤ gb261)); clear HB; have HB := n0_; have BK261 := n1_; have GW261 := n2_; have GE261 := n3_; clear n0_ n1_ n2_ n3_; clear hb hbox hg; have hcz26_0 : w25.cell? ⟨gb261, 0, none⟩ = some (.int .i64 a0_0) := (an_ BK261.out 0).trans rfl; have hcz26_1 : w25.cell? ⟨gb261, 1, none⟩ = some (.int .i64 a0_1) := (an_ BK261.out 1).trans rfl; have hcz26_2 : w25.cell? ⟨gb261, 2, none⟩ = some (.slice A0_2 l0_2.length c0_2) := (an_ BK261.out 2).trans rfl; have hfz26_0 := am_ BK261.out 0; have hfz26_1 := am_ BK261.out 1; have hfz26_2 := am_ BK261.out 2)); try go_wp2_with (first | ((with_reducible refine gate_dst (N := 1) rfl ?_); refine box_event ?hg (N := 1) ?hd (cs := #[.int .i64 a0_0, .int .i64 a0_1, .slice A0_2 l0_2.length c0_2]) (t := 62) ?hr ?_; (case hd => rfl); (case hg => rfl); (case hr => first | (go_simp; done) | (go_simp; rfl)); intro gb261 hg w25 hbox hb; have n0_ := ab_ (ap_ (by repeat (first | (with_reducible first | exact HB.out | apply ai_ | apply ag_ | apply ah_) | exact HB.out)) hb); have n1_ := ab_ (hbox); have n2_ := ab_ ((by rw [hg]; exact (below_size (by repeat (first | (with_reducible first | exact HB.out | apply ai_ | apply ag_ | apply ah_) | exact HB.out))) : w.heap.size ≤ gb261)); have n3_ := ab_ ((by rw [hg]; exact (below_size (by repeat (first | (with_reducible first | exact HB.out | apply ai_ | apply ag_ | apply ah_) | exact HB.out))) : w.heap.size ≤ gb261)); clear HB; have HB := n0_; have BK261 := n1_; have GW261 := n2_; have GE261 := n3_; clear n0_ n1_ n2_ n3_; clear hb hbox hg; have hcz26_0 : w25.cell? ⟨gb261, 0, none⟩ = some (.int .i64 a0_0) := (an_ BK261.out 0).trans rfl; have hcz26_1 : w25.cell? ⟨gb261, 1, none⟩ = some (.int .i64 a0_1) := (an_ BK261.out 1).trans rfl; have hcz26_2 : w25.cell? ⟨gb261, 2, none⟩ = some (.slice A0_2 l0_2.length c0_2) := (an_ BK261.out 2).trans rfl; have hfz26_0 := am_ BK261.out 0; have hfz26_1 := am_ BK261.out 1; have hfz26_2 := am_ BK261.out 2)))
          go_ret
          exact ⟨by first | rfl | (simp [errW_none, errW_some] <;> rfl) | (simp [*, errW_none, errW_some] <;> rfl), by repeat (first | (with_reducible first | exact HB.out | apply ai_ | apply ag_ | apply ah_ | refine af_ ?_ GE261.out) | exact HB.out)⟩
end Go.Proofs.Ytgoiifpimpnlpaa.PAll

end

section
namespace Go.Proofs.Ytgoiifpimpnlpaa.PAll
open Go.RowKit Go.Proofs.YtgoiifpimpnlpaaW.PrintWords Go.Proofs.YtgoiifpimpnlpaaW.PrintLast Go.Proofs.YtgoiifpimpnlpaaW.PrintMore
set_option linter.unusedVariables false
set_option linter.unusedSimpArgs false
theorem tv_f0 (t : Tm) : (tv t).f0 = t.kd := by cases t; rw [tv_f]; rfl
theorem tv_f1 (t : Tm) : (tv t).f1 = t.nu := by cases t; rw [tv_f]; rfl
theorem redex_eq (k n : Int) (ks : List Tm) (hwf : (Tm.mk k n ks).wf) (hwn : (Tm.mk k n ks).wn) : spec_l4Is.f k n (tvs ks) = some (redexB k ks) := by
  simp only [Tm.wf] at hwf
  simp only [Tm.wn] at hwn
  obtain ⟨hk, hws⟩ := hwf
  have hwns := hwn.2
  unfold spec_l4Is.f redexB
  by_cases h4 : k = 4
  · have hk2 : ks.length = 2 := by rw [h4] at hk; simp [arI] at hk; omega
    have hg : ks[0]? = some ks[0] := by simp [hk2]
    have e := rd62_get ks 0 _ hg
    simp only [Int.cast_ofNat_Int] at e
    rw [if_pos h4, tvs_length, if_pos (by omega), e, tv_f0, if_neg (show ¬ k = 7 by omega), if_pos h4, hg]
    rfl
  · rw [if_neg h4]
    by_cases h7 : k = 7
    · rw [if_pos h7, if_pos h7]
    · rw [if_neg h7, if_neg h7, if_neg h4]
      by_cases h5 : k = 5
      · have hk2 : ks.length = 2 := by rw [h5] at hk; simp [arI] at hk; omega
        match ks, hk2 with
        | [a, b], _ =>
          have ea := rd62_get [a, b] 0 a rfl
          have eb := rd62_get [a, b] 1 b rfl
          simp only [Int.cast_ofNat_Int] at ea eb
          have L : (tvs [a, b]).length = 2 := by rw [tvs_length]; rfl
          rw [if_pos h5, if_neg (show ¬ k = 6 by omega), if_pos h5, ea, eb, L, if_pos (by omega), tv_f0, tv_f0, tv_f1, tv_f1]
          have wa := Tm.wn_nu (wns_get hwns a (by simp))
          have wb := Tm.wn_nu (wns_get hwns b (by simp))
          by_cases ka : a.kd = 2
          · rw [if_pos ka, if_pos (by omega)]
            by_cases kb : b.kd = 2
            · have wa := wa ka
              have wb := wb kb
              rw [if_pos kb, wrap_id (by omega) (by omega), l1In_eq]
              simp [addB, ka, kb]
            · rw [if_neg kb]; simp [addB, kb]
          · rw [if_neg ka]; simp [addB, ka]
      · rw [if_neg h5]
        by_cases h6 : k = 6
        · have hk2 : ks.length = 3 := by rw [h6] at hk; simp [arI] at hk; omega
          have hg : ks[0]? = some ks[0] := by simp [hk2]
          have e := rd62_get ks 0 _ hg
          simp only [Int.cast_ofNat_Int] at e
          rw [if_pos h6, tvs_length, if_pos (by omega), e, tv_f0, if_pos h6, hg]
          rfl
        · rw [if_neg h6, if_neg h6, if_neg h5]
end Go.Proofs.Ytgoiifpimpnlpaa.PAll

end

section
namespace Go.Proofs.Ytgoiifpimpnlpaa.PAll
open Go.RowKit Go.Proofs.YtgoiifpimpnlpaaW.PrintWords Go.Proofs.YtgoiifpimpnlpaaW.PrintLast Go.Proofs.YtgoiifpimpnlpaaW.PrintMore
set_option linter.unusedVariables false
set_option linter.unusedSimpArgs false
def Tm.ks : Tm → List Tm
  | .mk _ _ ks => ks
def kid (ks : List Tm) (i : Nat) : Tm := ks.getD i (tvar 0)
def contrT (k : Int) (ks : List Tm) : Tm := if k = 7 then tsubst 0 (kid ks 0) (kid ks 1) else if k = 4 then tsubst 0 (kid ks 1) (kid (kid ks 0).ks 0) else if k = 5 then .mk 2 ((kid ks 0).nu + (kid ks 1).nu) [] else if (kid ks 0).nu = 0 then kid ks 1 else kid ks 2
theorem kid_get {ks : List Tm} {i : Nat} (h : i < ks.length) : ks[i]? = some (kid ks i) := by
  simp [kid, List.getD_eq_getElem?_getD, h]
theorem kid_mem {ks : List Tm} {i : Nat} (h : i < ks.length) : kid ks i ∈ ks := List.mem_of_getElem? (kid_get h)
set_option maxRecDepth 100000 in
set_option maxHeartbeats 4000000 in
theorem contract_calls (S : Nat → Prop) (B k n : Int) (ks : List Tm) (g : Nat) (w : World) (hr : redexB k ks = true) (hB : B ≤ 1000000000000) (hC : (Tm.mk k n ks).cnt ≤ 1000000000) (hwf : (Tm.mk k n ks).wf) (hwn : (Tm.mk k n ks).wn) (hvb : (Tm.mk k n ks).vb B) (hS : ∀ k, w.heap.size ≤ k → S k) (hT : TAt S w g (.mk k n ks)) :
    Calls Try.prog 109 #[ptr g] w (PPost S (contrT k ks) w) := by
  simp only [Tm.wf] at hwf
  simp only [Tm.wn] at hwn
  rw [vb_mk] at hvb
  rw [cnt_mk] at hC
  obtain ⟨hk, hws⟩ := hwf
  have hwns := hwn.2
  have hvbs := hvb.2
  obtain ⟨A, c, gs, hc, c0, c1, c2, c3, hrow, hl⟩ := hT.cells
  unfold ptr
  clear hT hwn hvb
  by_cases h7 : k = 7
  · subst h7
    have hk2 : ks.length = 2 := by simp [arI] at hk; omega
    have ha := kid_get (ks := ks) (i := 0) (by omega)
    have hb := kid_get (ks := ks) (i := 1) (by omega)
    have ma := kid_mem (ks := ks) (i := 0) (by omega)
    have mb := kid_mem (ks := ks) (i := 1) (by omega)
    obtain ⟨ga, hga, hTa⟩ := LAt.get hl ha
    obtain ⟨gb, hgb, hTb⟩ := LAt.get hl hb
    obtain ⟨ad, rfl, hSa, ca⟩ := hrow 0 ga hga
    obtain ⟨ad', e', hSb, cb⟩ := hrow 1 gb hgb
    obtain rfl : ad = ad' := by injection e'
    have cna := cnt_mem ma
    have cnb := cnt_mem mb
    unfold ptr at ca cb
    rw [show ad.add 0 = ad by simp [Addr.add]] at ca
    have cb : w.cell? ⟨ad.block, ad.off + 1, none⟩ = some (.pointer (some ⟨gb, 0, none⟩)) := cb
    have C := Lib.hid (fun (W : World) (hb2 : Below w.heap.size w W) => subst_calls S B 0 (kid ks 1) (kid ks 0) gb ga W (by omega) (by omega) hB (by omega) (vbs_get hvbs _ mb) (wfs_get hws _ mb) (by omega) (vbs_get hvbs _ ma) (wfs_get hws _ ma) (fun x hx => hS x (by have := hb2.size; omega)) (hTb.below hb2) (hTa.below hb2))
    have e : contrT 7 ks = tsubst 0 (kid ks 0) (kid ks 1) := by simp [contrT]
    rw [e]
    unfold ptr at C
    clear hl hrow hk ha hb hga hgb hTa hTb hSa hSb hws hwns hvbs e' e ma mb cna cnb hr hS hC
    have SS := Lib.hid (show ∀ W : World, Below w.heap.size w W → W.cell? ⟨g, 2, none⟩ = some (.slice (some ad) ks.length c) ∧ W.cell? ad = some (.pointer (some ⟨ga, 0, none⟩)) ∧ W.cell? ⟨ad.block, ad.off + 1, none⟩ = some (.pointer (some ⟨gb, 0, none⟩)) from fun W hW => ⟨(hW.cell (aa_ w _ c2)).trans c2, (hW.cell (aa_ w _ ca)).trans ca, (hW.cell (aa_ w _ cb)).trans cb⟩)
    have S4 := SS.out w.drew (ah_ (aq_ _ _))
    go_enter Try.func109, Try.ntmps109
    go_wp2
    go_region_held3 (fun W => W.cell? ⟨g, 2, none⟩ = some (.slice (some ad) ks.length c) ∧ W.cell? ad = some (.pointer (some ⟨ga, 0, none⟩)) ∧ W.cell? ⟨ad.block, ad.off + 1, none⟩ = some (.pointer (some ⟨gb, 0, none⟩))) (first | (with_reducible exact S4))
      (first
      | (go_at_call 62; (with_reducible refine (C.out _ (by repeat (first | exact aq_ _ _ | apply ag_ | apply ah_))).mono ?_); rintro e w3 hpost; obtain ⟨r, rfl, hr, hb3⟩ := PPost.lower (show Below w.heap.size w _ from by repeat (first | exact aq_ _ _ | apply ag_ | apply ah_)) hpost; have HR := Lib.hid hr; have HB3 := Lib.hid hb3; have S4 := SS.out _ hb3; clear hpost hr hb3; unfold ptr))
    all_goals go_wp2
    all_goals go_ret
    all_goals exact ⟨r, rfl, HR.out, HB3.out⟩
  have b7 : (k == 7) = false := by simp [h7]
  by_cases h4 : k = 4
  · subst h4
    have hk2 : ks.length = 2 := by simp [arI] at hk; omega
    have ha := kid_get (ks := ks) (i := 0) (by omega)
    have hb := kid_get (ks := ks) (i := 1) (by omega)
    have ma := kid_mem (ks := ks) (i := 0) (by omega)
    have mb := kid_mem (ks := ks) (i := 1) (by omega)
    obtain ⟨ga, hga, hTa⟩ := LAt.get hl ha
    obtain ⟨gb, hgb, hTb⟩ := LAt.get hl hb
    obtain ⟨ad, rfl, hSa, ca⟩ := hrow 0 ga hga
    obtain ⟨ad', e', hSb, cb⟩ := hrow 1 gb hgb
    obtain rfl : ad = ad' := by injection e'
    have cna := cnt_mem ma
    have cnb := cnt_mem mb
    have hka : (kid ks 0).kd = 3 := by simp [redexB, ha] at hr; exact hr
    have wfa := wfs_get hws _ ma
    have vba := vbs_get hvbs _ ma
    have e : contrT 4 ks = tsubst 0 (kid ks 1) (kid (kid ks 0).ks 0) := by simp [contrT]
    rw [e]
    obtain ⟨fa, hfa⟩ : ∃ x, x = kid ks 0 := ⟨_, rfl⟩
    rw [← hfa] at hTa hka wfa vba cna ⊢
    cases fa with | mk ka na kas =>
    simp only [Tm.kd] at hka
    subst hka
    simp only [Tm.wf] at wfa
    rw [vb_mk] at vba
    rw [cnt_mk] at cna
    have hk1 : kas.length = 1 := by have := wfa.1; simp [arI] at this; omega
    have hd := kid_get (ks := kas) (i := 0) (by omega)
    have md := kid_mem (ks := kas) (i := 0) (by omega)
    have cnd := cnt_mem md
    obtain ⟨A2, k2, gs2, hk2', d0, d1, d2, d3, hrow2, hl2⟩ := hTa.cells
    obtain ⟨gd, hgd, hTd⟩ := LAt.get hl2 hd
    obtain ⟨ad2, rfl, hSd, cd⟩ := hrow2 0 gd hgd
    unfold ptr at ca cb cd
    rw [show ad.add 0 = ad by simp [Addr.add]] at ca
    rw [show ad2.add 0 = ad2 by simp [Addr.add]] at cd
    have cb : w.cell? ⟨ad.block, ad.off + 1, none⟩ = some (.pointer (some ⟨gb, 0, none⟩)) := cb
    have C := Lib.hid (fun (W : World) (hb2 : Below w.heap.size w W) => subst_calls S B 0 (kid kas 0) (kid ks 1) gd gb W (by omega) (by omega) hB (by omega) (vbs_get vba.2 _ md) (wfs_get wfa.2 _ md) (by omega) (vbs_get hvbs _ mb) (wfs_get hws _ mb) (fun x hx => hS x (by have := hb2.size; omega)) (hTd.below hb2) (hTb.below hb2))
    show Calls Try.prog 109 _ w (PPost S (tsubst 0 (kid ks 1) (kid kas 0)) w)
    unfold ptr at C
    clear hl hrow hk ha hb hga hgb hTa hTb hSa hSb hws hwns hvbs e' e ma mb cna cnb hr hS hC hrow2 hl2 hTd hSd wfa vba hd md cnd hgd hfa
    have SS := Lib.hid (show ∀ W : World, Below w.heap.size w W → W.cell? ⟨g, 2, none⟩ = some (.slice (some ad) ks.length c) ∧ W.cell? ad = some (.pointer (some ⟨ga, 0, none⟩)) ∧ W.cell? ⟨ad.block, ad.off + 1, none⟩ = some (.pointer (some ⟨gb, 0, none⟩)) ∧ W.cell? ⟨ga, 2, none⟩ = some (.slice (some ad2) kas.length k2) ∧ W.cell? ad2 = some (.pointer (some ⟨gd, 0, none⟩)) from fun W hW => ⟨(hW.cell (aa_ w _ c2)).trans c2, (hW.cell (aa_ w _ ca)).trans ca, (hW.cell (aa_ w _ cb)).trans cb, (hW.cell (aa_ w _ d2)).trans d2, (hW.cell (aa_ w _ cd)).trans cd⟩)
    have S4 := SS.out w.drew (ah_ (aq_ _ _))
    go_enter Try.func109, Try.ntmps109
    go_wp2
    go_region_held3 (fun W => W.cell? ⟨g, 2, none⟩ = some (.slice (some ad) ks.length c) ∧ W.cell? ad = some (.pointer (some ⟨ga, 0, none⟩)) ∧ W.cell? ⟨ad.block, ad.off + 1, none⟩ = some (.pointer (some ⟨gb, 0, none⟩)) ∧ W.cell? ⟨ga, 2, none⟩ = some (.slice (some ad2) kas.length k2) ∧ W.cell? ad2 = some (.pointer (some ⟨gd, 0, none⟩))) (first | (with_reducible exact S4))
      (first
      | (go_at_call 62; (with_reducible refine (C.out _ (by repeat (first | exact aq_ _ _ | apply ag_ | apply ah_))).mono ?_); rintro e w3 hpost; obtain ⟨r, rfl, hr, hb3⟩ := PPost.lower (show Below w.heap.size w _ from by repeat (first | exact aq_ _ _ | apply ag_ | apply ah_)) hpost; have HR := Lib.hid hr; have HB3 := Lib.hid hb3; have S4 := SS.out _ hb3; clear hpost hr hb3; unfold ptr))
    all_goals go_wp2
    all_goals go_ret
    all_goals exact ⟨r, rfl, HR.out, HB3.out⟩
  have b4 : (k == 4) = false := by simp [h4]
  by_cases h5 : k = 5
  · subst h5
    have hk2 : ks.length = 2 := by simp [arI] at hk; omega
    have ha := kid_get (ks := ks) (i := 0) (by omega)
    have hb := kid_get (ks := ks) (i := 1) (by omega)
    have ma := kid_mem (ks := ks) (i := 0) (by omega)
    have mb := kid_mem (ks := ks) (i := 1) (by omega)
    obtain ⟨ga, hga, hTa⟩ := LAt.get hl ha
    obtain ⟨gb, hgb, hTb⟩ := LAt.get hl hb
    obtain ⟨ad, rfl, hSa, ca⟩ := hrow 0 ga hga
    obtain ⟨ad', e', hSb, cb⟩ := hrow 1 gb hgb
    obtain rfl : ad = ad' := by injection e'
    have hadd : addB (kid ks 0) (kid ks 1) = true := by simpa [redexB, ha, hb] using hr
    have hsum : -1000000 ≤ (kid ks 0).nu + (kid ks 1).nu ∧ (kid ks 0).nu + (kid ks 1).nu ≤ 1000000 := by
      simp only [addB, Bool.and_eq_true, decide_eq_true_eq] at hadd
      exact hadd.2.2
    have ena := hTa.nu_cell
    have enb := hTb.nu_cell
    have e : contrT 5 ks = .mk 2 ((kid ks 0).nu + (kid ks 1).nu) [] := by simp [contrT]
    rw [e]
    obtain ⟨x, hx⟩ : ∃ x, x = (kid ks 0).nu := ⟨_, rfl⟩
    obtain ⟨y, hy⟩ : ∃ y, y = (kid ks 1).nu := ⟨_, rfl⟩
    rw [← hx] at ena hsum ⊢
    rw [← hy] at enb hsum ⊢
    have hwr : IntKind.i64.wrap (x + y) = x + y := by rw [IntKind.wrap_i64]; omega
    unfold ptr at ca cb
    rw [show ad.add 0 = ad by simp [Addr.add]] at ca
    have cb : w.cell? ⟨ad.block, ad.off + 1, none⟩ = some (.pointer (some ⟨gb, 0, none⟩)) := cb
    have N := Lib.hid (fun (W' : World) (hb2 : Below w.heap.size w W') => newLeaf_calls S 2 (x + y) W' (fun x hx => hS x (by have := hb2.size; omega)))
    clear hl hrow hk ha hb hga hgb hTa hTb hSa hSb hws hwns hvbs e' e ma mb hr hS hC hadd hx hy
    have SS := Lib.hid (show ∀ W : World, Below w.heap.size w W → W.cell? ⟨g, 2, none⟩ = some (.slice (some ad) ks.length c) ∧ W.cell? ad = some (.pointer (some ⟨ga, 0, none⟩)) ∧ W.cell? ⟨ad.block, ad.off + 1, none⟩ = some (.pointer (some ⟨gb, 0, none⟩)) ∧ W.cell? ⟨ga, 1, none⟩ = some (.int .i64 x) ∧ W.cell? ⟨gb, 1, none⟩ = some (.int .i64 y) from fun W hW => ⟨(hW.cell (aa_ w _ c2)).trans c2, (hW.cell (aa_ w _ ca)).trans ca, (hW.cell (aa_ w _ cb)).trans cb, (hW.cell (aa_ w _ ena)).trans ena, (hW.cell (aa_ w _ enb)).trans enb⟩)
    have S4 := SS.out w.drew (ah_ (aq_ _ _))
    go_enter Try.func109, Try.ntmps109
    go_wp2
    go_region_held3 (fun W => W.cell? ⟨g, 2, none⟩ = some (.slice (some ad) ks.length c) ∧ W.cell? ad = some (.pointer (some ⟨ga, 0, none⟩)) ∧ W.cell? ⟨ad.block, ad.off + 1, none⟩ = some (.pointer (some ⟨gb, 0, none⟩)) ∧ W.cell? ⟨ga, 1, none⟩ = some (.int .i64 x) ∧ W.cell? ⟨gb, 1, none⟩ = some (.int .i64 y)) (first | (with_reducible exact S4))
      (first
      | (go_at_call 93; (try rw [hwr]); (with_reducible refine (N.out _ (by repeat (first | exact aq_ _ _ | apply ag_ | apply ah_))).mono ?_); rintro e w3 hpost; obtain ⟨r, rfl, hr, hb3⟩ := PPost.lower (show Below w.heap.size w _ from by repeat (first | exact aq_ _ _ | apply ag_ | apply ah_)) hpost; have HR := Lib.hid hr; have HB3 := Lib.hid hb3; have S4 := SS.out _ hb3; clear hpost hr hb3; unfold ptr))
    all_goals go_wp2
    all_goals go_ret
    all_goals exact ⟨r, rfl, HR.out, HB3.out⟩
  have b5 : (k == 5) = false := by simp [h5]
  have h6 : k = 6 := by
    simp only [redexB] at hr
    rw [if_neg h7, if_neg h4] at hr
    by_cases h6 : k = 6
    · exact h6
    · rw [if_neg h6, if_neg h5] at hr; cases hr
  subst h6
  have hk2 : ks.length = 3 := by simp [arI] at hk; omega
  have ha := kid_get (ks := ks) (i := 0) (by omega)
  obtain ⟨ga, hga, hTa⟩ := LAt.get hl ha
  obtain ⟨ad, rfl, hSa, ca⟩ := hrow 0 ga hga
  have ena := hTa.nu_cell
  have e : contrT 6 ks = if (kid ks 0).nu = 0 then kid ks 1 else kid ks 2 := by simp [contrT]
  rw [e]
  obtain ⟨x, hx⟩ : ∃ x, x = (kid ks 0).nu := ⟨_, rfl⟩
  rw [← hx] at ena ⊢
  unfold ptr at ca
  rw [show ad.add 0 = ad by simp [Addr.add]] at ca
  by_cases hz : x = 0
  · subst hz
    rw [if_pos rfl]
    have hb := kid_get (ks := ks) (i := 1) (by omega)
    obtain ⟨gb, hgb, hTb⟩ := LAt.get hl hb
    obtain ⟨ad', e', hSb, cb⟩ := hrow 1 gb hgb
    obtain rfl : ad = ad' := by injection e'
    unfold ptr at cb
    have cb : w.cell? ⟨ad.block, ad.off + 1, none⟩ = some (.pointer (some ⟨gb, 0, none⟩)) := cb
    have HT := Lib.hid hTb
    clear hl hrow hk ha hb hga hgb hTa hTb hSa hSb hws hwns hvbs e' e hr hS hC hx
    go_enter Try.func109, Try.ntmps109
    go_wp2
    go_ret
    exact ⟨gb, rfl, HT.out, aq_ _ _⟩
  · rw [if_neg hz]
    have hb := kid_get (ks := ks) (i := 2) (by omega)
    obtain ⟨gb, hgb, hTb⟩ := LAt.get hl hb
    obtain ⟨ad', e', hSb, cb⟩ := hrow 2 gb hgb
    obtain rfl : ad = ad' := by injection e'
    have bz : (x == 0) = false := by rw [beq_eq_false_iff_ne]; exact hz
    unfold ptr at cb
    have cb : w.cell? ⟨ad.block, ad.off + 2, none⟩ = some (.pointer (some ⟨gb, 0, none⟩)) := cb
    have HT := Lib.hid hTb
    clear hl hrow hk ha hb hga hgb hTa hTb hSa hSb hws hwns hvbs e' e hr hS hC hx hz
    go_enter Try.func109, Try.ntmps109
    go_wp2
    go_ret
    exact ⟨gb, rfl, HT.out, aq_ _ _⟩
theorem contr_all {B : Int} {k n : Int} {ks : List Tm} (hr : redexB k ks = true) (hB : 0 ≤ B) (hwf : (Tm.mk k n ks).wf) (hwn : (Tm.mk k n ks).wn) (hvb : (Tm.mk k n ks).vb B) : (contrT k ks).vb (B + (Tm.mk k n ks).cnt) ∧ (contrT k ks).wf ∧ (contrT k ks).wn := by
  simp only [Tm.wf] at hwf
  simp only [Tm.wn] at hwn
  rw [vb_mk] at hvb
  rw [cnt_mk]
  obtain ⟨hk, hws⟩ := hwf
  have hwns := hwn.2
  have hvbs := hvb.2
  unfold contrT
  by_cases h7 : k = 7
  · rw [if_pos h7]
    subst h7
    have hk2 : ks.length = 2 := by simp [arI] at hk; omega
    have ma := kid_mem (ks := ks) (i := 0) (by omega)
    have mb := kid_mem (ks := ks) (i := 1) (by omega)
    have cnb := cnt_mem mb
    obtain ⟨a1, a2, a3⟩ := subst_all (C := B) (k := 0) (kid ks 0) (kid ks 1) (vbs_get hvbs _ ma) (wfs_get hws _ ma) (wns_get hwns _ ma) (vbs_get hvbs _ mb) (wfs_get hws _ mb) (wns_get hwns _ mb) (by omega)
    exact ⟨vb_mono (by omega) _ a1, a2, a3⟩
  rw [if_neg h7]
  by_cases h4 : k = 4
  · rw [if_pos h4]
    subst h4
    have hk2 : ks.length = 2 := by simp [arI] at hk; omega
    have ma := kid_mem (ks := ks) (i := 0) (by omega)
    have mb := kid_mem (ks := ks) (i := 1) (by omega)
    have ha := kid_get (ks := ks) (i := 0) (by omega)
    have hka : (kid ks 0).kd = 3 := by simp [redexB, ha] at hr; exact hr
    have wfa := wfs_get hws _ ma
    have vba := vbs_get hvbs _ ma
    have wna := wns_get hwns _ ma
    have cna := cnt_mem ma
    obtain ⟨fa, hfa⟩ : ∃ x, x = kid ks 0 := ⟨_, rfl⟩
    rw [← hfa] at hka wfa vba wna cna ⊢
    cases fa with | mk ka na kas =>
    simp only [Tm.kd] at hka
    subst hka
    simp only [Tm.wf] at wfa
    simp only [Tm.wn] at wna
    rw [vb_mk] at vba
    rw [cnt_mk] at cna
    have hk1 : kas.length = 1 := by have := wfa.1; simp [arI] at this; omega
    have md := kid_mem (ks := kas) (i := 0) (by omega)
    have cnd := cnt_mem md
    obtain ⟨a1, a2, a3⟩ := subst_all (C := B) (k := 0) (kid ks 1) (kid kas 0) (vbs_get hvbs _ mb) (wfs_get hws _ mb) (wns_get hwns _ mb) (vbs_get vba.2 _ md) (wfs_get wfa.2 _ md) (wns_get wna.2 _ md) (by omega)
    exact ⟨vb_mono (by omega) _ a1, a2, a3⟩
  rw [if_neg h4]
  by_cases h5 : k = 5
  · rw [if_pos h5]
    subst h5
    have hk2 : ks.length = 2 := by simp [arI] at hk; omega
    have ha := kid_get (ks := ks) (i := 0) (by omega)
    have hb := kid_get (ks := ks) (i := 1) (by omega)
    have hadd : addB (kid ks 0) (kid ks 1) = true := by simpa [redexB, ha, hb] using hr
    have hsum : -1000000 ≤ (kid ks 0).nu + (kid ks 1).nu ∧ (kid ks 0).nu + (kid ks 1).nu ≤ 1000000 := by
      simp only [addB, Bool.and_eq_true, decide_eq_true_eq] at hadd
      exact hadd.2.2
    refine ⟨?_, ?_, ?_⟩
    · simp [Tm.vb, vbs]
    · simp [Tm.wf, wfs, arI]
    · simp only [Tm.wn, wns]; exact ⟨fun _ => hsum, trivial⟩
  rw [if_neg h5]
  have h6 : k = 6 := by
    simp only [redexB] at hr
    rw [if_neg h7, if_neg h4] at hr
    by_cases h6 : k = 6
    · exact h6
    · rw [if_neg h6, if_neg h5] at hr; cases hr
  subst h6
  have hk2 : ks.length = 3 := by simp [arI] at hk; omega
  split
  · have mb := kid_mem (ks := ks) (i := 1) (by omega)
    exact ⟨vb_mono (by omega) _ (vbs_get hvbs _ mb), wfs_get hws _ mb, wns_get hwns _ mb⟩
  · have mb := kid_mem (ks := ks) (i := 2) (by omega)
    exact ⟨vb_mono (by omega) _ (vbs_get hvbs _ mb), wfs_get hws _ mb, wns_get hwns _ mb⟩
end Go.Proofs.Ytgoiifpimpnlpaa.PAll

end
