-- Made by pack.py of the texts that the law reaches.
import Derived.Test.YtjnaokdncemggaaV2
section
namespace Go.Proofs.Ytjnaokdncemggaa.PAll
open Go.RowKit Go.Proofs.YtjnaokdncemggaaW.PrintWords Go.Proofs.YtjnaokdncemggaaW.PrintLast Go.Proofs.YtjnaokdncemggaaW.PrintMore
attribute [local go_sem] max2_int min2_int max_two min_two max_three min_three max_four min_four   -- for this text's walks alone
set_option linter.unusedVariables false
set_option linter.unusedSimpArgs false
mutual
def impl_AfterBoth.j0 : Nat → Bool → Int → List (S82) → Int → List (S82) → Option (Int × (List (S82)) × Bool)
  | 0, _, _, _, _, _ => none
  | k + 1, x16, x242000, x242001, x243000, x243001 => if x16 = true then (some (0, ([] : List (S82)), false)) else (impl_AfterBoth.l0 k x243001 (x243001.length : Int) 0 x242000 x242001 (Int.tmod (wrap64 (x242000 + x243000)) 100) ([] : List (S82)))
def impl_AfterBoth.l0 : Nat → List (S82) → Int → Int → Int → List (S82) → Int → List (S82) → Option (Int × (List (S82)) × Bool)
  | 0, _, _, _, _, _, _, _ => none
  | k + 1, x26, x27, x28, x242000, x242001, x247000, x247001 => if x28 < x27 then (if 0 ≤ x28 then (if x28 < (x26.length : Int) then (if ((rd_T82 x26 x28).f0) = 3 then (some (0, ([] : List (S82)), false)) else (if ((rd_T82 x26 x28).f0) = 5 then (if x28 < (x242001.length : Int) then (if x247001.length < 8796093022208 then (impl_AfterBoth.l0 k x26 x27 (wrap64 (x28 + 1)) x242000 x242001 x247000 (x247001 ++ [(⟨(rd_T82 x242001 x28).f0, (rd_T82 x242001 x28).f1⟩ : S82)])) else (none)) else (none)) else (if ((rd_T82 x26 x28).f0) = 4 then (if x247001.length < 8796093022208 then (impl_AfterBoth.l0 k x26 x27 (wrap64 (x28 + 1)) x242000 x242001 x247000 (x247001 ++ [(⟨(rd_T82 x26 x28).f0, Int.tmod (wrap64 (((rd_T82 x26 x28).f1) + x242000)) 100⟩ : S82)])) else (none)) else (if x247001.length < 8796093022208 then (impl_AfterBoth.l0 k x26 x27 (wrap64 (x28 + 1)) x242000 x242001 x247000 (x247001 ++ [(⟨(rd_T82 x26 x28).f0, (rd_T82 x26 x28).f1⟩ : S82)])) else (none))))) else (none)) else (none)) else (some (x247000, x247001, true))
end
def impl_AfterBoth.f (k : Nat) (a0_0 : Int) (l0_1 : List (S82)) (a1_0 : Int) (l1_1 : List (S82)) : Option (Int × (List (S82)) × Bool) := (impl_GoodHandler.f k a0_0 l0_1).bind fun t244 => (if t244 = true then ((impl_GoodHandler.f k a1_0 l1_1).bind fun t245 => (impl_AfterBoth.j0 k (!t245) a0_0 l0_1 a1_0 l1_1)) else (impl_AfterBoth.j0 k true a0_0 l0_1 a1_0 l1_1))
set_option maxHeartbeats 8000000 in
set_option maxRecDepth 100000 in
theorem impl_AfterBoth.calls (k : Nat) (a0_0 : Int) (A0_1 : Option Addr) (c0_1 : Nat) (l0_1 : List (S82)) (a1_0 : Int) (A1_1 : Option Addr) (c1_1 : Nat) (l1_1 : List (S82)) (r1 : Int) (r2 : List (S82)) (r3 : Bool) (w : World) (hr0_1 : Kd.C k82 w A0_1 l0_1.length l0_1) (hc0_1 : l0_1.length ≤ c0_1) (hr1_1 : Kd.C k82 w A1_1 l1_1.length l1_1) (hc1_1 : l1_1.length ≤ c1_1) (h : impl_AfterBoth.f k a0_0 l0_1 a1_0 l1_1 = some (r1, r2, r3)) :
    Calls Try.prog 24 #[.agg #[.int .i64 a0_0, .slice A0_1 l0_1.length c0_1], .agg #[.int .i64 a1_0, .slice A1_1 l1_1.length c1_1]] w fun e w' => ∃ v1_ : Value, e = .returned (.tuple #[.agg #[.int .i64 r1, v1_], .bool r3]) ∧ Kd.R k82 82 w' w.heap.size (fun _ => True) v1_ r2 ∧ Below w.heap.size w w' := by
  have hu29 := Try.underlying29
  have hu82 := Try.underlying82
  have HR0_1 := ab_ hr0_1
  have HC0_1 := ab_ hc0_1
  clear hr0_1 hc0_1
  have HR1_1 := ab_ hr1_1
  have HC1_1 := ab_ hc1_1
  clear hr1_1 hc1_1
  have HB := ab_ (Below.refl w.heap.size w)
  have H : ((impl_GoodHandler.f k a0_0 l0_1).bind fun t244 => (if t244 = true then ((impl_GoodHandler.f k a1_0 l1_1).bind fun t245 => (impl_AfterBoth.j0 k (!t245) a0_0 l0_1 a1_0 l1_1)) else (impl_AfterBoth.j0 k true a0_0 l0_1 a1_0 l1_1))) = some (r1, r2, r3) := h
  clear h
  have HC3 := ab_ H
  clear H
  go_enter Try.func24, Try.ntmps24
  go_upto_region 1 with (first | ((with_reducible refine gate_dst (N := 2) rfl ?_); refine box_event ?hg (N := 2) ?hd (cs := #[.int .i64 a0_0, .slice A0_1 l0_1.length c0_1]) (t := 29) ?hr ?_; (case hd => rfl); (case hg => rfl); (case hr => first | (go_simp; done) | (go_simp; rfl)); intro gb241 hg w4 hbox hb; have n0_ := ab_ (ar_ (by repeat (first | (with_reducible first | exact HB.out | apply ai_ | apply ag_ | apply ah_) | exact HB.out)) hb); have n1_ := ab_ (hbox); have n2_ := ab_ ((by rw [hg]; exact (at_ (by repeat (first | (with_reducible first | exact HB.out | apply ai_ | apply ag_ | apply ah_) | exact HB.out))) : w.heap.size ≤ gb241)); have n3_ := ab_ ((by rw [hg]; exact (at_ (by repeat (first | (with_reducible first | exact HB.out | apply ai_ | apply ag_ | apply ah_) | exact HB.out))) : w.heap.size ≤ gb241)); clear HB; have HB := n0_; have BK241 := n1_; have GW241 := n2_; have GE241 := n3_; clear n0_ n1_ n2_ n3_; clear hb hbox hg) | ((with_reducible refine gate_dst (N := 3) rfl ?_); refine box_event ?hg (N := 3) ?hd (cs := #[.int .i64 a1_0, .slice A1_1 l1_1.length c1_1]) (t := 29) ?hr ?_; (case hd => rfl); (case hg => rfl); (case hr => first | (go_simp; done) | (go_simp; rfl)); intro gb242 hg w5 hbox hb; have n0_ := ab_ (as_ (g := gb241) (o := .cells #[.int .i64 a0_0, .slice A0_1 l0_1.length c0_1] 29 (0, 0)) (by (with_reducible repeat (first | refine ac_ ?_ _ | refine ae_ ?_ | refine ad_ ?_ _)); exact BK241.out) hb); have n1_ := ab_ (ar_ (by repeat (first | (with_reducible first | exact HB.out | apply ai_ | apply ag_ | apply ah_ | refine af_ ?_ GE241.out) | exact HB.out)) hb); have n2_ := ab_ (hbox); have n3_ := ab_ ((by rw [hg]; exact (at_ (by repeat (first | (with_reducible first | exact HB.out | apply ai_ | apply ag_ | apply ah_ | refine af_ ?_ GE241.out) | exact HB.out))) : w.heap.size ≤ gb242)); have n4_ := ab_ ((by rw [hg]; exact (at_ (by repeat (first | (with_reducible first | exact HB.out | apply ai_ | apply ag_ | apply ah_ | refine af_ ?_ GE241.out) | exact HB.out))) : w.heap.size ≤ gb242)); have n5_ := ab_ ((by rw [hg]; exact aj_ (au_ (g := gb241) (o := .cells #[.int .i64 a0_0, .slice A0_1 l0_1.length c0_1] 29 (0, 0)) (by (with_reducible repeat (first | refine ac_ ?_ _ | refine ae_ ?_ | refine ad_ ?_ _)); exact BK241.out)) : gb241 ≠ gb242)); have n6_ := ab_ ((by rw [hg]; exact az_ (au_ (g := gb241) (o := .cells #[.int .i64 a0_0, .slice A0_1 l0_1.length c0_1] 29 (0, 0)) (by (with_reducible repeat (first | refine ac_ ?_ _ | refine ae_ ?_ | refine ad_ ?_ _)); exact BK241.out)) : gb242 ≠ gb241)); clear BK241; clear HB; have BK241 := n0_; have HB := n1_; have BK242 := n2_; have GW242 := n3_; have GE242 := n4_; have NB241_242 := n5_; have NB242_241 := n6_; clear n0_ n1_ n2_ n3_ n4_ n5_ n6_; clear hb hbox hg) | ((with_reducible refine gate_dst (N := 4) rfl ?_); refine box_event ?hg (N := 4) ?hd (cs := #[.int .i64 0, .slice none 0 0]) (t := 29) ?hr ?_; (case hd => rfl); (case hg => rfl); (case hr => first | (go_simp; done) | (go_simp; rfl)); intro gb243 hg w6 hbox hb; have n0_ := ab_ (as_ (g := gb241) (o := .cells #[.int .i64 a0_0, .slice A0_1 l0_1.length c0_1] 29 (0, 0)) (by (with_reducible repeat (first | refine ac_ ?_ _ | refine ae_ ?_ | refine ad_ ?_ _)); exact BK241.out) hb); have n1_ := ab_ (as_ (g := gb242) (o := .cells #[.int .i64 a1_0, .slice A1_1 l1_1.length c1_1] 29 (0, 0)) (by (with_reducible repeat (first | refine ac_ ?_ _ | refine ae_ ?_ | refine ad_ ?_ _)); exact BK242.out) hb); have n2_ := ab_ (ar_ (by repeat (first | (with_reducible first | exact HB.out | apply ai_ | apply ag_ | apply ah_ | refine af_ ?_ GE241.out | refine af_ ?_ GE242.out) | exact HB.out)) hb); have n3_ := ab_ (hbox); have n4_ := ab_ ((by rw [hg]; exact (at_ (by repeat (first | (with_reducible first | exact HB.out | apply ai_ | apply ag_ | apply ah_ | refine af_ ?_ GE241.out | refine af_ ?_ GE242.out) | exact HB.out))) : w.heap.size ≤ gb243)); have n5_ := ab_ ((by rw [hg]; exact (at_ (by repeat (first | (with_reducible first | exact HB.out | apply ai_ | apply ag_ | apply ah_ | refine af_ ?_ GE241.out | refine af_ ?_ GE242.out) | exact HB.out))) : w.heap.size ≤ gb243)); have n6_ := ab_ ((by rw [hg]; exact aj_ (au_ (g := gb241) (o := .cells #[.int .i64 a0_0, .slice A0_1 l0_1.length c0_1] 29 (0, 0)) (by (with_reducible repeat (first | refine ac_ ?_ _ | refine ae_ ?_ | refine ad_ ?_ _)); exact BK241.out)) : gb241 ≠ gb243)); have n7_ := ab_ ((by rw [hg]; exact az_ (au_ (g := gb241) (o := .cells #[.int .i64 a0_0, .slice A0_1 l0_1.length c0_1] 29 (0, 0)) (by (with_reducible repeat (first | refine ac_ ?_ _ | refine ae_ ?_ | refine ad_ ?_ _)); exact BK241.out)) : gb243 ≠ gb241)); have n8_ := ab_ ((by rw [hg]; exact aj_ (au_ (g := gb242) (o := .cells #[.int .i64 a1_0, .slice A1_1 l1_1.length c1_1] 29 (0, 0)) (by (with_reducible repeat (first | refine ac_ ?_ _ | refine ae_ ?_ | refine ad_ ?_ _)); exact BK242.out)) : gb242 ≠ gb243)); have n9_ := ab_ ((by rw [hg]; exact az_ (au_ (g := gb242) (o := .cells #[.int .i64 a1_0, .slice A1_1 l1_1.length c1_1] 29 (0, 0)) (by (with_reducible repeat (first | refine ac_ ?_ _ | refine ae_ ?_ | refine ad_ ?_ _)); exact BK242.out)) : gb243 ≠ gb242)); clear BK241; clear BK242; clear HB; have BK241 := n0_; have BK242 := n1_; have HB := n2_; have BK243 := n3_; have GW243 := n4_; have GE243 := n5_; have NB241_243 := n6_; have NB243_241 := n7_; have NB242_243 := n8_; have NB243_242 := n9_; clear n0_ n1_ n2_ n3_ n4_ n5_ n6_ n7_ n8_ n9_; clear hb hbox hg))
  (try simp only [Act.put, List.setIfInBounds_toArray, List.set_cons_zero, List.set_cons_succ])
  go_cut [16] (fun v16 wc => ∃ (kq : Nat) (x16_2 : Bool), v16 = .bool x16_2 ∧ Aside0 (impl_AfterBoth.j0 kq x16_2 a0_0 l0_1 a1_0 l1_1 = some (r1, r2, r3)) ∧ Aside0 (kq ≤ k) ∧ Aside0 (wc.heap[gb241]? = some (.cells #[.int .i64 a0_0, (.slice A0_1 l0_1.length c0_1)] 29 (0, 0))) ∧ Aside0 (wc.heap[gb242]? = some (.cells #[.int .i64 a1_0, (.slice A1_1 l1_1.length c1_1)] 29 (0, 0))) ∧ Aside0 (wc.heap[gb243]? = some (.cells #[.int .i64 0, (.slice none 0 0)] 29 (0, 0))) ∧ Aside0 (Below w.heap.size w wc))
  case first =>
    have H := HC3.out
    clear HC3
    replace H := Option.bind_eq_some_iff.mp H
    obtain ⟨t244, A70, H⟩ := H
    replace H : (if t244 = true then ((impl_GoodHandler.f k a1_0 l1_1).bind fun t245 => (impl_AfterBoth.j0 k (!t245) a0_0 l0_1 a1_0 l1_1)) else (impl_AfterBoth.j0 k true a0_0 l0_1 a1_0 l1_1)) = some (r1, r2, r3) := H
    have A7 := ab_ A70
    clear A70
    by_cases c8 : t244 = true
    · subst c8
      have H1 : ((impl_GoodHandler.f k a1_0 l1_1).bind fun t245 => (impl_AfterBoth.j0 k (!t245) a0_0 l0_1 a1_0 l1_1)) = some (r1, r2, r3) := by rw [if_pos rfl] at H; exact H
      clear H
      have H := H1
      clear H1
      replace H := Option.bind_eq_some_iff.mp H
      obtain ⟨t245, A90, H⟩ := H
      replace H : (impl_AfterBoth.j0 k (!t245) a0_0 l0_1 a1_0 l1_1) = some (r1, r2, r3) := H
      have A9 := ab_ A90
      clear A90
      have H' := ab_ H
      clear H
      have hnb10 := NB241_242.out
      have hnc10 := NB242_241.out
      have hnb11 := NB241_243.out
      have hnc11 := NB243_241.out
      have hcz12_0 : w6.cell? ⟨gb241, 0, none⟩ = some (.int .i64 a0_0) := (al_ BK241.out 0).trans rfl
      have hcz12_1 : w6.cell? ⟨gb241, 1, none⟩ = some (.slice A0_1 l0_1.length c0_1) := (al_ BK241.out 1).trans rfl
      have hfz12_0 := ak_ BK241.out 0
      have hfz12_1 := ak_ BK241.out 1
      go_wp2_with (first | ((with_reducible refine gate_callee (f := 16) rfl ?_); refine goesL_ (some 10) rfl rfl Try.func16 (by kernel_rfl) rfl #[.agg #[.int .i64 a0_0, .slice A0_1 l0_1.length c0_1]] rfl (by (try simp only [List.map_toArray, List.map_cons, List.map_nil]); first | done | rfl | (simp only [List.length_drop, List.length_take]; rfl)) ?_; (with_reducible refine (impl_GoodHandler.calls k a0_0 _ _ l0_1 true _ ?side1 ?side2 A7.out).mono ?_); (case side1 => repeat (first | exact (Kd.C_below HR0_1.out HB.out) | (with_reducible refine Kd.C_alloc ?_ _) | (with_reducible refine Kd.C_drewN ?_ _) | (with_reducible refine Kd.C_drew ?_))); (case side2 => exact HC0_1.out); rintro e w13 ⟨rfl, hb⟩; refine ⟨_, rfl, ?_⟩; have n0_ := ab_ (as_ (g := gb241) (o := .cells #[.int .i64 a0_0, .slice A0_1 l0_1.length c0_1] 29 (0, 0)) (by (with_reducible repeat (first | refine ac_ ?_ _ | refine ae_ ?_ | refine ad_ ?_ _)); exact BK241.out) hb); have n1_ := ab_ (as_ (g := gb242) (o := .cells #[.int .i64 a1_0, .slice A1_1 l1_1.length c1_1] 29 (0, 0)) (by (with_reducible repeat (first | refine ac_ ?_ _ | refine ae_ ?_ | refine ad_ ?_ _)); exact BK242.out) hb); have n2_ := ab_ (as_ (g := gb243) (o := .cells #[.int .i64 0, .slice none 0 0] 29 (0, 0)) (by (with_reducible repeat (first | refine ac_ ?_ _ | refine ae_ ?_ | refine ad_ ?_ _)); exact BK243.out) hb); have n3_ := ab_ (ar_ (by repeat (first | (with_reducible first | exact HB.out | apply ai_ | apply ag_ | apply ah_ | refine af_ ?_ GE241.out | refine af_ ?_ GE242.out | refine af_ ?_ GE243.out) | exact HB.out)) hb); clear BK241; clear BK242; clear BK243; clear HB; have BK241 := n0_; have BK242 := n1_; have BK243 := n2_; have HB := n3_; clear n0_ n1_ n2_ n3_; (try clear hb); (try clear hb2); (try clear hk); (try clear hi); have hnb14 := NB242_243.out; have hnc14 := NB243_242.out; have hcz15_0 : w13.cell? ⟨gb242, 0, none⟩ = some (.int .i64 a1_0) := (al_ BK242.out 0).trans rfl; have hcz15_1 : w13.cell? ⟨gb242, 1, none⟩ = some (.slice A1_1 l1_1.length c1_1) := (al_ BK242.out 1).trans rfl; have hfz15_0 := ak_ BK242.out 0; have hfz15_1 := ak_ BK242.out 1) | (go_at_call 16; (with_reducible refine (impl_GoodHandler.calls k a1_0 _ _ l1_1 t245 _ ?side1 ?side2 A9.out).mono ?_); (case side1 => repeat (first | exact (Kd.C_below HR1_1.out HB.out) | (with_reducible refine Kd.C_alloc ?_ _) | (with_reducible refine Kd.C_drewN ?_ _) | (with_reducible refine Kd.C_drew ?_))); (case side2 => exact HC1_1.out); rintro e w16 ⟨rfl, hb⟩; have n0_ := ab_ (as_ (g := gb241) (o := .cells #[.int .i64 a0_0, .slice A0_1 l0_1.length c0_1] 29 (0, 0)) (by (with_reducible repeat (first | refine ac_ ?_ _ | refine ae_ ?_ | refine ad_ ?_ _)); exact BK241.out) hb); have n1_ := ab_ (as_ (g := gb242) (o := .cells #[.int .i64 a1_0, .slice A1_1 l1_1.length c1_1] 29 (0, 0)) (by (with_reducible repeat (first | refine ac_ ?_ _ | refine ae_ ?_ | refine ad_ ?_ _)); exact BK242.out) hb); have n2_ := ab_ (as_ (g := gb243) (o := .cells #[.int .i64 0, .slice none 0 0] 29 (0, 0)) (by (with_reducible repeat (first | refine ac_ ?_ _ | refine ae_ ?_ | refine ad_ ?_ _)); exact BK243.out) hb); have n3_ := ab_ (ar_ (by repeat (first | (with_reducible first | exact HB.out | apply ai_ | apply ag_ | apply ah_ | refine af_ ?_ GE241.out | refine af_ ?_ GE242.out | refine af_ ?_ GE243.out) | exact HB.out)) hb); clear BK241; clear BK242; clear BK243; clear HB; have BK241 := n0_; have BK242 := n1_; have BK243 := n2_; have HB := n3_; clear n0_ n1_ n2_ n3_; (try clear hb); (try clear hb2); (try clear hk); (try clear hi)))
      go_meet
      case rel => exact ⟨_, (!t245), (by first | rfl | (simp; done) | (simp [*]; done)), H', ⟨by first | omega | exact Nat.le_refl _⟩, ⟨by (with_reducible repeat (first | refine ac_ ?_ _ | refine ae_ ?_ | refine ad_ ?_ _)); exact BK241.out⟩, ⟨by (with_reducible repeat (first | refine ac_ ?_ _ | refine ae_ ?_ | refine ad_ ?_ _)); exact BK242.out⟩, ⟨by (with_reducible repeat (first | refine ac_ ?_ _ | refine ae_ ?_ | refine ad_ ?_ _)); exact BK243.out⟩, ⟨by repeat (first | (with_reducible first | exact HB.out | apply ai_ | apply ag_ | apply ah_ | refine af_ ?_ GE241.out | refine af_ ?_ GE242.out | refine af_ ?_ GE243.out) | exact HB.out)⟩⟩
    · replace c8 := Bool.eq_false_iff.mpr c8
      subst c8
      have H1 : (impl_AfterBoth.j0 k true a0_0 l0_1 a1_0 l1_1) = some (r1, r2, r3) := by rw [if_neg (show ¬ (false = true) by decide)] at H; exact H
      clear H
      have H := H1
      clear H1
      have H' := ab_ H
      clear H
      have hnb17 := NB241_242.out
      have hnc17 := NB242_241.out
      have hnb18 := NB241_243.out
      have hnc18 := NB243_241.out
      have hcz19_0 : w6.cell? ⟨gb241, 0, none⟩ = some (.int .i64 a0_0) := (al_ BK241.out 0).trans rfl
      have hcz19_1 : w6.cell? ⟨gb241, 1, none⟩ = some (.slice A0_1 l0_1.length c0_1) := (al_ BK241.out 1).trans rfl
      have hfz19_0 := ak_ BK241.out 0
      have hfz19_1 := ak_ BK241.out 1
      go_wp2_with (first | ((with_reducible refine gate_callee (f := 16) rfl ?_); refine goesL_ (some 10) rfl rfl Try.func16 (by kernel_rfl) rfl #[.agg #[.int .i64 a0_0, .slice A0_1 l0_1.length c0_1]] rfl (by (try simp only [List.map_toArray, List.map_cons, List.map_nil]); first | done | rfl | (simp only [List.length_drop, List.length_take]; rfl)) ?_; (with_reducible refine (impl_GoodHandler.calls k a0_0 _ _ l0_1 false _ ?side1 ?side2 A7.out).mono ?_); (case side1 => repeat (first | exact (Kd.C_below HR0_1.out HB.out) | (with_reducible refine Kd.C_alloc ?_ _) | (with_reducible refine Kd.C_drewN ?_ _) | (with_reducible refine Kd.C_drew ?_))); (case side2 => exact HC0_1.out); rintro e w20 ⟨rfl, hb⟩; refine ⟨_, rfl, ?_⟩; have n0_ := ab_ (as_ (g := gb241) (o := .cells #[.int .i64 a0_0, .slice A0_1 l0_1.length c0_1] 29 (0, 0)) (by (with_reducible repeat (first | refine ac_ ?_ _ | refine ae_ ?_ | refine ad_ ?_ _)); exact BK241.out) hb); have n1_ := ab_ (as_ (g := gb242) (o := .cells #[.int .i64 a1_0, .slice A1_1 l1_1.length c1_1] 29 (0, 0)) (by (with_reducible repeat (first | refine ac_ ?_ _ | refine ae_ ?_ | refine ad_ ?_ _)); exact BK242.out) hb); have n2_ := ab_ (as_ (g := gb243) (o := .cells #[.int .i64 0, .slice none 0 0] 29 (0, 0)) (by (with_reducible repeat (first | refine ac_ ?_ _ | refine ae_ ?_ | refine ad_ ?_ _)); exact BK243.out) hb); have n3_ := ab_ (ar_ (by repeat (first | (with_reducible first | exact HB.out | apply ai_ | apply ag_ | apply ah_ | refine af_ ?_ GE241.out | refine af_ ?_ GE242.out | refine af_ ?_ GE243.out) | exact HB.out)) hb); clear BK241; clear BK242; clear BK243; clear HB; have BK241 := n0_; have BK242 := n1_; have BK243 := n2_; have HB := n3_; clear n0_ n1_ n2_ n3_; (try clear hb); (try clear hb2); (try clear hk); (try clear hi)))
      go_meet
      case rel => exact ⟨_, (true), (by first | rfl | (simp; done) | (simp [*]; done)), H', ⟨by first | omega | exact Nat.le_refl _⟩, ⟨by (with_reducible repeat (first | refine ac_ ?_ _ | refine ae_ ?_ | refine ad_ ?_ _)); exact BK241.out⟩, ⟨by (with_reducible repeat (first | refine ac_ ?_ _ | refine ae_ ?_ | refine ad_ ?_ _)); exact BK242.out⟩, ⟨by (with_reducible repeat (first | refine ac_ ?_ _ | refine ae_ ?_ | refine ad_ ?_ _)); exact BK243.out⟩, ⟨by repeat (first | (with_reducible first | exact HB.out | apply ai_ | apply ag_ | apply ah_ | refine af_ ?_ GE241.out | refine af_ ?_ GE242.out | refine af_ ?_ GE243.out) | exact HB.out)⟩⟩
  case rest =>
    clear HC3
    try clear c1
    try clear c2
    try clear p2
    try clear c8
    try clear c10
    try clear c11
    try clear c14
    try clear c16
    try clear c17
    try clear c18
    try clear hcz12_0
    try clear hcz12_1
    try clear hcz15_0
    try clear hcz15_1
    try clear hcz19_0
    try clear hcz19_1
    try clear hfz12_0
    try clear hfz12_1
    try clear hfz15_0
    try clear hfz15_1
    try clear hfz19_0
    try clear hfz19_1
    obtain ⟨kq, x16_2, rfl, HA, HJ2, BK241, BK242, BK243, HB⟩ := hcut
    cases kq with
    | zero => exact absurd HA.out (by simp [impl_AfterBoth.j0])
    | succ kj2 =>
      have H := HA.out
      clear HA
      simp only [impl_AfterBoth.j0] at H
      by_cases c21 : x16_2 = true
      · subst c21
        have H1 : (some (0, ([] : List (S82)), false)) = some (r1, r2, r3) := by rw [if_pos rfl] at H; exact H
        clear H
        have H := H1
        clear H1
        simp only [Option.some.injEq, Prod.mk.injEq] at H
        obtain ⟨rfl, rfl, rfl⟩ := H
        have hnb22 := NB243_241.out
        have hnc22 := NB241_243.out
        have hnb23 := NB243_242.out
        have hnc23 := NB242_243.out
        have hcz24_0 : wc.cell? ⟨gb243, 0, none⟩ = some (.int .i64 0) := (al_ BK243.out 0).trans rfl
        have hcz24_1 : wc.cell? ⟨gb243, 1, none⟩ = some (.slice none 0 0) := (al_ BK243.out 1).trans rfl
        have hfz24_0 := ak_ BK243.out 0
        have hfz24_1 := ak_ BK243.out 1
        go_wp2
        refine bodyPost_ret (results_ct rfl _ _ gb243 29 #[.int .i64 0, .slice none 0 0] (0, 0) _ rfl (by (with_reducible repeat (first | refine ac_ ?_ _ | refine ae_ ?_ | refine ad_ ?_ _)); refine blk_put (cs := #[.int .i64 0, .slice none 0 0]) ?_ 1 _ rfl; (with_reducible repeat (first | refine ac_ ?_ _ | refine ae_ ?_ | refine ad_ ?_ _)); refine blk_put (cs := #[.int .i64 0, .slice none 0 0]) ?_ 0 _ rfl; (with_reducible repeat (first | refine ac_ ?_ _ | refine ae_ ?_ | refine ad_ ?_ _)); exact BK243.out) Try.underlying29 rfl (by kernel_rfl)) rfl ?_
        exact ⟨_, by first | rfl | (simp [errW_none, errW_some] <;> rfl) | (simp [*, errW_none, errW_some] <;> rfl), by first | exact Kd.R_nil _ _ _ _ _ | exact Kd.N_nil _ _ _ _ _ | exact Kd.V_nil _ _ _ _ _ | exact Kd.Q_nil _ _ _ _ _ | exact Kd.S_nil _ _ _ _ _, by repeat (first | (with_reducible first | exact HB.out | apply ai_ | apply ag_ | apply ah_ | refine af_ ?_ GE241.out | refine af_ ?_ GE242.out | refine af_ ?_ GE243.out) | exact HB.out)⟩
      · replace c21 := Bool.eq_false_iff.mpr c21
        subst c21
        have H1 : (impl_AfterBoth.l0 kj2 l1_1 (l1_1.length : Int) 0 a0_0 l0_1 (Int.tmod (wrap64 (a0_0 + a1_0)) 100) ([] : List (S82))) = some (r1, r2, r3) := by rw [if_neg (show ¬ (false = true) by decide)] at H; exact H
        clear H
        have H := H1
        clear H1
        have H' := ab_ H
        clear H
        have hnb25 := NB241_242.out
        have hnc25 := NB242_241.out
        have hnb26 := NB241_243.out
        have hnc26 := NB243_241.out
        have hcz27_0 : wc.cell? ⟨gb241, 0, none⟩ = some (.int .i64 a0_0) := (al_ BK241.out 0).trans rfl
        have hcz27_1 : wc.cell? ⟨gb241, 1, none⟩ = some (.slice A0_1 l0_1.length c0_1) := (al_ BK241.out 1).trans rfl
        have hfz27_0 := ak_ BK241.out 0
        have hfz27_1 := ak_ BK241.out 1
        have hnb28 := NB242_243.out
        have hnc28 := NB243_242.out
        have hcz29_0 : wc.cell? ⟨gb242, 0, none⟩ = some (.int .i64 a1_0) := (al_ BK242.out 0).trans rfl
        have hcz29_1 : wc.cell? ⟨gb242, 1, none⟩ = some (.slice A1_1 l1_1.length c1_1) := (al_ BK242.out 1).trans rfl
        have hfz29_0 := ak_ BK242.out 0
        have hfz29_1 := ak_ BK242.out 1
        go_wp2_with (first | ((with_reducible refine gate_dst (N := 6) rfl ?_); refine box_event ?hg (N := 6) ?hd (cs := #[.int .i64 0, .slice none 0 0]) (t := 29) ?hr ?_; (case hd => rfl); (case hg => rfl); (case hr => first | (go_simp; done) | (go_simp; rfl)); intro gb246 hg w30 hbox hb; have n0_ := ab_ (as_ (g := gb241) (o := .cells #[.int .i64 a0_0, .slice A0_1 l0_1.length c0_1] 29 (0, 0)) (by (with_reducible repeat (first | refine ac_ ?_ _ | refine ae_ ?_ | refine ad_ ?_ _)); exact BK241.out) hb); have n1_ := ab_ (as_ (g := gb242) (o := .cells #[.int .i64 a1_0, .slice A1_1 l1_1.length c1_1] 29 (0, 0)) (by (with_reducible repeat (first | refine ac_ ?_ _ | refine ae_ ?_ | refine ad_ ?_ _)); exact BK242.out) hb); have n2_ := ab_ (as_ (g := gb243) (o := .cells #[.int .i64 0, .slice none 0 0] 29 (0, 0)) (by (with_reducible repeat (first | refine ac_ ?_ _ | refine ae_ ?_ | refine ad_ ?_ _)); exact BK243.out) hb); have n3_ := ab_ (ar_ (by repeat (first | (with_reducible first | exact HB.out | apply ai_ | apply ag_ | apply ah_ | refine af_ ?_ GE241.out | refine af_ ?_ GE242.out | refine af_ ?_ GE243.out) | exact HB.out)) hb); have n4_ := ab_ (hbox); have n5_ := ab_ ((by rw [hg]; exact (at_ (by repeat (first | (with_reducible first | exact HB.out | apply ai_ | apply ag_ | apply ah_ | refine af_ ?_ GE241.out | refine af_ ?_ GE242.out | refine af_ ?_ GE243.out) | exact HB.out))) : w.heap.size ≤ gb246)); have n6_ := ab_ ((by rw [hg]; exact (at_ (by repeat (first | (with_reducible first | exact HB.out | apply ai_ | apply ag_ | apply ah_ | refine af_ ?_ GE241.out | refine af_ ?_ GE242.out | refine af_ ?_ GE243.out) | exact HB.out))) : w.heap.size ≤ gb246)); have n7_ := ab_ ((by rw [hg]; exact aj_ (au_ (g := gb241) (o := .cells #[.int .i64 a0_0, .slice A0_1 l0_1.length c0_1] 29 (0, 0)) (by (with_reducible repeat (first | refine ac_ ?_ _ | refine ae_ ?_ | refine ad_ ?_ _)); exact BK241.out)) : gb241 ≠ gb246)); have n8_ := ab_ ((by rw [hg]; exact az_ (au_ (g := gb241) (o := .cells #[.int .i64 a0_0, .slice A0_1 l0_1.length c0_1] 29 (0, 0)) (by (with_reducible repeat (first | refine ac_ ?_ _ | refine ae_ ?_ | refine ad_ ?_ _)); exact BK241.out)) : gb246 ≠ gb241)); have n9_ := ab_ ((by rw [hg]; exact aj_ (au_ (g := gb242) (o := .cells #[.int .i64 a1_0, .slice A1_1 l1_1.length c1_1] 29 (0, 0)) (by (with_reducible repeat (first | refine ac_ ?_ _ | refine ae_ ?_ | refine ad_ ?_ _)); exact BK242.out)) : gb242 ≠ gb246)); have n10_ := ab_ ((by rw [hg]; exact az_ (au_ (g := gb242) (o := .cells #[.int .i64 a1_0, .slice A1_1 l1_1.length c1_1] 29 (0, 0)) (by (with_reducible repeat (first | refine ac_ ?_ _ | refine ae_ ?_ | refine ad_ ?_ _)); exact BK242.out)) : gb246 ≠ gb242)); have n11_ := ab_ ((by rw [hg]; exact aj_ (au_ (g := gb243) (o := .cells #[.int .i64 0, .slice none 0 0] 29 (0, 0)) (by (with_reducible repeat (first | refine ac_ ?_ _ | refine ae_ ?_ | refine ad_ ?_ _)); exact BK243.out)) : gb243 ≠ gb246)); have n12_ := ab_ ((by rw [hg]; exact az_ (au_ (g := gb243) (o := .cells #[.int .i64 0, .slice none 0 0] 29 (0, 0)) (by (with_reducible repeat (first | refine ac_ ?_ _ | refine ae_ ?_ | refine ad_ ?_ _)); exact BK243.out)) : gb246 ≠ gb243)); clear BK241; clear BK242; clear BK243; clear HB; have BK241 := n0_; have BK242 := n1_; have BK243 := n2_; have HB := n3_; have BK246 := n4_; have GW246 := n5_; have GE246 := n6_; have NB241_246 := n7_; have NB246_241 := n8_; have NB242_246 := n9_; have NB246_242 := n10_; have NB243_246 := n11_; have NB246_243 := n12_; clear n0_ n1_ n2_ n3_ n4_ n5_ n6_ n7_ n8_ n9_ n10_ n11_ n12_; clear hb hbox hg; have hnb31 := NB246_241.out; have hnc31 := NB241_246.out; have hnb32 := NB246_242.out; have hnc32 := NB242_246.out; have hnb33 := NB246_243.out; have hnc33 := NB243_246.out; have hcz34_0 : w30.cell? ⟨gb246, 0, none⟩ = some (.int .i64 0) := (al_ BK246.out 0).trans rfl; have hcz34_1 : w30.cell? ⟨gb246, 1, none⟩ = some (.slice none 0 0) := (al_ BK246.out 1).trans rfl; have hfz34_0 := ak_ BK246.out 0; have hfz34_1 := ak_ BK246.out 1; have hcz35_0 : w30.cell? ⟨gb242, 0, none⟩ = some (.int .i64 a1_0) := (al_ BK242.out 0).trans rfl; have hcz35_1 : w30.cell? ⟨gb242, 1, none⟩ = some (.slice A1_1 l1_1.length c1_1) := (al_ BK242.out 1).trans rfl; have hfz35_0 := ak_ BK242.out 0; have hfz35_1 := ak_ BK242.out 1))
        go_loopg [28] kj2 (fun kq v28 w' => ∃ (x28_2 : Int) (x244000_2 : Int) (x247001_2 : List (S82)) (u247001 : Value), v28 = .int .i64 x28_2 ∧ Aside0 (impl_AfterBoth.l0 kq l1_1 (l1_1.length : Int) x28_2 a0_0 l0_1 (Int.tmod (wrap64 (a0_0 + a1_0)) 100) x247001_2 = some (r1, r2, r3)) ∧ Aside0 (kq ≤ kj2) ∧ Aside0 (Kd.R k82 82 w' w.heap.size (fun _ => True) u247001 x247001_2) ∧ Aside0 (w'.heap[gb241]? = some (.cells #[.int .i64 a0_0, (.slice A0_1 l0_1.length c0_1)] 29 (0, 0))) ∧ Aside0 (w'.heap[gb242]? = some (.cells #[.int .i64 a1_0, (.slice A1_1 l1_1.length c1_1)] 29 (0, 0))) ∧ Aside0 (w'.heap[gb243]? = some (.cells #[.int .i64 x244000_2, (.slice none 0 0)] 29 (0, 0))) ∧ Aside0 (w'.heap[gb246]? = some (.cells #[.int .i64 (Int.tmod (wrap64 (a0_0 + a1_0)) 100), u247001] 29 (0, 0))) ∧ Aside0 (Below w.heap.size w w'))
        case atStart => exact ⟨(0), (0), (([] : List (S82))), (.slice none 0 0), (by first | rfl | (simp; done) | (simp [*]; done)), H', ⟨Nat.le_refl _⟩, ⟨by first | exact Kd.R_nil _ _ _ _ _ | exact Kd.N_nil _ _ _ _ _ | exact Kd.V_nil _ _ _ _ _ | exact Kd.Q_nil _ _ _ _ _ | exact Kd.S_nil _ _ _ _ _⟩, ⟨by (with_reducible repeat (first | refine ac_ ?_ _ | refine ae_ ?_ | refine ad_ ?_ _)); refine ay_ ?_ NB241_246.out _; (with_reducible repeat (first | refine ac_ ?_ _ | refine ae_ ?_ | refine ad_ ?_ _)); refine ay_ ?_ NB241_246.out _; (with_reducible repeat (first | refine ac_ ?_ _ | refine ae_ ?_ | refine ad_ ?_ _)); exact BK241.out⟩, ⟨by (with_reducible repeat (first | refine ac_ ?_ _ | refine ae_ ?_ | refine ad_ ?_ _)); refine ay_ ?_ NB242_246.out _; (with_reducible repeat (first | refine ac_ ?_ _ | refine ae_ ?_ | refine ad_ ?_ _)); refine ay_ ?_ NB242_246.out _; (with_reducible repeat (first | refine ac_ ?_ _ | refine ae_ ?_ | refine ad_ ?_ _)); exact BK242.out⟩, ⟨by (with_reducible repeat (first | refine ac_ ?_ _ | refine ae_ ?_ | refine ad_ ?_ _)); refine ay_ ?_ NB243_246.out _; (with_reducible repeat (first | refine ac_ ?_ _ | refine ae_ ?_ | refine ad_ ?_ _)); refine ay_ ?_ NB243_246.out _; (with_reducible repeat (first | refine ac_ ?_ _ | refine ae_ ?_ | refine ad_ ?_ _)); exact BK243.out⟩, ⟨by (with_reducible repeat (first | refine ac_ ?_ _ | refine ae_ ?_ | refine ad_ ?_ _)); refine blk_put (cs := #[.int .i64 (Int.tmod (wrap64 (a0_0 + a1_0)) 100), .slice none 0 0]) ?_ 1 _ rfl; (with_reducible repeat (first | refine ac_ ?_ _ | refine ae_ ?_ | refine ad_ ?_ _)); refine blk_put (cs := #[.int .i64 0, .slice none 0 0]) ?_ 0 _ rfl; (with_reducible repeat (first | refine ac_ ?_ _ | refine ae_ ?_ | refine ad_ ?_ _)); exact BK246.out⟩, ⟨by repeat (first | (with_reducible first | exact HB.out | apply ai_ | apply ag_ | apply ah_ | refine af_ ?_ GE241.out | refine af_ ?_ GE242.out | refine af_ ?_ GE243.out | refine af_ ?_ GE246.out) | exact HB.out)⟩⟩
        case round =>
          clear H'
          try clear c1
          try clear c2
          try clear p2
          try clear c3
          try clear p6
          try clear c8
          try clear c10
          try clear c11
          try clear c14
          try clear c16
          try clear c17
          try clear c18
          try clear c21
          try clear c22
          try clear c23
          try clear c24
          try clear c25
          try clear c26
          try clear c28
          try clear c31
          try clear c32
          try clear c33
          try clear hcz12_0
          try clear hcz12_1
          try clear hcz15_0
          try clear hcz15_1
          try clear hcz19_0
          try clear hcz19_1
          try clear hcz24_0
          try clear hcz24_1
          try clear hcz27_0
          try clear hcz27_1
          try clear hcz29_0
          try clear hcz29_1
          try clear hcz34_0
          try clear hcz34_1
          try clear hcz35_0
          try clear hcz35_1
          try clear hfz12_0
          try clear hfz12_1
          try clear hfz15_0
          try clear hfz15_1
          try clear hfz19_0
          try clear hfz19_1
          try clear hfz24_0
          try clear hfz24_1
          try clear hfz27_0
          try clear hfz27_1
          try clear hfz29_0
          try clear hfz29_1
          try clear hfz34_0
          try clear hfz34_1
          try clear hfz35_0
          try clear hfz35_1
          try clear p2
          obtain ⟨x28_2, x244000_2, x247001_2, u247001, rfl, HA, HK2, HO_247001, BK241, BK242, BK243, BK246, HB⟩ := hrel
          cases gk with
          | zero => exact absurd HA.out (by simp [impl_AfterBoth.l0])
          | succ k2 =>
            have H := HA.out
            clear HA
            simp only [impl_AfterBoth.l0] at H
            by_cases c36 : x28_2 < (l1_1.length : Int)
            · rw [if_pos c36] at H
              have c36b0 : decide (x28_2 < (l1_1.length : Int)) = true := decide_eq_true c36
              clear c36
              by_cases c37 : 0 ≤ x28_2
              · rw [if_pos c37] at H
                have c37b0 : decide (0 ≤ x28_2) = true := decide_eq_true c37
                clear c37
                by_cases c38 : x28_2 < (l1_1.length : Int)
                · rw [if_pos c38] at H
                  have c38b0 : decide (x28_2 < (l1_1.length : Int)) = true := decide_eq_true c38
                  clear c38
                  by_cases c39 : ((rd_T82 l1_1 x28_2).f0) = 3
                  · rw [if_pos c39] at H
                    have c39b0 : (((rd_T82 l1_1 x28_2).f0) == 3) = true := beq_iff_eq.mpr c39
                    have c39b1 : (((rd_T82 l1_1 x28_2).f0) != 3) = false := bne_eq_false_iff_eq.mpr c39
                    clear c39
                    simp only [Option.some.injEq, Prod.mk.injEq] at H
                    obtain ⟨rfl, rfl, rfl⟩ := H
                    have p247 : 0 ≤ (x28_2 : Int) := of_decide_eq_true (by first | (with_reducible assumption) | assumption)
                    have q247 : x28_2 < (l1_1.length : Int) := of_decide_eq_true (by first | (with_reducible assumption) | assumption)
                    obtain ⟨ad247, e247, hx247_0, hx247_1⟩ := at_T82 HR1_1.out x28_2 p247 q247
                    cases e247
                    replace hx247_0 := (HB.out.cell (aa_ w _ hx247_0)).trans hx247_0
                    replace hx247_1 := (HB.out.cell (aa_ w _ hx247_1)).trans hx247_1
                    replace p247 := eq_true p247
                    replace q247 := eq_true q247
                    go_wp2_with (first | ((with_reducible refine gate_dst (N := 8) rfl ?_); refine box_event ?hg (N := 8) ?hd (cs := #[.int .i64 0, .int .i64 0]) (t := 82) ?hr ?_; (case hd => rfl); (case hg => rfl); (case hr => first | (go_simp; done) | (go_simp; rfl)); intro gb248 hg w40 hbox hb; have hdd0 : ∀ a_ b_ c_ d_ : Value, ((((w40.setCell ⟨gb248, 0, none⟩ a_).setCell ⟨gb248, 1, none⟩ b_).setCell ⟨gb248, 0, none⟩ c_).setCell ⟨gb248, 1, none⟩ d_).cell? ⟨gb248, 0, none⟩ = some c_ := fun a_ b_ c_ d_ => (al_ (blk_set (blk_set (blk_set (blk_set hbox 0 a_) 1 b_) 0 c_) 1 d_) 0).trans rfl; have hdd1 : ∀ a_ b_ c_ d_ : Value, ((((w40.setCell ⟨gb248, 0, none⟩ a_).setCell ⟨gb248, 1, none⟩ b_).setCell ⟨gb248, 0, none⟩ c_).setCell ⟨gb248, 1, none⟩ d_).cell? ⟨gb248, 1, none⟩ = some d_ := fun a_ b_ c_ d_ => (al_ (blk_set (blk_set (blk_set (blk_set hbox 0 a_) 1 b_) 0 c_) 1 d_) 1).trans rfl; have hdd2 : ∀ a_ b_ c_ : Value, (((w40.setCell ⟨gb248, 0, none⟩ a_).setCell ⟨gb248, 1, none⟩ b_).setCell ⟨gb248, 1, none⟩ c_).cell? ⟨gb248, 0, none⟩ = some a_ := fun a_ b_ c_ => (al_ (blk_set (blk_set (blk_set hbox 0 a_) 1 b_) 1 c_) 0).trans rfl; have hdd3 : ∀ a_ b_ c_ : Value, (((w40.setCell ⟨gb248, 0, none⟩ a_).setCell ⟨gb248, 1, none⟩ b_).setCell ⟨gb248, 1, none⟩ c_).cell? ⟨gb248, 1, none⟩ = some c_ := fun a_ b_ c_ => (al_ (blk_set (blk_set (blk_set hbox 0 a_) 1 b_) 1 c_) 1).trans rfl; have n0_ := ab_ (ap_ (Kd.R_elderB (by (with_reducible repeat (first | apply am_ | apply an_ | apply ao_)); exact HO_247001.out) gb248 (Nat.le_of_eq hg.symm)) hb); have n1_ := ab_ (as_ (g := gb241) (o := .cells #[.int .i64 a0_0, .slice A0_1 l0_1.length c0_1] 29 (0, 0)) (by (with_reducible repeat (first | refine ac_ ?_ _ | refine ae_ ?_ | refine ad_ ?_ _)); exact BK241.out) hb); have n2_ := ab_ (as_ (g := gb242) (o := .cells #[.int .i64 a1_0, .slice (some ad247) l1_1.length c1_1] 29 (0, 0)) (by (with_reducible repeat (first | refine ac_ ?_ _ | refine ae_ ?_ | refine ad_ ?_ _)); exact BK242.out) hb); have n3_ := ab_ (as_ (g := gb243) (o := .cells #[.int .i64 x244000_2, .slice none 0 0] 29 (0, 0)) (by (with_reducible repeat (first | refine ac_ ?_ _ | refine ae_ ?_ | refine ad_ ?_ _)); exact BK243.out) hb); have n4_ := ab_ (as_ (g := gb246) (o := .cells #[.int .i64 (Int.tmod (wrap64 (a0_0 + a1_0)) 100), u247001] 29 (0, 0)) (by (with_reducible repeat (first | refine ac_ ?_ _ | refine ae_ ?_ | refine ad_ ?_ _)); exact BK246.out) hb); have n5_ := ab_ (ar_ (by repeat (first | (with_reducible first | exact HB.out | apply ai_ | apply ag_ | apply ah_ | refine af_ ?_ GE241.out | refine af_ ?_ GE242.out | refine af_ ?_ GE243.out | refine af_ ?_ GE246.out) | exact HB.out)) hb); have n6_ := ab_ (hbox); have n7_ := ab_ ((by rw [hg]; exact (at_ (by repeat (first | (with_reducible first | exact HB.out | apply ai_ | apply ag_ | apply ah_ | refine af_ ?_ GE241.out | refine af_ ?_ GE242.out | refine af_ ?_ GE243.out | refine af_ ?_ GE246.out) | exact HB.out))) : w.heap.size ≤ gb248)); have n8_ := ab_ ((by rw [hg]; exact (at_ (by repeat (first | (with_reducible first | exact HB.out | apply ai_ | apply ag_ | apply ah_ | refine af_ ?_ GE241.out | refine af_ ?_ GE242.out | refine af_ ?_ GE243.out | refine af_ ?_ GE246.out) | exact HB.out))) : w.heap.size ≤ gb248)); have n9_ := ab_ ((by rw [hg]; exact aj_ (au_ (g := gb241) (o := .cells #[.int .i64 a0_0, .slice A0_1 l0_1.length c0_1] 29 (0, 0)) (by (with_reducible repeat (first | refine ac_ ?_ _ | refine ae_ ?_ | refine ad_ ?_ _)); exact BK241.out)) : gb241 ≠ gb248)); have n10_ := ab_ ((by rw [hg]; exact az_ (au_ (g := gb241) (o := .cells #[.int .i64 a0_0, .slice A0_1 l0_1.length c0_1] 29 (0, 0)) (by (with_reducible repeat (first | refine ac_ ?_ _ | refine ae_ ?_ | refine ad_ ?_ _)); exact BK241.out)) : gb248 ≠ gb241)); have n11_ := ab_ ((by rw [hg]; exact aj_ (au_ (g := gb242) (o := .cells #[.int .i64 a1_0, .slice (some ad247) l1_1.length c1_1] 29 (0, 0)) (by (with_reducible repeat (first | refine ac_ ?_ _ | refine ae_ ?_ | refine ad_ ?_ _)); exact BK242.out)) : gb242 ≠ gb248)); have n12_ := ab_ ((by rw [hg]; exact az_ (au_ (g := gb242) (o := .cells #[.int .i64 a1_0, .slice (some ad247) l1_1.length c1_1] 29 (0, 0)) (by (with_reducible repeat (first | refine ac_ ?_ _ | refine ae_ ?_ | refine ad_ ?_ _)); exact BK242.out)) : gb248 ≠ gb242)); have n13_ := ab_ ((by rw [hg]; exact aj_ (au_ (g := gb243) (o := .cells #[.int .i64 x244000_2, .slice none 0 0] 29 (0, 0)) (by (with_reducible repeat (first | refine ac_ ?_ _ | refine ae_ ?_ | refine ad_ ?_ _)); exact BK243.out)) : gb243 ≠ gb248)); have n14_ := ab_ ((by rw [hg]; exact az_ (au_ (g := gb243) (o := .cells #[.int .i64 x244000_2, .slice none 0 0] 29 (0, 0)) (by (with_reducible repeat (first | refine ac_ ?_ _ | refine ae_ ?_ | refine ad_ ?_ _)); exact BK243.out)) : gb248 ≠ gb243)); have n15_ := ab_ ((by rw [hg]; exact aj_ (au_ (g := gb246) (o := .cells #[.int .i64 (Int.tmod (wrap64 (a0_0 + a1_0)) 100), u247001] 29 (0, 0)) (by (with_reducible repeat (first | refine ac_ ?_ _ | refine ae_ ?_ | refine ad_ ?_ _)); exact BK246.out)) : gb246 ≠ gb248)); have n16_ := ab_ ((by rw [hg]; exact az_ (au_ (g := gb246) (o := .cells #[.int .i64 (Int.tmod (wrap64 (a0_0 + a1_0)) 100), u247001] 29 (0, 0)) (by (with_reducible repeat (first | refine ac_ ?_ _ | refine ae_ ?_ | refine ad_ ?_ _)); exact BK246.out)) : gb248 ≠ gb246)); clear HO_247001; clear BK241; clear BK242; clear BK243; clear BK246; clear HB; have HO_247001 := n0_; have BK241 := n1_; have BK242 := n2_; have BK243 := n3_; have BK246 := n4_; have HB := n5_; have BK248 := n6_; have GW248 := n7_; have GE248 := n8_; have NB241_248 := n9_; have NB248_241 := n10_; have NB242_248 := n11_; have NB248_242 := n12_; have NB243_248 := n13_; have NB248_243 := n14_; have NB246_248 := n15_; have NB248_246 := n16_; clear n0_ n1_ n2_ n3_ n4_ n5_ n6_ n7_ n8_ n9_ n10_ n11_ n12_ n13_ n14_ n15_ n16_; clear hb hbox hg; have hnb41 := NB248_241.out; have hnc41 := NB241_248.out; have hnb42 := NB248_242.out; have hnc42 := NB242_248.out; have hnb43 := NB248_243.out; have hnc43 := NB243_248.out; have hnb44 := NB248_246.out; have hnc44 := NB246_248.out; have hcz45_0 : w40.cell? ⟨gb248, 0, none⟩ = some (.int .i64 0) := (al_ BK248.out 0).trans rfl; have hcz45_1 : w40.cell? ⟨gb248, 1, none⟩ = some (.int .i64 0) := (al_ BK248.out 1).trans rfl; have hfz45_0 := ak_ BK248.out 0; have hfz45_1 := ak_ BK248.out 1; have hnb46 := NB243_241.out; have hnc46 := NB241_243.out; have hnb47 := NB243_242.out; have hnc47 := NB242_243.out; have hnb48 := NB243_246.out; have hnc48 := NB246_243.out; have hcz49_0 : w40.cell? ⟨gb243, 0, none⟩ = some (.int .i64 x244000_2) := (al_ BK243.out 0).trans rfl; have hcz49_1 : w40.cell? ⟨gb243, 1, none⟩ = some (.slice none 0 0) := (al_ BK243.out 1).trans rfl; have hfz49_0 := ak_ BK243.out 0; have hfz49_1 := ak_ BK243.out 1))
                    refine bodyPost_ret (results_ct rfl _ _ gb243 29 #[.int .i64 0, .slice none 0 0] (0, 0) _ rfl (by (with_reducible repeat (first | refine ac_ ?_ _ | refine ae_ ?_ | refine ad_ ?_ _)); refine blk_put (cs := #[.int .i64 0, .slice none 0 0]) ?_ 1 _ rfl; (with_reducible repeat (first | refine ac_ ?_ _ | refine ae_ ?_ | refine ad_ ?_ _)); refine blk_put (cs := #[.int .i64 x244000_2, .slice none 0 0]) ?_ 0 _ rfl; (with_reducible repeat (first | refine ac_ ?_ _ | refine ae_ ?_ | refine ad_ ?_ _)); refine ay_ ?_ NB243_248.out _; (with_reducible repeat (first | refine ac_ ?_ _ | refine ae_ ?_ | refine ad_ ?_ _)); refine ay_ ?_ NB243_248.out _; (with_reducible repeat (first | refine ac_ ?_ _ | refine ae_ ?_ | refine ad_ ?_ _)); exact BK243.out) Try.underlying29 rfl (by kernel_rfl)) rfl ?_
                    exact ⟨_, by first | rfl | (simp [errW_none, errW_some] <;> rfl) | (simp [*, errW_none, errW_some] <;> rfl), by first | exact Kd.R_nil _ _ _ _ _ | exact Kd.N_nil _ _ _ _ _ | exact Kd.V_nil _ _ _ _ _ | exact Kd.Q_nil _ _ _ _ _ | exact Kd.S_nil _ _ _ _ _, by repeat (first | (with_reducible first | exact HB.out | apply ai_ | apply ag_ | apply ah_ | refine af_ ?_ GE241.out | refine af_ ?_ GE242.out | refine af_ ?_ GE243.out | refine af_ ?_ GE246.out | refine af_ ?_ GE248.out) | exact HB.out)⟩
                  · rw [if_neg c39] at H
                    have c39b0 : (((rd_T82 l1_1 x28_2).f0) == 3) = false := beq_eq_false_iff_ne.mpr c39
                    have c39b1 : (((rd_T82 l1_1 x28_2).f0) != 3) = true := bne_iff_ne.mpr c39
                    by_cases c50 : ((rd_T82 l1_1 x28_2).f0) = 5
                    · rw [if_pos c50] at H
                      have c50b0 : (((rd_T82 l1_1 x28_2).f0) == 5) = true := beq_iff_eq.mpr c50
                      have c50b1 : (((rd_T82 l1_1 x28_2).f0) != 5) = false := bne_eq_false_iff_eq.mpr c50
                      clear c50
                      by_cases c51 : x28_2 < (l0_1.length : Int)
                      · rw [if_pos c51] at H
                        have c51b0 : decide (x28_2 < (l0_1.length : Int)) = true := decide_eq_true c51
                        clear c51
                        by_cases c52 : x247001_2.length < 8796093022208
                        · rw [if_pos c52] at H
                          have LMc52 := ab_ c52
                          clear c52
                          obtain ⟨y250, hy250⟩ : ∃ y_ : List (S82), y_ = (x247001_2 ++ [(⟨(rd_T82 l0_1 x28_2).f0, (rd_T82 l0_1 x28_2).f1⟩ : S82)]) := ⟨_, rfl⟩
                          replace H : (impl_AfterBoth.l0 k2 l1_1 (l1_1.length : Int) (wrap64 (x28_2 + 1)) a0_0 l0_1 (Int.tmod (wrap64 (a0_0 + a1_0)) 100) y250) = some (r1, r2, r3) := by first | (rw [hy250]; with_reducible exact H) | (have H2_ := (Option.bind_some _ _).symm.trans H; rw [hy250]; with_reducible exact H2_) | (have H2_ := (Option.bind_some _ _).symm.trans H; with_reducible exact H2_) | with_reducible exact H | (rw [hy250]; exact H) | exact H
                          have Ny250 := ab_ hy250
                          clear hy250
                          have H' := ab_ H
                          clear H
                          have p247 : 0 ≤ (x28_2 : Int) := of_decide_eq_true (by first | (with_reducible assumption) | assumption)
                          have q247 : x28_2 < (l1_1.length : Int) := of_decide_eq_true (by first | (with_reducible assumption) | assumption)
                          obtain ⟨ad247, e247, hx247_0, hx247_1⟩ := at_T82 HR1_1.out x28_2 p247 q247
                          cases e247
                          replace hx247_0 := (HB.out.cell (aa_ w _ hx247_0)).trans hx247_0
                          replace hx247_1 := (HB.out.cell (aa_ w _ hx247_1)).trans hx247_1
                          replace p247 := eq_true p247
                          replace q247 := eq_true q247
                          go_wp2_with (first | ((with_reducible refine gate_dst (N := 8) rfl ?_); refine box_event ?hg (N := 8) ?hd (cs := #[.int .i64 0, .int .i64 0]) (t := 82) ?hr ?_; (case hd => rfl); (case hg => rfl); (case hr => first | (go_simp; done) | (go_simp; rfl)); intro gb248 hg w53 hbox hb; have hdd0 : ∀ a_ b_ c_ d_ : Value, ((((w53.setCell ⟨gb248, 0, none⟩ a_).setCell ⟨gb248, 1, none⟩ b_).setCell ⟨gb248, 0, none⟩ c_).setCell ⟨gb248, 1, none⟩ d_).cell? ⟨gb248, 0, none⟩ = some c_ := fun a_ b_ c_ d_ => (al_ (blk_set (blk_set (blk_set (blk_set hbox 0 a_) 1 b_) 0 c_) 1 d_) 0).trans rfl; have hdd1 : ∀ a_ b_ c_ d_ : Value, ((((w53.setCell ⟨gb248, 0, none⟩ a_).setCell ⟨gb248, 1, none⟩ b_).setCell ⟨gb248, 0, none⟩ c_).setCell ⟨gb248, 1, none⟩ d_).cell? ⟨gb248, 1, none⟩ = some d_ := fun a_ b_ c_ d_ => (al_ (blk_set (blk_set (blk_set (blk_set hbox 0 a_) 1 b_) 0 c_) 1 d_) 1).trans rfl; have hdd2 : ∀ a_ b_ c_ : Value, (((w53.setCell ⟨gb248, 0, none⟩ a_).setCell ⟨gb248, 1, none⟩ b_).setCell ⟨gb248, 1, none⟩ c_).cell? ⟨gb248, 0, none⟩ = some a_ := fun a_ b_ c_ => (al_ (blk_set (blk_set (blk_set hbox 0 a_) 1 b_) 1 c_) 0).trans rfl; have hdd3 : ∀ a_ b_ c_ : Value, (((w53.setCell ⟨gb248, 0, none⟩ a_).setCell ⟨gb248, 1, none⟩ b_).setCell ⟨gb248, 1, none⟩ c_).cell? ⟨gb248, 1, none⟩ = some c_ := fun a_ b_ c_ => (al_ (blk_set (blk_set (blk_set hbox 0 a_) 1 b_) 1 c_) 1).trans rfl; have n0_ := ab_ (ap_ (Kd.R_elderB (by (with_reducible repeat (first | apply am_ | apply an_ | apply ao_)); exact HO_247001.out) gb248 (Nat.le_of_eq hg.symm)) hb); have n1_ := ab_ (as_ (g := gb241) (o := .cells #[.int .i64 a0_0, .slice A0_1 l0_1.length c0_1] 29 (0, 0)) (by (with_reducible repeat (first | refine ac_ ?_ _ | refine ae_ ?_ | refine ad_ ?_ _)); exact BK241.out) hb); have n2_ := ab_ (as_ (g := gb242) (o := .cells #[.int .i64 a1_0, .slice (some ad247) l1_1.length c1_1] 29 (0, 0)) (by (with_reducible repeat (first | refine ac_ ?_ _ | refine ae_ ?_ | refine ad_ ?_ _)); exact BK242.out) hb); have n3_ := ab_ (as_ (g := gb243) (o := .cells #[.int .i64 x244000_2, .slice none 0 0] 29 (0, 0)) (by (with_reducible repeat (first | refine ac_ ?_ _ | refine ae_ ?_ | refine ad_ ?_ _)); exact BK243.out) hb); have n4_ := ab_ (as_ (g := gb246) (o := .cells #[.int .i64 (Int.tmod (wrap64 (a0_0 + a1_0)) 100), u247001] 29 (0, 0)) (by (with_reducible repeat (first | refine ac_ ?_ _ | refine ae_ ?_ | refine ad_ ?_ _)); exact BK246.out) hb); have n5_ := ab_ (ar_ (by repeat (first | (with_reducible first | exact HB.out | apply ai_ | apply ag_ | apply ah_ | refine af_ ?_ GE241.out | refine af_ ?_ GE242.out | refine af_ ?_ GE243.out | refine af_ ?_ GE246.out) | exact HB.out)) hb); have n6_ := ab_ (hbox); have n7_ := ab_ ((by rw [hg]; exact (at_ (by repeat (first | (with_reducible first | exact HB.out | apply ai_ | apply ag_ | apply ah_ | refine af_ ?_ GE241.out | refine af_ ?_ GE242.out | refine af_ ?_ GE243.out | refine af_ ?_ GE246.out) | exact HB.out))) : w.heap.size ≤ gb248)); have n8_ := ab_ ((by rw [hg]; exact (at_ (by repeat (first | (with_reducible first | exact HB.out | apply ai_ | apply ag_ | apply ah_ | refine af_ ?_ GE241.out | refine af_ ?_ GE242.out | refine af_ ?_ GE243.out | refine af_ ?_ GE246.out) | exact HB.out))) : w.heap.size ≤ gb248)); have n9_ := ab_ ((by rw [hg]; exact aj_ (au_ (g := gb241) (o := .cells #[.int .i64 a0_0, .slice A0_1 l0_1.length c0_1] 29 (0, 0)) (by (with_reducible repeat (first | refine ac_ ?_ _ | refine ae_ ?_ | refine ad_ ?_ _)); exact BK241.out)) : gb241 ≠ gb248)); have n10_ := ab_ ((by rw [hg]; exact az_ (au_ (g := gb241) (o := .cells #[.int .i64 a0_0, .slice A0_1 l0_1.length c0_1] 29 (0, 0)) (by (with_reducible repeat (first | refine ac_ ?_ _ | refine ae_ ?_ | refine ad_ ?_ _)); exact BK241.out)) : gb248 ≠ gb241)); have n11_ := ab_ ((by rw [hg]; exact aj_ (au_ (g := gb242) (o := .cells #[.int .i64 a1_0, .slice (some ad247) l1_1.length c1_1] 29 (0, 0)) (by (with_reducible repeat (first | refine ac_ ?_ _ | refine ae_ ?_ | refine ad_ ?_ _)); exact BK242.out)) : gb242 ≠ gb248)); have n12_ := ab_ ((by rw [hg]; exact az_ (au_ (g := gb242) (o := .cells #[.int .i64 a1_0, .slice (some ad247) l1_1.length c1_1] 29 (0, 0)) (by (with_reducible repeat (first | refine ac_ ?_ _ | refine ae_ ?_ | refine ad_ ?_ _)); exact BK242.out)) : gb248 ≠ gb242)); have n13_ := ab_ ((by rw [hg]; exact aj_ (au_ (g := gb243) (o := .cells #[.int .i64 x244000_2, .slice none 0 0] 29 (0, 0)) (by (with_reducible repeat (first | refine ac_ ?_ _ | refine ae_ ?_ | refine ad_ ?_ _)); exact BK243.out)) : gb243 ≠ gb248)); have n14_ := ab_ ((by rw [hg]; exact az_ (au_ (g := gb243) (o := .cells #[.int .i64 x244000_2, .slice none 0 0] 29 (0, 0)) (by (with_reducible repeat (first | refine ac_ ?_ _ | refine ae_ ?_ | refine ad_ ?_ _)); exact BK243.out)) : gb248 ≠ gb243)); have n15_ := ab_ ((by rw [hg]; exact aj_ (au_ (g := gb246) (o := .cells #[.int .i64 (Int.tmod (wrap64 (a0_0 + a1_0)) 100), u247001] 29 (0, 0)) (by (with_reducible repeat (first | refine ac_ ?_ _ | refine ae_ ?_ | refine ad_ ?_ _)); exact BK246.out)) : gb246 ≠ gb248)); have n16_ := ab_ ((by rw [hg]; exact az_ (au_ (g := gb246) (o := .cells #[.int .i64 (Int.tmod (wrap64 (a0_0 + a1_0)) 100), u247001] 29 (0, 0)) (by (with_reducible repeat (first | refine ac_ ?_ _ | refine ae_ ?_ | refine ad_ ?_ _)); exact BK246.out)) : gb248 ≠ gb246)); clear HO_247001; clear BK241; clear BK242; clear BK243; clear BK246; clear HB; have HO_247001 := n0_; have BK241 := n1_; have BK242 := n2_; have BK243 := n3_; have BK246 := n4_; have HB := n5_; have BK248 := n6_; have GW248 := n7_; have GE248 := n8_; have NB241_248 := n9_; have NB248_241 := n10_; have NB242_248 := n11_; have NB248_242 := n12_; have NB243_248 := n13_; have NB248_243 := n14_; have NB246_248 := n15_; have NB248_246 := n16_; clear n0_ n1_ n2_ n3_ n4_ n5_ n6_ n7_ n8_ n9_ n10_ n11_ n12_ n13_ n14_ n15_ n16_; clear hb hbox hg; have hnb54 := NB248_241.out; have hnc54 := NB241_248.out; have hnb55 := NB248_242.out; have hnc55 := NB242_248.out; have hnb56 := NB248_243.out; have hnc56 := NB243_248.out; have hnb57 := NB248_246.out; have hnc57 := NB246_248.out; have hcz58_0 : w53.cell? ⟨gb248, 0, none⟩ = some (.int .i64 0) := (al_ BK248.out 0).trans rfl; have hcz58_1 : w53.cell? ⟨gb248, 1, none⟩ = some (.int .i64 0) := (al_ BK248.out 1).trans rfl; have hfz58_0 := ak_ BK248.out 0; have hfz58_1 := ak_ BK248.out 1; have hnb59 := NB241_242.out; have hnc59 := NB242_241.out; have hnb60 := NB241_243.out; have hnc60 := NB243_241.out; have hnb61 := NB241_246.out; have hnc61 := NB246_241.out; have hcz62_0 : w53.cell? ⟨gb241, 0, none⟩ = some (.int .i64 a0_0) := (al_ BK241.out 0).trans rfl; have hcz62_1 : w53.cell? ⟨gb241, 1, none⟩ = some (.slice A0_1 l0_1.length c0_1) := (al_ BK241.out 1).trans rfl; have hfz62_0 := ak_ BK241.out 0; have hfz62_1 := ak_ BK241.out 1; have p249 : 0 ≤ (x28_2 : Int) := of_decide_eq_true (by first | (with_reducible assumption) | assumption); have q249 : x28_2 < (l0_1.length : Int) := of_decide_eq_true (by first | (with_reducible assumption) | assumption); obtain ⟨ad249, e249, hx249_0, hx249_1⟩ := at_T82 HR0_1.out x28_2 p249 q249; cases e249; have hn249_0 : ad249.block ≠ gb248 := aj_ (Nat.lt_of_lt_of_le (by have := aa_ _ _ hx249_0; first | rwa [add_block] at this | exact this) GW248.out); have hn249_1 : ad249.block ≠ gb248 := aj_ (Nat.lt_of_lt_of_le (by have := aa_ _ _ hx249_0; first | rwa [add_block] at this | exact this) GW248.out); replace hx249_0 := (HB.out.cell (aa_ w _ hx249_0)).trans hx249_0; replace hx249_1 := (HB.out.cell (aa_ w _ hx249_1)).trans hx249_1; replace hx249_0 := (cell_far (p := ⟨gb248, 0, none⟩) (by first | (rw [add_block]; exact hn249_0) | (show (Addr.add _ _).block ≠ _; rw [add_block]; exact hn249_0) | exact hn249_0) (.int .i64 ((rd_T82 l1_1 x28_2).f0))).trans hx249_0; replace hx249_1 := (cell_far (p := ⟨gb248, 0, none⟩) (by first | (rw [add_block]; exact hn249_0) | (show (Addr.add _ _).block ≠ _; rw [add_block]; exact hn249_0) | exact hn249_0) (.int .i64 ((rd_T82 l1_1 x28_2).f0))).trans hx249_1; replace hx249_0 := (cell_far (p := ⟨gb248, 1, none⟩) (by first | (rw [add_block]; exact hn249_1) | (show (Addr.add _ _).block ≠ _; rw [add_block]; exact hn249_1) | exact hn249_1) (.int .i64 ((rd_T82 l1_1 x28_2).f1))).trans hx249_0; replace hx249_1 := (cell_far (p := ⟨gb248, 1, none⟩) (by first | (rw [add_block]; exact hn249_1) | (show (Addr.add _ _).block ≠ _; rw [add_block]; exact hn249_1) | exact hn249_1) (.int .i64 ((rd_T82 l1_1 x28_2).f1))).trans hx249_1; clear hn249_0; clear hn249_1; replace p249 := eq_true p249; replace q249 := eq_true q249; have hnb63 := NB246_242.out; have hnc63 := NB242_246.out; have hnb64 := NB246_243.out; have hnc64 := NB243_246.out; have hcz65_0 : w53.cell? ⟨gb246, 0, none⟩ = some (.int .i64 (Int.tmod (wrap64 (a0_0 + a1_0)) 100)) := (al_ BK246.out 0).trans rfl; have hcz65_1 : w53.cell? ⟨gb246, 1, none⟩ = some (u247001) := (al_ BK246.out 1).trans rfl; have hfz65_0 := ak_ BK246.out 0; have hfz65_1 := ak_ BK246.out 1) | ((with_reducible refine gate_builtin (b := .append) (xs := #[.tmp 55, .tmp 57]) rfl ?_); at_builtin; refine Kd.R_append k82 (w0 := w) w.heap.size rfl (.tmp 55) (.tmp 57) 27 82 (.agg #[(.int .i64 0), (.int .i64 0)]) 16 rfl Try.underlying27 info82 rfl (by decide) (by omega) u247001 x247001_2 (⟨(rd_T82 l0_1 x28_2).f0, (rd_T82 l0_1 x28_2).f1⟩ : S82) [.int .i64 ((rd_T82 l0_1 x28_2).f0), .int .i64 ((rd_T82 l0_1 x28_2).f1)] (fun k_ => k_ ≠ gb248) (fun _ => False) rfl (by first | (go_simp; done) | (go_simp; rfl)) ?aP (fun _ hk => hk.elim) ?aF ?aO ?aB ?aS ?aL ?_; (case aP => exact k82_mkM _ _ _ (⟨(rd_T82 l0_1 x28_2).f0, (rd_T82 l0_1 x28_2).f1⟩ : S82)); (case aB => exact (by repeat (first | (with_reducible first | exact HB.out | apply ai_ | apply ag_ | apply ah_ | refine af_ ?_ GE241.out | refine af_ ?_ GE242.out | refine af_ ?_ GE243.out | refine af_ ?_ GE246.out | refine af_ ?_ GE248.out) | exact HB.out))); (case aF => exact (fun k_ hk => Kd.freshB (g := gb248) (o := .cells #[.int .i64 ((rd_T82 l0_1 x28_2).f0), .int .i64 ((rd_T82 l0_1 x28_2).f1)] 82 (0, 0)) (by (with_reducible repeat (first | refine ac_ ?_ _ | refine ae_ ?_ | refine ad_ ?_ _)); refine blk_put (cs := #[.int .i64 ((rd_T82 l0_1 x28_2).f0), .int .i64 ((rd_T82 l1_1 x28_2).f1)]) ?_ 1 _ rfl; (with_reducible repeat (first | refine ac_ ?_ _ | refine ae_ ?_ | refine ad_ ?_ _)); refine blk_put (cs := #[.int .i64 ((rd_T82 l1_1 x28_2).f0), .int .i64 ((rd_T82 l1_1 x28_2).f1)]) ?_ 0 _ rfl; (with_reducible repeat (first | refine ac_ ?_ _ | refine ae_ ?_ | refine ad_ ?_ _)); refine blk_put (cs := #[.int .i64 ((rd_T82 l1_1 x28_2).f0), .int .i64 0]) ?_ 1 _ rfl; (with_reducible repeat (first | refine ac_ ?_ _ | refine ae_ ?_ | refine ad_ ?_ _)); refine blk_put (cs := #[.int .i64 0, .int .i64 0]) ?_ 0 _ rfl; (with_reducible repeat (first | refine ac_ ?_ _ | refine ae_ ?_ | refine ad_ ?_ _)); exact BK248.out) k_ hk)); (case aO => exact (by (with_reducible repeat (first | apply am_ | apply an_ | apply ao_)); exact av_ (ax_ (p := ⟨gb248, 1, none⟩) (ax_ (p := ⟨gb248, 0, none⟩) (ax_ (p := ⟨gb248, 1, none⟩) (ax_ (p := ⟨gb248, 0, none⟩) (av_ HO_247001.out (fun k_ hk => (⟨hk, hk.2⟩ : _ ∧ k_ ≠ gb248))) (fun _ hk => hk.2) (.int .i64 ((rd_T82 l1_1 x28_2).f0))) (fun _ hk => hk.2) (.int .i64 ((rd_T82 l1_1 x28_2).f1))) (fun _ hk => hk.2) (.int .i64 ((rd_T82 l0_1 x28_2).f0))) (fun _ hk => hk.2) (.int .i64 ((rd_T82 l0_1 x28_2).f1))) (fun _ hk => hk.1.2))); (case aS => exact (at_ (by repeat (first | (with_reducible first | exact HB.out | apply ai_ | apply ag_ | apply ah_ | refine af_ ?_ GE241.out | refine af_ ?_ GE242.out | refine af_ ?_ GE243.out | refine af_ ?_ GE246.out | refine af_ ?_ GE248.out) | exact HB.out)))); (case aL => have := LMc52.out; omega); intro v251 w66 ho hb hg hat; rw [← Ny250.out] at ho; have n0_ := ab_ (blk_grown (g := gb241) (o := .cells #[.int .i64 a0_0, .slice (some ad249) l0_1.length c0_1] 29 (0, 0)) (by (with_reducible repeat (first | refine ac_ ?_ _ | refine ae_ ?_ | refine ad_ ?_ _)); refine ay_ ?_ NB241_248.out _; (with_reducible repeat (first | refine ac_ ?_ _ | refine ae_ ?_ | refine ad_ ?_ _)); refine ay_ ?_ NB241_248.out _; (with_reducible repeat (first | refine ac_ ?_ _ | refine ae_ ?_ | refine ad_ ?_ _)); refine ay_ ?_ NB241_248.out _; (with_reducible repeat (first | refine ac_ ?_ _ | refine ae_ ?_ | refine ad_ ?_ _)); refine ay_ ?_ NB241_248.out _; (with_reducible repeat (first | refine ac_ ?_ _ | refine ae_ ?_ | refine ad_ ?_ _)); exact BK241.out) hg (Kd.R_ne HO_247001.out BK241.out (by decide))); have n1_ := ab_ (blk_grown (g := gb242) (o := .cells #[.int .i64 a1_0, .slice (some ad247) l1_1.length c1_1] 29 (0, 0)) (by (with_reducible repeat (first | refine ac_ ?_ _ | refine ae_ ?_ | refine ad_ ?_ _)); refine ay_ ?_ NB242_248.out _; (with_reducible repeat (first | refine ac_ ?_ _ | refine ae_ ?_ | refine ad_ ?_ _)); refine ay_ ?_ NB242_248.out _; (with_reducible repeat (first | refine ac_ ?_ _ | refine ae_ ?_ | refine ad_ ?_ _)); refine ay_ ?_ NB242_248.out _; (with_reducible repeat (first | refine ac_ ?_ _ | refine ae_ ?_ | refine ad_ ?_ _)); refine ay_ ?_ NB242_248.out _; (with_reducible repeat (first | refine ac_ ?_ _ | refine ae_ ?_ | refine ad_ ?_ _)); exact BK242.out) hg (Kd.R_ne HO_247001.out BK242.out (by decide))); have n2_ := ab_ (blk_grown (g := gb243) (o := .cells #[.int .i64 x244000_2, .slice none 0 0] 29 (0, 0)) (by (with_reducible repeat (first | refine ac_ ?_ _ | refine ae_ ?_ | refine ad_ ?_ _)); refine ay_ ?_ NB243_248.out _; (with_reducible repeat (first | refine ac_ ?_ _ | refine ae_ ?_ | refine ad_ ?_ _)); refine ay_ ?_ NB243_248.out _; (with_reducible repeat (first | refine ac_ ?_ _ | refine ae_ ?_ | refine ad_ ?_ _)); refine ay_ ?_ NB243_248.out _; (with_reducible repeat (first | refine ac_ ?_ _ | refine ae_ ?_ | refine ad_ ?_ _)); refine ay_ ?_ NB243_248.out _; (with_reducible repeat (first | refine ac_ ?_ _ | refine ae_ ?_ | refine ad_ ?_ _)); exact BK243.out) hg (Kd.R_ne HO_247001.out BK243.out (by decide))); have n3_ := ab_ (blk_grown (g := gb246) (o := .cells #[.int .i64 (Int.tmod (wrap64 (a0_0 + a1_0)) 100), u247001] 29 (0, 0)) (by (with_reducible repeat (first | refine ac_ ?_ _ | refine ae_ ?_ | refine ad_ ?_ _)); refine ay_ ?_ NB246_248.out _; (with_reducible repeat (first | refine ac_ ?_ _ | refine ae_ ?_ | refine ad_ ?_ _)); refine ay_ ?_ NB246_248.out _; (with_reducible repeat (first | refine ac_ ?_ _ | refine ae_ ?_ | refine ad_ ?_ _)); refine ay_ ?_ NB246_248.out _; (with_reducible repeat (first | refine ac_ ?_ _ | refine ae_ ?_ | refine ad_ ?_ _)); refine ay_ ?_ NB246_248.out _; (with_reducible repeat (first | refine ac_ ?_ _ | refine ae_ ?_ | refine ad_ ?_ _)); exact BK246.out) hg (Kd.R_ne HO_247001.out BK246.out (by decide))); have n4_ := ab_ (blk_grown (g := gb248) (o := .cells #[.int .i64 ((rd_T82 l0_1 x28_2).f0), .int .i64 ((rd_T82 l0_1 x28_2).f1)] 82 (0, 0)) (by (with_reducible repeat (first | refine ac_ ?_ _ | refine ae_ ?_ | refine ad_ ?_ _)); refine blk_put (cs := #[.int .i64 ((rd_T82 l0_1 x28_2).f0), .int .i64 ((rd_T82 l1_1 x28_2).f1)]) ?_ 1 _ rfl; (with_reducible repeat (first | refine ac_ ?_ _ | refine ae_ ?_ | refine ad_ ?_ _)); refine blk_put (cs := #[.int .i64 ((rd_T82 l1_1 x28_2).f0), .int .i64 ((rd_T82 l1_1 x28_2).f1)]) ?_ 0 _ rfl; (with_reducible repeat (first | refine ac_ ?_ _ | refine ae_ ?_ | refine ad_ ?_ _)); refine blk_put (cs := #[.int .i64 ((rd_T82 l1_1 x28_2).f0), .int .i64 0]) ?_ 1 _ rfl; (with_reducible repeat (first | refine ac_ ?_ _ | refine ae_ ?_ | refine ad_ ?_ _)); refine blk_put (cs := #[.int .i64 0, .int .i64 0]) ?_ 0 _ rfl; (with_reducible repeat (first | refine ac_ ?_ _ | refine ae_ ?_ | refine ad_ ?_ _)); exact BK248.out) hg (Kd.R_away HO_247001.out (fun _ hk => hk.2))); have n5_ := ab_ (hb); have n6_ := ab_ (ho); clear BK241; clear BK242; clear BK243; clear BK246; clear BK248; clear HB; clear HO_247001; have BK241 := n0_; have BK242 := n1_; have BK243 := n2_; have BK246 := n3_; have BK248 := n4_; have HB := n5_; have HO252 := n6_; clear n0_ n1_ n2_ n3_ n4_ n5_ n6_; clear ho hb hg hat; obtain ⟨Ao67, co67, eo67⟩ := Kd.R_slice HO252.out; subst eo67; have hcz68_0 : w66.cell? ⟨gb246, 0, none⟩ = some (.int .i64 (Int.tmod (wrap64 (a0_0 + a1_0)) 100)) := (al_ BK246.out 0).trans rfl; have hcz68_1 : w66.cell? ⟨gb246, 1, none⟩ = some (u247001) := (al_ BK246.out 1).trans rfl; have hfz68_0 := ak_ BK246.out 0; have hfz68_1 := ak_ BK246.out 1))
                          go_roundg k2
                          case measure => have := HJ2.out; have := HK2.out; omega
                          case rel => exact ⟨(wrap64 (x28_2 + 1)), (x244000_2), (y250), (.slice Ao67 y250.length co67), (by first | rfl | (simp; done) | (simp [*]; done)), H', ⟨by have := HJ2.out; have := HK2.out; omega⟩, ⟨by (with_reducible repeat (first | apply am_ | apply an_ | apply ao_)); exact av_ (ax_ (p := ⟨gb246, 1, none⟩) (Kd.R_types HO252.out BK246.out (by decide)) (fun _ hk => hk.2) (.slice Ao67 y250.length co67)) (fun _ hk => trivial)⟩, ⟨by (with_reducible repeat (first | refine ac_ ?_ _ | refine ae_ ?_ | refine ad_ ?_ _)); refine ay_ ?_ NB241_246.out _; (with_reducible repeat (first | refine ac_ ?_ _ | refine ae_ ?_ | refine ad_ ?_ _)); exact BK241.out⟩, ⟨by (with_reducible repeat (first | refine ac_ ?_ _ | refine ae_ ?_ | refine ad_ ?_ _)); refine ay_ ?_ NB242_246.out _; (with_reducible repeat (first | refine ac_ ?_ _ | refine ae_ ?_ | refine ad_ ?_ _)); exact BK242.out⟩, ⟨by (with_reducible repeat (first | refine ac_ ?_ _ | refine ae_ ?_ | refine ad_ ?_ _)); refine ay_ ?_ NB243_246.out _; (with_reducible repeat (first | refine ac_ ?_ _ | refine ae_ ?_ | refine ad_ ?_ _)); exact BK243.out⟩, ⟨by (with_reducible repeat (first | refine ac_ ?_ _ | refine ae_ ?_ | refine ad_ ?_ _)); refine blk_put (cs := #[.int .i64 (Int.tmod (wrap64 (a0_0 + a1_0)) 100), u247001]) ?_ 1 _ rfl; (with_reducible repeat (first | refine ac_ ?_ _ | refine ae_ ?_ | refine ad_ ?_ _)); exact BK246.out⟩, ⟨by repeat (first | (with_reducible first | exact HB.out | apply ai_ | apply ag_ | apply ah_ | refine af_ ?_ GE241.out | refine af_ ?_ GE242.out | refine af_ ?_ GE243.out | refine af_ ?_ GE246.out | refine af_ ?_ GE248.out) | exact HB.out)⟩⟩
                        · rw [if_neg c52] at H
                          exact absurd H (by simp)
                      · rw [if_neg c51] at H
                        exact absurd H (by simp)
                    · rw [if_neg c50] at H
                      have c50b0 : (((rd_T82 l1_1 x28_2).f0) == 5) = false := beq_eq_false_iff_ne.mpr c50
                      have c50b1 : (((rd_T82 l1_1 x28_2).f0) != 5) = true := bne_iff_ne.mpr c50
                      by_cases c69 : ((rd_T82 l1_1 x28_2).f0) = 4
                      · rw [if_pos c69] at H
                        have c69b0 : (((rd_T82 l1_1 x28_2).f0) == 4) = true := beq_iff_eq.mpr c69
                        have c69b1 : (((rd_T82 l1_1 x28_2).f0) != 4) = false := bne_eq_false_iff_eq.mpr c69
                        clear c69
                        by_cases c70 : x247001_2.length < 8796093022208
                        · rw [if_pos c70] at H
                          have LMc70 := ab_ c70
                          clear c70
                          obtain ⟨y253, hy253⟩ : ∃ y_ : List (S82), y_ = (x247001_2 ++ [(⟨(rd_T82 l1_1 x28_2).f0, Int.tmod (wrap64 (((rd_T82 l1_1 x28_2).f1) + a0_0)) 100⟩ : S82)]) := ⟨_, rfl⟩
                          replace H : (impl_AfterBoth.l0 k2 l1_1 (l1_1.length : Int) (wrap64 (x28_2 + 1)) a0_0 l0_1 (Int.tmod (wrap64 (a0_0 + a1_0)) 100) y253) = some (r1, r2, r3) := by first | (rw [hy253]; with_reducible exact H) | (have H2_ := (Option.bind_some _ _).symm.trans H; rw [hy253]; with_reducible exact H2_) | (have H2_ := (Option.bind_some _ _).symm.trans H; with_reducible exact H2_) | with_reducible exact H | (rw [hy253]; exact H) | exact H
                          have Ny253 := ab_ hy253
                          clear hy253
                          have H' := ab_ H
                          clear H
                          have p247 : 0 ≤ (x28_2 : Int) := of_decide_eq_true (by first | (with_reducible assumption) | assumption)
                          have q247 : x28_2 < (l1_1.length : Int) := of_decide_eq_true (by first | (with_reducible assumption) | assumption)
                          obtain ⟨ad247, e247, hx247_0, hx247_1⟩ := at_T82 HR1_1.out x28_2 p247 q247
                          cases e247
                          replace hx247_0 := (HB.out.cell (aa_ w _ hx247_0)).trans hx247_0
                          replace hx247_1 := (HB.out.cell (aa_ w _ hx247_1)).trans hx247_1
                          replace p247 := eq_true p247
                          replace q247 := eq_true q247
                          go_wp2_with (first | ((with_reducible refine gate_dst (N := 8) rfl ?_); refine box_event ?hg (N := 8) ?hd (cs := #[.int .i64 0, .int .i64 0]) (t := 82) ?hr ?_; (case hd => rfl); (case hg => rfl); (case hr => first | (go_simp; done) | (go_simp; rfl)); intro gb248 hg w71 hbox hb; have hdd0 : ∀ a_ b_ c_ d_ : Value, ((((w71.setCell ⟨gb248, 0, none⟩ a_).setCell ⟨gb248, 1, none⟩ b_).setCell ⟨gb248, 0, none⟩ c_).setCell ⟨gb248, 1, none⟩ d_).cell? ⟨gb248, 0, none⟩ = some c_ := fun a_ b_ c_ d_ => (al_ (blk_set (blk_set (blk_set (blk_set hbox 0 a_) 1 b_) 0 c_) 1 d_) 0).trans rfl; have hdd1 : ∀ a_ b_ c_ d_ : Value, ((((w71.setCell ⟨gb248, 0, none⟩ a_).setCell ⟨gb248, 1, none⟩ b_).setCell ⟨gb248, 0, none⟩ c_).setCell ⟨gb248, 1, none⟩ d_).cell? ⟨gb248, 1, none⟩ = some d_ := fun a_ b_ c_ d_ => (al_ (blk_set (blk_set (blk_set (blk_set hbox 0 a_) 1 b_) 0 c_) 1 d_) 1).trans rfl; have hdd2 : ∀ a_ b_ c_ : Value, (((w71.setCell ⟨gb248, 0, none⟩ a_).setCell ⟨gb248, 1, none⟩ b_).setCell ⟨gb248, 1, none⟩ c_).cell? ⟨gb248, 0, none⟩ = some a_ := fun a_ b_ c_ => (al_ (blk_set (blk_set (blk_set hbox 0 a_) 1 b_) 1 c_) 0).trans rfl; have hdd3 : ∀ a_ b_ c_ : Value, (((w71.setCell ⟨gb248, 0, none⟩ a_).setCell ⟨gb248, 1, none⟩ b_).setCell ⟨gb248, 1, none⟩ c_).cell? ⟨gb248, 1, none⟩ = some c_ := fun a_ b_ c_ => (al_ (blk_set (blk_set (blk_set hbox 0 a_) 1 b_) 1 c_) 1).trans rfl; have n0_ := ab_ (ap_ (Kd.R_elderB (by (with_reducible repeat (first | apply am_ | apply an_ | apply ao_)); exact HO_247001.out) gb248 (Nat.le_of_eq hg.symm)) hb); have n1_ := ab_ (as_ (g := gb241) (o := .cells #[.int .i64 a0_0, .slice A0_1 l0_1.length c0_1] 29 (0, 0)) (by (with_reducible repeat (first | refine ac_ ?_ _ | refine ae_ ?_ | refine ad_ ?_ _)); exact BK241.out) hb); have n2_ := ab_ (as_ (g := gb242) (o := .cells #[.int .i64 a1_0, .slice (some ad247) l1_1.length c1_1] 29 (0, 0)) (by (with_reducible repeat (first | refine ac_ ?_ _ | refine ae_ ?_ | refine ad_ ?_ _)); exact BK242.out) hb); have n3_ := ab_ (as_ (g := gb243) (o := .cells #[.int .i64 x244000_2, .slice none 0 0] 29 (0, 0)) (by (with_reducible repeat (first | refine ac_ ?_ _ | refine ae_ ?_ | refine ad_ ?_ _)); exact BK243.out) hb); have n4_ := ab_ (as_ (g := gb246) (o := .cells #[.int .i64 (Int.tmod (wrap64 (a0_0 + a1_0)) 100), u247001] 29 (0, 0)) (by (with_reducible repeat (first | refine ac_ ?_ _ | refine ae_ ?_ | refine ad_ ?_ _)); exact BK246.out) hb); have n5_ := ab_ (ar_ (by repeat (first | (with_reducible first | exact HB.out | apply ai_ | apply ag_ | apply ah_ | refine af_ ?_ GE241.out | refine af_ ?_ GE242.out | refine af_ ?_ GE243.out | refine af_ ?_ GE246.out) | exact HB.out)) hb); have n6_ := ab_ (hbox); have n7_ := ab_ ((by rw [hg]; exact (at_ (by repeat (first | (with_reducible first | exact HB.out | apply ai_ | apply ag_ | apply ah_ | refine af_ ?_ GE241.out | refine af_ ?_ GE242.out | refine af_ ?_ GE243.out | refine af_ ?_ GE246.out) | exact HB.out))) : w.heap.size ≤ gb248)); have n8_ := ab_ ((by rw [hg]; exact (at_ (by repeat (first | (with_reducible first | exact HB.out | apply ai_ | apply ag_ | apply ah_ | refine af_ ?_ GE241.out | refine af_ ?_ GE242.out | refine af_ ?_ GE243.out | refine af_ ?_ GE246.out) | exact HB.out))) : w.heap.size ≤ gb248)); have n9_ := ab_ ((by rw [hg]; exact aj_ (au_ (g := gb241) (o := .cells #[.int .i64 a0_0, .slice A0_1 l0_1.length c0_1] 29 (0, 0)) (by (with_reducible repeat (first | refine ac_ ?_ _ | refine ae_ ?_ | refine ad_ ?_ _)); exact BK241.out)) : gb241 ≠ gb248)); have n10_ := ab_ ((by rw [hg]; exact az_ (au_ (g := gb241) (o := .cells #[.int .i64 a0_0, .slice A0_1 l0_1.length c0_1] 29 (0, 0)) (by (with_reducible repeat (first | refine ac_ ?_ _ | refine ae_ ?_ | refine ad_ ?_ _)); exact BK241.out)) : gb248 ≠ gb241)); have n11_ := ab_ ((by rw [hg]; exact aj_ (au_ (g := gb242) (o := .cells #[.int .i64 a1_0, .slice (some ad247) l1_1.length c1_1] 29 (0, 0)) (by (with_reducible repeat (first | refine ac_ ?_ _ | refine ae_ ?_ | refine ad_ ?_ _)); exact BK242.out)) : gb242 ≠ gb248)); have n12_ := ab_ ((by rw [hg]; exact az_ (au_ (g := gb242) (o := .cells #[.int .i64 a1_0, .slice (some ad247) l1_1.length c1_1] 29 (0, 0)) (by (with_reducible repeat (first | refine ac_ ?_ _ | refine ae_ ?_ | refine ad_ ?_ _)); exact BK242.out)) : gb248 ≠ gb242)); have n13_ := ab_ ((by rw [hg]; exact aj_ (au_ (g := gb243) (o := .cells #[.int .i64 x244000_2, .slice none 0 0] 29 (0, 0)) (by (with_reducible repeat (first | refine ac_ ?_ _ | refine ae_ ?_ | refine ad_ ?_ _)); exact BK243.out)) : gb243 ≠ gb248)); have n14_ := ab_ ((by rw [hg]; exact az_ (au_ (g := gb243) (o := .cells #[.int .i64 x244000_2, .slice none 0 0] 29 (0, 0)) (by (with_reducible repeat (first | refine ac_ ?_ _ | refine ae_ ?_ | refine ad_ ?_ _)); exact BK243.out)) : gb248 ≠ gb243)); have n15_ := ab_ ((by rw [hg]; exact aj_ (au_ (g := gb246) (o := .cells #[.int .i64 (Int.tmod (wrap64 (a0_0 + a1_0)) 100), u247001] 29 (0, 0)) (by (with_reducible repeat (first | refine ac_ ?_ _ | refine ae_ ?_ | refine ad_ ?_ _)); exact BK246.out)) : gb246 ≠ gb248)); have n16_ := ab_ ((by rw [hg]; exact az_ (au_ (g := gb246) (o := .cells #[.int .i64 (Int.tmod (wrap64 (a0_0 + a1_0)) 100), u247001] 29 (0, 0)) (by (with_reducible repeat (first | refine ac_ ?_ _ | refine ae_ ?_ | refine ad_ ?_ _)); exact BK246.out)) : gb248 ≠ gb246)); clear HO_247001; clear BK241; clear BK242; clear BK243; clear BK246; clear HB; have HO_247001 := n0_; have BK241 := n1_; have BK242 := n2_; have BK243 := n3_; have BK246 := n4_; have HB := n5_; have BK248 := n6_; have GW248 := n7_; have GE248 := n8_; have NB241_248 := n9_; have NB248_241 := n10_; have NB242_248 := n11_; have NB248_242 := n12_; have NB243_248 := n13_; have NB248_243 := n14_; have NB246_248 := n15_; have NB248_246 := n16_; clear n0_ n1_ n2_ n3_ n4_ n5_ n6_ n7_ n8_ n9_ n10_ n11_ n12_ n13_ n14_ n15_ n16_; clear hb hbox hg; have hnb72 := NB248_241.out; have hnc72 := NB241_248.out; have hnb73 := NB248_242.out; have hnc73 := NB242_248.out; have hnb74 := NB248_243.out; have hnc74 := NB243_248.out; have hnb75 := NB248_246.out; have hnc75 := NB246_248.out; have hcz76_0 : w71.cell? ⟨gb248, 0, none⟩ = some (.int .i64 0) := (al_ BK248.out 0).trans rfl; have hcz76_1 : w71.cell? ⟨gb248, 1, none⟩ = some (.int .i64 0) := (al_ BK248.out 1).trans rfl; have hfz76_0 := ak_ BK248.out 0; have hfz76_1 := ak_ BK248.out 1; have hnb77 := NB241_242.out; have hnc77 := NB242_241.out; have hnb78 := NB241_243.out; have hnc78 := NB243_241.out; have hnb79 := NB241_246.out; have hnc79 := NB246_241.out; have hcz80_0 : w71.cell? ⟨gb241, 0, none⟩ = some (.int .i64 a0_0) := (al_ BK241.out 0).trans rfl; have hcz80_1 : w71.cell? ⟨gb241, 1, none⟩ = some (.slice A0_1 l0_1.length c0_1) := (al_ BK241.out 1).trans rfl; have hfz80_0 := ak_ BK241.out 0; have hfz80_1 := ak_ BK241.out 1; have hnb81 := NB246_242.out; have hnc81 := NB242_246.out; have hnb82 := NB246_243.out; have hnc82 := NB243_246.out; have hcz83_0 : w71.cell? ⟨gb246, 0, none⟩ = some (.int .i64 (Int.tmod (wrap64 (a0_0 + a1_0)) 100)) := (al_ BK246.out 0).trans rfl; have hcz83_1 : w71.cell? ⟨gb246, 1, none⟩ = some (u247001) := (al_ BK246.out 1).trans rfl; have hfz83_0 := ak_ BK246.out 0; have hfz83_1 := ak_ BK246.out 1) | ((with_reducible refine gate_builtin (b := .append) (xs := #[.tmp 55, .tmp 57]) rfl ?_); at_builtin; refine Kd.R_append k82 (w0 := w) w.heap.size rfl (.tmp 55) (.tmp 57) 27 82 (.agg #[(.int .i64 0), (.int .i64 0)]) 16 rfl Try.underlying27 info82 rfl (by decide) (by omega) u247001 x247001_2 (⟨(rd_T82 l1_1 x28_2).f0, Int.tmod (wrap64 (((rd_T82 l1_1 x28_2).f1) + a0_0)) 100⟩ : S82) [.int .i64 ((rd_T82 l1_1 x28_2).f0), .int .i64 (Int.tmod (wrap64 (((rd_T82 l1_1 x28_2).f1) + a0_0)) 100)] (fun k_ => k_ ≠ gb248) (fun _ => False) rfl (by first | (go_simp; done) | (go_simp; rfl)) ?aP (fun _ hk => hk.elim) ?aF ?aO ?aB ?aS ?aL ?_; (case aP => exact k82_mkM _ _ _ (⟨(rd_T82 l1_1 x28_2).f0, Int.tmod (wrap64 (((rd_T82 l1_1 x28_2).f1) + a0_0)) 100⟩ : S82)); (case aB => exact (by repeat (first | (with_reducible first | exact HB.out | apply ai_ | apply ag_ | apply ah_ | refine af_ ?_ GE241.out | refine af_ ?_ GE242.out | refine af_ ?_ GE243.out | refine af_ ?_ GE246.out | refine af_ ?_ GE248.out) | exact HB.out))); (case aF => exact (fun k_ hk => Kd.freshB (g := gb248) (o := .cells #[.int .i64 ((rd_T82 l1_1 x28_2).f0), .int .i64 (Int.tmod (wrap64 (((rd_T82 l1_1 x28_2).f1) + a0_0)) 100)] 82 (0, 0)) (by (with_reducible repeat (first | refine ac_ ?_ _ | refine ae_ ?_ | refine ad_ ?_ _)); refine blk_put (cs := #[.int .i64 ((rd_T82 l1_1 x28_2).f0), .int .i64 ((rd_T82 l1_1 x28_2).f1)]) ?_ 1 _ rfl; (with_reducible repeat (first | refine ac_ ?_ _ | refine ae_ ?_ | refine ad_ ?_ _)); refine blk_put (cs := #[.int .i64 ((rd_T82 l1_1 x28_2).f0), .int .i64 0]) ?_ 1 _ rfl; (with_reducible repeat (first | refine ac_ ?_ _ | refine ae_ ?_ | refine ad_ ?_ _)); refine blk_put (cs := #[.int .i64 0, .int .i64 0]) ?_ 0 _ rfl; (with_reducible repeat (first | refine ac_ ?_ _ | refine ae_ ?_ | refine ad_ ?_ _)); exact BK248.out) k_ hk)); (case aO => exact (by (with_reducible repeat (first | apply am_ | apply an_ | apply ao_)); exact av_ (ax_ (p := ⟨gb248, 1, none⟩) (ax_ (p := ⟨gb248, 1, none⟩) (ax_ (p := ⟨gb248, 0, none⟩) (av_ HO_247001.out (fun k_ hk => (⟨hk, hk.2⟩ : _ ∧ k_ ≠ gb248))) (fun _ hk => hk.2) (.int .i64 ((rd_T82 l1_1 x28_2).f0))) (fun _ hk => hk.2) (.int .i64 ((rd_T82 l1_1 x28_2).f1))) (fun _ hk => hk.2) (.int .i64 (Int.tmod (wrap64 (((rd_T82 l1_1 x28_2).f1) + a0_0)) 100))) (fun _ hk => hk.1.2))); (case aS => exact (at_ (by repeat (first | (with_reducible first | exact HB.out | apply ai_ | apply ag_ | apply ah_ | refine af_ ?_ GE241.out | refine af_ ?_ GE242.out | refine af_ ?_ GE243.out | refine af_ ?_ GE246.out | refine af_ ?_ GE248.out) | exact HB.out)))); (case aL => have := LMc70.out; omega); intro v254 w84 ho hb hg hat; rw [← Ny253.out] at ho; have n0_ := ab_ (blk_grown (g := gb241) (o := .cells #[.int .i64 a0_0, .slice A0_1 l0_1.length c0_1] 29 (0, 0)) (by (with_reducible repeat (first | refine ac_ ?_ _ | refine ae_ ?_ | refine ad_ ?_ _)); refine ay_ ?_ NB241_248.out _; (with_reducible repeat (first | refine ac_ ?_ _ | refine ae_ ?_ | refine ad_ ?_ _)); refine ay_ ?_ NB241_248.out _; (with_reducible repeat (first | refine ac_ ?_ _ | refine ae_ ?_ | refine ad_ ?_ _)); refine ay_ ?_ NB241_248.out _; (with_reducible repeat (first | refine ac_ ?_ _ | refine ae_ ?_ | refine ad_ ?_ _)); exact BK241.out) hg (Kd.R_ne HO_247001.out BK241.out (by decide))); have n1_ := ab_ (blk_grown (g := gb242) (o := .cells #[.int .i64 a1_0, .slice (some ad247) l1_1.length c1_1] 29 (0, 0)) (by (with_reducible repeat (first | refine ac_ ?_ _ | refine ae_ ?_ | refine ad_ ?_ _)); refine ay_ ?_ NB242_248.out _; (with_reducible repeat (first | refine ac_ ?_ _ | refine ae_ ?_ | refine ad_ ?_ _)); refine ay_ ?_ NB242_248.out _; (with_reducible repeat (first | refine ac_ ?_ _ | refine ae_ ?_ | refine ad_ ?_ _)); refine ay_ ?_ NB242_248.out _; (with_reducible repeat (first | refine ac_ ?_ _ | refine ae_ ?_ | refine ad_ ?_ _)); exact BK242.out) hg (Kd.R_ne HO_247001.out BK242.out (by decide))); have n2_ := ab_ (blk_grown (g := gb243) (o := .cells #[.int .i64 x244000_2, .slice none 0 0] 29 (0, 0)) (by (with_reducible repeat (first | refine ac_ ?_ _ | refine ae_ ?_ | refine ad_ ?_ _)); refine ay_ ?_ NB243_248.out _; (with_reducible repeat (first | refine ac_ ?_ _ | refine ae_ ?_ | refine ad_ ?_ _)); refine ay_ ?_ NB243_248.out _; (with_reducible repeat (first | refine ac_ ?_ _ | refine ae_ ?_ | refine ad_ ?_ _)); refine ay_ ?_ NB243_248.out _; (with_reducible repeat (first | refine ac_ ?_ _ | refine ae_ ?_ | refine ad_ ?_ _)); exact BK243.out) hg (Kd.R_ne HO_247001.out BK243.out (by decide))); have n3_ := ab_ (blk_grown (g := gb246) (o := .cells #[.int .i64 (Int.tmod (wrap64 (a0_0 + a1_0)) 100), u247001] 29 (0, 0)) (by (with_reducible repeat (first | refine ac_ ?_ _ | refine ae_ ?_ | refine ad_ ?_ _)); refine ay_ ?_ NB246_248.out _; (with_reducible repeat (first | refine ac_ ?_ _ | refine ae_ ?_ | refine ad_ ?_ _)); refine ay_ ?_ NB246_248.out _; (with_reducible repeat (first | refine ac_ ?_ _ | refine ae_ ?_ | refine ad_ ?_ _)); refine ay_ ?_ NB246_248.out _; (with_reducible repeat (first | refine ac_ ?_ _ | refine ae_ ?_ | refine ad_ ?_ _)); exact BK246.out) hg (Kd.R_ne HO_247001.out BK246.out (by decide))); have n4_ := ab_ (blk_grown (g := gb248) (o := .cells #[.int .i64 ((rd_T82 l1_1 x28_2).f0), .int .i64 (Int.tmod (wrap64 (((rd_T82 l1_1 x28_2).f1) + a0_0)) 100)] 82 (0, 0)) (by (with_reducible repeat (first | refine ac_ ?_ _ | refine ae_ ?_ | refine ad_ ?_ _)); refine blk_put (cs := #[.int .i64 ((rd_T82 l1_1 x28_2).f0), .int .i64 ((rd_T82 l1_1 x28_2).f1)]) ?_ 1 _ rfl; (with_reducible repeat (first | refine ac_ ?_ _ | refine ae_ ?_ | refine ad_ ?_ _)); refine blk_put (cs := #[.int .i64 ((rd_T82 l1_1 x28_2).f0), .int .i64 0]) ?_ 1 _ rfl; (with_reducible repeat (first | refine ac_ ?_ _ | refine ae_ ?_ | refine ad_ ?_ _)); refine blk_put (cs := #[.int .i64 0, .int .i64 0]) ?_ 0 _ rfl; (with_reducible repeat (first | refine ac_ ?_ _ | refine ae_ ?_ | refine ad_ ?_ _)); exact BK248.out) hg (Kd.R_away HO_247001.out (fun _ hk => hk.2))); have n5_ := ab_ (hb); have n6_ := ab_ (ho); clear BK241; clear BK242; clear BK243; clear BK246; clear BK248; clear HB; clear HO_247001; have BK241 := n0_; have BK242 := n1_; have BK243 := n2_; have BK246 := n3_; have BK248 := n4_; have HB := n5_; have HO255 := n6_; clear n0_ n1_ n2_ n3_ n4_ n5_ n6_; clear ho hb hg hat; obtain ⟨Ao85, co85, eo85⟩ := Kd.R_slice HO255.out; subst eo85; have hcz86_0 : w84.cell? ⟨gb246, 0, none⟩ = some (.int .i64 (Int.tmod (wrap64 (a0_0 + a1_0)) 100)) := (al_ BK246.out 0).trans rfl; have hcz86_1 : w84.cell? ⟨gb246, 1, none⟩ = some (u247001) := (al_ BK246.out 1).trans rfl; have hfz86_0 := ak_ BK246.out 0; have hfz86_1 := ak_ BK246.out 1))
                          go_roundg k2
                          case measure => have := HJ2.out; have := HK2.out; omega
                          case rel => exact ⟨(wrap64 (x28_2 + 1)), (x244000_2), (y253), (.slice Ao85 y253.length co85), (by first | rfl | (simp; done) | (simp [*]; done)), H', ⟨by have := HJ2.out; have := HK2.out; omega⟩, ⟨by (with_reducible repeat (first | apply am_ | apply an_ | apply ao_)); exact av_ (ax_ (p := ⟨gb246, 1, none⟩) (Kd.R_types HO255.out BK246.out (by decide)) (fun _ hk => hk.2) (.slice Ao85 y253.length co85)) (fun _ hk => trivial)⟩, ⟨by (with_reducible repeat (first | refine ac_ ?_ _ | refine ae_ ?_ | refine ad_ ?_ _)); refine ay_ ?_ NB241_246.out _; (with_reducible repeat (first | refine ac_ ?_ _ | refine ae_ ?_ | refine ad_ ?_ _)); exact BK241.out⟩, ⟨by (with_reducible repeat (first | refine ac_ ?_ _ | refine ae_ ?_ | refine ad_ ?_ _)); refine ay_ ?_ NB242_246.out _; (with_reducible repeat (first | refine ac_ ?_ _ | refine ae_ ?_ | refine ad_ ?_ _)); exact BK242.out⟩, ⟨by (with_reducible repeat (first | refine ac_ ?_ _ | refine ae_ ?_ | refine ad_ ?_ _)); refine ay_ ?_ NB243_246.out _; (with_reducible repeat (first | refine ac_ ?_ _ | refine ae_ ?_ | refine ad_ ?_ _)); exact BK243.out⟩, ⟨by (with_reducible repeat (first | refine ac_ ?_ _ | refine ae_ ?_ | refine ad_ ?_ _)); refine blk_put (cs := #[.int .i64 (Int.tmod (wrap64 (a0_0 + a1_0)) 100), u247001]) ?_ 1 _ rfl; (with_reducible repeat (first | refine ac_ ?_ _ | refine ae_ ?_ | refine ad_ ?_ _)); exact BK246.out⟩, ⟨by repeat (first | (with_reducible first | exact HB.out | apply ai_ | apply ag_ | apply ah_ | refine af_ ?_ GE241.out | refine af_ ?_ GE242.out | refine af_ ?_ GE243.out | refine af_ ?_ GE246.out | refine af_ ?_ GE248.out) | exact HB.out)⟩⟩
                        · rw [if_neg c70] at H
                          exact absurd H (by simp)
                      · rw [if_neg c69] at H
                        have c69b0 : (((rd_T82 l1_1 x28_2).f0) == 4) = false := beq_eq_false_iff_ne.mpr c69
                        have c69b1 : (((rd_T82 l1_1 x28_2).f0) != 4) = true := bne_iff_ne.mpr c69
                        by_cases c87 : x247001_2.length < 8796093022208
                        · rw [if_pos c87] at H
                          have LMc87 := ab_ c87
                          clear c87
                          obtain ⟨y256, hy256⟩ : ∃ y_ : List (S82), y_ = (x247001_2 ++ [(⟨(rd_T82 l1_1 x28_2).f0, (rd_T82 l1_1 x28_2).f1⟩ : S82)]) := ⟨_, rfl⟩
                          replace H : (impl_AfterBoth.l0 k2 l1_1 (l1_1.length : Int) (wrap64 (x28_2 + 1)) a0_0 l0_1 (Int.tmod (wrap64 (a0_0 + a1_0)) 100) y256) = some (r1, r2, r3) := by first | (rw [hy256]; with_reducible exact H) | (have H2_ := (Option.bind_some _ _).symm.trans H; rw [hy256]; with_reducible exact H2_) | (have H2_ := (Option.bind_some _ _).symm.trans H; with_reducible exact H2_) | with_reducible exact H | (rw [hy256]; exact H) | exact H
                          have Ny256 := ab_ hy256
                          clear hy256
                          have H' := ab_ H
                          clear H
                          have p247 : 0 ≤ (x28_2 : Int) := of_decide_eq_true (by first | (with_reducible assumption) | assumption)
                          have q247 : x28_2 < (l1_1.length : Int) := of_decide_eq_true (by first | (with_reducible assumption) | assumption)
                          obtain ⟨ad247, e247, hx247_0, hx247_1⟩ := at_T82 HR1_1.out x28_2 p247 q247
                          cases e247
                          replace hx247_0 := (HB.out.cell (aa_ w _ hx247_0)).trans hx247_0
                          replace hx247_1 := (HB.out.cell (aa_ w _ hx247_1)).trans hx247_1
                          replace p247 := eq_true p247
                          replace q247 := eq_true q247
                          go_wp2_with (first | ((with_reducible refine gate_dst (N := 8) rfl ?_); refine box_event ?hg (N := 8) ?hd (cs := #[.int .i64 0, .int .i64 0]) (t := 82) ?hr ?_; (case hd => rfl); (case hg => rfl); (case hr => first | (go_simp; done) | (go_simp; rfl)); intro gb248 hg w88 hbox hb; have hdd0 : ∀ a_ b_ c_ d_ : Value, ((((w88.setCell ⟨gb248, 0, none⟩ a_).setCell ⟨gb248, 1, none⟩ b_).setCell ⟨gb248, 0, none⟩ c_).setCell ⟨gb248, 1, none⟩ d_).cell? ⟨gb248, 0, none⟩ = some c_ := fun a_ b_ c_ d_ => (al_ (blk_set (blk_set (blk_set (blk_set hbox 0 a_) 1 b_) 0 c_) 1 d_) 0).trans rfl; have hdd1 : ∀ a_ b_ c_ d_ : Value, ((((w88.setCell ⟨gb248, 0, none⟩ a_).setCell ⟨gb248, 1, none⟩ b_).setCell ⟨gb248, 0, none⟩ c_).setCell ⟨gb248, 1, none⟩ d_).cell? ⟨gb248, 1, none⟩ = some d_ := fun a_ b_ c_ d_ => (al_ (blk_set (blk_set (blk_set (blk_set hbox 0 a_) 1 b_) 0 c_) 1 d_) 1).trans rfl; have hdd2 : ∀ a_ b_ c_ : Value, (((w88.setCell ⟨gb248, 0, none⟩ a_).setCell ⟨gb248, 1, none⟩ b_).setCell ⟨gb248, 1, none⟩ c_).cell? ⟨gb248, 0, none⟩ = some a_ := fun a_ b_ c_ => (al_ (blk_set (blk_set (blk_set hbox 0 a_) 1 b_) 1 c_) 0).trans rfl; have hdd3 : ∀ a_ b_ c_ : Value, (((w88.setCell ⟨gb248, 0, none⟩ a_).setCell ⟨gb248, 1, none⟩ b_).setCell ⟨gb248, 1, none⟩ c_).cell? ⟨gb248, 1, none⟩ = some c_ := fun a_ b_ c_ => (al_ (blk_set (blk_set (blk_set hbox 0 a_) 1 b_) 1 c_) 1).trans rfl; have n0_ := ab_ (ap_ (Kd.R_elderB (by (with_reducible repeat (first | apply am_ | apply an_ | apply ao_)); exact HO_247001.out) gb248 (Nat.le_of_eq hg.symm)) hb); have n1_ := ab_ (as_ (g := gb241) (o := .cells #[.int .i64 a0_0, .slice A0_1 l0_1.length c0_1] 29 (0, 0)) (by (with_reducible repeat (first | refine ac_ ?_ _ | refine ae_ ?_ | refine ad_ ?_ _)); exact BK241.out) hb); have n2_ := ab_ (as_ (g := gb242) (o := .cells #[.int .i64 a1_0, .slice (some ad247) l1_1.length c1_1] 29 (0, 0)) (by (with_reducible repeat (first | refine ac_ ?_ _ | refine ae_ ?_ | refine ad_ ?_ _)); exact BK242.out) hb); have n3_ := ab_ (as_ (g := gb243) (o := .cells #[.int .i64 x244000_2, .slice none 0 0] 29 (0, 0)) (by (with_reducible repeat (first | refine ac_ ?_ _ | refine ae_ ?_ | refine ad_ ?_ _)); exact BK243.out) hb); have n4_ := ab_ (as_ (g := gb246) (o := .cells #[.int .i64 (Int.tmod (wrap64 (a0_0 + a1_0)) 100), u247001] 29 (0, 0)) (by (with_reducible repeat (first | refine ac_ ?_ _ | refine ae_ ?_ | refine ad_ ?_ _)); exact BK246.out) hb); have n5_ := ab_ (ar_ (by repeat (first | (with_reducible first | exact HB.out | apply ai_ | apply ag_ | apply ah_ | refine af_ ?_ GE241.out | refine af_ ?_ GE242.out | refine af_ ?_ GE243.out | refine af_ ?_ GE246.out) | exact HB.out)) hb); have n6_ := ab_ (hbox); have n7_ := ab_ ((by rw [hg]; exact (at_ (by repeat (first | (with_reducible first | exact HB.out | apply ai_ | apply ag_ | apply ah_ | refine af_ ?_ GE241.out | refine af_ ?_ GE242.out | refine af_ ?_ GE243.out | refine af_ ?_ GE246.out) | exact HB.out))) : w.heap.size ≤ gb248)); have n8_ := ab_ ((by rw [hg]; exact (at_ (by repeat (first | (with_reducible first | exact HB.out | apply ai_ | apply ag_ | apply ah_ | refine af_ ?_ GE241.out | refine af_ ?_ GE242.out | refine af_ ?_ GE243.out | refine af_ ?_ GE246.out) | exact HB.out))) : w.heap.size ≤ gb248)); have n9_ := ab_ ((by rw [hg]; exact aj_ (au_ (g := gb241) (o := .cells #[.int .i64 a0_0, .slice A0_1 l0_1.length c0_1] 29 (0, 0)) (by (with_reducible repeat (first | refine ac_ ?_ _ | refine ae_ ?_ | refine ad_ ?_ _)); exact BK241.out)) : gb241 ≠ gb248)); have n10_ := ab_ ((by rw [hg]; exact az_ (au_ (g := gb241) (o := .cells #[.int .i64 a0_0, .slice A0_1 l0_1.length c0_1] 29 (0, 0)) (by (with_reducible repeat (first | refine ac_ ?_ _ | refine ae_ ?_ | refine ad_ ?_ _)); exact BK241.out)) : gb248 ≠ gb241)); have n11_ := ab_ ((by rw [hg]; exact aj_ (au_ (g := gb242) (o := .cells #[.int .i64 a1_0, .slice (some ad247) l1_1.length c1_1] 29 (0, 0)) (by (with_reducible repeat (first | refine ac_ ?_ _ | refine ae_ ?_ | refine ad_ ?_ _)); exact BK242.out)) : gb242 ≠ gb248)); have n12_ := ab_ ((by rw [hg]; exact az_ (au_ (g := gb242) (o := .cells #[.int .i64 a1_0, .slice (some ad247) l1_1.length c1_1] 29 (0, 0)) (by (with_reducible repeat (first | refine ac_ ?_ _ | refine ae_ ?_ | refine ad_ ?_ _)); exact BK242.out)) : gb248 ≠ gb242)); have n13_ := ab_ ((by rw [hg]; exact aj_ (au_ (g := gb243) (o := .cells #[.int .i64 x244000_2, .slice none 0 0] 29 (0, 0)) (by (with_reducible repeat (first | refine ac_ ?_ _ | refine ae_ ?_ | refine ad_ ?_ _)); exact BK243.out)) : gb243 ≠ gb248)); have n14_ := ab_ ((by rw [hg]; exact az_ (au_ (g := gb243) (o := .cells #[.int .i64 x244000_2, .slice none 0 0] 29 (0, 0)) (by (with_reducible repeat (first | refine ac_ ?_ _ | refine ae_ ?_ | refine ad_ ?_ _)); exact BK243.out)) : gb248 ≠ gb243)); have n15_ := ab_ ((by rw [hg]; exact aj_ (au_ (g := gb246) (o := .cells #[.int .i64 (Int.tmod (wrap64 (a0_0 + a1_0)) 100), u247001] 29 (0, 0)) (by (with_reducible repeat (first | refine ac_ ?_ _ | refine ae_ ?_ | refine ad_ ?_ _)); exact BK246.out)) : gb246 ≠ gb248)); have n16_ := ab_ ((by rw [hg]; exact az_ (au_ (g := gb246) (o := .cells #[.int .i64 (Int.tmod (wrap64 (a0_0 + a1_0)) 100), u247001] 29 (0, 0)) (by (with_reducible repeat (first | refine ac_ ?_ _ | refine ae_ ?_ | refine ad_ ?_ _)); exact BK246.out)) : gb248 ≠ gb246)); clear HO_247001; clear BK241; clear BK242; clear BK243; clear BK246; clear HB; have HO_247001 := n0_; have BK241 := n1_; have BK242 := n2_; have BK243 := n3_; have BK246 := n4_; have HB := n5_; have BK248 := n6_; have GW248 := n7_; have GE248 := n8_; have NB241_248 := n9_; have NB248_241 := n10_; have NB242_248 := n11_; have NB248_242 := n12_; have NB243_248 := n13_; have NB248_243 := n14_; have NB246_248 := n15_; have NB248_246 := n16_; clear n0_ n1_ n2_ n3_ n4_ n5_ n6_ n7_ n8_ n9_ n10_ n11_ n12_ n13_ n14_ n15_ n16_; clear hb hbox hg; have hnb89 := NB248_241.out; have hnc89 := NB241_248.out; have hnb90 := NB248_242.out; have hnc90 := NB242_248.out; have hnb91 := NB248_243.out; have hnc91 := NB243_248.out; have hnb92 := NB248_246.out; have hnc92 := NB246_248.out; have hcz93_0 : w88.cell? ⟨gb248, 0, none⟩ = some (.int .i64 0) := (al_ BK248.out 0).trans rfl; have hcz93_1 : w88.cell? ⟨gb248, 1, none⟩ = some (.int .i64 0) := (al_ BK248.out 1).trans rfl; have hfz93_0 := ak_ BK248.out 0; have hfz93_1 := ak_ BK248.out 1; have hnb94 := NB246_241.out; have hnc94 := NB241_246.out; have hnb95 := NB246_242.out; have hnc95 := NB242_246.out; have hnb96 := NB246_243.out; have hnc96 := NB243_246.out; have hcz97_0 : w88.cell? ⟨gb246, 0, none⟩ = some (.int .i64 (Int.tmod (wrap64 (a0_0 + a1_0)) 100)) := (al_ BK246.out 0).trans rfl; have hcz97_1 : w88.cell? ⟨gb246, 1, none⟩ = some (u247001) := (al_ BK246.out 1).trans rfl; have hfz97_0 := ak_ BK246.out 0; have hfz97_1 := ak_ BK246.out 1) | ((with_reducible refine gate_builtin (b := .append) (xs := #[.tmp 55, .tmp 57]) rfl ?_); at_builtin; refine Kd.R_append k82 (w0 := w) w.heap.size rfl (.tmp 55) (.tmp 57) 27 82 (.agg #[(.int .i64 0), (.int .i64 0)]) 16 rfl Try.underlying27 info82 rfl (by decide) (by omega) u247001 x247001_2 (⟨(rd_T82 l1_1 x28_2).f0, (rd_T82 l1_1 x28_2).f1⟩ : S82) [.int .i64 ((rd_T82 l1_1 x28_2).f0), .int .i64 ((rd_T82 l1_1 x28_2).f1)] (fun k_ => k_ ≠ gb248) (fun _ => False) rfl (by first | (go_simp; done) | (go_simp; rfl)) ?aP (fun _ hk => hk.elim) ?aF ?aO ?aB ?aS ?aL ?_; (case aP => exact k82_mkM _ _ _ (⟨(rd_T82 l1_1 x28_2).f0, (rd_T82 l1_1 x28_2).f1⟩ : S82)); (case aB => exact (by repeat (first | (with_reducible first | exact HB.out | apply ai_ | apply ag_ | apply ah_ | refine af_ ?_ GE241.out | refine af_ ?_ GE242.out | refine af_ ?_ GE243.out | refine af_ ?_ GE246.out | refine af_ ?_ GE248.out) | exact HB.out))); (case aF => exact (fun k_ hk => Kd.freshB (g := gb248) (o := .cells #[.int .i64 ((rd_T82 l1_1 x28_2).f0), .int .i64 ((rd_T82 l1_1 x28_2).f1)] 82 (0, 0)) (by (with_reducible repeat (first | refine ac_ ?_ _ | refine ae_ ?_ | refine ad_ ?_ _)); refine blk_put (cs := #[.int .i64 ((rd_T82 l1_1 x28_2).f0), .int .i64 0]) ?_ 1 _ rfl; (with_reducible repeat (first | refine ac_ ?_ _ | refine ae_ ?_ | refine ad_ ?_ _)); refine blk_put (cs := #[.int .i64 0, .int .i64 0]) ?_ 0 _ rfl; (with_reducible repeat (first | refine ac_ ?_ _ | refine ae_ ?_ | refine ad_ ?_ _)); exact BK248.out) k_ hk)); (case aO => exact (by (with_reducible repeat (first | apply am_ | apply an_ | apply ao_)); exact av_ (ax_ (p := ⟨gb248, 1, none⟩) (ax_ (p := ⟨gb248, 0, none⟩) (av_ HO_247001.out (fun k_ hk => (⟨hk, hk.2⟩ : _ ∧ k_ ≠ gb248))) (fun _ hk => hk.2) (.int .i64 ((rd_T82 l1_1 x28_2).f0))) (fun _ hk => hk.2) (.int .i64 ((rd_T82 l1_1 x28_2).f1))) (fun _ hk => hk.1.2))); (case aS => exact (at_ (by repeat (first | (with_reducible first | exact HB.out | apply ai_ | apply ag_ | apply ah_ | refine af_ ?_ GE241.out | refine af_ ?_ GE242.out | refine af_ ?_ GE243.out | refine af_ ?_ GE246.out | refine af_ ?_ GE248.out) | exact HB.out)))); (case aL => have := LMc87.out; omega); intro v257 w98 ho hb hg hat; rw [← Ny256.out] at ho; have n0_ := ab_ (blk_grown (g := gb241) (o := .cells #[.int .i64 a0_0, .slice A0_1 l0_1.length c0_1] 29 (0, 0)) (by (with_reducible repeat (first | refine ac_ ?_ _ | refine ae_ ?_ | refine ad_ ?_ _)); refine ay_ ?_ NB241_248.out _; (with_reducible repeat (first | refine ac_ ?_ _ | refine ae_ ?_ | refine ad_ ?_ _)); refine ay_ ?_ NB241_248.out _; (with_reducible repeat (first | refine ac_ ?_ _ | refine ae_ ?_ | refine ad_ ?_ _)); exact BK241.out) hg (Kd.R_ne HO_247001.out BK241.out (by decide))); have n1_ := ab_ (blk_grown (g := gb242) (o := .cells #[.int .i64 a1_0, .slice (some ad247) l1_1.length c1_1] 29 (0, 0)) (by (with_reducible repeat (first | refine ac_ ?_ _ | refine ae_ ?_ | refine ad_ ?_ _)); refine ay_ ?_ NB242_248.out _; (with_reducible repeat (first | refine ac_ ?_ _ | refine ae_ ?_ | refine ad_ ?_ _)); refine ay_ ?_ NB242_248.out _; (with_reducible repeat (first | refine ac_ ?_ _ | refine ae_ ?_ | refine ad_ ?_ _)); exact BK242.out) hg (Kd.R_ne HO_247001.out BK242.out (by decide))); have n2_ := ab_ (blk_grown (g := gb243) (o := .cells #[.int .i64 x244000_2, .slice none 0 0] 29 (0, 0)) (by (with_reducible repeat (first | refine ac_ ?_ _ | refine ae_ ?_ | refine ad_ ?_ _)); refine ay_ ?_ NB243_248.out _; (with_reducible repeat (first | refine ac_ ?_ _ | refine ae_ ?_ | refine ad_ ?_ _)); refine ay_ ?_ NB243_248.out _; (with_reducible repeat (first | refine ac_ ?_ _ | refine ae_ ?_ | refine ad_ ?_ _)); exact BK243.out) hg (Kd.R_ne HO_247001.out BK243.out (by decide))); have n3_ := ab_ (blk_grown (g := gb246) (o := .cells #[.int .i64 (Int.tmod (wrap64 (a0_0 + a1_0)) 100), u247001] 29 (0, 0)) (by (with_reducible repeat (first | refine ac_ ?_ _ | refine ae_ ?_ | refine ad_ ?_ _)); refine ay_ ?_ NB246_248.out _; (with_reducible repeat (first | refine ac_ ?_ _ | refine ae_ ?_ | refine ad_ ?_ _)); refine ay_ ?_ NB246_248.out _; (with_reducible repeat (first | refine ac_ ?_ _ | refine ae_ ?_ | refine ad_ ?_ _)); exact BK246.out) hg (Kd.R_ne HO_247001.out BK246.out (by decide))); have n4_ := ab_ (blk_grown (g := gb248) (o := .cells #[.int .i64 ((rd_T82 l1_1 x28_2).f0), .int .i64 ((rd_T82 l1_1 x28_2).f1)] 82 (0, 0)) (by (with_reducible repeat (first | refine ac_ ?_ _ | refine ae_ ?_ | refine ad_ ?_ _)); refine blk_put (cs := #[.int .i64 ((rd_T82 l1_1 x28_2).f0), .int .i64 0]) ?_ 1 _ rfl; (with_reducible repeat (first | refine ac_ ?_ _ | refine ae_ ?_ | refine ad_ ?_ _)); refine blk_put (cs := #[.int .i64 0, .int .i64 0]) ?_ 0 _ rfl; (with_reducible repeat (first | refine ac_ ?_ _ | refine ae_ ?_ | refine ad_ ?_ _)); exact BK248.out) hg (Kd.R_away HO_247001.out (fun _ hk => hk.2))); have n5_ := ab_ (hb); have n6_ := ab_ (ho); clear BK241; clear BK242; clear BK243; clear BK246; clear BK248; clear HB; clear HO_247001; have BK241 := n0_; have BK242 := n1_; have BK243 := n2_; have BK246 := n3_; have BK248 := n4_; have HB := n5_; have HO258 := n6_; clear n0_ n1_ n2_ n3_ n4_ n5_ n6_; clear ho hb hg hat; obtain ⟨Ao99, co99, eo99⟩ := Kd.R_slice HO258.out; subst eo99; have hcz100_0 : w98.cell? ⟨gb246, 0, none⟩ = some (.int .i64 (Int.tmod (wrap64 (a0_0 + a1_0)) 100)) := (al_ BK246.out 0).trans rfl; have hcz100_1 : w98.cell? ⟨gb246, 1, none⟩ = some (u247001) := (al_ BK246.out 1).trans rfl; have hfz100_0 := ak_ BK246.out 0; have hfz100_1 := ak_ BK246.out 1))
                          go_roundg k2
                          case measure => have := HJ2.out; have := HK2.out; omega
                          case rel => exact ⟨(wrap64 (x28_2 + 1)), (x244000_2), (y256), (.slice Ao99 y256.length co99), (by first | rfl | (simp; done) | (simp [*]; done)), H', ⟨by have := HJ2.out; have := HK2.out; omega⟩, ⟨by (with_reducible repeat (first | apply am_ | apply an_ | apply ao_)); exact av_ (ax_ (p := ⟨gb246, 1, none⟩) (Kd.R_types HO258.out BK246.out (by decide)) (fun _ hk => hk.2) (.slice Ao99 y256.length co99)) (fun _ hk => trivial)⟩, ⟨by (with_reducible repeat (first | refine ac_ ?_ _ | refine ae_ ?_ | refine ad_ ?_ _)); refine ay_ ?_ NB241_246.out _; (with_reducible repeat (first | refine ac_ ?_ _ | refine ae_ ?_ | refine ad_ ?_ _)); exact BK241.out⟩, ⟨by (with_reducible repeat (first | refine ac_ ?_ _ | refine ae_ ?_ | refine ad_ ?_ _)); refine ay_ ?_ NB242_246.out _; (with_reducible repeat (first | refine ac_ ?_ _ | refine ae_ ?_ | refine ad_ ?_ _)); exact BK242.out⟩, ⟨by (with_reducible repeat (first | refine ac_ ?_ _ | refine ae_ ?_ | refine ad_ ?_ _)); refine ay_ ?_ NB243_246.out _; (with_reducible repeat (first | refine ac_ ?_ _ | refine ae_ ?_ | refine ad_ ?_ _)); exact BK243.out⟩, ⟨by (with_reducible repeat (first | refine ac_ ?_ _ | refine ae_ ?_ | refine ad_ ?_ _)); refine blk_put (cs := #[.int .i64 (Int.tmod (wrap64 (a0_0 + a1_0)) 100), u247001]) ?_ 1 _ rfl; (with_reducible repeat (first | refine ac_ ?_ _ | refine ae_ ?_ | refine ad_ ?_ _)); exact BK246.out⟩, ⟨by repeat (first | (with_reducible first | exact HB.out | apply ai_ | apply ag_ | apply ah_ | refine af_ ?_ GE241.out | refine af_ ?_ GE242.out | refine af_ ?_ GE243.out | refine af_ ?_ GE246.out | refine af_ ?_ GE248.out) | exact HB.out)⟩⟩
                        · rw [if_neg c87] at H
                          exact absurd H (by simp)
                · rw [if_neg c38] at H
                  exact absurd H (by simp)
              · rw [if_neg c37] at H
                exact absurd H (by simp)
            · rw [if_neg c36] at H
              have c36b0 : decide (x28_2 < (l1_1.length : Int)) = false := decide_eq_false c36
              clear c36
              simp only [Option.some.injEq, Prod.mk.injEq] at H
              obtain ⟨rfl, rfl, rfl⟩ := H
              have hnb101 := NB246_241.out
              have hnc101 := NB241_246.out
              have hnb102 := NB246_242.out
              have hnc102 := NB242_246.out
              have hnb103 := NB246_243.out
              have hnc103 := NB243_246.out
              have hcz104_0 : wr.cell? ⟨gb246, 0, none⟩ = some (.int .i64 (Int.tmod (wrap64 (a0_0 + a1_0)) 100)) := (al_ BK246.out 0).trans rfl
              have hcz104_1 : wr.cell? ⟨gb246, 1, none⟩ = some (u247001) := (al_ BK246.out 1).trans rfl
              have hfz104_0 := ak_ BK246.out 0
              have hfz104_1 := ak_ BK246.out 1
              have hnb105 := NB243_241.out
              have hnc105 := NB241_243.out
              have hnb106 := NB243_242.out
              have hnc106 := NB242_243.out
              have hcz107_0 : wr.cell? ⟨gb243, 0, none⟩ = some (.int .i64 x244000_2) := (al_ BK243.out 0).trans rfl
              have hcz107_1 : wr.cell? ⟨gb243, 1, none⟩ = some (.slice none 0 0) := (al_ BK243.out 1).trans rfl
              have hfz107_0 := ak_ BK243.out 0
              have hfz107_1 := ak_ BK243.out 1
              obtain ⟨Ao108, co108, eo108⟩ := Kd.R_slice HO_247001.out
              subst eo108
              go_wp2
              refine bodyPost_ret (results_ct rfl _ _ gb243 29 #[.int .i64 (Int.tmod (wrap64 (a0_0 + a1_0)) 100), .slice Ao108 x247001_2.length co108] (0, 0) _ rfl (by (with_reducible repeat (first | refine ac_ ?_ _ | refine ae_ ?_ | refine ad_ ?_ _)); refine blk_put (cs := #[.int .i64 (Int.tmod (wrap64 (a0_0 + a1_0)) 100), .slice none 0 0]) ?_ 1 _ rfl; (with_reducible repeat (first | refine ac_ ?_ _ | refine ae_ ?_ | refine ad_ ?_ _)); refine blk_put (cs := #[.int .i64 x244000_2, .slice none 0 0]) ?_ 0 _ rfl; (with_reducible repeat (first | refine ac_ ?_ _ | refine ae_ ?_ | refine ad_ ?_ _)); exact BK243.out) Try.underlying29 rfl (by kernel_rfl)) rfl ?_
              exact ⟨_, by first | rfl | (simp [errW_none, errW_some] <;> rfl) | (simp [*, errW_none, errW_some] <;> rfl), by (with_reducible repeat (first | apply am_ | apply an_ | apply ao_)); exact av_ (ax_ (p := ⟨gb243, 1, none⟩) (ax_ (p := ⟨gb243, 0, none⟩) (Kd.R_types HO_247001.out BK243.out (by decide)) (fun _ hk => hk.2) (.int .i64 (Int.tmod (wrap64 (a0_0 + a1_0)) 100))) (fun _ hk => hk.2) (.slice Ao108 x247001_2.length co108)) (fun _ hk => trivial), by repeat (first | (with_reducible first | exact HB.out | apply ai_ | apply ag_ | apply ah_ | refine af_ ?_ GE241.out | refine af_ ?_ GE242.out | refine af_ ?_ GE243.out | refine af_ ?_ GE246.out) | exact HB.out)⟩
end Go.Proofs.Ytjnaokdncemggaa.PAll

end

section
namespace Go.Proofs.Ytjnaokdncemggaa.PAll
open Go.RowKit Go.Proofs.YtjnaokdncemggaaW.PrintWords Go.Proofs.YtjnaokdncemggaaW.PrintLast Go.Proofs.YtjnaokdncemggaaW.PrintMore
attribute [local go_sem] max2_int min2_int max_two min_two max_three min_three max_four min_four   -- for this text's walks alone
set_option linter.unusedVariables false
set_option linter.unusedSimpArgs false
def laws_markRuleS.l0 : Nat → List (S82) → Int → Int → Option (Int × (List (S82)))
  | 0, _, _, _ => none
  | k + 1, x0, x1, x5 => if x5 < (x0.length : Int) then (if 0 ≤ x5 then ((some (x0.set (x5 : Int).toNat (⟨x1, (rd_T82 x0 x5).f1⟩ : S82) : List (S82))).bind fun y259 => (laws_markRuleS.l0 k (y259.set (x5 : Int).toNat (⟨(rd_T82 y259 x5).f0, wrap64 (x1 + 1)⟩ : S82)) (wrap64 ((wrap64 (x1 + 1)) + 1)) (wrap64 (x5 + 1)))) else (none)) else (some (x1, x0))
def laws_markRuleS.f (k : Nat) (l0 : List (S82)) (a1 : Int) : Option (Int × (List (S82))) := laws_markRuleS.l0 k l0 a1 0
set_option maxHeartbeats 8000000 in
set_option maxRecDepth 100000 in
theorem laws_markRuleS.calls (k : Nat) (P0_ : Nat → Prop) (u9000_ : Value) (l0 : List (S82)) (a1 : Int) (r1 : Int) (r2 : List (S82)) (w0 w : World) (hB : Below w0.heap.size w0 w) (ho0 : Kd.R k82 82 w w0.heap.size P0_ u9000_ l0) (h : laws_markRuleS.f k l0 a1 = some (r1, r2)) :
    Calls Try.prog 68 #[u9000_, .int .i64 a1] w fun e w' => e = .returned (.int .i64 r1) ∧ Kd.R k82 82 w' w0.heap.size (fun k_ => (P0_ k_ ∨ w.heap.size ≤ k_)) u9000_ r2 ∧ Below w0.heap.size w0 w' ∧ Kept w w' (fun k_ => P0_ k_) := by
  have HO0 := ab_ (show Kd.R k82 82 w w0.heap.size (fun k_ => (P0_ k_ ∨ w.heap.size ≤ k_)) u9000_ l0 from av_ ho0 (fun k_ hk => (.inl hk)))
  have HK := ab_ (Kept.refl w (fun k_ => P0_ k_))
  have HW0 := ab_ hB.size
  have HB := ab_ hB
  clear hB
  have H : (laws_markRuleS.l0 k l0 a1 0) = some (r1, r2) := h
  clear h
  have H' := ab_ H
  clear H
  go_enter Try.func68, Try.ntmps68
  go_wp2
  go_loopg [1, 5] k (fun kq v1 v5 w' => ∃ (x0_1 : List (S82)) (x1_1 : Int) (x5_1 : Int), v1 = .int .i64 x1_1 ∧ v5 = .int .i64 x5_1 ∧ Aside0 (laws_markRuleS.l0 kq x0_1 x1_1 x5_1 = some (r1, r2)) ∧ Aside0 (kq ≤ k) ∧ Aside0 (Kd.R k82 82 w' w0.heap.size (fun k_ => (P0_ k_ ∨ w.heap.size ≤ k_)) u9000_ x0_1) ∧ Aside0 (Kept w w' (fun k_ => P0_ k_)) ∧ Aside0 (Below w0.heap.size w0 w'))
  case atStart => exact ⟨(l0), (a1), (0), (by first | rfl | (simp; done) | (simp [*]; done)), (by first | rfl | (simp; done) | (simp [*]; done)), H', ⟨Nat.le_refl _⟩, ⟨by (with_reducible repeat (first | apply am_ | apply an_ | apply ao_)); exact HO0.out⟩, ⟨by repeat (first | (with_reducible first | exact HK.out | apply Kept.alloc | apply Kept.drewN | apply Kept.drew) | exact HK.out)⟩, ⟨by repeat (first | (with_reducible first | exact HB.out | apply ai_ | apply ag_ | apply ah_) | exact HB.out)⟩⟩
  case round =>
    clear H'
    try clear p2
    obtain ⟨x0_1, x1_1, x5_1, rfl, rfl, HA, HK1, HO_0, HK, HB⟩ := hrel
    cases gk with
    | zero => exact absurd HA.out (by simp [laws_markRuleS.l0])
    | succ k1 =>
      have H := HA.out
      clear HA
      simp only [laws_markRuleS.l0] at H
      by_cases c3 : x5_1 < (x0_1.length : Int)
      · rw [if_pos c3] at H
        have c3b0 : decide (x5_1 < (x0_1.length : Int)) = true := decide_eq_true c3
        clear c3
        by_cases c4 : 0 ≤ x5_1
        · rw [if_pos c4] at H
          have c4b0 : decide (0 ≤ x5_1) = true := decide_eq_true c4
          clear c4
          obtain ⟨y259, hy259⟩ : ∃ y_ : List (S82), y_ = (x0_1.set (x5_1 : Int).toNat (⟨x1_1, (rd_T82 x0_1 x5_1).f1⟩ : S82)) := ⟨_, rfl⟩
          replace H : (laws_markRuleS.l0 k1 (y259.set (x5_1 : Int).toNat (⟨(rd_T82 y259 x5_1).f0, wrap64 (x1_1 + 1)⟩ : S82)) (wrap64 ((wrap64 (x1_1 + 1)) + 1)) (wrap64 (x5_1 + 1))) = some (r1, r2) := by first | (rw [hy259]; with_reducible exact H) | (have H2_ := (Option.bind_some _ _).symm.trans H; rw [hy259]; with_reducible exact H2_) | (have H2_ := (Option.bind_some _ _).symm.trans H; with_reducible exact H2_) | with_reducible exact H | (rw [hy259]; exact H) | exact H
          have Ny259 := ab_ hy259
          clear hy259
          obtain ⟨y260, hy260⟩ : ∃ y_ : List (S82), y_ = (y259.set (x5_1 : Int).toNat (⟨(rd_T82 y259 x5_1).f0, wrap64 (x1_1 + 1)⟩ : S82)) := ⟨_, rfl⟩
          replace H : (laws_markRuleS.l0 k1 y260 (wrap64 ((wrap64 (x1_1 + 1)) + 1)) (wrap64 (x5_1 + 1))) = some (r1, r2) := by first | (rw [hy260]; with_reducible exact H) | (have H2_ := (Option.bind_some _ _).symm.trans H; rw [hy260]; with_reducible exact H2_) | (have H2_ := (Option.bind_some _ _).symm.trans H; with_reducible exact H2_) | with_reducible exact H | (rw [hy260]; exact H) | exact H
          have Ny260 := ab_ hy260
          clear hy260
          have H' := ab_ H
          clear H
          obtain ⟨Ao7, co7, eo7⟩ := Kd.R_slice HO_0.out
          subst eo7
          have p5 : 0 ≤ (x5_1 : Int) := of_decide_eq_true (by first | (with_reducible assumption) | assumption)
          have q5 : (x5_1 : Int) < ((x0_1.length : Int) : Int) := of_decide_eq_true (by first | (with_reducible assumption) | assumption)
          obtain ⟨go5, co5, eo5, gb5, gl5, cl5, HG5⟩ := Kd.R_form HO_0.out (by omega)
          (first | cases eo5 | (injection eo5 with ea_ en_ ec_; (first | subst ea_ | (injection ea_ with ea_; subst ea_)); subst ec_; clear en_))
          have GB5 := ab_ gb5
          have GG5 := ab_ HG5
          clear gb5 gl5 HG5
          have HMgo5 := ab_ (show (P0_ go5 ∨ w.heap.size ≤ go5) from (HO_0.out.1 _ rfl))
          obtain ⟨ce5, hcl5, hM5, hcc5, hfr5⟩ := Kd.R_elem HO_0.out z82 (x5_1 : Int) p5 q5
          obtain rfl := k82_openM hM5
          have hx5_0 : wr.cell? ⟨go5, (x5_1 : Int).toNat * 2, none⟩ = some (.int .i64 ((rd_T82 x0_1 x5_1).f0)) := hcc5 0 _ rfl
          have hx5_1 : wr.cell? ⟨go5, (x5_1 : Int).toNat * 2 + 1, none⟩ = some (.int .i64 ((rd_T82 x0_1 x5_1).f1)) := hcc5 1 _ rfl
          have hf5_0 : wr.frozen? ⟨go5, (x5_1 : Int).toNat * 2, none⟩ = false := hfr5 0
          have hf5_1 : wr.frozen? ⟨go5, (x5_1 : Int).toNat * 2 + 1, none⟩ = false := hfr5 1
          (try clear hcl5); (try clear hcc5); (try clear hfr5); (try clear hM5)
          replace p5 := eq_true p5
          replace q5 := eq_true q5
          have HX8 := ab_ (show Kd.R k82 82 wr w0.heap.size (fun k_ => (P0_ k_ ∨ w.heap.size ≤ k_)) (.slice (some ⟨go5, 0, none⟩) x0_1.length co7) x0_1 from (by (with_reducible repeat (first | apply am_ | apply an_ | apply ao_)); exact HO_0.out))
          obtain ⟨ce8, hcl8, hM8, hcc8, hfr8⟩ := Kd.R_elem HX8.out z82 (x5_1 : Int) (of_decide_eq_true (by first | (with_reducible assumption) | assumption)) (by have h_ : (x5_1 : Int) < ((x0_1.length : Int) : Int) := of_decide_eq_true (by first | (with_reducible assumption) | assumption); first | exact h_ | (have e_ := (aw_ HO_0.out).1; omega) | simpa using h_)
          obtain rfl := k82_openM hM8
          have HP8 := Kd.R_seg HX8.out (x5_1 : Int) (of_decide_eq_true (by first | (with_reducible assumption) | assumption)) (by have h_ : (x5_1 : Int) < ((x0_1.length : Int) : Int) := of_decide_eq_true (by first | (with_reducible assumption) | assumption); first | exact h_ | (have e_ := (aw_ HO_0.out).1; omega) | simpa using h_) (seg := [.int .i64 x1_1]) (j := 0) hcl8 hcc8 (show 1 ≤ 2 from by decide) (x' := (⟨x1_1, (rd_T82 x0_1 x5_1).f1⟩ : S82)) (k82_mkM _ _ _ (⟨x1_1, (rd_T82 x0_1 x5_1).f1⟩ : S82) ) (fun _ hk => hk)
          have hx8_0 := hcc8 0 _ rfl
          (try simp only [show (k82).sz = 2 from rfl, Nat.mul_one, Nat.add_zero] at hx8_0)
          have hf8_0 := hfr8 0
          (try simp only [show (k82).sz = 2 from rfl, Nat.mul_one, Nat.add_zero] at hf8_0)
          (try clear hcl8); (try clear hcc8); (try clear hfr8); (try clear hM8)
          go_wp2_with (first | ((with_reducible refine gate_store (t := 3) (p := 16) rfl ?_); refine store_event (t := 3) (p := 16) (v := ?vo_w9) (w1 := (wr.setCell ⟨go5, (x5_1 : Int).toNat * 2, none⟩ (.int .i64 x1_1))) ?hg ?ho ?hn ?hr ?_; (case ho => rfl); (case hg => rfl); (case hn => rfl); (case hr => first | (go_simp; done) | (go_simp; rfl)); intro w9 hw; have hg : wr.grownBy w9 (some go5) := (by rw [hw]; exact HP8.2); have hp_ : Kd.R k82 82 w9 w0.heap.size (fun k_ => (P0_ k_ ∨ w.heap.size ≤ k_)) (.slice (some ⟨go5, 0, none⟩) x0_1.length co7) y259 := (by rw [hw, Ny259.out]; exact HP8.1); clear HP8; have n0_ := ab_ (hp_); have n1_ := ab_ ((by rw [hw]; exact af_ (HB.out) GB5.out : Below w0.heap.size w0 w9)); have n2_ := ab_ (Kept.of_grown (S := (fun k_ => P0_ k_)) hg (by repeat (first | (with_reducible first | exact HK.out | apply Kept.alloc | apply Kept.drewN | apply Kept.drew) | exact HK.out)) (fun k_ e_ => (HO_0.out.1 k_ e_))); clear HO_0; clear HB; clear HK; have HO_0 := n0_; have HB := n1_; have HK := n2_; clear n0_ n1_ n2_; clear hg hw hp_; have p6 : 0 ≤ (x5_1 : Int) := of_decide_eq_true (by first | (with_reducible assumption) | assumption); have q6 : (x5_1 : Int) < ((x0_1.length : Int) : Int) := of_decide_eq_true (by first | (with_reducible assumption) | assumption); obtain ⟨ce6, hcl6, hM6, hcc6, hfr6⟩ := Kd.R_elem HO_0.out z82 (x5_1 : Int) p6 q6; obtain rfl := k82_openM hM6; have hx6_0 : w9.cell? ⟨go5, (x5_1 : Int).toNat * 2, none⟩ = some (.int .i64 ((rd_T82 y259 x5_1).f0)) := hcc6 0 _ rfl; have hx6_1 : w9.cell? ⟨go5, (x5_1 : Int).toNat * 2 + 1, none⟩ = some (.int .i64 ((rd_T82 y259 x5_1).f1)) := hcc6 1 _ rfl; have hf6_0 : w9.frozen? ⟨go5, (x5_1 : Int).toNat * 2, none⟩ = false := hfr6 0; have hf6_1 : w9.frozen? ⟨go5, (x5_1 : Int).toNat * 2 + 1, none⟩ = false := hfr6 1; (try clear hcl6); (try clear hcc6); (try clear hfr6); (try clear hM6); replace p6 := eq_true p6; replace q6 := eq_true q6; have HX10 := ab_ (show Kd.R k82 82 w9 w0.heap.size (fun k_ => (P0_ k_ ∨ w.heap.size ≤ k_)) (.slice (some ⟨go5, 0, none⟩) x0_1.length co7) y259 from (by (with_reducible repeat (first | apply am_ | apply an_ | apply ao_)); exact HO_0.out)); obtain ⟨ce10, hcl10, hM10, hcc10, hfr10⟩ := Kd.R_elem HX10.out z82 (x5_1 : Int) (of_decide_eq_true (by first | (with_reducible assumption) | assumption)) (by have h_ : (x5_1 : Int) < ((x0_1.length : Int) : Int) := of_decide_eq_true (by first | (with_reducible assumption) | assumption); first | exact h_ | (have e_ := (aw_ HO_0.out).1; omega) | simpa using h_); obtain rfl := k82_openM hM10; have HP10 := Kd.R_seg HX10.out (x5_1 : Int) (of_decide_eq_true (by first | (with_reducible assumption) | assumption)) (by have h_ : (x5_1 : Int) < ((x0_1.length : Int) : Int) := of_decide_eq_true (by first | (with_reducible assumption) | assumption); first | exact h_ | (have e_ := (aw_ HO_0.out).1; omega) | simpa using h_) (seg := [.int .i64 (wrap64 (x1_1 + 1))]) (j := 1) hcl10 hcc10 (show 2 ≤ 2 from by decide) (x' := (⟨(rd_T82 y259 x5_1).f0, wrap64 (x1_1 + 1)⟩ : S82)) (k82_mkM _ _ _ (⟨(rd_T82 y259 x5_1).f0, wrap64 (x1_1 + 1)⟩ : S82) ) (fun _ hk => hk); have hx10_1 := hcc10 1 _ rfl; (try simp only [show (k82).sz = 2 from rfl, Nat.mul_one, Nat.add_zero] at hx10_1); have hf10_1 := hfr10 1; (try simp only [show (k82).sz = 2 from rfl, Nat.mul_one, Nat.add_zero] at hf10_1); (try clear hcl10); (try clear hcc10); (try clear hfr10); (try clear hM10)) | ((with_reducible refine gate_store (t := 3) (p := 23) rfl ?_); refine store_event (t := 3) (p := 23) (v := ?vo_w11) (w1 := (w9.setCell ⟨go5, (x5_1 : Int).toNat * 2 + 1, none⟩ (.int .i64 (wrap64 (x1_1 + 1))))) ?hg ?ho ?hn ?hr ?_; (case ho => rfl); (case hg => rfl); (case hn => rfl); (case hr => first | (go_simp; done) | (go_simp; rfl)); intro w11 hw; have hg : w9.grownBy w11 (some go5) := (by rw [hw]; exact HP10.2); have hp_ : Kd.R k82 82 w11 w0.heap.size (fun k_ => (P0_ k_ ∨ w.heap.size ≤ k_)) (.slice (some ⟨go5, 0, none⟩) x0_1.length co7) y260 := (by rw [hw, Ny260.out]; exact HP10.1); clear HP10; have n0_ := ab_ (hp_); have n1_ := ab_ ((by rw [hw]; exact af_ (HB.out) GB5.out : Below w0.heap.size w0 w11)); have n2_ := ab_ (Kept.of_grown (S := (fun k_ => P0_ k_)) hg (by repeat (first | (with_reducible first | exact HK.out | apply Kept.alloc | apply Kept.drewN | apply Kept.drew) | exact HK.out)) (fun k_ e_ => (HO_0.out.1 k_ e_))); clear HO_0; clear HB; clear HK; have HO_0 := n0_; have HB := n1_; have HK := n2_; clear n0_ n1_ n2_; clear hg hw hp_))
          go_roundg k1
          case measure => have := HK1.out; omega
          case rel => exact ⟨(y260), (wrap64 ((wrap64 (x1_1 + 1)) + 1)), (wrap64 (x5_1 + 1)), (by first | rfl | (simp; done) | (simp [*]; done)), (by first | rfl | (simp; done) | (simp [*]; done)), H', ⟨by have := HK1.out; omega⟩, ⟨by (with_reducible repeat (first | apply am_ | apply an_ | apply ao_)); exact HO_0.out⟩, ⟨by repeat (first | (with_reducible first | exact HK.out | apply Kept.alloc | apply Kept.drewN | apply Kept.drew) | exact HK.out)⟩, ⟨by repeat (first | (with_reducible first | exact HB.out | apply ai_ | apply ag_ | apply ah_) | exact HB.out)⟩⟩
        · rw [if_neg c4] at H
          exact absurd H (by simp)
      · rw [if_neg c3] at H
        have c3b0 : decide (x5_1 < (x0_1.length : Int)) = false := decide_eq_false c3
        clear c3
        simp only [Option.some.injEq, Prod.mk.injEq] at H
        obtain ⟨rfl, rfl⟩ := H
        obtain ⟨Ao12, co12, eo12⟩ := Kd.R_slice HO_0.out
        subst eo12
        go_wp2
        go_ret
        exact ⟨by first | rfl | (simp [errW_none, errW_some] <;> rfl) | (simp [*, errW_none, errW_some] <;> rfl), by (with_reducible repeat (first | apply am_ | apply an_ | apply ao_)); exact HO_0.out, by repeat (first | (with_reducible first | exact HB.out | apply ai_ | apply ag_ | apply ah_) | exact HB.out), by repeat (first | (with_reducible first | exact HK.out | apply Kept.alloc | apply Kept.drewN | apply Kept.drew) | exact HK.out)⟩
def laws_markHandler.f (k : Nat) (a0_0 : Int) (l0_1 : List (S82)) (a1 : Int) : Option (Int × (List (S82))) := (laws_markRuleS.f k l0_1 a1).bind fun bt262 => (some (bt262.1, bt262.2))
set_option maxHeartbeats 8000000 in
set_option maxRecDepth 100000 in
theorem laws_markHandler.calls (k : Nat) (a0_0 : Int) (P0_1_ : Nat → Prop) (u9000_ : Value) (l0_1 : List (S82)) (a1 : Int) (r1 : Int) (r2 : List (S82)) (w0 w : World) (hB : Below w0.heap.size w0 w) (ho0_1 : Kd.R k82 82 w w0.heap.size P0_1_ u9000_ l0_1) (h : laws_markHandler.f k a0_0 l0_1 a1 = some (r1, r2)) :
    Calls Try.prog 25 #[.agg #[.int .i64 a0_0, u9000_], .int .i64 a1] w fun e w' => e = .returned (.int .i64 r1) ∧ Kd.R k82 82 w' w0.heap.size (fun k_ => (P0_1_ k_ ∨ w.heap.size ≤ k_)) u9000_ r2 ∧ Below w0.heap.size w0 w' ∧ Kept w w' (fun k_ => P0_1_ k_) := by
  have hu29 := Try.underlying29
  have HO0_1 := ab_ (show Kd.R k82 82 w w0.heap.size (fun k_ => (P0_1_ k_ ∨ w.heap.size ≤ k_)) u9000_ l0_1 from av_ ho0_1 (fun k_ hk => (.inl hk)))
  have HK := ab_ (Kept.refl w (fun k_ => P0_1_ k_))
  have HW0 := ab_ hB.size
  have HB := ab_ hB
  clear hB
  have H : ((laws_markRuleS.f k l0_1 a1).bind fun bt262 => (some (bt262.1, bt262.2))) = some (r1, r2) := h
  clear h
  replace H := Option.bind_eq_some_iff.mp H
  obtain ⟨⟨t262, t263⟩, A30, H⟩ := H
  replace H : (some (t262, t263)) = some (r1, r2) := H
  have A3 := ab_ A30
  clear A30
  simp only [Option.some.injEq, Prod.mk.injEq] at H
  obtain ⟨rfl, rfl⟩ := H
  obtain ⟨Ao4, co4, eo4⟩ := Kd.R_slice HO0_1.out
  subst eo4
  go_enter Try.func25, Try.ntmps25
  go_wp2_with (first | ((with_reducible refine gate_dst (N := 2) rfl ?_); refine box_event ?hg (N := 2) ?hd (cs := #[.int .i64 a0_0, .slice Ao4 l0_1.length co4]) (t := 29) ?hr ?_; (case hd => rfl); (case hg => rfl); (case hr => first | (go_simp; done) | (go_simp; rfl)); intro gb261 hg w5 hbox hb; have n0_ := ab_ (ap_ (by (with_reducible repeat (first | apply am_ | apply an_ | apply ao_)); exact HO0_1.out) hb); have n1_ := ab_ (Kept.below (S := (fun k_ => P0_1_ k_)) (by repeat (first | (with_reducible first | exact HK.out | apply Kept.alloc | apply Kept.drewN | apply Kept.drew) | exact HK.out)) hb); have n2_ := ab_ (ar_ (by repeat (first | (with_reducible first | exact HB.out | apply ai_ | apply ag_ | apply ah_) | exact HB.out)) hb); have n3_ := ab_ (hbox); have n4_ := ab_ ((by rw [hg]; exact (by first | exact HK.out.1 | exact (show Kept w _ (fun k_ => P0_1_ k_) from by repeat (first | (with_reducible first | exact HK.out | apply Kept.alloc | apply Kept.drewN | apply Kept.drew) | exact HK.out)).1) : w.heap.size ≤ gb261)); have n5_ := ab_ ((by rw [hg]; exact (at_ (by repeat (first | (with_reducible first | exact HB.out | apply ai_ | apply ag_ | apply ah_) | exact HB.out))) : w0.heap.size ≤ gb261)); clear HO0_1; clear HK; clear HB; have HO0_1 := n0_; have HK := n1_; have HB := n2_; have BK261 := n3_; have GW261 := n4_; have GE261 := n5_; clear n0_ n1_ n2_ n3_ n4_ n5_; clear hb hbox hg; have hcz6_0 : w5.cell? ⟨gb261, 0, none⟩ = some (.int .i64 a0_0) := (al_ BK261.out 0).trans rfl; have hcz6_1 : w5.cell? ⟨gb261, 1, none⟩ = some (.slice Ao4 l0_1.length co4) := (al_ BK261.out 1).trans rfl; have hfz6_0 := ak_ BK261.out 0; have hfz6_1 := ak_ BK261.out 1) | ((with_reducible refine gate_callee (f := 68) rfl ?_); refine goesL_ (some 8) rfl rfl Try.func68 (by kernel_rfl) rfl #[.slice Ao4 l0_1.length co4, .int .i64 a1] rfl (by (try simp only [List.map_toArray, List.map_cons, List.map_nil]); first | done | rfl | (simp only [List.length_drop, List.length_take]; rfl)) ?_; (with_reducible refine (laws_markRuleS.calls k (fun k_ => some k_ = (.slice Ao4 l0_1.length co4 : Value).ownBlock) (.slice Ao4 l0_1.length co4) l0_1 a1 t262 t263 w0 _ ?side1 ?side2 A3.out).mono ?_); (case side1 => repeat (first | (with_reducible first | exact HB.out | apply ai_ | apply ag_ | apply ah_ | refine af_ ?_ GE261.out) | exact HB.out)); (case side2 => exact Kd.R_tight rfl HO0_1.out); rintro e w7 ⟨rfl, hy0, hb, hkp⟩; refine ⟨_, rfl, ?_⟩; have n0_ := ab_ (Kd.R_reok rfl hy0 (fun k_ e_ => HO0_1.out.1 k_ e_)); have n1_ := ab_ (blk_kept (by (with_reducible repeat (first | refine ac_ ?_ _ | refine ae_ ?_ | refine ad_ ?_ _)); exact BK261.out) hkp (fun hs_ => (fun e_ => (Kd.R_ne HO0_1.out BK261.out (by decide)) e_) hs_)); have n2_ := ab_ (Kept.then_ (S := (fun k_ => P0_1_ k_)) (by repeat (first | (with_reducible first | exact HK.out | apply Kept.alloc | apply Kept.drewN | apply Kept.drew | refine Kept.setCell ?_ (.inr GW261.out) _) | exact HK.out)) hkp (fun k_ hs_ => (fun e_ => (HO0_1.out.1 k_ e_.symm)) hs_)); have n3_ := ab_ (hb); clear HO0_1; clear BK261; clear HK; clear HB; have HO0_1 := n0_; have BK261 := n1_; have HK := n2_; have HB := n3_; clear n0_ n1_ n2_ n3_; (try clear hb); (try clear hkp); (try clear hy0)))
  go_ret
  exact ⟨by first | rfl | (simp [errW_none, errW_some] <;> rfl) | (simp [*, errW_none, errW_some] <;> rfl), by (with_reducible repeat (first | apply am_ | apply an_ | apply ao_)); exact HO0_1.out, by repeat (first | (with_reducible first | exact HB.out | apply ai_ | apply ag_ | apply ah_ | refine af_ ?_ GE261.out) | exact HB.out), by repeat (first | (with_reducible first | exact HK.out | apply Kept.alloc | apply Kept.drewN | apply Kept.drew | refine Kept.setCell ?_ (.inr GW261.out) _) | exact HK.out)⟩
def laws_heldRuleS.l0 : Nat → List (S82) → Int → Int → Option (Int)
  | 0, _, _, _ => none
  | k + 1, x0, x1, x5 => if x5 < (x0.length : Int) then (if 0 ≤ x5 then (if ((rd_T82 x0 x5).f0) = x1 then (if ((rd_T82 x0 x5).f1) = (wrap64 (x1 + 1)) then (laws_heldRuleS.l0 k x0 (wrap64 ((wrap64 (x1 + 1)) + 1)) (wrap64 (x5 + 1))) else (some (-1))) else (some (-1))) else (none)) else (some x1)
def laws_heldRuleS.f (k : Nat) (l0 : List (S82)) (a1 : Int) : Option (Int) := laws_heldRuleS.l0 k l0 a1 0
set_option maxHeartbeats 8000000 in
set_option maxRecDepth 100000 in
theorem laws_heldRuleS.calls (k : Nat) (A0 : Option Addr) (c0 : Nat) (l0 : List (S82)) (a1 : Int) (r : Int) (w : World) (hr0 : Kd.C k82 w A0 l0.length l0) (hc0 : l0.length ≤ c0) (h : laws_heldRuleS.f k l0 a1 = some r) :
    Calls Try.prog 69 #[.slice A0 l0.length c0, .int .i64 a1] w fun e w' => e = .returned (.int .i64 r) ∧ Drawn0 w w' := by
  have HR0 := ab_ hr0
  have HC0 := ab_ hc0
  clear hr0 hc0
  have H : (laws_heldRuleS.l0 k l0 a1 0) = some r := h
  clear h
  have H' := ab_ H
  clear H
  go_enter Try.func69, Try.ntmps69
  go_wp2
  go_loopg [1, 5] k (fun kq v1 v5 w' => ∃ (x1_1 : Int) (x5_1 : Int), v1 = .int .i64 x1_1 ∧ v5 = .int .i64 x5_1 ∧ Aside0 (laws_heldRuleS.l0 kq l0 x1_1 x5_1 = some r) ∧ Aside0 (kq ≤ k) ∧ Drawn0 w w')
  case atStart => exact ⟨(a1), (0), (by first | rfl | (simp; done) | (simp [*]; done)), (by first | rfl | (simp; done) | (simp [*]; done)), H', ⟨Nat.le_refl _⟩, by repeat (first | exact Drawn0.refl _ | apply Drawn0.step)⟩
  case round =>
    clear H'
    try clear p2
    obtain ⟨x1_1, x5_1, rfl, rfl, HA, HK1, ⟨m1, rfl⟩⟩ := hrel
    cases gk with
    | zero => exact absurd HA.out (by simp [laws_heldRuleS.l0])
    | succ k1 =>
      have H := HA.out
      clear HA
      simp only [laws_heldRuleS.l0] at H
      by_cases c3 : x5_1 < (l0.length : Int)
      · rw [if_pos c3] at H
        have c3b0 : decide (x5_1 < (l0.length : Int)) = true := decide_eq_true c3
        clear c3
        by_cases c4 : 0 ≤ x5_1
        · rw [if_pos c4] at H
          have c4b0 : decide (0 ≤ x5_1) = true := decide_eq_true c4
          clear c4
          by_cases c5 : ((rd_T82 l0 x5_1).f0) = x1_1
          · rw [if_pos c5] at H
            have c5b0 : (((rd_T82 l0 x5_1).f0) == x1_1) = true := beq_iff_eq.mpr c5
            have c5b1 : (((rd_T82 l0 x5_1).f0) != x1_1) = false := bne_eq_false_iff_eq.mpr c5
            clear c5
            by_cases c6 : ((rd_T82 l0 x5_1).f1) = (wrap64 (x1_1 + 1))
            · rw [if_pos c6] at H
              have c6b0 : (((rd_T82 l0 x5_1).f1) == (wrap64 (x1_1 + 1))) = true := beq_iff_eq.mpr c6
              have c6b1 : (((rd_T82 l0 x5_1).f1) != (wrap64 (x1_1 + 1))) = false := bne_eq_false_iff_eq.mpr c6
              clear c6
              have H' := ab_ H
              clear H
              have p264 : 0 ≤ (x5_1 : Int) := of_decide_eq_true (by first | (with_reducible assumption) | assumption)
              have q264 : x5_1 < (l0.length : Int) := of_decide_eq_true (by first | (with_reducible assumption) | assumption)
              obtain ⟨ad264, e264, hx264_0, hx264_1⟩ := at_T82 HR0.out x5_1 p264 q264
              cases e264
              replace p264 := eq_true p264
              replace q264 := eq_true q264
              have p265 : 0 ≤ (x5_1 : Int) := of_decide_eq_true (by first | (with_reducible assumption) | assumption)
              have q265 : x5_1 < (l0.length : Int) := of_decide_eq_true (by first | (with_reducible assumption) | assumption)
              obtain ⟨ad265, e265, hx265_0, hx265_1⟩ := at_T82 HR0.out x5_1 p265 q265
              obtain rfl : ad264 = ad265 := (by injection e265)
              replace p265 := eq_true p265
              replace q265 := eq_true q265
              go_wp2
              go_roundg k1
              case measure => have := HK1.out; omega
              case rel => exact ⟨(wrap64 ((wrap64 (x1_1 + 1)) + 1)), (wrap64 (x5_1 + 1)), (by first | rfl | (simp; done) | (simp [*]; done)), (by first | rfl | (simp; done) | (simp [*]; done)), H', ⟨by have := HK1.out; omega⟩, by repeat (first | exact Drawn0.refl _ | apply Drawn0.step)⟩
            · rw [if_neg c6] at H
              have c6b0 : (((rd_T82 l0 x5_1).f1) == (wrap64 (x1_1 + 1))) = false := beq_eq_false_iff_ne.mpr c6
              have c6b1 : (((rd_T82 l0 x5_1).f1) != (wrap64 (x1_1 + 1))) = true := bne_iff_ne.mpr c6
              obtain rfl := Option.some.inj H
              have p264 : 0 ≤ (x5_1 : Int) := of_decide_eq_true (by first | (with_reducible assumption) | assumption)
              have q264 : x5_1 < (l0.length : Int) := of_decide_eq_true (by first | (with_reducible assumption) | assumption)
              obtain ⟨ad264, e264, hx264_0, hx264_1⟩ := at_T82 HR0.out x5_1 p264 q264
              cases e264
              replace p264 := eq_true p264
              replace q264 := eq_true q264
              have p265 : 0 ≤ (x5_1 : Int) := of_decide_eq_true (by first | (with_reducible assumption) | assumption)
              have q265 : x5_1 < (l0.length : Int) := of_decide_eq_true (by first | (with_reducible assumption) | assumption)
              obtain ⟨ad265, e265, hx265_0, hx265_1⟩ := at_T82 HR0.out x5_1 p265 q265
              obtain rfl : ad264 = ad265 := (by injection e265)
              replace p265 := eq_true p265
              replace q265 := eq_true q265
              go_wp2
              go_ret
              exact ⟨by first | rfl | (simp; done) | (simp [*]; done), by repeat (first | exact Drawn0.refl _ | apply Drawn0.step)⟩
          · rw [if_neg c5] at H
            have c5b0 : (((rd_T82 l0 x5_1).f0) == x1_1) = false := beq_eq_false_iff_ne.mpr c5
            have c5b1 : (((rd_T82 l0 x5_1).f0) != x1_1) = true := bne_iff_ne.mpr c5
            obtain rfl := Option.some.inj H
            have p264 : 0 ≤ (x5_1 : Int) := of_decide_eq_true (by first | (with_reducible assumption) | assumption)
            have q264 : x5_1 < (l0.length : Int) := of_decide_eq_true (by first | (with_reducible assumption) | assumption)
            obtain ⟨ad264, e264, hx264_0, hx264_1⟩ := at_T82 HR0.out x5_1 p264 q264
            cases e264
            replace p264 := eq_true p264
            replace q264 := eq_true q264
            go_wp2
            go_ret
            exact ⟨by first | rfl | (simp; done) | (simp [*]; done), by repeat (first | exact Drawn0.refl _ | apply Drawn0.step)⟩
        · rw [if_neg c4] at H
          exact absurd H (by simp)
      · rw [if_neg c3] at H
        have c3b0 : decide (x5_1 < (l0.length : Int)) = false := decide_eq_false c3
        clear c3
        obtain rfl := Option.some.inj H
        go_wp2
        go_ret
        exact ⟨by first | rfl | (simp; done) | (simp [*]; done), by repeat (first | exact Drawn0.refl _ | apply Drawn0.step)⟩
end Go.Proofs.Ytjnaokdncemggaa.PAll

end

section
namespace Go.Proofs.Ytjnaokdncemggaa.PAll
open Go.RowKit Go.Proofs.YtjnaokdncemggaaW.PrintWords Go.Proofs.YtjnaokdncemggaaW.PrintLast Go.Proofs.YtjnaokdncemggaaW.PrintMore
set_option linter.unusedVariables false
set_option linter.unusedSimpArgs false
def mkR (j : Nat) : S82 := ⟨((1 + 2 * j : Nat) : Int), ((2 + 2 * j : Nat) : Int)⟩
theorem markR_loop (n : Nat) (hn : n ≤ 17592186044416) : ∀ (d k i : Nat) (xs : List S82), xs.length = n → (∀ j, j < i → xs[j]? = some (mkR j)) → i + d = n → d < k → ∃ ys, laws_markRuleS.l0 k xs ((1 + 2 * i : Nat) : Int) (i : Int) = some (((1 + 2 * n : Nat) : Int), ys) ∧ ys.length = n ∧ ∀ j, j < n → ys[j]? = some (mkR j) := by
  intro d
  induction d with
  | zero =>
    intro k i xs hx hj hi hk
    obtain ⟨k, rfl⟩ : ∃ m, k = m + 1 := ⟨k - 1, by omega⟩
    simp only [laws_markRuleS.l0]
    rw [if_neg (by omega)]
    obtain rfl : i = n := by omega
    exact ⟨xs, rfl, hx, hj⟩
  | succ d ih =>
    intro k i xs hx hj hi hk
    obtain ⟨k, rfl⟩ : ∃ m, k = m + 1 := ⟨k - 1, by omega⟩
    simp only [laws_markRuleS.l0]
    rw [if_pos (by omega), if_pos (by omega), Option.bind_some, wrap_idR (x := ((1 + 2 * i : Nat) : Int) + 1) (by omega) (by omega), wrap_idR (x := (i : Int) + 1) (by omega) (by omega), wrap_idR (by omega) (by omega)]
    have e1 : ((1 + 2 * i : Nat) : Int) + 1 + 1 = ((1 + 2 * (i + 1) : Nat) : Int) := by omega
    have e2 : (i : Int) + 1 = ((i + 1 : Nat) : Int) := by omega
    have e3 : ((1 + 2 * i : Nat) : Int) + 1 = ((2 + 2 * i : Nat) : Int) := by omega
    have hrd : (rd_T82 (xs.set (i : Int).toNat ⟨((1 + 2 * i : Nat) : Int), (rd_T82 xs (i : Int)).f1⟩) (i : Int)).f0 = ((1 + 2 * i : Nat) : Int) := by
      simp [rd_T82, List.getD_eq_getElem?_getD, List.getElem?_set_self (show i < xs.length by omega)]
    rw [hrd, e1, e2, e3]
    refine ih k (i + 1) _ (by simp [hx]) (fun j hj' => ?_) (by omega) (by omega)
    rw [Int.toNat_natCast]
    by_cases hji : j = i
    · subst hji
      rw [List.getElem?_set_self (by simp; omega)]
      rfl
    · rw [List.getElem?_set_ne (by omega), List.getElem?_set_ne (by omega)]
      exact hj j (by omega)
theorem heldR_loop (n : Nat) (hn : n ≤ 17592186044416) (ys : List S82) (hy : ys.length = n) (hj : ∀ j, j < n → ys[j]? = some (mkR j)) : ∀ (d k i : Nat), i + d = n → d < k → laws_heldRuleS.l0 k ys ((1 + 2 * i : Nat) : Int) (i : Int) = some ((1 + 2 * n : Nat) : Int) := by
  intro d
  induction d with
  | zero =>
    intro k i hi hk
    obtain ⟨k, rfl⟩ : ∃ m, k = m + 1 := ⟨k - 1, by omega⟩
    simp only [laws_heldRuleS.l0]
    rw [if_neg (by omega)]
    obtain rfl : i = n := by omega
    rfl
  | succ d ih =>
    intro k i hi hk
    obtain ⟨k, rfl⟩ : ∃ m, k = m + 1 := ⟨k - 1, by omega⟩
    have hr : rd_T82 ys (i : Int) = mkR i := by simp only [rd_T82, Int.toNat_natCast, List.getD_eq_getElem?_getD]; rw [hj i (by omega)]; rfl
    simp only [laws_heldRuleS.l0, hr, mkR]
    rw [if_pos (by omega), if_pos (by omega), if_pos trivial, wrap_idR (x := ((1 + 2 * i : Nat) : Int) + 1) (by omega) (by omega), if_pos (by omega), wrap_idR (x := (i : Int) + 1) (by omega) (by omega), wrap_idR (by omega) (by omega)]
    have e1 : ((1 + 2 * i : Nat) : Int) + 1 + 1 = ((1 + 2 * (i + 1) : Nat) : Int) := by omega
    have e2 : (i : Int) + 1 = ((i + 1 : Nat) : Int) := by omega
    rw [e1, e2]
    exact ih k (i + 1) (by omega) (by omega)
theorem markHeldR_eq (xs : List S82) (hn : xs.length ≤ 17592186044416) (k : Nat) (hk : xs.length < k) : ∃ ys, laws_markRuleS.f k xs 1 = some (((1 + 2 * xs.length : Nat) : Int), ys) ∧ ∀ q, xs.length < q → laws_heldRuleS.f q ys 1 = some ((1 + 2 * xs.length : Nat) : Int) := by
  unfold laws_markRuleS.f laws_heldRuleS.f
  obtain ⟨ys, h, hy, hj⟩ := markR_loop xs.length hn xs.length k 0 xs rfl (fun j h => by omega) (by omega) hk
  exact ⟨ys, h, fun q hq => heldR_loop xs.length hn ys hy hj xs.length q 0 (by omega) hq⟩
theorem markFromR_loop (n : Nat) (hn : n ≤ 17592186044416) (a : Nat) (ha : a ≤ 100000000000000) : ∀ (d k i : Nat) (xs : List S82), xs.length = n → i + d = n → d < k → ∃ ys, laws_markRuleS.l0 k xs ((a + 2 * i : Nat) : Int) (i : Int) = some (((a + 2 * n : Nat) : Int), ys) := by
  intro d
  induction d with
  | zero =>
    intro k i xs hx hi hk
    obtain ⟨k, rfl⟩ : ∃ m, k = m + 1 := ⟨k - 1, by omega⟩
    simp only [laws_markRuleS.l0]
    rw [if_neg (by omega)]
    obtain rfl : i = n := by omega
    exact ⟨xs, rfl⟩
  | succ d ih =>
    intro k i xs hx hi hk
    obtain ⟨k, rfl⟩ : ∃ m, k = m + 1 := ⟨k - 1, by omega⟩
    simp only [laws_markRuleS.l0]
    rw [if_pos (by omega), if_pos (by omega), Option.bind_some, wrap_idR (x := ((a + 2 * i : Nat) : Int) + 1) (by omega) (by omega), wrap_idR (x := (i : Int) + 1) (by omega) (by omega), wrap_idR (by omega) (by omega)]
    have e1 : ((a + 2 * i : Nat) : Int) + 1 + 1 = ((a + 2 * (i + 1) : Nat) : Int) := by omega
    have e2 : (i : Int) + 1 = ((i + 1 : Nat) : Int) := by omega
    rw [e1, e2]
    exact ih k (i + 1) _ (by simp [hx]) (by omega) (by omega)
theorem markFromR_eq (xs : List S82) (hn : xs.length ≤ 17592186044416) (a : Nat) (ha : a ≤ 100000000000000) (k : Nat) (hk : xs.length < k) : ∃ ys, laws_markRuleS.f k xs (a : Int) = some (((a + 2 * xs.length : Nat) : Int), ys) := by
  unfold laws_markRuleS.f
  exact markFromR_loop xs.length hn a ha xs.length k 0 xs rfl (by omega) hk
def abGo (ret : Int) (g l : List S82) (x : Int) : Nat → Nat → List S82 → Int × List S82 × Bool
  | 0, _, acc => (x, acc, true)
  | d + 1, i, acc => if (rd_T82 l (i : Int)).f0 = 3 then (0, [], false) else if (rd_T82 l (i : Int)).f0 = 5 then abGo ret g l x d (i + 1) (acc ++ [⟨(rd_T82 g (i : Int)).f0, (rd_T82 g (i : Int)).f1⟩]) else if (rd_T82 l (i : Int)).f0 = 4 then abGo ret g l x d (i + 1) (acc ++ [⟨(rd_T82 l (i : Int)).f0, Int.tmod (wrap64 ((rd_T82 l (i : Int)).f1 + ret)) 100⟩]) else abGo ret g l x d (i + 1) (acc ++ [⟨(rd_T82 l (i : Int)).f0, (rd_T82 l (i : Int)).f1⟩])
def abOf (r0 : Int) (g : List S82) (r1 : Int) (l : List S82) : Int × List S82 × Bool := if goodHB r0 g = true then (if goodHB r1 l = true then abGo r0 g l (Int.tmod (wrap64 (r0 + r1)) 100) 3 0 [] else (0, [], false)) else (0, [], false)
theorem abGo_len (ret : Int) (g l : List S82) (x : Int) : ∀ (d i : Nat) (acc : List S82), (abGo ret g l x d i acc).2.1.length ≤ acc.length + d
  | 0, i, acc => by simp [abGo]
  | d + 1, i, acc => by
    simp only [abGo]
    split
    · simp
    · split
      · exact Nat.le_trans (abGo_len ret g l x d (i + 1) _) (by simp; omega)
      · split
        · exact Nat.le_trans (abGo_len ret g l x d (i + 1) _) (by simp; omega)
        · exact Nat.le_trans (abGo_len ret g l x d (i + 1) _) (by simp; omega)
theorem abOf_len (r0 : Int) (g : List S82) (r1 : Int) (l : List S82) : (abOf r0 g r1 l).2.1.length ≤ 3 := by
  unfold abOf
  split
  · split
    · have := abGo_len r0 g l (Int.tmod (wrap64 (r0 + r1)) 100) 3 0 []; simpa using this
    · simp
  · simp
theorem good_len {r : Int} {l : List S82} (h : goodHB r l = true) : l.length = 3 := by
  simp only [goodHB, Bool.and_eq_true, decide_eq_true_eq] at h
  exact h.1.2
theorem specAb_loop (ret : Int) (g l : List S82) (x : Int) (hg : g.length = 3) (hl : l.length = 3) : ∀ (d k i : Nat) (acc : List S82), i + d = 3 → acc.length = i → d < k → spec_AfterBoth.l0 k l 3 (i : Int) ret g x acc = some (abGo ret g l x d i acc) := by
  intro d
  induction d with
  | zero =>
    intro k i acc hi ha hk
    obtain ⟨k, rfl⟩ : ∃ m, k = m + 1 := ⟨k - 1, by omega⟩
    simp only [spec_AfterBoth.l0, abGo]
    rw [if_neg (by omega)]
  | succ d ih =>
    intro k i acc hi ha hk
    obtain ⟨k, rfl⟩ : ∃ m, k = m + 1 := ⟨k - 1, by omega⟩
    have e : (i : Int) + 1 = ((i + 1 : Nat) : Int) := by omega
    simp only [spec_AfterBoth.l0, abGo]
    rw [if_pos (show (i : Int) < 3 by omega), if_pos (show (0 : Int) ≤ (i : Int) by omega), if_pos (show (i : Int) < (l.length : Int) by omega), wrap_idR (by omega) (by omega), e]
    by_cases c3 : (rd_T82 l (i : Int)).f0 = 3
    · rw [if_pos c3, if_pos c3]
    · rw [if_neg c3, if_neg c3]
      by_cases c5 : (rd_T82 l (i : Int)).f0 = 5
      · rw [if_pos c5, if_pos c5, if_pos (show (i : Int) < (g.length : Int) by omega), if_pos (show acc.length < 8796093022208 by omega)]
        exact ih k (i + 1) _ (by omega) (by simp [ha]) (by omega)
      · rw [if_neg c5, if_neg c5]
        by_cases c4 : (rd_T82 l (i : Int)).f0 = 4
        · rw [if_pos c4, if_pos c4, if_pos (show acc.length < 8796093022208 by omega)]
          exact ih k (i + 1) _ (by omega) (by simp [ha]) (by omega)
        · rw [if_neg c4, if_neg c4, if_pos (show acc.length < 8796093022208 by omega)]
          exact ih k (i + 1) _ (by omega) (by simp [ha]) (by omega)
theorem implAb_loop (ret : Int) (g l : List S82) (x : Int) (hg : g.length = 3) (hl : l.length = 3) : ∀ (d k i : Nat) (acc : List S82), i + d = 3 → acc.length = i → d < k → impl_AfterBoth.l0 k l 3 (i : Int) ret g x acc = some (abGo ret g l x d i acc) := by
  intro d
  induction d with
  | zero =>
    intro k i acc hi ha hk
    obtain ⟨k, rfl⟩ : ∃ m, k = m + 1 := ⟨k - 1, by omega⟩
    simp only [impl_AfterBoth.l0, abGo]
    rw [if_neg (by omega)]
  | succ d ih =>
    intro k i acc hi ha hk
    obtain ⟨k, rfl⟩ : ∃ m, k = m + 1 := ⟨k - 1, by omega⟩
    have e : (i : Int) + 1 = ((i + 1 : Nat) : Int) := by omega
    simp only [impl_AfterBoth.l0, abGo]
    rw [if_pos (show (i : Int) < 3 by omega), if_pos (show (0 : Int) ≤ (i : Int) by omega), if_pos (show (i : Int) < (l.length : Int) by omega), wrap_idR (by omega) (by omega), e]
    by_cases c3 : (rd_T82 l (i : Int)).f0 = 3
    · rw [if_pos c3, if_pos c3]
    · rw [if_neg c3, if_neg c3]
      by_cases c5 : (rd_T82 l (i : Int)).f0 = 5
      · rw [if_pos c5, if_pos c5, if_pos (show (i : Int) < (g.length : Int) by omega), if_pos (show acc.length < 8796093022208 by omega)]
        exact ih k (i + 1) _ (by omega) (by simp [ha]) (by omega)
      · rw [if_neg c5, if_neg c5]
        by_cases c4 : (rd_T82 l (i : Int)).f0 = 4
        · rw [if_pos c4, if_pos c4, if_pos (show acc.length < 8796093022208 by omega)]
          exact ih k (i + 1) _ (by omega) (by simp [ha]) (by omega)
        · rw [if_neg c4, if_neg c4, if_pos (show acc.length < 8796093022208 by omega)]
          exact ih k (i + 1) _ (by omega) (by simp [ha]) (by omega)
theorem specAb_eq (r0 : Int) (g : List S82) (r1 : Int) (l : List S82) (hg : g.length ≤ 17592186044416) (hl : l.length ≤ 17592186044416) (k : Nat) (hk : 20 ≤ k) (hkg : g.length < k) (hkl : l.length < k) : spec_AfterBoth.f k r0 g r1 l = some (abOf r0 g r1 l) := by
  unfold spec_AfterBoth.f abOf
  obtain ⟨q, rfl⟩ : ∃ q, k = q + 1 := ⟨k - 1, by omega⟩
  rw [specGoodHandler_eq r0 g hg _ hkg, specGoodHandler_eq r1 l hl _ hkl, Option.bind_some]
  cases h0 : goodHB r0 g with
  | false => rw [if_neg (by simp), if_neg (by simp)]; simp [spec_AfterBoth.j0]
  | true =>
    rw [if_pos rfl, if_pos rfl, Option.bind_some]
    cases h1 : goodHB r1 l with
    | false => rw [if_neg (by simp)]; simp [spec_AfterBoth.j0]
    | true =>
      have e0 := good_len h0
      have e1 := good_len h1
      rw [if_pos rfl]
      simp only [spec_AfterBoth.j0]
      rw [if_neg (by simp), e1]
      exact specAb_loop r0 g l _ e0 e1 3 q 0 [] rfl rfl (by omega)
theorem implAb_eq (r0 : Int) (g : List S82) (r1 : Int) (l : List S82) (k : Nat) (hk : 20 ≤ k) : impl_AfterBoth.f k r0 g r1 l = some (abOf r0 g r1 l) := by
  unfold impl_AfterBoth.f abOf impl_GoodHandler.f
  obtain ⟨q, rfl⟩ : ∃ q, k = q + 1 := ⟨k - 1, by omega⟩
  rw [Option.bind_some, Option.bind_some]
  cases h0 : goodHB r0 g with
  | false => rw [if_neg (by simp), if_neg (by simp)]; simp [impl_AfterBoth.j0]
  | true =>
    rw [if_pos rfl, if_pos rfl]
    cases h1 : goodHB r1 l with
    | false => rw [if_neg (by simp)]; simp [impl_AfterBoth.j0]
    | true =>
      have e0 := good_len h0
      have e1 := good_len h1
      rw [if_pos rfl]
      simp only [impl_AfterBoth.j0]
      rw [if_neg (by simp), e1]
      exact implAb_loop r0 g l _ e0 e1 3 q 0 [] rfl rfl (by omega)
end Go.Proofs.Ytjnaokdncemggaa.PAll

end

section
namespace Go.Proofs.Ytjnaokdncemggaa.PAll
open Go.RowKit Go.Proofs.YtjnaokdncemggaaW.PrintWords Go.Proofs.YtjnaokdncemggaaW.PrintLast Go.Proofs.YtjnaokdncemggaaW.PrintMore
attribute [local go_sem] max2_int min2_int max_two min_two max_three min_three max_four min_four   -- for this text's walks alone
set_option linter.unusedVariables false
set_option linter.unusedSimpArgs false
def laws_eqHandler.f (k : Nat) (a0_0 : Int) (l0_1 : List (S82)) (a1_0 : Int) (l1_1 : List (S82)) : Option (Bool) := if a0_0 = a1_0 then ((laws_eqRuleS.f k l0_1 l1_1).bind fun t138 => (if t138 = true then (some true) else (some false))) else (some false)
set_option maxHeartbeats 8000000 in
set_option maxRecDepth 100000 in
theorem laws_eqHandler.calls (k : Nat) (a0_0 : Int) (A0_1 : Option Addr) (c0_1 : Nat) (l0_1 : List (S82)) (a1_0 : Int) (A1_1 : Option Addr) (c1_1 : Nat) (l1_1 : List (S82)) (r : Bool) (w : World) (hr0_1 : Kd.C k82 w A0_1 l0_1.length l0_1) (hc0_1 : l0_1.length ≤ c0_1) (hr1_1 : Kd.C k82 w A1_1 l1_1.length l1_1) (hc1_1 : l1_1.length ≤ c1_1) (h : laws_eqHandler.f k a0_0 l0_1 a1_0 l1_1 = some r) :
    Calls Try.prog 17 #[.agg #[.int .i64 a0_0, .slice A0_1 l0_1.length c0_1], .agg #[.int .i64 a1_0, .slice A1_1 l1_1.length c1_1]] w fun e w' => e = .returned (.bool r) ∧ Below w.heap.size w w' := by
  have hu29 := Try.underlying29
  have HR0_1 := ab_ hr0_1
  have HC0_1 := ab_ hc0_1
  clear hr0_1 hc0_1
  have HR1_1 := ab_ hr1_1
  have HC1_1 := ab_ hc1_1
  clear hr1_1 hc1_1
  have HB := ab_ (Below.refl w.heap.size w)
  have H : (if a0_0 = a1_0 then ((laws_eqRuleS.f k l0_1 l1_1).bind fun t138 => (if t138 = true then (some true) else (some false))) else (some false)) = some r := h
  clear h
  by_cases c3 : a0_0 = a1_0
  · rw [if_pos c3] at H
    have c3b0 : (a0_0 == a1_0) = true := beq_iff_eq.mpr c3
    have c3b1 : (a0_0 != a1_0) = false := bne_eq_false_iff_eq.mpr c3
    clear c3
    replace H := Option.bind_eq_some_iff.mp H
    obtain ⟨t138, A40, H⟩ := H
    replace H : (if t138 = true then (some true) else (some false)) = some r := H
    have A4 := ab_ A40
    clear A40
    by_cases c5 : t138 = true
    · subst c5
      have H1 : (some true) = some r := by rw [if_pos rfl] at H; exact H
      clear H
      have H := H1
      clear H1
      obtain rfl := Option.some.inj H
      go_enter Try.func17, Try.ntmps17
      go_wp2_with (first | ((with_reducible refine gate_dst (N := 2) rfl ?_); refine box_event ?hg (N := 2) ?hd (cs := #[.int .i64 a0_0, .slice A0_1 l0_1.length c0_1]) (t := 29) ?hr ?_; (case hd => rfl); (case hg => rfl); (case hr => first | (go_simp; done) | (go_simp; rfl)); intro gb136 hg w6 hbox hb; have n0_ := ab_ (ar_ (by repeat (first | (with_reducible first | exact HB.out | apply ai_ | apply ag_ | apply ah_) | exact HB.out)) hb); have n1_ := ab_ (hbox); have n2_ := ab_ ((by rw [hg]; exact (at_ (by repeat (first | (with_reducible first | exact HB.out | apply ai_ | apply ag_ | apply ah_) | exact HB.out))) : w.heap.size ≤ gb136)); have n3_ := ab_ ((by rw [hg]; exact (at_ (by repeat (first | (with_reducible first | exact HB.out | apply ai_ | apply ag_ | apply ah_) | exact HB.out))) : w.heap.size ≤ gb136)); clear HB; have HB := n0_; have BK136 := n1_; have GW136 := n2_; have GE136 := n3_; clear n0_ n1_ n2_ n3_; clear hb hbox hg) | ((with_reducible refine gate_dst (N := 3) rfl ?_); refine box_event ?hg (N := 3) ?hd (cs := #[.int .i64 a1_0, .slice A1_1 l1_1.length c1_1]) (t := 29) ?hr ?_; (case hd => rfl); (case hg => rfl); (case hr => first | (go_simp; done) | (go_simp; rfl)); intro gb137 hg w7 hbox hb; have n0_ := ab_ (as_ (g := gb136) (o := .cells #[.int .i64 a0_0, .slice A0_1 l0_1.length c0_1] 29 (0, 0)) (by (with_reducible repeat (first | refine ac_ ?_ _ | refine ae_ ?_ | refine ad_ ?_ _)); exact BK136.out) hb); have n1_ := ab_ (ar_ (by repeat (first | (with_reducible first | exact HB.out | apply ai_ | apply ag_ | apply ah_ | refine af_ ?_ GE136.out) | exact HB.out)) hb); have n2_ := ab_ (hbox); have n3_ := ab_ ((by rw [hg]; exact (at_ (by repeat (first | (with_reducible first | exact HB.out | apply ai_ | apply ag_ | apply ah_ | refine af_ ?_ GE136.out) | exact HB.out))) : w.heap.size ≤ gb137)); have n4_ := ab_ ((by rw [hg]; exact (at_ (by repeat (first | (with_reducible first | exact HB.out | apply ai_ | apply ag_ | apply ah_ | refine af_ ?_ GE136.out) | exact HB.out))) : w.heap.size ≤ gb137)); have n5_ := ab_ ((by rw [hg]; exact aj_ (au_ (g := gb136) (o := .cells #[.int .i64 a0_0, .slice A0_1 l0_1.length c0_1] 29 (0, 0)) (by (with_reducible repeat (first | refine ac_ ?_ _ | refine ae_ ?_ | refine ad_ ?_ _)); exact BK136.out)) : gb136 ≠ gb137)); have n6_ := ab_ ((by rw [hg]; exact az_ (au_ (g := gb136) (o := .cells #[.int .i64 a0_0, .slice A0_1 l0_1.length c0_1] 29 (0, 0)) (by (with_reducible repeat (first | refine ac_ ?_ _ | refine ae_ ?_ | refine ad_ ?_ _)); exact BK136.out)) : gb137 ≠ gb136)); clear BK136; clear HB; have BK136 := n0_; have HB := n1_; have BK137 := n2_; have GW137 := n3_; have GE137 := n4_; have NB136_137 := n5_; have NB137_136 := n6_; clear n0_ n1_ n2_ n3_ n4_ n5_ n6_; clear hb hbox hg; have hnb8 := NB136_137.out; have hnc8 := NB137_136.out; have hcz9_0 : w7.cell? ⟨gb136, 0, none⟩ = some (.int .i64 a0_0) := (al_ BK136.out 0).trans rfl; have hcz9_1 : w7.cell? ⟨gb136, 1, none⟩ = some (.slice A0_1 l0_1.length c0_1) := (al_ BK136.out 1).trans rfl; have hfz9_0 := ak_ BK136.out 0; have hfz9_1 := ak_ BK136.out 1; have hcz10_0 : w7.cell? ⟨gb137, 0, none⟩ = some (.int .i64 a1_0) := (al_ BK137.out 0).trans rfl; have hcz10_1 : w7.cell? ⟨gb137, 1, none⟩ = some (.slice A1_1 l1_1.length c1_1) := (al_ BK137.out 1).trans rfl; have hfz10_0 := ak_ BK137.out 0; have hfz10_1 := ak_ BK137.out 1) | ((with_reducible refine gate_callee (f := 63) rfl ?_); refine goesL_ (some 14) rfl rfl Try.func63 (by kernel_rfl) rfl #[.slice A0_1 l0_1.length c0_1, .slice A1_1 l1_1.length c1_1] rfl (by (try simp only [List.map_toArray, List.map_cons, List.map_nil]); first | done | rfl | (simp only [List.length_drop, List.length_take]; rfl)) ?_; (with_reducible refine (laws_eqRuleS.calls k _ _ l0_1 _ _ l1_1 true _ ?side1 ?side2 ?side3 ?side4 A4.out).mono ?_); (case side1 => repeat (first | exact (Kd.C_below HR0_1.out HB.out) | (with_reducible refine Kd.C_alloc ?_ _) | (with_reducible refine Kd.C_drewN ?_ _) | (with_reducible refine Kd.C_drew ?_))); (case side2 => exact HC0_1.out); (case side3 => repeat (first | exact (Kd.C_below HR1_1.out HB.out) | (with_reducible refine Kd.C_alloc ?_ _) | (with_reducible refine Kd.C_drewN ?_ _) | (with_reducible refine Kd.C_drew ?_))); (case side4 => exact HC1_1.out); rintro e w11 ⟨rfl, hb⟩; refine ⟨_, rfl, ?_⟩; have n0_ := ab_ (as_ (g := gb136) (o := .cells #[.int .i64 a0_0, .slice A0_1 l0_1.length c0_1] 29 (0, 0)) (by (with_reducible repeat (first | refine ac_ ?_ _ | refine ae_ ?_ | refine ad_ ?_ _)); exact BK136.out) hb); have n1_ := ab_ (as_ (g := gb137) (o := .cells #[.int .i64 a1_0, .slice A1_1 l1_1.length c1_1] 29 (0, 0)) (by (with_reducible repeat (first | refine ac_ ?_ _ | refine ae_ ?_ | refine ad_ ?_ _)); exact BK137.out) hb); have n2_ := ab_ (ar_ (by repeat (first | (with_reducible first | exact HB.out | apply ai_ | apply ag_ | apply ah_ | refine af_ ?_ GE136.out | refine af_ ?_ GE137.out) | exact HB.out)) hb); clear BK136; clear BK137; clear HB; have BK136 := n0_; have BK137 := n1_; have HB := n2_; clear n0_ n1_ n2_; (try clear hb); (try clear hb2); (try clear hk); (try clear hi)))
      go_ret
      exact ⟨by first | rfl | (simp [errW_none, errW_some] <;> rfl) | (simp [*, errW_none, errW_some] <;> rfl), by repeat (first | (with_reducible first | exact HB.out | apply ai_ | apply ag_ | apply ah_ | refine af_ ?_ GE136.out | refine af_ ?_ GE137.out) | exact HB.out)⟩
    · replace c5 := Bool.eq_false_iff.mpr c5
      subst c5
      have H1 : (some false) = some r := by rw [if_neg (show ¬ (false = true) by decide)] at H; exact H
      clear H
      have H := H1
      clear H1
      obtain rfl := Option.some.inj H
      go_enter Try.func17, Try.ntmps17
      go_wp2_with (first | ((with_reducible refine gate_dst (N := 2) rfl ?_); refine box_event ?hg (N := 2) ?hd (cs := #[.int .i64 a0_0, .slice A0_1 l0_1.length c0_1]) (t := 29) ?hr ?_; (case hd => rfl); (case hg => rfl); (case hr => first | (go_simp; done) | (go_simp; rfl)); intro gb136 hg w12 hbox hb; have n0_ := ab_ (ar_ (by repeat (first | (with_reducible first | exact HB.out | apply ai_ | apply ag_ | apply ah_) | exact HB.out)) hb); have n1_ := ab_ (hbox); have n2_ := ab_ ((by rw [hg]; exact (at_ (by repeat (first | (with_reducible first | exact HB.out | apply ai_ | apply ag_ | apply ah_) | exact HB.out))) : w.heap.size ≤ gb136)); have n3_ := ab_ ((by rw [hg]; exact (at_ (by repeat (first | (with_reducible first | exact HB.out | apply ai_ | apply ag_ | apply ah_) | exact HB.out))) : w.heap.size ≤ gb136)); clear HB; have HB := n0_; have BK136 := n1_; have GW136 := n2_; have GE136 := n3_; clear n0_ n1_ n2_ n3_; clear hb hbox hg) | ((with_reducible refine gate_dst (N := 3) rfl ?_); refine box_event ?hg (N := 3) ?hd (cs := #[.int .i64 a1_0, .slice A1_1 l1_1.length c1_1]) (t := 29) ?hr ?_; (case hd => rfl); (case hg => rfl); (case hr => first | (go_simp; done) | (go_simp; rfl)); intro gb137 hg w13 hbox hb; have n0_ := ab_ (as_ (g := gb136) (o := .cells #[.int .i64 a0_0, .slice A0_1 l0_1.length c0_1] 29 (0, 0)) (by (with_reducible repeat (first | refine ac_ ?_ _ | refine ae_ ?_ | refine ad_ ?_ _)); exact BK136.out) hb); have n1_ := ab_ (ar_ (by repeat (first | (with_reducible first | exact HB.out | apply ai_ | apply ag_ | apply ah_ | refine af_ ?_ GE136.out) | exact HB.out)) hb); have n2_ := ab_ (hbox); have n3_ := ab_ ((by rw [hg]; exact (at_ (by repeat (first | (with_reducible first | exact HB.out | apply ai_ | apply ag_ | apply ah_ | refine af_ ?_ GE136.out) | exact HB.out))) : w.heap.size ≤ gb137)); have n4_ := ab_ ((by rw [hg]; exact (at_ (by repeat (first | (with_reducible first | exact HB.out | apply ai_ | apply ag_ | apply ah_ | refine af_ ?_ GE136.out) | exact HB.out))) : w.heap.size ≤ gb137)); have n5_ := ab_ ((by rw [hg]; exact aj_ (au_ (g := gb136) (o := .cells #[.int .i64 a0_0, .slice A0_1 l0_1.length c0_1] 29 (0, 0)) (by (with_reducible repeat (first | refine ac_ ?_ _ | refine ae_ ?_ | refine ad_ ?_ _)); exact BK136.out)) : gb136 ≠ gb137)); have n6_ := ab_ ((by rw [hg]; exact az_ (au_ (g := gb136) (o := .cells #[.int .i64 a0_0, .slice A0_1 l0_1.length c0_1] 29 (0, 0)) (by (with_reducible repeat (first | refine ac_ ?_ _ | refine ae_ ?_ | refine ad_ ?_ _)); exact BK136.out)) : gb137 ≠ gb136)); clear BK136; clear HB; have BK136 := n0_; have HB := n1_; have BK137 := n2_; have GW137 := n3_; have GE137 := n4_; have NB136_137 := n5_; have NB137_136 := n6_; clear n0_ n1_ n2_ n3_ n4_ n5_ n6_; clear hb hbox hg; have hnb14 := NB136_137.out; have hnc14 := NB137_136.out; have hcz15_0 : w13.cell? ⟨gb136, 0, none⟩ = some (.int .i64 a0_0) := (al_ BK136.out 0).trans rfl; have hcz15_1 : w13.cell? ⟨gb136, 1, none⟩ = some (.slice A0_1 l0_1.length c0_1) := (al_ BK136.out 1).trans rfl; have hfz15_0 := ak_ BK136.out 0; have hfz15_1 := ak_ BK136.out 1; have hcz16_0 : w13.cell? ⟨gb137, 0, none⟩ = some (.int .i64 a1_0) := (al_ BK137.out 0).trans rfl; have hcz16_1 : w13.cell? ⟨gb137, 1, none⟩ = some (.slice A1_1 l1_1.length c1_1) := (al_ BK137.out 1).trans rfl; have hfz16_0 := ak_ BK137.out 0; have hfz16_1 := ak_ BK137.out 1) | ((with_reducible refine gate_callee (f := 63) rfl ?_); refine goesL_ (some 14) rfl rfl Try.func63 (by kernel_rfl) rfl #[.slice A0_1 l0_1.length c0_1, .slice A1_1 l1_1.length c1_1] rfl (by (try simp only [List.map_toArray, List.map_cons, List.map_nil]); first | done | rfl | (simp only [List.length_drop, List.length_take]; rfl)) ?_; (with_reducible refine (laws_eqRuleS.calls k _ _ l0_1 _ _ l1_1 false _ ?side1 ?side2 ?side3 ?side4 A4.out).mono ?_); (case side1 => repeat (first | exact (Kd.C_below HR0_1.out HB.out) | (with_reducible refine Kd.C_alloc ?_ _) | (with_reducible refine Kd.C_drewN ?_ _) | (with_reducible refine Kd.C_drew ?_))); (case side2 => exact HC0_1.out); (case side3 => repeat (first | exact (Kd.C_below HR1_1.out HB.out) | (with_reducible refine Kd.C_alloc ?_ _) | (with_reducible refine Kd.C_drewN ?_ _) | (with_reducible refine Kd.C_drew ?_))); (case side4 => exact HC1_1.out); rintro e w17 ⟨rfl, hb⟩; refine ⟨_, rfl, ?_⟩; have n0_ := ab_ (as_ (g := gb136) (o := .cells #[.int .i64 a0_0, .slice A0_1 l0_1.length c0_1] 29 (0, 0)) (by (with_reducible repeat (first | refine ac_ ?_ _ | refine ae_ ?_ | refine ad_ ?_ _)); exact BK136.out) hb); have n1_ := ab_ (as_ (g := gb137) (o := .cells #[.int .i64 a1_0, .slice A1_1 l1_1.length c1_1] 29 (0, 0)) (by (with_reducible repeat (first | refine ac_ ?_ _ | refine ae_ ?_ | refine ad_ ?_ _)); exact BK137.out) hb); have n2_ := ab_ (ar_ (by repeat (first | (with_reducible first | exact HB.out | apply ai_ | apply ag_ | apply ah_ | refine af_ ?_ GE136.out | refine af_ ?_ GE137.out) | exact HB.out)) hb); clear BK136; clear BK137; clear HB; have BK136 := n0_; have BK137 := n1_; have HB := n2_; clear n0_ n1_ n2_; (try clear hb); (try clear hb2); (try clear hk); (try clear hi)))
      go_ret
      exact ⟨by first | rfl | (simp [errW_none, errW_some] <;> rfl) | (simp [*, errW_none, errW_some] <;> rfl), by repeat (first | (with_reducible first | exact HB.out | apply ai_ | apply ag_ | apply ah_ | refine af_ ?_ GE136.out | refine af_ ?_ GE137.out) | exact HB.out)⟩
  · rw [if_neg c3] at H
    have c3b0 : (a0_0 == a1_0) = false := beq_eq_false_iff_ne.mpr c3
    have c3b1 : (a0_0 != a1_0) = true := bne_iff_ne.mpr c3
    obtain rfl := Option.some.inj H
    go_enter Try.func17, Try.ntmps17
    go_wp2_with (first | ((with_reducible refine gate_dst (N := 2) rfl ?_); refine box_event ?hg (N := 2) ?hd (cs := #[.int .i64 a0_0, .slice A0_1 l0_1.length c0_1]) (t := 29) ?hr ?_; (case hd => rfl); (case hg => rfl); (case hr => first | (go_simp; done) | (go_simp; rfl)); intro gb136 hg w18 hbox hb; have n0_ := ab_ (ar_ (by repeat (first | (with_reducible first | exact HB.out | apply ai_ | apply ag_ | apply ah_) | exact HB.out)) hb); have n1_ := ab_ (hbox); have n2_ := ab_ ((by rw [hg]; exact (at_ (by repeat (first | (with_reducible first | exact HB.out | apply ai_ | apply ag_ | apply ah_) | exact HB.out))) : w.heap.size ≤ gb136)); have n3_ := ab_ ((by rw [hg]; exact (at_ (by repeat (first | (with_reducible first | exact HB.out | apply ai_ | apply ag_ | apply ah_) | exact HB.out))) : w.heap.size ≤ gb136)); clear HB; have HB := n0_; have BK136 := n1_; have GW136 := n2_; have GE136 := n3_; clear n0_ n1_ n2_ n3_; clear hb hbox hg) | ((with_reducible refine gate_dst (N := 3) rfl ?_); refine box_event ?hg (N := 3) ?hd (cs := #[.int .i64 a1_0, .slice A1_1 l1_1.length c1_1]) (t := 29) ?hr ?_; (case hd => rfl); (case hg => rfl); (case hr => first | (go_simp; done) | (go_simp; rfl)); intro gb137 hg w19 hbox hb; have n0_ := ab_ (as_ (g := gb136) (o := .cells #[.int .i64 a0_0, .slice A0_1 l0_1.length c0_1] 29 (0, 0)) (by (with_reducible repeat (first | refine ac_ ?_ _ | refine ae_ ?_ | refine ad_ ?_ _)); exact BK136.out) hb); have n1_ := ab_ (ar_ (by repeat (first | (with_reducible first | exact HB.out | apply ai_ | apply ag_ | apply ah_ | refine af_ ?_ GE136.out) | exact HB.out)) hb); have n2_ := ab_ (hbox); have n3_ := ab_ ((by rw [hg]; exact (at_ (by repeat (first | (with_reducible first | exact HB.out | apply ai_ | apply ag_ | apply ah_ | refine af_ ?_ GE136.out) | exact HB.out))) : w.heap.size ≤ gb137)); have n4_ := ab_ ((by rw [hg]; exact (at_ (by repeat (first | (with_reducible first | exact HB.out | apply ai_ | apply ag_ | apply ah_ | refine af_ ?_ GE136.out) | exact HB.out))) : w.heap.size ≤ gb137)); have n5_ := ab_ ((by rw [hg]; exact aj_ (au_ (g := gb136) (o := .cells #[.int .i64 a0_0, .slice A0_1 l0_1.length c0_1] 29 (0, 0)) (by (with_reducible repeat (first | refine ac_ ?_ _ | refine ae_ ?_ | refine ad_ ?_ _)); exact BK136.out)) : gb136 ≠ gb137)); have n6_ := ab_ ((by rw [hg]; exact az_ (au_ (g := gb136) (o := .cells #[.int .i64 a0_0, .slice A0_1 l0_1.length c0_1] 29 (0, 0)) (by (with_reducible repeat (first | refine ac_ ?_ _ | refine ae_ ?_ | refine ad_ ?_ _)); exact BK136.out)) : gb137 ≠ gb136)); clear BK136; clear HB; have BK136 := n0_; have HB := n1_; have BK137 := n2_; have GW137 := n3_; have GE137 := n4_; have NB136_137 := n5_; have NB137_136 := n6_; clear n0_ n1_ n2_ n3_ n4_ n5_ n6_; clear hb hbox hg; have hnb20 := NB136_137.out; have hnc20 := NB137_136.out; have hcz21_0 : w19.cell? ⟨gb136, 0, none⟩ = some (.int .i64 a0_0) := (al_ BK136.out 0).trans rfl; have hcz21_1 : w19.cell? ⟨gb136, 1, none⟩ = some (.slice A0_1 l0_1.length c0_1) := (al_ BK136.out 1).trans rfl; have hfz21_0 := ak_ BK136.out 0; have hfz21_1 := ak_ BK136.out 1; have hcz22_0 : w19.cell? ⟨gb137, 0, none⟩ = some (.int .i64 a1_0) := (al_ BK137.out 0).trans rfl; have hcz22_1 : w19.cell? ⟨gb137, 1, none⟩ = some (.slice A1_1 l1_1.length c1_1) := (al_ BK137.out 1).trans rfl; have hfz22_0 := ak_ BK137.out 0; have hfz22_1 := ak_ BK137.out 1))
    go_ret
    exact ⟨by first | rfl | (simp [errW_none, errW_some] <;> rfl) | (simp [*, errW_none, errW_some] <;> rfl), by repeat (first | (with_reducible first | exact HB.out | apply ai_ | apply ag_ | apply ah_ | refine af_ ?_ GE136.out | refine af_ ?_ GE137.out) | exact HB.out)⟩
end Go.Proofs.Ytjnaokdncemggaa.PAll

end

section
namespace Go.Proofs.Ytjnaokdncemggaa.PAll
open Go.RowKit Go.Proofs.YtjnaokdncemggaaW.PrintWords Go.Proofs.YtjnaokdncemggaaW.PrintLast Go.Proofs.YtjnaokdncemggaaW.PrintMore
attribute [local go_sem] max2_int min2_int max_two min_two max_three min_three max_four min_four   -- for this text's walks alone
set_option linter.unusedVariables false
set_option linter.unusedSimpArgs false
def laws_heldHandler.f (k : Nat) (a0_0 : Int) (l0_1 : List (S82)) (a1 : Int) : Option (Int) := (laws_heldRuleS.f k l0_1 a1).bind fun t267 => (if t267 < 0 then (some (-1)) else (some t267))
set_option maxHeartbeats 8000000 in
set_option maxRecDepth 100000 in
theorem laws_heldHandler.calls (k : Nat) (a0_0 : Int) (A0_1 : Option Addr) (c0_1 : Nat) (l0_1 : List (S82)) (a1 : Int) (r : Int) (w : World) (hr0_1 : Kd.C k82 w A0_1 l0_1.length l0_1) (hc0_1 : l0_1.length ≤ c0_1) (h : laws_heldHandler.f k a0_0 l0_1 a1 = some r) :
    Calls Try.prog 26 #[.agg #[.int .i64 a0_0, .slice A0_1 l0_1.length c0_1], .int .i64 a1] w fun e w' => e = .returned (.int .i64 r) ∧ Below w.heap.size w w' := by
  have hu29 := Try.underlying29
  have HR0_1 := ab_ hr0_1
  have HC0_1 := ab_ hc0_1
  clear hr0_1 hc0_1
  have HB := ab_ (Below.refl w.heap.size w)
  have H : ((laws_heldRuleS.f k l0_1 a1).bind fun t267 => (if t267 < 0 then (some (-1)) else (some t267))) = some r := h
  clear h
  replace H := Option.bind_eq_some_iff.mp H
  obtain ⟨t267, A30, H⟩ := H
  replace H : (if t267 < 0 then (some (-1)) else (some t267)) = some r := H
  have A3 := ab_ A30
  clear A30
  by_cases c4 : t267 < 0
  · rw [if_pos c4] at H
    have c4b0 : decide (t267 < 0) = true := decide_eq_true c4
    clear c4
    obtain rfl := Option.some.inj H
    go_enter Try.func26, Try.ntmps26
    go_wp2_with (first | ((with_reducible refine gate_dst (N := 2) rfl ?_); refine box_event ?hg (N := 2) ?hd (cs := #[.int .i64 a0_0, .slice A0_1 l0_1.length c0_1]) (t := 29) ?hr ?_; (case hd => rfl); (case hg => rfl); (case hr => first | (go_simp; done) | (go_simp; rfl)); intro gb266 hg w5 hbox hb; have n0_ := ab_ (ar_ (by repeat (first | (with_reducible first | exact HB.out | apply ai_ | apply ag_ | apply ah_) | exact HB.out)) hb); have n1_ := ab_ (hbox); have n2_ := ab_ ((by rw [hg]; exact (at_ (by repeat (first | (with_reducible first | exact HB.out | apply ai_ | apply ag_ | apply ah_) | exact HB.out))) : w.heap.size ≤ gb266)); have n3_ := ab_ ((by rw [hg]; exact (at_ (by repeat (first | (with_reducible first | exact HB.out | apply ai_ | apply ag_ | apply ah_) | exact HB.out))) : w.heap.size ≤ gb266)); clear HB; have HB := n0_; have BK266 := n1_; have GW266 := n2_; have GE266 := n3_; clear n0_ n1_ n2_ n3_; clear hb hbox hg; have hcz6_0 : w5.cell? ⟨gb266, 0, none⟩ = some (.int .i64 a0_0) := (al_ BK266.out 0).trans rfl; have hcz6_1 : w5.cell? ⟨gb266, 1, none⟩ = some (.slice A0_1 l0_1.length c0_1) := (al_ BK266.out 1).trans rfl; have hfz6_0 := ak_ BK266.out 0; have hfz6_1 := ak_ BK266.out 1) | ((with_reducible refine gate_callee (f := 69) rfl ?_); refine goesL_ (some 8) rfl rfl Try.func69 (by kernel_rfl) rfl #[.slice A0_1 l0_1.length c0_1, .int .i64 a1] rfl (by (try simp only [List.map_toArray, List.map_cons, List.map_nil]); first | done | rfl | (simp only [List.length_drop, List.length_take]; rfl)) ?_; (with_reducible refine (laws_heldRuleS.calls k _ _ l0_1 a1 t267 _ ?side1 ?side2 A3.out).mono ?_); (case side1 => repeat (first | exact (Kd.C_below HR0_1.out HB.out) | (with_reducible refine Kd.C_alloc ?_ _) | (with_reducible refine Kd.C_drewN ?_ _) | (with_reducible refine Kd.C_drew ?_))); (case side2 => exact HC0_1.out); rintro e w' ⟨rfl, ⟨nd, rfl⟩⟩; refine ⟨_, rfl, ?_⟩))
    go_ret
    exact ⟨by first | rfl | (simp [errW_none, errW_some] <;> rfl) | (simp [*, errW_none, errW_some] <;> rfl), by repeat (first | (with_reducible first | exact HB.out | apply ai_ | apply ag_ | apply ah_ | refine af_ ?_ GE266.out) | exact HB.out)⟩
  · rw [if_neg c4] at H
    have c4b0 : decide (t267 < 0) = false := decide_eq_false c4
    clear c4
    obtain rfl := Option.some.inj H
    go_enter Try.func26, Try.ntmps26
    go_wp2_with (first | ((with_reducible refine gate_dst (N := 2) rfl ?_); refine box_event ?hg (N := 2) ?hd (cs := #[.int .i64 a0_0, .slice A0_1 l0_1.length c0_1]) (t := 29) ?hr ?_; (case hd => rfl); (case hg => rfl); (case hr => first | (go_simp; done) | (go_simp; rfl)); intro gb266 hg w7 hbox hb; have n0_ := ab_ (ar_ (by repeat (first | (with_reducible first | exact HB.out | apply ai_ | apply ag_ | apply ah_) | exact HB.out)) hb); have n1_ := ab_ (hbox); have n2_ := ab_ ((by rw [hg]; exact (at_ (by repeat (first | (with_reducible first | exact HB.out | apply ai_ | apply ag_ | apply ah_) | exact HB.out))) : w.heap.size ≤ gb266)); have n3_ := ab_ ((by rw [hg]; exact (at_ (by repeat (first | (with_reducible first | exact HB.out | apply ai_ | apply ag_ | apply ah_) | exact HB.out))) : w.heap.size ≤ gb266)); clear HB; have HB := n0_; have BK266 := n1_; have GW266 := n2_; have GE266 := n3_; clear n0_ n1_ n2_ n3_; clear hb hbox hg; have hcz8_0 : w7.cell? ⟨gb266, 0, none⟩ = some (.int .i64 a0_0) := (al_ BK266.out 0).trans rfl; have hcz8_1 : w7.cell? ⟨gb266, 1, none⟩ = some (.slice A0_1 l0_1.length c0_1) := (al_ BK266.out 1).trans rfl; have hfz8_0 := ak_ BK266.out 0; have hfz8_1 := ak_ BK266.out 1) | ((with_reducible refine gate_callee (f := 69) rfl ?_); refine goesL_ (some 8) rfl rfl Try.func69 (by kernel_rfl) rfl #[.slice A0_1 l0_1.length c0_1, .int .i64 a1] rfl (by (try simp only [List.map_toArray, List.map_cons, List.map_nil]); first | done | rfl | (simp only [List.length_drop, List.length_take]; rfl)) ?_; (with_reducible refine (laws_heldRuleS.calls k _ _ l0_1 a1 t267 _ ?side1 ?side2 A3.out).mono ?_); (case side1 => repeat (first | exact (Kd.C_below HR0_1.out HB.out) | (with_reducible refine Kd.C_alloc ?_ _) | (with_reducible refine Kd.C_drewN ?_ _) | (with_reducible refine Kd.C_drew ?_))); (case side2 => exact HC0_1.out); rintro e w' ⟨rfl, ⟨nd, rfl⟩⟩; refine ⟨_, rfl, ?_⟩))
    go_ret
    exact ⟨by first | rfl | (simp [errW_none, errW_some] <;> rfl) | (simp [*, errW_none, errW_some] <;> rfl), by repeat (first | (with_reducible first | exact HB.out | apply ai_ | apply ag_ | apply ah_ | refine af_ ?_ GE266.out) | exact HB.out)⟩
end Go.Proofs.Ytjnaokdncemggaa.PAll

end

section
namespace Go.Proofs.Ytjnaokdncemggaa.PAll
open Go.RowKit Go.Proofs.YtjnaokdncemggaaW.PrintWords Go.Proofs.YtjnaokdncemggaaW.PrintLast Go.Proofs.YtjnaokdncemggaaW.PrintMore
attribute [local go_sem] max2_int min2_int max_two min_two max_three min_three max_four min_four   -- for this text's walks alone
set_option linter.unusedVariables false
set_option linter.unusedSimpArgs false
mutual
def laws_FnExactAfterBoth.j0 : Nat → Bool → Bool → Bool → Int → List (S126) → Int → List (S126) → Int → List (S82) → Int → List (S82) → Int → List (S82) → Int → List (S82) → Option (Bool)
  | 0, _, _, _, _, _, _, _, _, _, _, _, _, _, _, _ => none
  | k + 1, x7, x11, x53, x269000, x269001, x270000, x270001, x286000, x286001, x291000, x291001, x296000, x296001, x302000, x302001 => if x53 = true then (some false) else ((laws_toHandler.f k x269000 x269001).bind fun bt303 => ((laws_eqHandler.f k x291000 x291001 bt303.1 bt303.2).bind fun t307 => (if t307 = true then ((laws_toHandler.f k x270000 x270001).bind fun bt308 => ((laws_eqHandler.f k x296000 x296001 bt308.1 bt308.2).bind fun t312 => (if t312 = true then ((laws_markHandler.f k x291000 x291001 1).bind fun bt313 => ((laws_markHandler.f k x296000 x296001 bt313.1).bind fun bt315 => (if bt315.1 < 0 then (laws_FnExactAfterBoth.j1 k x7 true x269000 x269001 x270000 x270001 x286000 x286001 x302000 x302001) else ((laws_eqHandler.f k x302000 x302001 x286000 x286001).bind fun t317 => (if t317 = true then (laws_FnExactAfterBoth.j1 k x7 (x11 != x7) x269000 x269001 x270000 x270001 x286000 x286001 x302000 x302001) else (laws_FnExactAfterBoth.j1 k x7 true x269000 x269001 x270000 x270001 x286000 x286001 x302000 x302001)))))) else (some false)))) else (some false))))
def laws_FnExactAfterBoth.j1 : Nat → Bool → Bool → Int → List (S126) → Int → List (S126) → Int → List (S82) → Int → List (S82) → Option (Bool)
  | 0, _, _, _, _, _, _, _, _, _, _ => none
  | k + 1, x7, x82, x269000, x269001, x270000, x270001, x286000, x286001, x302000, x302001 => if x82 = true then (some false) else ((laws_markHandler.f k x302000 x302001 1).bind fun bt318 => ((laws_heldHandler.f k x302000 bt318.2 1).bind fun t320 => (if t320 < 0 then (some false) else (if t320 = bt318.1 then ((laws_toHandler.f k x269000 x269001).bind fun bt321 => ((laws_toHandler.f k x270000 x270001).bind fun bt325 => ((impl_AfterBoth.f k bt321.1 bt321.2 bt325.1 bt325.2).bind fun bt329 => ((laws_eqHandler.f k bt329.1 bt329.2.1 x286000 x286001).bind fun t335 => (if t335 = true then (laws_FnExactAfterBoth.j2 k bt318.1 (bt329.2.2 != x7) x302000 bt318.2) else (laws_FnExactAfterBoth.j2 k bt318.1 true x302000 bt318.2)))))) else (some false)))))
def laws_FnExactAfterBoth.j2 : Nat → Int → Bool → Int → List (S82) → Option (Bool)
  | 0, _, _, _, _ => none
  | k + 1, x13, x110, x302000, x302001 => if x110 = true then (some false) else ((laws_heldHandler.f k x302000 x302001 1).bind fun t336 => (if t336 < 0 then (some false) else (if t336 = x13 then (some true) else (some false))))
end
def laws_FnExactAfterBoth.f (k : Nat) (a0_0 : Int) (l0_1 : List (S126)) (a1_0 : Int) (l1_1 : List (S126)) : Option (Bool) := (laws_szHandler.f a0_0 l0_1 1048576).bind fun t270 => (if t270 < 0 then (some true) else ((laws_szHandler.f a1_0 l1_1 t270).bind fun t271 => (if t271 < 0 then (some true) else ((laws_toHandler.f k a0_0 l0_1).bind fun bt272 => ((laws_toHandler.f k a1_0 l1_1).bind fun bt276 => ((spec_AfterBoth.f k bt272.1 bt272.2 bt276.1 bt276.2).bind fun bt280 => ((laws_toHandler.f k a0_0 l0_1).bind fun bt286 => ((laws_toHandler.f k a1_0 l1_1).bind fun bt291 => ((impl_AfterBoth.f k bt286.1 bt286.2 bt291.1 bt291.2).bind fun bt296 => ((laws_eqHandler.f k bt296.1 bt296.2.1 bt280.1 bt280.2.1).bind fun t302 => (if t302 = true then (laws_FnExactAfterBoth.j0 k bt280.2.2 bt296.2.2 (bt296.2.2 != bt280.2.2) a0_0 l0_1 a1_0 l1_1 bt280.1 bt280.2.1 bt286.1 bt286.2 bt291.1 bt291.2 bt296.1 bt296.2.1) else (laws_FnExactAfterBoth.j0 k bt280.2.2 bt296.2.2 true a0_0 l0_1 a1_0 l1_1 bt280.1 bt280.2.1 bt286.1 bt286.2 bt291.1 bt291.2 bt296.1 bt296.2.1))))))))))))
def laws_FnExactAfterBoth.T8 : Bool × List (List Nat × List Nat) := (true, [([], []), ([0], [0]), ([], []), ([2, 1], [2]), ([1, 3, 3], [1, 3]), ([4], [4]), ([5], [5]), ([5], [5]), ([], []), ([8, 6, 4, 0, 1, 2, 3, 4, 5, 6, 8], [6, 8]), ([7, 9, 0, 1, 2, 3, 4, 5, 6, 7, 8, 9], [7])])
def laws_FnExactAfterBoth.B8 : List Nat := [0, 1, 0, 7, 15, 31, 63, 63, 0, 383, 1023]
theorem laws_FnExactAfterBoth.tab8 : rtab .any (opsOf Try.f5 8) = laws_FnExactAfterBoth.T8 := by kernel_rfl
theorem laws_FnExactAfterBoth.bits8 : waitsOk laws_FnExactAfterBoth.T8.2 laws_FnExactAfterBoth.B8 = true := by kernel_rfl
def laws_FnExactAfterBoth.T31 : Bool × List (List Nat × List Nat) := (true, [([], []), ([0], [0]), ([], []), ([2, 1], [2]), ([1, 3, 3], [1, 3]), ([4], [4]), ([5], [5]), ([5], [5]), ([], []), ([8, 6, 4, 0, 1, 2, 3, 4, 5, 6, 8], [6, 8]), ([7, 9, 0, 1, 2, 3, 4, 5, 6, 7, 8, 9], [7])])
def laws_FnExactAfterBoth.B31 : List Nat := [0, 1, 0, 7, 15, 31, 63, 63, 0, 383, 1023]
theorem laws_FnExactAfterBoth.tab31 : rtab .any (opsOf Try.f5 31) = laws_FnExactAfterBoth.T31 := by kernel_rfl
theorem laws_FnExactAfterBoth.bits31 : waitsOk laws_FnExactAfterBoth.T31.2 laws_FnExactAfterBoth.B31 = true := by kernel_rfl
end Go.Proofs.Ytjnaokdncemggaa.PAll
end
