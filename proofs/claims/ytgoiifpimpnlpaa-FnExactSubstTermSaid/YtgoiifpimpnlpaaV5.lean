-- Made by pack.py of the texts that the law reaches.
import Derived.Test.YtgoiifpimpnlpaaV4
section
namespace Go.Proofs.Ytgoiifpimpnlpaa.PAll
open Go.RowKit Go.Proofs.YtgoiifpimpnlpaaW.PrintWords Go.Proofs.YtgoiifpimpnlpaaW.PrintLast Go.Proofs.YtgoiifpimpnlpaaW.PrintMore
attribute [local go_sem] max2_int min2_int max_two min_two max_three min_three max_four min_four   -- for this text's walks alone
set_option linter.unusedVariables false
set_option linter.unusedSimpArgs false
def spec_l3Tell.f (k : Nat) (a0_0 : Int) (a0_1 : Int) (l0_2 : List (S62)) : Option ((List (S66)) × Bool) := (spec_l3Flat.f a0_0 a0_1 l0_2 ([] : List (S66))).bind fun t360 => ((spec_GoodTerm.f k t360).bind fun t363 => (if t363 = true then (some (t360, true)) else (some (([] : List (S66)), false))))
theorem spec_l3Tell.mono : ∀ a0 a1 a2 k, LeO (spec_l3Tell.f k a0 a1 a2) (spec_l3Tell.f (k + 1) a0 a1 a2) := by
  intro a0 a1 a2 k
  unfold spec_l3Tell.f
  repeat' first
      | (with_reducible exact spec_GoodTerm.mono _ _)
      | (with_reducible exact LeO.refl _)
      | (with_reducible exact LeO.none _)
      | (with_reducible refine LeO.ite ?_ ?_)
      | (with_reducible refine LeO.bind ?_ (fun _ => ?_))
      | exact spec_GoodTerm.mono _ _
      | exact LeO.none _
      | refine LeO.ite ?_ ?_
      | refine LeO.bind ?_ (fun _ => ?_)
set_option maxHeartbeats 8000000 in
set_option maxRecDepth 100000 in
theorem spec_l3Tell.calls (k : Nat) (a0_0 : Int) (a0_1 : Int) (A0_2 : Option Addr) (c0_2 : Nat) (l0_2 : List (S62)) (r1 : List (S66)) (r2 : Bool) (w : World) (hr0_2 : Kd.C k62 w A0_2 l0_2.length l0_2) (hc0_2 : l0_2.length ≤ c0_2) (h : spec_l3Tell.f k a0_0 a0_1 l0_2 = some (r1, r2)) :
    Calls Try.prog 61 #[.agg #[.int .i64 a0_0, .int .i64 a0_1, .slice A0_2 l0_2.length c0_2]] w fun e w' => ∃ v0_ : Value, e = .returned (.tuple #[v0_, .bool r2]) ∧ Kd.R k66 66 w' w.heap.size (fun _ => True) v0_ r1 ∧ Below w.heap.size w w' := by
  have hu62 := Try.underlying62
  have HR0_2 := ab_ hr0_2
  have HC0_2 := ab_ hc0_2
  clear hr0_2 hc0_2
  have HB := ab_ (Below.refl w.heap.size w)
  have H : ((spec_l3Flat.f a0_0 a0_1 l0_2 ([] : List (S66))).bind fun t360 => ((spec_GoodTerm.f k t360).bind fun t363 => (if t363 = true then (some (t360, true)) else (some (([] : List (S66)), false))))) = some (r1, r2) := h
  clear h
  replace H := Option.bind_eq_some_iff.mp H
  obtain ⟨t360, A20, H⟩ := H
  replace H : ((spec_GoodTerm.f k t360).bind fun t363 => (if t363 = true then (some (t360, true)) else (some (([] : List (S66)), false)))) = some (r1, r2) := H
  have A2 := ab_ A20
  clear A20
  replace H := Option.bind_eq_some_iff.mp H
  obtain ⟨t363, A30, H⟩ := H
  replace H : (if t363 = true then (some (t360, true)) else (some (([] : List (S66)), false))) = some (r1, r2) := H
  have A3 := ab_ A30
  clear A30
  by_cases c4 : t363 = true
  · subst c4
    have H1 : (some (t360, true)) = some (r1, r2) := by rw [if_pos rfl] at H; exact H
    clear H
    have H := H1
    clear H1
    simp only [Option.some.injEq, Prod.mk.injEq] at H
    obtain ⟨rfl, rfl⟩ := H
    go_enter Try.func61, Try.ntmps61
    go_wp2_with (first | ((with_reducible refine gate_dst (N := 1) rfl ?_); refine box_event ?hg (N := 1) ?hd (cs := #[.int .i64 a0_0, .int .i64 a0_1, .slice A0_2 l0_2.length c0_2]) (t := 62) ?hr ?_; (case hd => rfl); (case hg => rfl); (case hr => first | (go_simp; done) | (go_simp; rfl)); intro gb359 hg w5 hbox hb; have n0_ := ab_ (ar_ (by repeat (first | (with_reducible first | exact HB.out | apply ai_ | apply ag_ | apply ah_) | exact HB.out)) hb); have n1_ := ab_ (hbox); have n2_ := ab_ ((by rw [hg]; exact (below_size (by repeat (first | (with_reducible first | exact HB.out | apply ai_ | apply ag_ | apply ah_) | exact HB.out))) : w.heap.size ≤ gb359)); have n3_ := ab_ ((by rw [hg]; exact (below_size (by repeat (first | (with_reducible first | exact HB.out | apply ai_ | apply ag_ | apply ah_) | exact HB.out))) : w.heap.size ≤ gb359)); clear HB; have HB := n0_; have BK359 := n1_; have GW359 := n2_; have GE359 := n3_; clear n0_ n1_ n2_ n3_; clear hb hbox hg; have hcz6_0 : w5.cell? ⟨gb359, 0, none⟩ = some (.int .i64 a0_0) := (am_ BK359.out 0).trans rfl; have hcz6_1 : w5.cell? ⟨gb359, 1, none⟩ = some (.int .i64 a0_1) := (am_ BK359.out 1).trans rfl; have hcz6_2 : w5.cell? ⟨gb359, 2, none⟩ = some (.slice A0_2 l0_2.length c0_2) := (am_ BK359.out 2).trans rfl; have hfz6_0 := al_ BK359.out 0; have hfz6_1 := al_ BK359.out 1; have hfz6_2 := al_ BK359.out 2) | ((with_reducible refine gate_callee (f := 101) rfl ?_); refine goesL_ (some 6) rfl rfl Try.func101 (by kernel_rfl) rfl #[.agg #[.int .i64 a0_0, .int .i64 a0_1, .slice A0_2 l0_2.length c0_2], .slice none 0 0] rfl (by (try simp only [List.map_toArray, List.map_cons, List.map_nil]); first | done | rfl | (simp only [List.length_drop, List.length_take]; rfl)) ?_; (refine (spec_l3Flat.calls a0_0 a0_1 _ _ l0_2 (fun k_ => some k_ = (.slice none 0 0 : Value).ownBlock) (.slice none 0 0) ([] : List (S66)) t360 w _ ?side1 ?side2 ?side3 ?side4 A2.out).mono ?_); (case side1 => repeat (first | (with_reducible first | exact HB.out | apply ai_ | apply ag_ | apply ah_ | refine af_ ?_ GE359.out) | exact HB.out)); (case side2 => exact Kd.C_kept_came k62_heap HR0_2.out (by repeat (first | (with_reducible first | exact HB.out | apply ai_ | apply ag_ | apply ah_ | refine af_ ?_ GE359.out) | exact HB.out)) (fun k_ hs_ => (fun e_ => by simp [Value.ownBlock] at e_) hs_)); (case side3 => exact HC0_2.out); (case side4 => exact Kd.R_nil _ _ _ _ _); rintro e w7 ⟨v361, rfl, ho0, hb, hkp⟩; refine ⟨_, rfl, ?_⟩; have n0_ := ab_ (blk_kept (by (with_reducible repeat (first | refine ac_ ?_ _ | refine ae_ ?_ | refine ad_ ?_ _)); exact BK359.out) hkp (fun hs_ => (fun e_ => by simp [Value.ownBlock] at e_) hs_)); have n1_ := ab_ (Kd.R_mono (ok' := fun k_ => True) ho0 (fun k_ hk_ => trivial)); have n2_ := ab_ (hb); clear BK359; clear HB; have BK359 := n0_; have HO362 := n1_; have HB := n2_; clear n0_ n1_ n2_; (try clear hb); (try clear hkp); (try clear ho0); obtain ⟨Ao8, co8, eo8⟩ := Kd.R_slice HO362.out; subst eo8) | ((with_reducible refine gate_callee (f := 14) rfl ?_); refine goesL_ (some 8) rfl rfl Try.func14 (by kernel_rfl) rfl #[.slice Ao8 t360.length co8] rfl (by (try simp only [List.map_toArray, List.map_cons, List.map_nil]); first | done | rfl | (simp only [List.length_drop, List.length_take]; rfl)) ?_; (with_reducible refine (spec_GoodTerm.calls k _ _ t360 true _ ?side1 ?side2 A3.out).mono ?_); (case side1 => repeat (first | exact (Kd.R_reads' HO362.out).2.2 | (with_reducible refine Kd.C_alloc ?_ _) | (with_reducible refine Kd.C_drewN ?_ _) | (with_reducible refine Kd.C_drew ?_))); (case side2 => exact (Kd.R_reads' HO362.out).2.1); rintro e w9 ⟨rfl, hb⟩; refine ⟨_, rfl, ?_⟩; have n0_ := ab_ (Kd.R_below (by (with_reducible repeat (first | apply an_ | apply ao_ | apply ap_)); exact HO362.out) hb); have n1_ := ab_ (blk_below (g := gb359) (o := .cells #[.int .i64 a0_0, .int .i64 a0_1, .slice A0_2 l0_2.length c0_2] 62 (0, 0)) (by (with_reducible repeat (first | refine ac_ ?_ _ | refine ae_ ?_ | refine ad_ ?_ _)); exact BK359.out) hb); have n2_ := ab_ (ar_ (by repeat (first | (with_reducible first | exact HB.out | apply ai_ | apply ag_ | apply ah_ | refine af_ ?_ GE359.out) | exact HB.out)) hb); clear HO362; clear BK359; clear HB; have HO362 := n0_; have BK359 := n1_; have HB := n2_; clear n0_ n1_ n2_; (try clear hb); (try clear hb2); (try clear hk); (try clear hi)))
    go_ret2
    exact ⟨_, by first | rfl | (simp [errW_none, errW_some] <;> rfl) | (simp [*, errW_none, errW_some] <;> rfl), by (with_reducible repeat (first | apply an_ | apply ao_ | apply ap_)); exact HO362.out, by repeat (first | (with_reducible first | exact HB.out | apply ai_ | apply ag_ | apply ah_ | refine af_ ?_ GE359.out) | exact HB.out)⟩
  · replace c4 := Bool.eq_false_iff.mpr c4
    subst c4
    have H1 : (some (([] : List (S66)), false)) = some (r1, r2) := by rw [if_neg (show ¬ (false = true) by decide)] at H; exact H
    clear H
    have H := H1
    clear H1
    simp only [Option.some.injEq, Prod.mk.injEq] at H
    obtain ⟨rfl, rfl⟩ := H
    go_enter Try.func61, Try.ntmps61
    go_wp2_with (first | ((with_reducible refine gate_dst (N := 1) rfl ?_); refine box_event ?hg (N := 1) ?hd (cs := #[.int .i64 a0_0, .int .i64 a0_1, .slice A0_2 l0_2.length c0_2]) (t := 62) ?hr ?_; (case hd => rfl); (case hg => rfl); (case hr => first | (go_simp; done) | (go_simp; rfl)); intro gb359 hg w10 hbox hb; have n0_ := ab_ (ar_ (by repeat (first | (with_reducible first | exact HB.out | apply ai_ | apply ag_ | apply ah_) | exact HB.out)) hb); have n1_ := ab_ (hbox); have n2_ := ab_ ((by rw [hg]; exact (below_size (by repeat (first | (with_reducible first | exact HB.out | apply ai_ | apply ag_ | apply ah_) | exact HB.out))) : w.heap.size ≤ gb359)); have n3_ := ab_ ((by rw [hg]; exact (below_size (by repeat (first | (with_reducible first | exact HB.out | apply ai_ | apply ag_ | apply ah_) | exact HB.out))) : w.heap.size ≤ gb359)); clear HB; have HB := n0_; have BK359 := n1_; have GW359 := n2_; have GE359 := n3_; clear n0_ n1_ n2_ n3_; clear hb hbox hg; have hcz11_0 : w10.cell? ⟨gb359, 0, none⟩ = some (.int .i64 a0_0) := (am_ BK359.out 0).trans rfl; have hcz11_1 : w10.cell? ⟨gb359, 1, none⟩ = some (.int .i64 a0_1) := (am_ BK359.out 1).trans rfl; have hcz11_2 : w10.cell? ⟨gb359, 2, none⟩ = some (.slice A0_2 l0_2.length c0_2) := (am_ BK359.out 2).trans rfl; have hfz11_0 := al_ BK359.out 0; have hfz11_1 := al_ BK359.out 1; have hfz11_2 := al_ BK359.out 2) | ((with_reducible refine gate_callee (f := 101) rfl ?_); refine goesL_ (some 6) rfl rfl Try.func101 (by kernel_rfl) rfl #[.agg #[.int .i64 a0_0, .int .i64 a0_1, .slice A0_2 l0_2.length c0_2], .slice none 0 0] rfl (by (try simp only [List.map_toArray, List.map_cons, List.map_nil]); first | done | rfl | (simp only [List.length_drop, List.length_take]; rfl)) ?_; (refine (spec_l3Flat.calls a0_0 a0_1 _ _ l0_2 (fun k_ => some k_ = (.slice none 0 0 : Value).ownBlock) (.slice none 0 0) ([] : List (S66)) t360 w _ ?side1 ?side2 ?side3 ?side4 A2.out).mono ?_); (case side1 => repeat (first | (with_reducible first | exact HB.out | apply ai_ | apply ag_ | apply ah_ | refine af_ ?_ GE359.out) | exact HB.out)); (case side2 => exact Kd.C_kept_came k62_heap HR0_2.out (by repeat (first | (with_reducible first | exact HB.out | apply ai_ | apply ag_ | apply ah_ | refine af_ ?_ GE359.out) | exact HB.out)) (fun k_ hs_ => (fun e_ => by simp [Value.ownBlock] at e_) hs_)); (case side3 => exact HC0_2.out); (case side4 => exact Kd.R_nil _ _ _ _ _); rintro e w12 ⟨v361, rfl, ho0, hb, hkp⟩; refine ⟨_, rfl, ?_⟩; have n0_ := ab_ (blk_kept (by (with_reducible repeat (first | refine ac_ ?_ _ | refine ae_ ?_ | refine ad_ ?_ _)); exact BK359.out) hkp (fun hs_ => (fun e_ => by simp [Value.ownBlock] at e_) hs_)); have n1_ := ab_ (Kd.R_mono (ok' := fun k_ => True) ho0 (fun k_ hk_ => trivial)); have n2_ := ab_ (hb); clear BK359; clear HB; have BK359 := n0_; have HO362 := n1_; have HB := n2_; clear n0_ n1_ n2_; (try clear hb); (try clear hkp); (try clear ho0); obtain ⟨Ao13, co13, eo13⟩ := Kd.R_slice HO362.out; subst eo13) | ((with_reducible refine gate_callee (f := 14) rfl ?_); refine goesL_ (some 8) rfl rfl Try.func14 (by kernel_rfl) rfl #[.slice Ao13 t360.length co13] rfl (by (try simp only [List.map_toArray, List.map_cons, List.map_nil]); first | done | rfl | (simp only [List.length_drop, List.length_take]; rfl)) ?_; (with_reducible refine (spec_GoodTerm.calls k _ _ t360 false _ ?side1 ?side2 A3.out).mono ?_); (case side1 => repeat (first | exact (Kd.R_reads' HO362.out).2.2 | (with_reducible refine Kd.C_alloc ?_ _) | (with_reducible refine Kd.C_drewN ?_ _) | (with_reducible refine Kd.C_drew ?_))); (case side2 => exact (Kd.R_reads' HO362.out).2.1); rintro e w14 ⟨rfl, hb⟩; refine ⟨_, rfl, ?_⟩; have n0_ := ab_ (Kd.R_below (by (with_reducible repeat (first | apply an_ | apply ao_ | apply ap_)); exact HO362.out) hb); have n1_ := ab_ (blk_below (g := gb359) (o := .cells #[.int .i64 a0_0, .int .i64 a0_1, .slice A0_2 l0_2.length c0_2] 62 (0, 0)) (by (with_reducible repeat (first | refine ac_ ?_ _ | refine ae_ ?_ | refine ad_ ?_ _)); exact BK359.out) hb); have n2_ := ab_ (ar_ (by repeat (first | (with_reducible first | exact HB.out | apply ai_ | apply ag_ | apply ah_ | refine af_ ?_ GE359.out) | exact HB.out)) hb); clear HO362; clear BK359; clear HB; have HO362 := n0_; have BK359 := n1_; have HB := n2_; clear n0_ n1_ n2_; (try clear hb); (try clear hb2); (try clear hk); (try clear hi)))
    go_ret2
    exact ⟨_, by first | rfl | (simp [errW_none, errW_some] <;> rfl) | (simp [*, errW_none, errW_some] <;> rfl), by first | exact Kd.R_nil _ _ _ _ _ | exact Kd.N_nil _ _ _ _ _ | exact Kd.V_nil _ _ _ _ _ | exact Kd.Q_nil _ _ _ _ _ | exact Kd.S_nil _ _ _ _ _, by repeat (first | (with_reducible first | exact HB.out | apply ai_ | apply ag_ | apply ah_ | refine af_ ?_ GE359.out) | exact HB.out)⟩
def spec_SubstTerm.j0 : Nat → Int → Bool → Int → Int → List (S62) → Int → Int → List (S62) → Option ((List (S66)) × Bool)
  | 0, _, _, _, _, _, _, _, _ => none
  | k + 1, x1, x34, x371000, x371001, x371002, x378000, x378001, x378002 => if x34 = true then (some (([] : List (S66)), false)) else ((spec_l3Put.f k x371000 x371001 x371002 x1 x378000 x378001 x378002).bind fun bt379 => (if bt379.2.2.2 = true then ((spec_l3Tell.f k bt379.1 bt379.2.1 bt379.2.2.1).bind fun bt386 => (some (bt386.1, bt386.2))) else (some (([] : List (S66)), false))))
def spec_SubstTerm.f (k : Nat) (l0 : List (S66)) (a1 : Int) (l2 : List (S66)) : Option ((List (S66)) × Bool) := (spec_l3Tree.f k l0).bind fun bt364 => ((spec_l3Tree.f k l2).bind fun bt371 => (if bt364.2.2.2 = true then (if bt371.2.2.2 = true then ((spec_l1In.f a1 0 99).bind fun t378 => (spec_SubstTerm.j0 k a1 (!t378) bt364.1 bt364.2.1 bt364.2.2.1 bt371.1 bt371.2.1 bt371.2.2.1)) else (spec_SubstTerm.j0 k a1 true bt364.1 bt364.2.1 bt364.2.2.1 bt371.1 bt371.2.1 bt371.2.2.1)) else (spec_SubstTerm.j0 k a1 true bt364.1 bt364.2.1 bt364.2.2.1 bt371.1 bt371.2.1 bt371.2.2.1)))
theorem spec_SubstTerm.mono_l : ∀ k, (∀ y0 y1 y2 y3 y4 y5 y6 y7, LeO (spec_SubstTerm.j0 k y0 y1 y2 y3 y4 y5 y6 y7) (spec_SubstTerm.j0 (k + 1) y0 y1 y2 y3 y4 y5 y6 y7))
  | 0 => fun _ _ _ _ _ _ _ _ r h => by simp [spec_SubstTerm.j0] at h
  | k + 1 => by
    have ih0 := spec_SubstTerm.mono_l k
    · intro y0 y1 y2 y3 y4 y5 y6 y7
      unfold spec_SubstTerm.j0
      repeat' first
      | (with_reducible exact ih0 _ _ _ _ _ _ _ _)
      | (with_reducible exact spec_l3Put.mono _ _ _ _ _ _ _ _)
      | (with_reducible exact spec_l3Tell.mono _ _ _ _)
      | (with_reducible exact spec_l3Tree.mono _ _)
      | (with_reducible exact LeO.refl _)
      | (with_reducible exact LeO.none _)
      | (with_reducible refine LeO.ite ?_ ?_)
      | (with_reducible refine LeO.bind ?_ (fun _ => ?_))
      | exact ih0 _ _ _ _ _ _ _ _
      | exact spec_l3Put.mono _ _ _ _ _ _ _ _
      | exact spec_l3Tell.mono _ _ _ _
      | exact spec_l3Tree.mono _ _
      | exact LeO.none _
      | refine LeO.ite ?_ ?_
      | refine LeO.bind ?_ (fun _ => ?_)
theorem spec_SubstTerm.mono : ∀ a0 a1 a2 k, LeO (spec_SubstTerm.f k a0 a1 a2) (spec_SubstTerm.f (k + 1) a0 a1 a2) := by
  intro a0 a1 a2 k
  have ih0 := spec_SubstTerm.mono_l k
  unfold spec_SubstTerm.f
  repeat' first
      | (with_reducible exact ih0 _ _ _ _ _ _ _ _)
      | (with_reducible exact spec_l3Put.mono _ _ _ _ _ _ _ _)
      | (with_reducible exact spec_l3Tell.mono _ _ _ _)
      | (with_reducible exact spec_l3Tree.mono _ _)
      | (with_reducible exact LeO.refl _)
      | (with_reducible exact LeO.none _)
      | (with_reducible refine LeO.ite ?_ ?_)
      | (with_reducible refine LeO.bind ?_ (fun _ => ?_))
      | exact ih0 _ _ _ _ _ _ _ _
      | exact spec_l3Put.mono _ _ _ _ _ _ _ _
      | exact spec_l3Tell.mono _ _ _ _
      | exact spec_l3Tree.mono _ _
      | exact LeO.none _
      | refine LeO.ite ?_ ?_
      | refine LeO.bind ?_ (fun _ => ?_)
set_option maxHeartbeats 8000000 in
set_option maxRecDepth 100000 in
theorem spec_SubstTerm.calls (k : Nat) (A0 : Option Addr) (c0 : Nat) (l0 : List (S66)) (a1 : Int) (A2 : Option Addr) (c2 : Nat) (l2 : List (S66)) (r1 : List (S66)) (r2 : Bool) (w : World) (hr0 : Kd.C k66 w A0 l0.length l0) (hc0 : l0.length ≤ c0) (hr2 : Kd.C k66 w A2 l2.length l2) (hc2 : l2.length ≤ c2) (h : spec_SubstTerm.f k l0 a1 l2 = some (r1, r2)) :
    Calls Try.prog 24 #[.slice A0 l0.length c0, .int .i64 a1, .slice A2 l2.length c2] w fun e w' => ∃ v0_ : Value, e = .returned (.tuple #[v0_, .bool r2]) ∧ Kd.R k66 66 w' w.heap.size (fun _ => True) v0_ r1 ∧ Below w.heap.size w w' := by
  have hu62 := Try.underlying62
  have HR0 := ab_ hr0
  have HC0 := ab_ hc0
  clear hr0 hc0
  have HR2 := ab_ hr2
  have HC2 := ab_ hc2
  clear hr2 hc2
  have HB := ab_ (Below.refl w.heap.size w)
  have H : ((spec_l3Tree.f k l0).bind fun bt364 => ((spec_l3Tree.f k l2).bind fun bt371 => (if bt364.2.2.2 = true then (if bt371.2.2.2 = true then ((spec_l1In.f a1 0 99).bind fun t378 => (spec_SubstTerm.j0 k a1 (!t378) bt364.1 bt364.2.1 bt364.2.2.1 bt371.1 bt371.2.1 bt371.2.2.1)) else (spec_SubstTerm.j0 k a1 true bt364.1 bt364.2.1 bt364.2.2.1 bt371.1 bt371.2.1 bt371.2.2.1)) else (spec_SubstTerm.j0 k a1 true bt364.1 bt364.2.1 bt364.2.2.1 bt371.1 bt371.2.1 bt371.2.2.1)))) = some (r1, r2) := h
  clear h
  replace H := Option.bind_eq_some_iff.mp H
  obtain ⟨⟨t364, t365, t366, t369⟩, A40, H⟩ := H
  replace H : ((spec_l3Tree.f k l2).bind fun bt371 => (if t369 = true then (if bt371.2.2.2 = true then ((spec_l1In.f a1 0 99).bind fun t378 => (spec_SubstTerm.j0 k a1 (!t378) t364 t365 t366 bt371.1 bt371.2.1 bt371.2.2.1)) else (spec_SubstTerm.j0 k a1 true t364 t365 t366 bt371.1 bt371.2.1 bt371.2.2.1)) else (spec_SubstTerm.j0 k a1 true t364 t365 t366 bt371.1 bt371.2.1 bt371.2.2.1))) = some (r1, r2) := H
  have A4 := ab_ A40
  clear A40
  replace H := Option.bind_eq_some_iff.mp H
  obtain ⟨⟨t371, t372, t373, t376⟩, A50, H⟩ := H
  replace H : (if t369 = true then (if t376 = true then ((spec_l1In.f a1 0 99).bind fun t378 => (spec_SubstTerm.j0 k a1 (!t378) t364 t365 t366 t371 t372 t373)) else (spec_SubstTerm.j0 k a1 true t364 t365 t366 t371 t372 t373)) else (spec_SubstTerm.j0 k a1 true t364 t365 t366 t371 t372 t373)) = some (r1, r2) := H
  have A5 := ab_ A50
  clear A50
  have HC6 := ab_ H
  clear H
  go_enter Try.func24, Try.ntmps24
  go_upto_region 3 with (first | ((with_reducible refine gate_callee (f := 47) rfl ?_); refine goesL_ (some 16) rfl rfl Try.func47 (by kernel_rfl) rfl #[.slice A0 l0.length c0] rfl (by (try simp only [List.map_toArray, List.map_cons, List.map_nil]); first | done | rfl | (simp only [List.length_drop, List.length_take]; rfl)) ?_; (with_reducible refine (spec_l3Tree.calls k _ _ l0 t364 t365 t366 t369 _ ?side1 ?side2 A4.out).mono ?_); (case side1 => repeat (first | exact HR0.out | (with_reducible refine Kd.C_alloc ?_ _) | (with_reducible refine Kd.C_drewN ?_ _) | (with_reducible refine Kd.C_drew ?_))); (case side2 => exact HC0.out); rintro e w7 ⟨v367, rfl, ho0, hb⟩; refine ⟨_, rfl, ?_⟩; have n0_ := ab_ (Kd.R_lower ho0 (below_size (by repeat (first | (with_reducible first | exact HB.out | apply ai_ | apply ag_ | apply ah_) | exact HB.out)))); have n1_ := ab_ (ar_ (by repeat (first | (with_reducible first | exact HB.out | apply ai_ | apply ag_ | apply ah_) | exact HB.out)) hb); clear HB; have HO368 := n0_; have HB := n1_; clear n0_ n1_; (try clear hb); (try clear hb2); (try clear hk); (try clear hi); (try clear ho0)) | ((with_reducible refine gate_dst (N := 8) rfl ?_); refine box_event ?hg (N := 8) ?hd (cs := #[.int .i64 0, .int .i64 0, .slice none 0 0]) (t := 62) ?hr ?_; (case hd => rfl); (case hg => rfl); (case hr => first | (go_simp; done) | (go_simp; rfl)); intro gb370 hg w8 hbox hb; have n0_ := ab_ (Kd.R_below (Kd.R_elderB (by (with_reducible repeat (first | apply an_ | apply ao_ | apply ap_)); exact HO368.out) gb370 (Nat.le_of_eq hg.symm)) hb); have n1_ := ab_ (ar_ (by repeat (first | (with_reducible first | exact HB.out | apply ai_ | apply ag_ | apply ah_) | exact HB.out)) hb); have n2_ := ab_ (hbox); have n3_ := ab_ ((by rw [hg]; exact (below_size (by repeat (first | (with_reducible first | exact HB.out | apply ai_ | apply ag_ | apply ah_) | exact HB.out))) : w.heap.size ≤ gb370)); have n4_ := ab_ ((by rw [hg]; exact (below_size (by repeat (first | (with_reducible first | exact HB.out | apply ai_ | apply ag_ | apply ah_) | exact HB.out))) : w.heap.size ≤ gb370)); clear HO368; clear HB; have HO368 := n0_; have HB := n1_; have BK370 := n2_; have GW370 := n3_; have GE370 := n4_; clear n0_ n1_ n2_ n3_ n4_; clear hb hbox hg; have hcz9_0 : w8.cell? ⟨gb370, 0, none⟩ = some (.int .i64 0) := (am_ BK370.out 0).trans rfl; have hcz9_1 : w8.cell? ⟨gb370, 1, none⟩ = some (.int .i64 0) := (am_ BK370.out 1).trans rfl; have hcz9_2 : w8.cell? ⟨gb370, 2, none⟩ = some (.slice none 0 0) := (am_ BK370.out 2).trans rfl; have hfz9_0 := al_ BK370.out 0; have hfz9_1 := al_ BK370.out 1; have hfz9_2 := al_ BK370.out 2; obtain ⟨Ao10, co10, eo10⟩ := Kd.R_slice HO368.out; subst eo10) | ((with_reducible refine gate_callee (f := 47) rfl ?_); refine goesL_ (some 21) rfl rfl Try.func47 (by kernel_rfl) rfl #[.slice A2 l2.length c2] rfl (by (try simp only [List.map_toArray, List.map_cons, List.map_nil]); first | done | rfl | (simp only [List.length_drop, List.length_take]; rfl)) ?_; (with_reducible refine (spec_l3Tree.calls k _ _ l2 t371 t372 t373 t376 _ ?side1 ?side2 A5.out).mono ?_); (case side1 => exact Kd.C_below HR2.out (by repeat (first | (with_reducible first | exact HB.out | apply ai_ | apply ag_ | apply ah_ | refine af_ ?_ GE370.out) | exact HB.out))); (case side2 => exact HC2.out); rintro e w11 ⟨v374, rfl, ho0, hb⟩; refine ⟨_, rfl, ?_⟩; have n0_ := ab_ (Kd.R_elder' (by (with_reducible repeat (first | apply an_ | apply ao_ | apply ap_)); exact (Kd.R_mono (Kd.R_far (p := ⟨gb370, 2, none⟩) (Kd.R_far (p := ⟨gb370, 1, none⟩) (Kd.R_far (p := ⟨gb370, 0, none⟩) (Kd.R_mono HO368.out (fun k_ hk => (⟨hk, hk.2⟩ : _ ∧ k_ ≠ gb370))) (fun _ hk => hk.2) (.int .i64 t364)) (fun _ hk => hk.2) (.int .i64 t365)) (fun _ hk => hk.2) (.slice Ao10 t366.length co10)) (fun _ h_ => h_.1))) (Kd.R_base ho0) hb); have n1_ := ab_ (Kd.R_lower (Kd.R_newB (Kd.R_new' ho0 (Kd.R_lt (by (with_reducible repeat (first | apply an_ | apply ao_ | apply ap_)); exact (Kd.R_mono (Kd.R_far (p := ⟨gb370, 2, none⟩) (Kd.R_far (p := ⟨gb370, 1, none⟩) (Kd.R_far (p := ⟨gb370, 0, none⟩) (Kd.R_mono HO368.out (fun k_ hk => (⟨hk, hk.2⟩ : _ ∧ k_ ≠ gb370))) (fun _ hk => hk.2) (.int .i64 t364)) (fun _ hk => hk.2) (.int .i64 t365)) (fun _ hk => hk.2) (.slice Ao10 t366.length co10)) (fun _ h_ => h_.1))))) (g := gb370) (o := .cells #[.int .i64 t364, .int .i64 t365, .slice Ao10 t366.length co10] 62 (0, 0)) (by (with_reducible repeat (first | refine ac_ ?_ _ | refine ae_ ?_ | refine ad_ ?_ _)); refine blk_put (cs := #[.int .i64 t364, .int .i64 t365, .slice none 0 0]) ?_ 2 _ rfl; (with_reducible repeat (first | refine ac_ ?_ _ | refine ae_ ?_ | refine ad_ ?_ _)); refine blk_put (cs := #[.int .i64 t364, .int .i64 0, .slice none 0 0]) ?_ 1 _ rfl; (with_reducible repeat (first | refine ac_ ?_ _ | refine ae_ ?_ | refine ad_ ?_ _)); refine blk_put (cs := #[.int .i64 0, .int .i64 0, .slice none 0 0]) ?_ 0 _ rfl; (with_reducible repeat (first | refine ac_ ?_ _ | refine ae_ ?_ | refine ad_ ?_ _)); exact BK370.out)) (below_size (by repeat (first | (with_reducible first | exact HB.out | apply ai_ | apply ag_ | apply ah_ | refine af_ ?_ GE370.out) | exact HB.out)))); have n2_ := ab_ (blk_below (g := gb370) (o := .cells #[.int .i64 t364, .int .i64 t365, .slice Ao10 t366.length co10] 62 (0, 0)) (by (with_reducible repeat (first | refine ac_ ?_ _ | refine ae_ ?_ | refine ad_ ?_ _)); refine blk_put (cs := #[.int .i64 t364, .int .i64 t365, .slice none 0 0]) ?_ 2 _ rfl; (with_reducible repeat (first | refine ac_ ?_ _ | refine ae_ ?_ | refine ad_ ?_ _)); refine blk_put (cs := #[.int .i64 t364, .int .i64 0, .slice none 0 0]) ?_ 1 _ rfl; (with_reducible repeat (first | refine ac_ ?_ _ | refine ae_ ?_ | refine ad_ ?_ _)); refine blk_put (cs := #[.int .i64 0, .int .i64 0, .slice none 0 0]) ?_ 0 _ rfl; (with_reducible repeat (first | refine ac_ ?_ _ | refine ae_ ?_ | refine ad_ ?_ _)); exact BK370.out) hb); have n3_ := ab_ (ar_ (by repeat (first | (with_reducible first | exact HB.out | apply ai_ | apply ag_ | apply ah_ | refine af_ ?_ GE370.out) | exact HB.out)) hb); clear HO368; clear BK370; clear HB; have HO368 := n0_; have HO375 := n1_; have BK370 := n2_; have HB := n3_; clear n0_ n1_ n2_ n3_; (try clear hb); (try clear hb2); (try clear hk); (try clear hi); (try clear ho0)) | ((with_reducible refine gate_dst (N := 10) rfl ?_); refine box_event ?hg (N := 10) ?hd (cs := #[.int .i64 0, .int .i64 0, .slice none 0 0]) (t := 62) ?hr ?_; (case hd => rfl); (case hg => rfl); (case hr => first | (go_simp; done) | (go_simp; rfl)); intro gb377 hg w12 hbox hb; have n0_ := ab_ (Kd.R_below (Kd.R_elderB (by (with_reducible repeat (first | apply an_ | apply ao_ | apply ap_)); exact HO368.out) gb377 (Nat.le_of_eq hg.symm)) hb); have n1_ := ab_ (Kd.R_below (Kd.R_elderB (by (with_reducible repeat (first | apply an_ | apply ao_ | apply ap_)); exact HO375.out) gb377 (Nat.le_of_eq hg.symm)) hb); have n2_ := ab_ (blk_below (g := gb370) (o := .cells #[.int .i64 t364, .int .i64 t365, .slice Ao10 t366.length co10] 62 (0, 0)) (by (with_reducible repeat (first | refine ac_ ?_ _ | refine ae_ ?_ | refine ad_ ?_ _)); exact BK370.out) hb); have n3_ := ab_ (ar_ (by repeat (first | (with_reducible first | exact HB.out | apply ai_ | apply ag_ | apply ah_ | refine af_ ?_ GE370.out) | exact HB.out)) hb); have n4_ := ab_ (hbox); have n5_ := ab_ ((by rw [hg]; exact (below_size (by repeat (first | (with_reducible first | exact HB.out | apply ai_ | apply ag_ | apply ah_ | refine af_ ?_ GE370.out) | exact HB.out))) : w.heap.size ≤ gb377)); have n6_ := ab_ ((by rw [hg]; exact (below_size (by repeat (first | (with_reducible first | exact HB.out | apply ai_ | apply ag_ | apply ah_ | refine af_ ?_ GE370.out) | exact HB.out))) : w.heap.size ≤ gb377)); have n7_ := ab_ ((by rw [hg]; exact ak_ (blk_lt (g := gb370) (o := .cells #[.int .i64 t364, .int .i64 t365, .slice Ao10 t366.length co10] 62 (0, 0)) (by (with_reducible repeat (first | refine ac_ ?_ _ | refine ae_ ?_ | refine ad_ ?_ _)); exact BK370.out)) : gb370 ≠ gb377)); have n8_ := ab_ ((by rw [hg]; exact Nat.ne_of_gt (blk_lt (g := gb370) (o := .cells #[.int .i64 t364, .int .i64 t365, .slice Ao10 t366.length co10] 62 (0, 0)) (by (with_reducible repeat (first | refine ac_ ?_ _ | refine ae_ ?_ | refine ad_ ?_ _)); exact BK370.out)) : gb377 ≠ gb370)); clear HO368; clear HO375; clear BK370; clear HB; have HO368 := n0_; have HO375 := n1_; have BK370 := n2_; have HB := n3_; have BK377 := n4_; have GW377 := n5_; have GE377 := n6_; have NB370_377 := n7_; have NB377_370 := n8_; clear n0_ n1_ n2_ n3_ n4_ n5_ n6_ n7_ n8_; clear hb hbox hg; have hnb13 := NB377_370.out; have hnc13 := NB370_377.out; have hcz14_0 : w12.cell? ⟨gb377, 0, none⟩ = some (.int .i64 0) := (am_ BK377.out 0).trans rfl; have hcz14_1 : w12.cell? ⟨gb377, 1, none⟩ = some (.int .i64 0) := (am_ BK377.out 1).trans rfl; have hcz14_2 : w12.cell? ⟨gb377, 2, none⟩ = some (.slice none 0 0) := (am_ BK377.out 2).trans rfl; have hfz14_0 := al_ BK377.out 0; have hfz14_1 := al_ BK377.out 1; have hfz14_2 := al_ BK377.out 2; obtain ⟨Ao15, co15, eo15⟩ := Kd.R_slice HO375.out; subst eo15))
  (try simp only [Act.put, List.setIfInBounds_toArray, List.set_cons_zero, List.set_cons_succ])
  go_cut [34] (fun v34 wc => ∃ (kq : Nat) (x34_5 : Bool), v34 = .bool x34_5 ∧ Aside0 (spec_SubstTerm.j0 kq a1 x34_5 t364 t365 t366 t371 t372 t373 = some (r1, r2)) ∧ Aside0 (kq ≤ k) ∧ Aside0 (Kd.R k62 62 wc w.heap.size (fun k_ => some k_ ≠ ((.slice Ao15 t373.length co15) : Value).ownBlock ∧ k_ ≠ gb370 ∧ k_ ≠ gb377) (.slice Ao10 t366.length co10) t366) ∧ Aside0 (Kd.R k62 62 wc w.heap.size (fun k_ => some k_ ≠ ((.slice Ao10 t366.length co10) : Value).ownBlock ∧ k_ ≠ gb370 ∧ k_ ≠ gb377) (.slice Ao15 t373.length co15) t373) ∧ Aside0 (wc.heap[gb370]? = some (.cells #[.int .i64 t364, .int .i64 t365, (.slice Ao10 t366.length co10)] 62 (0, 0))) ∧ Aside0 (wc.heap[gb377]? = some (.cells #[.int .i64 t371, .int .i64 t372, (.slice Ao15 t373.length co15)] 62 (0, 0))) ∧ Aside0 (Below w.heap.size w wc))
  case first =>
    have H := HC6.out
    clear HC6
    by_cases c16 : t369 = true
    · subst c16
      have H1 : (if t376 = true then ((spec_l1In.f a1 0 99).bind fun t378 => (spec_SubstTerm.j0 k a1 (!t378) t364 t365 t366 t371 t372 t373)) else (spec_SubstTerm.j0 k a1 true t364 t365 t366 t371 t372 t373)) = some (r1, r2) := by rw [if_pos rfl] at H; exact H
      clear H
      have H := H1
      clear H1
      by_cases c17 : t376 = true
      · subst c17
        have H1 : ((spec_l1In.f a1 0 99).bind fun t378 => (spec_SubstTerm.j0 k a1 (!t378) t364 t365 t366 t371 t372 t373)) = some (r1, r2) := by rw [if_pos rfl] at H; exact H
        clear H
        have H := H1
        clear H1
        replace H := Option.bind_eq_some_iff.mp H
        obtain ⟨t378, A180, H⟩ := H
        replace H : (spec_SubstTerm.j0 k a1 (!t378) t364 t365 t366 t371 t372 t373) = some (r1, r2) := H
        have A18 := ab_ A180
        clear A180
        have H' := ab_ H
        clear H
        go_wp2_with (first | (go_at_call 59; (with_reducible refine (spec_l1In.calls a1 0 99 t378 _ A18.out).mono ?_); rintro e w' ⟨rfl, ⟨nd, rfl⟩⟩))
        go_meet
        case rel => exact ⟨_, (!t378), (by first | rfl | (simp; done) | (simp [*]; done)), H', ⟨by first | omega | exact Nat.le_refl _⟩, ⟨by (with_reducible repeat (first | apply an_ | apply ao_ | apply ap_)); exact Kd.R_mono (Kd.R_far (p := ⟨gb377, 2, none⟩) (Kd.R_far (p := ⟨gb377, 1, none⟩) (Kd.R_far (p := ⟨gb377, 0, none⟩) (Kd.R_mono HO368.out (fun k_ hk => (⟨hk, hk.2⟩ : _ ∧ k_ ≠ gb377))) (fun _ hk => hk.2) (.int .i64 t371)) (fun _ hk => hk.2) (.int .i64 t372)) (fun _ hk => hk.2) (.slice Ao15 t373.length co15)) (fun _ hk => ⟨hk.1.1.2, ⟨hk.1.1.1.2, hk.1.2⟩⟩)⟩, ⟨by (with_reducible repeat (first | apply an_ | apply ao_ | apply ap_)); exact Kd.R_mono (Kd.R_far (p := ⟨gb377, 2, none⟩) (Kd.R_far (p := ⟨gb377, 1, none⟩) (Kd.R_far (p := ⟨gb377, 0, none⟩) (Kd.R_mono HO375.out (fun k_ hk => (⟨hk, hk.2⟩ : _ ∧ k_ ≠ gb377))) (fun _ hk => hk.2) (.int .i64 t371)) (fun _ hk => hk.2) (.int .i64 t372)) (fun _ hk => hk.2) (.slice Ao15 t373.length co15)) (fun _ hk => ⟨hk.1.1.1.2, ⟨hk.1.1.2, hk.1.2⟩⟩)⟩, ⟨by (with_reducible repeat (first | refine ac_ ?_ _ | refine ae_ ?_ | refine ad_ ?_ _)); refine blk_far ?_ NB370_377.out _; (with_reducible repeat (first | refine ac_ ?_ _ | refine ae_ ?_ | refine ad_ ?_ _)); refine blk_far ?_ NB370_377.out _; (with_reducible repeat (first | refine ac_ ?_ _ | refine ae_ ?_ | refine ad_ ?_ _)); refine blk_far ?_ NB370_377.out _; (with_reducible repeat (first | refine ac_ ?_ _ | refine ae_ ?_ | refine ad_ ?_ _)); exact BK370.out⟩, ⟨by (with_reducible repeat (first | refine ac_ ?_ _ | refine ae_ ?_ | refine ad_ ?_ _)); refine blk_put (cs := #[.int .i64 t371, .int .i64 t372, .slice none 0 0]) ?_ 2 _ rfl; (with_reducible repeat (first | refine ac_ ?_ _ | refine ae_ ?_ | refine ad_ ?_ _)); refine blk_put (cs := #[.int .i64 t371, .int .i64 0, .slice none 0 0]) ?_ 1 _ rfl; (with_reducible repeat (first | refine ac_ ?_ _ | refine ae_ ?_ | refine ad_ ?_ _)); refine blk_put (cs := #[.int .i64 0, .int .i64 0, .slice none 0 0]) ?_ 0 _ rfl; (with_reducible repeat (first | refine ac_ ?_ _ | refine ae_ ?_ | refine ad_ ?_ _)); exact BK377.out⟩, ⟨by repeat (first | (with_reducible first | exact HB.out | apply ai_ | apply ag_ | apply ah_ | refine af_ ?_ GE370.out | refine af_ ?_ GE377.out) | exact HB.out)⟩⟩
      · replace c17 := Bool.eq_false_iff.mpr c17
        subst c17
        have H1 : (spec_SubstTerm.j0 k a1 true t364 t365 t366 t371 t372 t373) = some (r1, r2) := by rw [if_neg (show ¬ (false = true) by decide)] at H; exact H
        clear H
        have H := H1
        clear H1
        have H' := ab_ H
        clear H
        go_wp2
        go_meet
        case rel => exact ⟨_, (true), (by first | rfl | (simp; done) | (simp [*]; done)), H', ⟨by first | omega | exact Nat.le_refl _⟩, ⟨by (with_reducible repeat (first | apply an_ | apply ao_ | apply ap_)); exact Kd.R_mono (Kd.R_far (p := ⟨gb377, 2, none⟩) (Kd.R_far (p := ⟨gb377, 1, none⟩) (Kd.R_far (p := ⟨gb377, 0, none⟩) (Kd.R_mono HO368.out (fun k_ hk => (⟨hk, hk.2⟩ : _ ∧ k_ ≠ gb377))) (fun _ hk => hk.2) (.int .i64 t371)) (fun _ hk => hk.2) (.int .i64 t372)) (fun _ hk => hk.2) (.slice Ao15 t373.length co15)) (fun _ hk => ⟨hk.1.1.2, ⟨hk.1.1.1.2, hk.1.2⟩⟩)⟩, ⟨by (with_reducible repeat (first | apply an_ | apply ao_ | apply ap_)); exact Kd.R_mono (Kd.R_far (p := ⟨gb377, 2, none⟩) (Kd.R_far (p := ⟨gb377, 1, none⟩) (Kd.R_far (p := ⟨gb377, 0, none⟩) (Kd.R_mono HO375.out (fun k_ hk => (⟨hk, hk.2⟩ : _ ∧ k_ ≠ gb377))) (fun _ hk => hk.2) (.int .i64 t371)) (fun _ hk => hk.2) (.int .i64 t372)) (fun _ hk => hk.2) (.slice Ao15 t373.length co15)) (fun _ hk => ⟨hk.1.1.1.2, ⟨hk.1.1.2, hk.1.2⟩⟩)⟩, ⟨by (with_reducible repeat (first | refine ac_ ?_ _ | refine ae_ ?_ | refine ad_ ?_ _)); refine blk_far ?_ NB370_377.out _; (with_reducible repeat (first | refine ac_ ?_ _ | refine ae_ ?_ | refine ad_ ?_ _)); refine blk_far ?_ NB370_377.out _; (with_reducible repeat (first | refine ac_ ?_ _ | refine ae_ ?_ | refine ad_ ?_ _)); refine blk_far ?_ NB370_377.out _; (with_reducible repeat (first | refine ac_ ?_ _ | refine ae_ ?_ | refine ad_ ?_ _)); exact BK370.out⟩, ⟨by (with_reducible repeat (first | refine ac_ ?_ _ | refine ae_ ?_ | refine ad_ ?_ _)); refine blk_put (cs := #[.int .i64 t371, .int .i64 t372, .slice none 0 0]) ?_ 2 _ rfl; (with_reducible repeat (first | refine ac_ ?_ _ | refine ae_ ?_ | refine ad_ ?_ _)); refine blk_put (cs := #[.int .i64 t371, .int .i64 0, .slice none 0 0]) ?_ 1 _ rfl; (with_reducible repeat (first | refine ac_ ?_ _ | refine ae_ ?_ | refine ad_ ?_ _)); refine blk_put (cs := #[.int .i64 0, .int .i64 0, .slice none 0 0]) ?_ 0 _ rfl; (with_reducible repeat (first | refine ac_ ?_ _ | refine ae_ ?_ | refine ad_ ?_ _)); exact BK377.out⟩, ⟨by repeat (first | (with_reducible first | exact HB.out | apply ai_ | apply ag_ | apply ah_ | refine af_ ?_ GE370.out | refine af_ ?_ GE377.out) | exact HB.out)⟩⟩
    · replace c16 := Bool.eq_false_iff.mpr c16
      subst c16
      have H1 : (spec_SubstTerm.j0 k a1 true t364 t365 t366 t371 t372 t373) = some (r1, r2) := by rw [if_neg (show ¬ (false = true) by decide)] at H; exact H
      clear H
      have H := H1
      clear H1
      have H' := ab_ H
      clear H
      go_wp2
      go_meet
      case rel => exact ⟨_, (true), (by first | rfl | (simp; done) | (simp [*]; done)), H', ⟨by first | omega | exact Nat.le_refl _⟩, ⟨by (with_reducible repeat (first | apply an_ | apply ao_ | apply ap_)); exact Kd.R_mono (Kd.R_far (p := ⟨gb377, 2, none⟩) (Kd.R_far (p := ⟨gb377, 1, none⟩) (Kd.R_far (p := ⟨gb377, 0, none⟩) (Kd.R_mono HO368.out (fun k_ hk => (⟨hk, hk.2⟩ : _ ∧ k_ ≠ gb377))) (fun _ hk => hk.2) (.int .i64 t371)) (fun _ hk => hk.2) (.int .i64 t372)) (fun _ hk => hk.2) (.slice Ao15 t373.length co15)) (fun _ hk => ⟨hk.1.1.2, ⟨hk.1.1.1.2, hk.1.2⟩⟩)⟩, ⟨by (with_reducible repeat (first | apply an_ | apply ao_ | apply ap_)); exact Kd.R_mono (Kd.R_far (p := ⟨gb377, 2, none⟩) (Kd.R_far (p := ⟨gb377, 1, none⟩) (Kd.R_far (p := ⟨gb377, 0, none⟩) (Kd.R_mono HO375.out (fun k_ hk => (⟨hk, hk.2⟩ : _ ∧ k_ ≠ gb377))) (fun _ hk => hk.2) (.int .i64 t371)) (fun _ hk => hk.2) (.int .i64 t372)) (fun _ hk => hk.2) (.slice Ao15 t373.length co15)) (fun _ hk => ⟨hk.1.1.1.2, ⟨hk.1.1.2, hk.1.2⟩⟩)⟩, ⟨by (with_reducible repeat (first | refine ac_ ?_ _ | refine ae_ ?_ | refine ad_ ?_ _)); refine blk_far ?_ NB370_377.out _; (with_reducible repeat (first | refine ac_ ?_ _ | refine ae_ ?_ | refine ad_ ?_ _)); refine blk_far ?_ NB370_377.out _; (with_reducible repeat (first | refine ac_ ?_ _ | refine ae_ ?_ | refine ad_ ?_ _)); refine blk_far ?_ NB370_377.out _; (with_reducible repeat (first | refine ac_ ?_ _ | refine ae_ ?_ | refine ad_ ?_ _)); exact BK370.out⟩, ⟨by (with_reducible repeat (first | refine ac_ ?_ _ | refine ae_ ?_ | refine ad_ ?_ _)); refine blk_put (cs := #[.int .i64 t371, .int .i64 t372, .slice none 0 0]) ?_ 2 _ rfl; (with_reducible repeat (first | refine ac_ ?_ _ | refine ae_ ?_ | refine ad_ ?_ _)); refine blk_put (cs := #[.int .i64 t371, .int .i64 0, .slice none 0 0]) ?_ 1 _ rfl; (with_reducible repeat (first | refine ac_ ?_ _ | refine ae_ ?_ | refine ad_ ?_ _)); refine blk_put (cs := #[.int .i64 0, .int .i64 0, .slice none 0 0]) ?_ 0 _ rfl; (with_reducible repeat (first | refine ac_ ?_ _ | refine ae_ ?_ | refine ad_ ?_ _)); exact BK377.out⟩, ⟨by repeat (first | (with_reducible first | exact HB.out | apply ai_ | apply ag_ | apply ah_ | refine af_ ?_ GE370.out | refine af_ ?_ GE377.out) | exact HB.out)⟩⟩
  case rest =>
    clear HC6
    try clear c1
    try clear c2
    try clear p2
    try clear c4
    try clear c13
    try clear c16
    try clear c17
    try clear hcz14_0
    try clear hcz14_1
    try clear hcz14_2
    try clear hcz9_0
    try clear hcz9_1
    try clear hcz9_2
    try clear hfz14_0
    try clear hfz14_1
    try clear hfz14_2
    try clear hfz9_0
    try clear hfz9_1
    try clear hfz9_2
    obtain ⟨kq, x34_5, rfl, HA, HJ5, HO_371002, HO_378002, BK370, BK377, HB⟩ := hcut
    cases kq with
    | zero => exact absurd HA.out (by simp [spec_SubstTerm.j0])
    | succ kj5 =>
      have H := HA.out
      clear HA
      simp only [spec_SubstTerm.j0] at H
      by_cases c19 : x34_5 = true
      · subst c19
        have H1 : (some (([] : List (S66)), false)) = some (r1, r2) := by rw [if_pos rfl] at H; exact H
        clear H
        have H := H1
        clear H1
        simp only [Option.some.injEq, Prod.mk.injEq] at H
        obtain ⟨rfl, rfl⟩ := H
        go_wp2
        go_ret2
        exact ⟨_, by first | rfl | (simp [errW_none, errW_some] <;> rfl) | (simp [*, errW_none, errW_some] <;> rfl), by first | exact Kd.R_nil _ _ _ _ _ | exact Kd.N_nil _ _ _ _ _ | exact Kd.V_nil _ _ _ _ _ | exact Kd.Q_nil _ _ _ _ _ | exact Kd.S_nil _ _ _ _ _, by repeat (first | (with_reducible first | exact HB.out | apply ai_ | apply ag_ | apply ah_ | refine af_ ?_ GE370.out | refine af_ ?_ GE377.out) | exact HB.out)⟩
      · replace c19 := Bool.eq_false_iff.mpr c19
        subst c19
        have H1 : ((spec_l3Put.f kj5 t364 t365 t366 a1 t371 t372 t373).bind fun bt379 => (if bt379.2.2.2 = true then ((spec_l3Tell.f kj5 bt379.1 bt379.2.1 bt379.2.2.1).bind fun bt386 => (some (bt386.1, bt386.2))) else (some (([] : List (S66)), false)))) = some (r1, r2) := by rw [if_neg (show ¬ (false = true) by decide)] at H; exact H
        clear H
        have H := H1
        clear H1
        replace H := Option.bind_eq_some_iff.mp H
        obtain ⟨⟨t379, t380, t381, t384⟩, A200, H⟩ := H
        replace H : (if t384 = true then ((spec_l3Tell.f kj5 t379 t380 t381).bind fun bt386 => (some (bt386.1, bt386.2))) else (some (([] : List (S66)), false))) = some (r1, r2) := H
        have A20 := ab_ A200
        clear A200
        by_cases c21 : t384 = true
        · subst c21
          have H1 : ((spec_l3Tell.f kj5 t379 t380 t381).bind fun bt386 => (some (bt386.1, bt386.2))) = some (r1, r2) := by rw [if_pos rfl] at H; exact H
          clear H
          have H := H1
          clear H1
          replace H := Option.bind_eq_some_iff.mp H
          obtain ⟨⟨t386, t389⟩, A220, H⟩ := H
          replace H : (some (t386, t389)) = some (r1, r2) := H
          have A22 := ab_ A220
          clear A220
          simp only [Option.some.injEq, Prod.mk.injEq] at H
          obtain ⟨rfl, rfl⟩ := H
          have hnb23 := NB370_377.out
          have hnc23 := NB377_370.out
          have hcz24_0 : wc.cell? ⟨gb370, 0, none⟩ = some (.int .i64 t364) := (am_ BK370.out 0).trans rfl
          have hcz24_1 : wc.cell? ⟨gb370, 1, none⟩ = some (.int .i64 t365) := (am_ BK370.out 1).trans rfl
          have hcz24_2 : wc.cell? ⟨gb370, 2, none⟩ = some (.slice Ao10 t366.length co10) := (am_ BK370.out 2).trans rfl
          have hfz24_0 := al_ BK370.out 0
          have hfz24_1 := al_ BK370.out 1
          have hfz24_2 := al_ BK370.out 2
          have hcz25_0 : wc.cell? ⟨gb377, 0, none⟩ = some (.int .i64 t371) := (am_ BK377.out 0).trans rfl
          have hcz25_1 : wc.cell? ⟨gb377, 1, none⟩ = some (.int .i64 t372) := (am_ BK377.out 1).trans rfl
          have hcz25_2 : wc.cell? ⟨gb377, 2, none⟩ = some (.slice Ao15 t373.length co15) := (am_ BK377.out 2).trans rfl
          have hfz25_0 := al_ BK377.out 0
          have hfz25_1 := al_ BK377.out 1
          have hfz25_2 := al_ BK377.out 2
          go_wp2_with (first | ((with_reducible refine gate_callee (f := 60) rfl ?_); refine goesL_ (some 39) rfl rfl Try.func60 (by kernel_rfl) rfl #[.agg #[.int .i64 t364, .int .i64 t365, .slice Ao10 t366.length co10], .int .i64 a1, .agg #[.int .i64 t371, .int .i64 t372, .slice Ao15 t373.length co15]] rfl (by (try simp only [List.map_toArray, List.map_cons, List.map_nil]); first | done | rfl | (simp only [List.length_drop, List.length_take]; rfl)) ?_; (with_reducible refine (spec_l3Put.calls kj5 t364 t365 (fun k_ => (some k_ ≠ (.slice Ao15 t373.length co15 : Value).ownBlock ∧ (k_ ≠ gb370 ∧ k_ ≠ gb377))) _ _ t366 a1 t371 t372 _ _ t373 t379 t380 t381 true _ ?side1 ?side2 ?side3 A20.out).mono ?_); (case side1 => exact Kd.R_V (HO_371002.out)); (case side2 => repeat (first | exact (Kd.R_reads' HO_378002.out).2.2 | (with_reducible refine Kd.C_alloc ?_ _) | (with_reducible refine Kd.C_drewN ?_ _) | (with_reducible refine Kd.C_drew ?_))); (case side3 => exact (Kd.R_reads' HO_378002.out).2.1); rintro e w26 ⟨v382, rfl, ho0, hb⟩; refine ⟨_, rfl, ?_⟩; have n0_ := ab_ (Kd.R_below (by (with_reducible repeat (first | apply an_ | apply ao_ | apply ap_)); exact HO_371002.out) hb); have n1_ := ab_ (Kd.R_below (by (with_reducible repeat (first | apply an_ | apply ao_ | apply ap_)); exact HO_378002.out) hb); have n2_ := ab_ (Kd.V_lower (Kd.V_mono (ok' := fun k_ => some k_ ≠ (.slice Ao15 t373.length co15 : Value).ownBlock ∧ k_ ≠ gb370 ∧ k_ ≠ gb377) ho0 (fun k_ hk_ => ⟨Or.elim hk_ (fun hs_ => hs_.1) (fun hn_ => (Kd.fresh' (Kd.R_lt (by (with_reducible repeat (first | apply an_ | apply ao_ | apply ap_)); exact HO_378002.out)) k_ hn_)), Or.elim hk_ (fun hs_ => hs_.2.1) (fun hn_ => (Kd.freshB (g := gb370) (o := .cells #[.int .i64 t364, .int .i64 t365, .slice Ao10 t366.length co10] 62 (0, 0)) (by (with_reducible repeat (first | refine ac_ ?_ _ | refine ae_ ?_ | refine ad_ ?_ _)); exact BK370.out) k_ hn_)), Or.elim hk_ (fun hs_ => hs_.2.2) (fun hn_ => (Kd.freshB (g := gb377) (o := .cells #[.int .i64 t371, .int .i64 t372, .slice Ao15 t373.length co15] 62 (0, 0)) (by (with_reducible repeat (first | refine ac_ ?_ _ | refine ae_ ?_ | refine ad_ ?_ _)); exact BK377.out) k_ hn_))⟩)) (below_size (by repeat (first | (with_reducible first | exact HB.out | apply ai_ | apply ag_ | apply ah_ | refine af_ ?_ GE370.out | refine af_ ?_ GE377.out) | exact HB.out)))); have n3_ := ab_ (blk_below (g := gb370) (o := .cells #[.int .i64 t364, .int .i64 t365, .slice Ao10 t366.length co10] 62 (0, 0)) (by (with_reducible repeat (first | refine ac_ ?_ _ | refine ae_ ?_ | refine ad_ ?_ _)); exact BK370.out) hb); have n4_ := ab_ (blk_below (g := gb377) (o := .cells #[.int .i64 t371, .int .i64 t372, .slice Ao15 t373.length co15] 62 (0, 0)) (by (with_reducible repeat (first | refine ac_ ?_ _ | refine ae_ ?_ | refine ad_ ?_ _)); exact BK377.out) hb); have n5_ := ab_ (ar_ (by repeat (first | (with_reducible first | exact HB.out | apply ai_ | apply ag_ | apply ah_ | refine af_ ?_ GE370.out | refine af_ ?_ GE377.out) | exact HB.out)) hb); clear HO_371002; clear HO_378002; clear BK370; clear BK377; clear HB; have HO_371002 := n0_; have HO_378002 := n1_; have HO383 := n2_; have BK370 := n3_; have BK377 := n4_; have HB := n5_; clear n0_ n1_ n2_ n3_ n4_ n5_; (try clear hb); (try clear hb2); (try clear hk); (try clear hi); (try clear ho0)) | ((with_reducible refine gate_dst (N := 12) rfl ?_); refine box_event ?hg (N := 12) ?hd (cs := #[.int .i64 0, .int .i64 0, .slice none 0 0]) (t := 62) ?hr ?_; (case hd => rfl); (case hg => rfl); (case hr => first | (go_simp; done) | (go_simp; rfl)); intro gb385 hg w27 hbox hb; have n0_ := ab_ (Kd.R_below (Kd.R_elderB (by (with_reducible repeat (first | apply an_ | apply ao_ | apply ap_)); exact HO_371002.out) gb385 (Nat.le_of_eq hg.symm)) hb); have n1_ := ab_ (Kd.R_below (Kd.R_elderB (by (with_reducible repeat (first | apply an_ | apply ao_ | apply ap_)); exact HO_378002.out) gb385 (Nat.le_of_eq hg.symm)) hb); have n2_ := ab_ (Kd.V_below (Kd.V_elderB (by (with_reducible repeat (first | apply Kd.V_alloc | apply Kd.V_drewN | apply Kd.V_drew)); exact HO383.out) gb385 (Nat.le_of_eq hg.symm)) hb); have n3_ := ab_ (blk_below (g := gb370) (o := .cells #[.int .i64 t364, .int .i64 t365, .slice Ao10 t366.length co10] 62 (0, 0)) (by (with_reducible repeat (first | refine ac_ ?_ _ | refine ae_ ?_ | refine ad_ ?_ _)); exact BK370.out) hb); have n4_ := ab_ (blk_below (g := gb377) (o := .cells #[.int .i64 t371, .int .i64 t372, .slice Ao15 t373.length co15] 62 (0, 0)) (by (with_reducible repeat (first | refine ac_ ?_ _ | refine ae_ ?_ | refine ad_ ?_ _)); exact BK377.out) hb); have n5_ := ab_ (ar_ (by repeat (first | (with_reducible first | exact HB.out | apply ai_ | apply ag_ | apply ah_ | refine af_ ?_ GE370.out | refine af_ ?_ GE377.out) | exact HB.out)) hb); have n6_ := ab_ (hbox); have n7_ := ab_ ((by rw [hg]; exact (below_size (by repeat (first | (with_reducible first | exact HB.out | apply ai_ | apply ag_ | apply ah_ | refine af_ ?_ GE370.out | refine af_ ?_ GE377.out) | exact HB.out))) : w.heap.size ≤ gb385)); have n8_ := ab_ ((by rw [hg]; exact (below_size (by repeat (first | (with_reducible first | exact HB.out | apply ai_ | apply ag_ | apply ah_ | refine af_ ?_ GE370.out | refine af_ ?_ GE377.out) | exact HB.out))) : w.heap.size ≤ gb385)); have n9_ := ab_ ((by rw [hg]; exact ak_ (blk_lt (g := gb370) (o := .cells #[.int .i64 t364, .int .i64 t365, .slice Ao10 t366.length co10] 62 (0, 0)) (by (with_reducible repeat (first | refine ac_ ?_ _ | refine ae_ ?_ | refine ad_ ?_ _)); exact BK370.out)) : gb370 ≠ gb385)); have n10_ := ab_ ((by rw [hg]; exact Nat.ne_of_gt (blk_lt (g := gb370) (o := .cells #[.int .i64 t364, .int .i64 t365, .slice Ao10 t366.length co10] 62 (0, 0)) (by (with_reducible repeat (first | refine ac_ ?_ _ | refine ae_ ?_ | refine ad_ ?_ _)); exact BK370.out)) : gb385 ≠ gb370)); have n11_ := ab_ ((by rw [hg]; exact ak_ (blk_lt (g := gb377) (o := .cells #[.int .i64 t371, .int .i64 t372, .slice Ao15 t373.length co15] 62 (0, 0)) (by (with_reducible repeat (first | refine ac_ ?_ _ | refine ae_ ?_ | refine ad_ ?_ _)); exact BK377.out)) : gb377 ≠ gb385)); have n12_ := ab_ ((by rw [hg]; exact Nat.ne_of_gt (blk_lt (g := gb377) (o := .cells #[.int .i64 t371, .int .i64 t372, .slice Ao15 t373.length co15] 62 (0, 0)) (by (with_reducible repeat (first | refine ac_ ?_ _ | refine ae_ ?_ | refine ad_ ?_ _)); exact BK377.out)) : gb385 ≠ gb377)); clear HO_371002; clear HO_378002; clear HO383; clear BK370; clear BK377; clear HB; have HO_371002 := n0_; have HO_378002 := n1_; have HO383 := n2_; have BK370 := n3_; have BK377 := n4_; have HB := n5_; have BK385 := n6_; have GW385 := n7_; have GE385 := n8_; have NB370_385 := n9_; have NB385_370 := n10_; have NB377_385 := n11_; have NB385_377 := n12_; clear n0_ n1_ n2_ n3_ n4_ n5_ n6_ n7_ n8_ n9_ n10_ n11_ n12_; clear hb hbox hg; have hnb28 := NB385_370.out; have hnc28 := NB370_385.out; have hnb29 := NB385_377.out; have hnc29 := NB377_385.out; have hcz30_0 : w27.cell? ⟨gb385, 0, none⟩ = some (.int .i64 0) := (am_ BK385.out 0).trans rfl; have hcz30_1 : w27.cell? ⟨gb385, 1, none⟩ = some (.int .i64 0) := (am_ BK385.out 1).trans rfl; have hcz30_2 : w27.cell? ⟨gb385, 2, none⟩ = some (.slice none 0 0) := (am_ BK385.out 2).trans rfl; have hfz30_0 := al_ BK385.out 0; have hfz30_1 := al_ BK385.out 1; have hfz30_2 := al_ BK385.out 2; obtain ⟨Ao31, co31, eo31⟩ := Kd.V_slice HO383.out; subst eo31) | ((with_reducible refine gate_callee (f := 61) rfl ?_); refine goesL_ (some 45) rfl rfl Try.func61 (by kernel_rfl) rfl #[.agg #[.int .i64 t379, .int .i64 t380, .slice Ao31 t381.length co31]] rfl (by (try simp only [List.map_toArray, List.map_cons, List.map_nil]); first | done | rfl | (simp only [List.length_drop, List.length_take]; rfl)) ?_; (with_reducible refine (spec_l3Tell.calls kj5 t379 t380 _ _ t381 t386 t389 _ ?side1 ?side2 A22.out).mono ?_); (case side1 => refine (Kd.V_reads' (e := 62) (base := w.heap.size) (ok := fun k_ => ((some k_ ≠ (.slice Ao15 t373.length co15 : Value).ownBlock ∧ (k_ ≠ gb370 ∧ k_ ≠ gb377)) ∧ k_ ≠ gb385)) (n := t381.length) (c := co31) ?_).2.2; exact (by (with_reducible repeat (first | apply Kd.V_alloc | apply Kd.V_drewN | apply Kd.V_drew)); exact (Kd.V_mono (Kd.V_far (p := ⟨gb385, 2, none⟩) (Kd.V_far (p := ⟨gb385, 1, none⟩) (Kd.V_far (p := ⟨gb385, 0, none⟩) (Kd.V_mono HO383.out (fun k_ hk => (⟨hk, hk.2⟩ : _ ∧ k_ ≠ gb385))) (fun _ hk => hk.2) (.int .i64 t379)) (fun _ hk => hk.2) (.int .i64 t380)) (fun _ hk => hk.2) (.slice Ao31 t381.length co31)) (fun _ h_ => h_.1)))); (case side2 => exact (Kd.V_reads' HO383.out).2.1); rintro e w32 ⟨v387, rfl, ho0, hb⟩; refine ⟨_, rfl, ?_⟩; have n0_ := ab_ (Kd.R_below (by (with_reducible repeat (first | apply an_ | apply ao_ | apply ap_)); exact (Kd.R_mono (Kd.R_far (p := ⟨gb385, 2, none⟩) (Kd.R_far (p := ⟨gb385, 1, none⟩) (Kd.R_far (p := ⟨gb385, 0, none⟩) (Kd.R_mono HO_371002.out (fun k_ hk => (⟨hk, hk.2⟩ : _ ∧ k_ ≠ gb385))) (fun _ hk => hk.2) (.int .i64 t379)) (fun _ hk => hk.2) (.int .i64 t380)) (fun _ hk => hk.2) (.slice Ao31 t381.length co31)) (fun _ h_ => h_.1))) hb); have n1_ := ab_ (Kd.R_below (by (with_reducible repeat (first | apply an_ | apply ao_ | apply ap_)); exact (Kd.R_mono (Kd.R_far (p := ⟨gb385, 2, none⟩) (Kd.R_far (p := ⟨gb385, 1, none⟩) (Kd.R_far (p := ⟨gb385, 0, none⟩) (Kd.R_mono HO_378002.out (fun k_ hk => (⟨hk, hk.2⟩ : _ ∧ k_ ≠ gb385))) (fun _ hk => hk.2) (.int .i64 t379)) (fun _ hk => hk.2) (.int .i64 t380)) (fun _ hk => hk.2) (.slice Ao31 t381.length co31)) (fun _ h_ => h_.1))) hb); have n2_ := ab_ (Kd.V_elder' (by (with_reducible repeat (first | apply Kd.V_alloc | apply Kd.V_drewN | apply Kd.V_drew)); exact (Kd.V_mono (Kd.V_far (p := ⟨gb385, 2, none⟩) (Kd.V_far (p := ⟨gb385, 1, none⟩) (Kd.V_far (p := ⟨gb385, 0, none⟩) (Kd.V_mono HO383.out (fun k_ hk => (⟨hk, hk.2⟩ : _ ∧ k_ ≠ gb385))) (fun _ hk => hk.2) (.int .i64 t379)) (fun _ hk => hk.2) (.int .i64 t380)) (fun _ hk => hk.2) (.slice Ao31 t381.length co31)) (fun _ h_ => h_.1))) (Kd.R_base ho0) hb); have n3_ := ab_ (Kd.R_lower ho0 (below_size (by repeat (first | (with_reducible first | exact HB.out | apply ai_ | apply ag_ | apply ah_ | refine af_ ?_ GE370.out | refine af_ ?_ GE377.out | refine af_ ?_ GE385.out) | exact HB.out)))); have n4_ := ab_ (blk_below (g := gb370) (o := .cells #[.int .i64 t364, .int .i64 t365, .slice Ao10 t366.length co10] 62 (0, 0)) (by (with_reducible repeat (first | refine ac_ ?_ _ | refine ae_ ?_ | refine ad_ ?_ _)); refine blk_far ?_ NB370_385.out _; (with_reducible repeat (first | refine ac_ ?_ _ | refine ae_ ?_ | refine ad_ ?_ _)); refine blk_far ?_ NB370_385.out _; (with_reducible repeat (first | refine ac_ ?_ _ | refine ae_ ?_ | refine ad_ ?_ _)); refine blk_far ?_ NB370_385.out _; (with_reducible repeat (first | refine ac_ ?_ _ | refine ae_ ?_ | refine ad_ ?_ _)); exact BK370.out) hb); have n5_ := ab_ (blk_below (g := gb377) (o := .cells #[.int .i64 t371, .int .i64 t372, .slice Ao15 t373.length co15] 62 (0, 0)) (by (with_reducible repeat (first | refine ac_ ?_ _ | refine ae_ ?_ | refine ad_ ?_ _)); refine blk_far ?_ NB377_385.out _; (with_reducible repeat (first | refine ac_ ?_ _ | refine ae_ ?_ | refine ad_ ?_ _)); refine blk_far ?_ NB377_385.out _; (with_reducible repeat (first | refine ac_ ?_ _ | refine ae_ ?_ | refine ad_ ?_ _)); refine blk_far ?_ NB377_385.out _; (with_reducible repeat (first | refine ac_ ?_ _ | refine ae_ ?_ | refine ad_ ?_ _)); exact BK377.out) hb); have n6_ := ab_ (blk_below (g := gb385) (o := .cells #[.int .i64 t379, .int .i64 t380, .slice Ao31 t381.length co31] 62 (0, 0)) (by (with_reducible repeat (first | refine ac_ ?_ _ | refine ae_ ?_ | refine ad_ ?_ _)); refine blk_put (cs := #[.int .i64 t379, .int .i64 t380, .slice none 0 0]) ?_ 2 _ rfl; (with_reducible repeat (first | refine ac_ ?_ _ | refine ae_ ?_ | refine ad_ ?_ _)); refine blk_put (cs := #[.int .i64 t379, .int .i64 0, .slice none 0 0]) ?_ 1 _ rfl; (with_reducible repeat (first | refine ac_ ?_ _ | refine ae_ ?_ | refine ad_ ?_ _)); refine blk_put (cs := #[.int .i64 0, .int .i64 0, .slice none 0 0]) ?_ 0 _ rfl; (with_reducible repeat (first | refine ac_ ?_ _ | refine ae_ ?_ | refine ad_ ?_ _)); exact BK385.out) hb); have n7_ := ab_ (ar_ (by repeat (first | (with_reducible first | exact HB.out | apply ai_ | apply ag_ | apply ah_ | refine af_ ?_ GE370.out | refine af_ ?_ GE377.out | refine af_ ?_ GE385.out) | exact HB.out)) hb); clear HO_371002; clear HO_378002; clear HO383; clear BK370; clear BK377; clear BK385; clear HB; have HO_371002 := n0_; have HO_378002 := n1_; have HO383 := n2_; have HO388 := n3_; have BK370 := n4_; have BK377 := n5_; have BK385 := n6_; have HB := n7_; clear n0_ n1_ n2_ n3_ n4_ n5_ n6_ n7_; (try clear hb); (try clear hb2); (try clear hk); (try clear hi); (try clear ho0)))
          go_ret2
          exact ⟨_, by first | rfl | (simp [errW_none, errW_some] <;> rfl) | (simp [*, errW_none, errW_some] <;> rfl), by (with_reducible repeat (first | apply an_ | apply ao_ | apply ap_)); exact HO388.out, by repeat (first | (with_reducible first | exact HB.out | apply ai_ | apply ag_ | apply ah_ | refine af_ ?_ GE370.out | refine af_ ?_ GE377.out | refine af_ ?_ GE385.out) | exact HB.out)⟩
        · replace c21 := Bool.eq_false_iff.mpr c21
          subst c21
          have H1 : (some (([] : List (S66)), false)) = some (r1, r2) := by rw [if_neg (show ¬ (false = true) by decide)] at H; exact H
          clear H
          have H := H1
          clear H1
          simp only [Option.some.injEq, Prod.mk.injEq] at H
          obtain ⟨rfl, rfl⟩ := H
          have hnb33 := NB370_377.out
          have hnc33 := NB377_370.out
          have hcz34_0 : wc.cell? ⟨gb370, 0, none⟩ = some (.int .i64 t364) := (am_ BK370.out 0).trans rfl
          have hcz34_1 : wc.cell? ⟨gb370, 1, none⟩ = some (.int .i64 t365) := (am_ BK370.out 1).trans rfl
          have hcz34_2 : wc.cell? ⟨gb370, 2, none⟩ = some (.slice Ao10 t366.length co10) := (am_ BK370.out 2).trans rfl
          have hfz34_0 := al_ BK370.out 0
          have hfz34_1 := al_ BK370.out 1
          have hfz34_2 := al_ BK370.out 2
          have hcz35_0 : wc.cell? ⟨gb377, 0, none⟩ = some (.int .i64 t371) := (am_ BK377.out 0).trans rfl
          have hcz35_1 : wc.cell? ⟨gb377, 1, none⟩ = some (.int .i64 t372) := (am_ BK377.out 1).trans rfl
          have hcz35_2 : wc.cell? ⟨gb377, 2, none⟩ = some (.slice Ao15 t373.length co15) := (am_ BK377.out 2).trans rfl
          have hfz35_0 := al_ BK377.out 0
          have hfz35_1 := al_ BK377.out 1
          have hfz35_2 := al_ BK377.out 2
          go_wp2_with (first | ((with_reducible refine gate_callee (f := 60) rfl ?_); refine goesL_ (some 39) rfl rfl Try.func60 (by kernel_rfl) rfl #[.agg #[.int .i64 t364, .int .i64 t365, .slice Ao10 t366.length co10], .int .i64 a1, .agg #[.int .i64 t371, .int .i64 t372, .slice Ao15 t373.length co15]] rfl (by (try simp only [List.map_toArray, List.map_cons, List.map_nil]); first | done | rfl | (simp only [List.length_drop, List.length_take]; rfl)) ?_; (with_reducible refine (spec_l3Put.calls kj5 t364 t365 (fun k_ => (some k_ ≠ (.slice Ao15 t373.length co15 : Value).ownBlock ∧ (k_ ≠ gb370 ∧ k_ ≠ gb377))) _ _ t366 a1 t371 t372 _ _ t373 t379 t380 t381 false _ ?side1 ?side2 ?side3 A20.out).mono ?_); (case side1 => exact Kd.R_V (HO_371002.out)); (case side2 => repeat (first | exact (Kd.R_reads' HO_378002.out).2.2 | (with_reducible refine Kd.C_alloc ?_ _) | (with_reducible refine Kd.C_drewN ?_ _) | (with_reducible refine Kd.C_drew ?_))); (case side3 => exact (Kd.R_reads' HO_378002.out).2.1); rintro e w36 ⟨v382, rfl, ho0, hb⟩; refine ⟨_, rfl, ?_⟩; have n0_ := ab_ (Kd.R_below (by (with_reducible repeat (first | apply an_ | apply ao_ | apply ap_)); exact HO_371002.out) hb); have n1_ := ab_ (Kd.R_below (by (with_reducible repeat (first | apply an_ | apply ao_ | apply ap_)); exact HO_378002.out) hb); have n2_ := ab_ (Kd.V_lower (Kd.V_mono (ok' := fun k_ => some k_ ≠ (.slice Ao15 t373.length co15 : Value).ownBlock ∧ k_ ≠ gb370 ∧ k_ ≠ gb377) ho0 (fun k_ hk_ => ⟨Or.elim hk_ (fun hs_ => hs_.1) (fun hn_ => (Kd.fresh' (Kd.R_lt (by (with_reducible repeat (first | apply an_ | apply ao_ | apply ap_)); exact HO_378002.out)) k_ hn_)), Or.elim hk_ (fun hs_ => hs_.2.1) (fun hn_ => (Kd.freshB (g := gb370) (o := .cells #[.int .i64 t364, .int .i64 t365, .slice Ao10 t366.length co10] 62 (0, 0)) (by (with_reducible repeat (first | refine ac_ ?_ _ | refine ae_ ?_ | refine ad_ ?_ _)); exact BK370.out) k_ hn_)), Or.elim hk_ (fun hs_ => hs_.2.2) (fun hn_ => (Kd.freshB (g := gb377) (o := .cells #[.int .i64 t371, .int .i64 t372, .slice Ao15 t373.length co15] 62 (0, 0)) (by (with_reducible repeat (first | refine ac_ ?_ _ | refine ae_ ?_ | refine ad_ ?_ _)); exact BK377.out) k_ hn_))⟩)) (below_size (by repeat (first | (with_reducible first | exact HB.out | apply ai_ | apply ag_ | apply ah_ | refine af_ ?_ GE370.out | refine af_ ?_ GE377.out) | exact HB.out)))); have n3_ := ab_ (blk_below (g := gb370) (o := .cells #[.int .i64 t364, .int .i64 t365, .slice Ao10 t366.length co10] 62 (0, 0)) (by (with_reducible repeat (first | refine ac_ ?_ _ | refine ae_ ?_ | refine ad_ ?_ _)); exact BK370.out) hb); have n4_ := ab_ (blk_below (g := gb377) (o := .cells #[.int .i64 t371, .int .i64 t372, .slice Ao15 t373.length co15] 62 (0, 0)) (by (with_reducible repeat (first | refine ac_ ?_ _ | refine ae_ ?_ | refine ad_ ?_ _)); exact BK377.out) hb); have n5_ := ab_ (ar_ (by repeat (first | (with_reducible first | exact HB.out | apply ai_ | apply ag_ | apply ah_ | refine af_ ?_ GE370.out | refine af_ ?_ GE377.out) | exact HB.out)) hb); clear HO_371002; clear HO_378002; clear BK370; clear BK377; clear HB; have HO_371002 := n0_; have HO_378002 := n1_; have HO383 := n2_; have BK370 := n3_; have BK377 := n4_; have HB := n5_; clear n0_ n1_ n2_ n3_ n4_ n5_; (try clear hb); (try clear hb2); (try clear hk); (try clear hi); (try clear ho0)) | ((with_reducible refine gate_dst (N := 12) rfl ?_); refine box_event ?hg (N := 12) ?hd (cs := #[.int .i64 0, .int .i64 0, .slice none 0 0]) (t := 62) ?hr ?_; (case hd => rfl); (case hg => rfl); (case hr => first | (go_simp; done) | (go_simp; rfl)); intro gb385 hg w37 hbox hb; have n0_ := ab_ (Kd.R_below (Kd.R_elderB (by (with_reducible repeat (first | apply an_ | apply ao_ | apply ap_)); exact HO_371002.out) gb385 (Nat.le_of_eq hg.symm)) hb); have n1_ := ab_ (Kd.R_below (Kd.R_elderB (by (with_reducible repeat (first | apply an_ | apply ao_ | apply ap_)); exact HO_378002.out) gb385 (Nat.le_of_eq hg.symm)) hb); have n2_ := ab_ (Kd.V_below (Kd.V_elderB (by (with_reducible repeat (first | apply Kd.V_alloc | apply Kd.V_drewN | apply Kd.V_drew)); exact HO383.out) gb385 (Nat.le_of_eq hg.symm)) hb); have n3_ := ab_ (blk_below (g := gb370) (o := .cells #[.int .i64 t364, .int .i64 t365, .slice Ao10 t366.length co10] 62 (0, 0)) (by (with_reducible repeat (first | refine ac_ ?_ _ | refine ae_ ?_ | refine ad_ ?_ _)); exact BK370.out) hb); have n4_ := ab_ (blk_below (g := gb377) (o := .cells #[.int .i64 t371, .int .i64 t372, .slice Ao15 t373.length co15] 62 (0, 0)) (by (with_reducible repeat (first | refine ac_ ?_ _ | refine ae_ ?_ | refine ad_ ?_ _)); exact BK377.out) hb); have n5_ := ab_ (ar_ (by repeat (first | (with_reducible first | exact HB.out | apply ai_ | apply ag_ | apply ah_ | refine af_ ?_ GE370.out | refine af_ ?_ GE377.out) | exact HB.out)) hb); have n6_ := ab_ (hbox); have n7_ := ab_ ((by rw [hg]; exact (below_size (by repeat (first | (with_reducible first | exact HB.out | apply ai_ | apply ag_ | apply ah_ | refine af_ ?_ GE370.out | refine af_ ?_ GE377.out) | exact HB.out))) : w.heap.size ≤ gb385)); have n8_ := ab_ ((by rw [hg]; exact (below_size (by repeat (first | (with_reducible first | exact HB.out | apply ai_ | apply ag_ | apply ah_ | refine af_ ?_ GE370.out | refine af_ ?_ GE377.out) | exact HB.out))) : w.heap.size ≤ gb385)); have n9_ := ab_ ((by rw [hg]; exact ak_ (blk_lt (g := gb370) (o := .cells #[.int .i64 t364, .int .i64 t365, .slice Ao10 t366.length co10] 62 (0, 0)) (by (with_reducible repeat (first | refine ac_ ?_ _ | refine ae_ ?_ | refine ad_ ?_ _)); exact BK370.out)) : gb370 ≠ gb385)); have n10_ := ab_ ((by rw [hg]; exact Nat.ne_of_gt (blk_lt (g := gb370) (o := .cells #[.int .i64 t364, .int .i64 t365, .slice Ao10 t366.length co10] 62 (0, 0)) (by (with_reducible repeat (first | refine ac_ ?_ _ | refine ae_ ?_ | refine ad_ ?_ _)); exact BK370.out)) : gb385 ≠ gb370)); have n11_ := ab_ ((by rw [hg]; exact ak_ (blk_lt (g := gb377) (o := .cells #[.int .i64 t371, .int .i64 t372, .slice Ao15 t373.length co15] 62 (0, 0)) (by (with_reducible repeat (first | refine ac_ ?_ _ | refine ae_ ?_ | refine ad_ ?_ _)); exact BK377.out)) : gb377 ≠ gb385)); have n12_ := ab_ ((by rw [hg]; exact Nat.ne_of_gt (blk_lt (g := gb377) (o := .cells #[.int .i64 t371, .int .i64 t372, .slice Ao15 t373.length co15] 62 (0, 0)) (by (with_reducible repeat (first | refine ac_ ?_ _ | refine ae_ ?_ | refine ad_ ?_ _)); exact BK377.out)) : gb385 ≠ gb377)); clear HO_371002; clear HO_378002; clear HO383; clear BK370; clear BK377; clear HB; have HO_371002 := n0_; have HO_378002 := n1_; have HO383 := n2_; have BK370 := n3_; have BK377 := n4_; have HB := n5_; have BK385 := n6_; have GW385 := n7_; have GE385 := n8_; have NB370_385 := n9_; have NB385_370 := n10_; have NB377_385 := n11_; have NB385_377 := n12_; clear n0_ n1_ n2_ n3_ n4_ n5_ n6_ n7_ n8_ n9_ n10_ n11_ n12_; clear hb hbox hg; have hnb38 := NB385_370.out; have hnc38 := NB370_385.out; have hnb39 := NB385_377.out; have hnc39 := NB377_385.out; have hcz40_0 : w37.cell? ⟨gb385, 0, none⟩ = some (.int .i64 0) := (am_ BK385.out 0).trans rfl; have hcz40_1 : w37.cell? ⟨gb385, 1, none⟩ = some (.int .i64 0) := (am_ BK385.out 1).trans rfl; have hcz40_2 : w37.cell? ⟨gb385, 2, none⟩ = some (.slice none 0 0) := (am_ BK385.out 2).trans rfl; have hfz40_0 := al_ BK385.out 0; have hfz40_1 := al_ BK385.out 1; have hfz40_2 := al_ BK385.out 2; obtain ⟨Ao41, co41, eo41⟩ := Kd.V_slice HO383.out; subst eo41))
          go_ret2
          exact ⟨_, by first | rfl | (simp [errW_none, errW_some] <;> rfl) | (simp [*, errW_none, errW_some] <;> rfl), by first | exact Kd.R_nil _ _ _ _ _ | exact Kd.N_nil _ _ _ _ _ | exact Kd.V_nil _ _ _ _ _ | exact Kd.Q_nil _ _ _ _ _ | exact Kd.S_nil _ _ _ _ _, by repeat (first | (with_reducible first | exact HB.out | apply ai_ | apply ag_ | apply ah_ | refine af_ ?_ GE370.out | refine af_ ?_ GE377.out | refine af_ ?_ GE385.out) | exact HB.out)⟩
end Go.Proofs.Ytgoiifpimpnlpaa.PAll

end

section
namespace Go.Proofs.Ytgoiifpimpnlpaa.PAll
open Go.RowKit Go.Proofs.YtgoiifpimpnlpaaW.PrintWords Go.Proofs.YtgoiifpimpnlpaaW.PrintLast Go.Proofs.YtgoiifpimpnlpaaW.PrintMore
attribute [local go_sem] max2_int min2_int max_two min_two max_three min_three max_four min_four   -- for this text's walks alone
set_option linter.unusedVariables false
set_option linter.unusedSimpArgs false
def laws_markCellS.l0 : Nat → List (S66) → Int → Int → Option (Int × (List (S66)))
  | 0, _, _, _ => none
  | k + 1, x0, x1, x5 => if x5 < (x0.length : Int) then (if 0 ≤ x5 then ((some (x0.set (x5 : Int).toNat (⟨x1, (rd_T66 x0 x5).f1⟩ : S66) : List (S66))).bind fun y416 => (laws_markCellS.l0 k (y416.set (x5 : Int).toNat (⟨(rd_T66 y416 x5).f0, wrap64 (x1 + 1)⟩ : S66)) (wrap64 ((wrap64 (x1 + 1)) + 1)) (wrap64 (x5 + 1)))) else (none)) else (some (x1, x0))
def laws_markCellS.f (k : Nat) (l0 : List (S66)) (a1 : Int) : Option (Int × (List (S66))) := laws_markCellS.l0 k l0 a1 0
theorem laws_markCellS.mono_l : ∀ k, (∀ y0 y1 y2, LeO (laws_markCellS.l0 k y0 y1 y2) (laws_markCellS.l0 (k + 1) y0 y1 y2))
  | 0 => fun _ _ _ r h => by simp [laws_markCellS.l0] at h
  | k + 1 => by
    have ih0 := laws_markCellS.mono_l k
    · intro y0 y1 y2
      unfold laws_markCellS.l0
      repeat' first
      | (with_reducible exact ih0 _ _ _)
      | (with_reducible exact LeO.refl _)
      | (with_reducible exact LeO.none _)
      | (with_reducible refine LeO.ite ?_ ?_)
      | (with_reducible refine LeO.bind ?_ (fun _ => ?_))
      | exact ih0 _ _ _
      | exact LeO.none _
      | refine LeO.ite ?_ ?_
      | refine LeO.bind ?_ (fun _ => ?_)
theorem laws_markCellS.mono : ∀ a0 a1 k, LeO (laws_markCellS.f k a0 a1) (laws_markCellS.f (k + 1) a0 a1) := by
  intro a0 a1 k
  have ih0 := laws_markCellS.mono_l k
  unfold laws_markCellS.f
  repeat' first
      | (with_reducible exact ih0 _ _ _)
      | (with_reducible exact LeO.refl _)
      | (with_reducible exact LeO.none _)
      | (with_reducible refine LeO.ite ?_ ?_)
      | (with_reducible refine LeO.bind ?_ (fun _ => ?_))
      | exact ih0 _ _ _
      | exact LeO.none _
      | refine LeO.ite ?_ ?_
      | refine LeO.bind ?_ (fun _ => ?_)
set_option maxHeartbeats 8000000 in
set_option maxRecDepth 100000 in
theorem laws_markCellS.calls (k : Nat) (P0_ : Nat → Prop) (u9000_ : Value) (l0 : List (S66)) (a1 : Int) (r1 : Int) (r2 : List (S66)) (w0 w : World) (hB : Below w0.heap.size w0 w) (ho0 : Kd.R k66 66 w w0.heap.size P0_ u9000_ l0) (h : laws_markCellS.f k l0 a1 = some (r1, r2)) :
    Calls Try.prog 26 #[u9000_, .int .i64 a1] w fun e w' => e = .returned (.int .i64 r1) ∧ Kd.R k66 66 w' w0.heap.size (fun k_ => (P0_ k_ ∨ w.heap.size ≤ k_)) u9000_ r2 ∧ Below w0.heap.size w0 w' ∧ Kept w w' (fun k_ => P0_ k_) := by
  have HO0 := ab_ (show Kd.R k66 66 w w0.heap.size (fun k_ => (P0_ k_ ∨ w.heap.size ≤ k_)) u9000_ l0 from Kd.R_mono ho0 (fun k_ hk => (.inl hk)))
  have HK := ab_ (Kept.refl w (fun k_ => P0_ k_))
  have HW0 := ab_ hB.size
  have HB := ab_ hB
  clear hB
  have H : (laws_markCellS.l0 k l0 a1 0) = some (r1, r2) := h
  clear h
  have H' := ab_ H
  clear H
  go_enter Try.func26, Try.ntmps26
  go_wp2
  go_loopg [1, 5] k (fun kq v1 v5 w' => ∃ (x0_1 : List (S66)) (x1_1 : Int) (x5_1 : Int), v1 = .int .i64 x1_1 ∧ v5 = .int .i64 x5_1 ∧ Aside0 (laws_markCellS.l0 kq x0_1 x1_1 x5_1 = some (r1, r2)) ∧ Aside0 (kq ≤ k) ∧ Aside0 (Kd.R k66 66 w' w0.heap.size (fun k_ => (P0_ k_ ∨ w.heap.size ≤ k_)) u9000_ x0_1) ∧ Aside0 (Kept w w' (fun k_ => P0_ k_)) ∧ Aside0 (Below w0.heap.size w0 w'))
  case atStart => exact ⟨(l0), (a1), (0), (by first | rfl | (simp; done) | (simp [*]; done)), (by first | rfl | (simp; done) | (simp [*]; done)), H', ⟨Nat.le_refl _⟩, ⟨by (with_reducible repeat (first | apply an_ | apply ao_ | apply ap_)); exact HO0.out⟩, ⟨by repeat (first | (with_reducible first | exact HK.out | apply Kept.alloc | apply Kept.drewN | apply Kept.drew) | exact HK.out)⟩, ⟨by repeat (first | (with_reducible first | exact HB.out | apply ai_ | apply ag_ | apply ah_) | exact HB.out)⟩⟩
  case round =>
    clear H'
    try clear c2
    try clear p2
    obtain ⟨x0_1, x1_1, x5_1, rfl, rfl, HA, HK1, HO_0, HK, HB⟩ := hrel
    cases gk with
    | zero => exact absurd HA.out (by simp [laws_markCellS.l0])
    | succ k1 =>
      have H := HA.out
      clear HA
      simp only [laws_markCellS.l0] at H
      by_cases c3 : x5_1 < (x0_1.length : Int)
      · rw [if_pos c3] at H
        have c3b0 : decide (x5_1 < (x0_1.length : Int)) = true := aq_ c3
        clear c3
        by_cases c4 : 0 ≤ x5_1
        · rw [if_pos c4] at H
          have c4b0 : decide (0 ≤ x5_1) = true := aq_ c4
          clear c4
          obtain ⟨y416, hy416⟩ : ∃ y_ : List (S66), y_ = (x0_1.set (x5_1 : Int).toNat (⟨x1_1, (rd_T66 x0_1 x5_1).f1⟩ : S66)) := ⟨_, rfl⟩
          replace H : (laws_markCellS.l0 k1 (y416.set (x5_1 : Int).toNat (⟨(rd_T66 y416 x5_1).f0, wrap64 (x1_1 + 1)⟩ : S66)) (wrap64 ((wrap64 (x1_1 + 1)) + 1)) (wrap64 (x5_1 + 1))) = some (r1, r2) := by first | (rw [hy416]; with_reducible exact H) | (have H2_ := (Option.bind_some _ _).symm.trans H; rw [hy416]; with_reducible exact H2_) | (have H2_ := (Option.bind_some _ _).symm.trans H; with_reducible exact H2_) | with_reducible exact H | (rw [hy416]; exact H) | exact H
          have Ny416 := ab_ hy416
          clear hy416
          obtain ⟨y417, hy417⟩ : ∃ y_ : List (S66), y_ = (y416.set (x5_1 : Int).toNat (⟨(rd_T66 y416 x5_1).f0, wrap64 (x1_1 + 1)⟩ : S66)) := ⟨_, rfl⟩
          replace H : (laws_markCellS.l0 k1 y417 (wrap64 ((wrap64 (x1_1 + 1)) + 1)) (wrap64 (x5_1 + 1))) = some (r1, r2) := by first | (rw [hy417]; with_reducible exact H) | (have H2_ := (Option.bind_some _ _).symm.trans H; rw [hy417]; with_reducible exact H2_) | (have H2_ := (Option.bind_some _ _).symm.trans H; with_reducible exact H2_) | with_reducible exact H | (rw [hy417]; exact H) | exact H
          have Ny417 := ab_ hy417
          clear hy417
          have H' := ab_ H
          clear H
          obtain ⟨Ao7, co7, eo7⟩ := Kd.R_slice HO_0.out
          subst eo7
          have p5 : 0 ≤ (x5_1 : Int) := of_decide_eq_true (by first | (with_reducible assumption) | assumption)
          have q5 : (x5_1 : Int) < ((x0_1.length : Int) : Int) := of_decide_eq_true (by first | (with_reducible assumption) | assumption)
          obtain ⟨go5, co5, eo5, gb5, gl5, cl5, HG5⟩ := Kd.R_form HO_0.out (by omega)
          (first | cases eo5 | (injection eo5 with ea_ en_ ec_; (first | subst ea_ | (injection ea_ with ea_; subst ea_)); subst ec_; clear en_))
          have GB5 := ab_ gb5
          have GG5 := ab_ HG5
          clear gb5 gl5 HG5
          have HMgo5 := ab_ (show (P0_ go5 ∨ w.heap.size ≤ go5) from (HO_0.out.1 _ rfl))
          obtain ⟨ce5, hcl5, hM5, hcc5, hfr5⟩ := Kd.R_elem HO_0.out z66 (x5_1 : Int) p5 q5
          obtain rfl := k66_openM hM5
          have hx5_0 : wr.cell? ⟨go5, (x5_1 : Int).toNat * 2, none⟩ = some (.int .i64 ((rd_T66 x0_1 x5_1).f0)) := hcc5 0 _ rfl
          have hx5_1 : wr.cell? ⟨go5, (x5_1 : Int).toNat * 2 + 1, none⟩ = some (.int .i64 ((rd_T66 x0_1 x5_1).f1)) := hcc5 1 _ rfl
          have hf5_0 : wr.frozen? ⟨go5, (x5_1 : Int).toNat * 2, none⟩ = false := hfr5 0
          have hf5_1 : wr.frozen? ⟨go5, (x5_1 : Int).toNat * 2 + 1, none⟩ = false := hfr5 1
          (try clear hcl5); (try clear hcc5); (try clear hfr5); (try clear hM5)
          replace p5 := eq_true p5
          replace q5 := eq_true q5
          have HX8 := ab_ (show Kd.R k66 66 wr w0.heap.size (fun k_ => (P0_ k_ ∨ w.heap.size ≤ k_)) (.slice (some ⟨go5, 0, none⟩) x0_1.length co7) x0_1 from (by (with_reducible repeat (first | apply an_ | apply ao_ | apply ap_)); exact HO_0.out))
          obtain ⟨ce8, hcl8, hM8, hcc8, hfr8⟩ := Kd.R_elem HX8.out z66 (x5_1 : Int) (of_decide_eq_true (by first | (with_reducible assumption) | assumption)) (by have h_ : (x5_1 : Int) < ((x0_1.length : Int) : Int) := of_decide_eq_true (by first | (with_reducible assumption) | assumption); first | exact h_ | (have e_ := (Kd.R_reads' HO_0.out).1; omega) | simpa using h_)
          obtain rfl := k66_openM hM8
          have HP8 := Kd.R_seg HX8.out (x5_1 : Int) (of_decide_eq_true (by first | (with_reducible assumption) | assumption)) (by have h_ : (x5_1 : Int) < ((x0_1.length : Int) : Int) := of_decide_eq_true (by first | (with_reducible assumption) | assumption); first | exact h_ | (have e_ := (Kd.R_reads' HO_0.out).1; omega) | simpa using h_) (seg := [.int .i64 x1_1]) (j := 0) hcl8 hcc8 (show 1 ≤ 2 from by decide) (x' := (⟨x1_1, (rd_T66 x0_1 x5_1).f1⟩ : S66)) (k66_mkM _ _ _ (⟨x1_1, (rd_T66 x0_1 x5_1).f1⟩ : S66) ) (fun _ hk => hk)
          have hx8_0 := hcc8 0 _ rfl
          (try simp only [show (k66).sz = 2 from rfl, Nat.mul_one, Nat.add_zero] at hx8_0)
          have hf8_0 := hfr8 0
          (try simp only [show (k66).sz = 2 from rfl, Nat.mul_one, Nat.add_zero] at hf8_0)
          (try clear hcl8); (try clear hcc8); (try clear hfr8); (try clear hM8)
          go_wp2_with (first | ((with_reducible refine gate_store (t := 3) (p := 16) rfl ?_); refine store_event (t := 3) (p := 16) (v := ?vo_w9) (w1 := (wr.setCell ⟨go5, (x5_1 : Int).toNat * 2, none⟩ (.int .i64 x1_1))) ?hg ?ho ?hn ?hr ?_; (case ho => rfl); (case hg => rfl); (case hn => rfl); (case hr => first | (go_simp; done) | (go_simp; rfl)); intro w9 hw; have hg : wr.grownBy w9 (some go5) := (by rw [hw]; exact HP8.2); have hp_ : Kd.R k66 66 w9 w0.heap.size (fun k_ => (P0_ k_ ∨ w.heap.size ≤ k_)) (.slice (some ⟨go5, 0, none⟩) x0_1.length co7) y416 := (by rw [hw, Ny416.out]; exact HP8.1); clear HP8; have n0_ := ab_ (hp_); have n1_ := ab_ ((by rw [hw]; exact af_ (HB.out) GB5.out : Below w0.heap.size w0 w9)); have n2_ := ab_ (Kept.of_grown (S := (fun k_ => P0_ k_)) hg (by repeat (first | (with_reducible first | exact HK.out | apply Kept.alloc | apply Kept.drewN | apply Kept.drew) | exact HK.out)) (fun k_ e_ => (HO_0.out.1 k_ e_))); clear HO_0; clear HB; clear HK; have HO_0 := n0_; have HB := n1_; have HK := n2_; clear n0_ n1_ n2_; clear hg hw hp_; have p6 : 0 ≤ (x5_1 : Int) := of_decide_eq_true (by first | (with_reducible assumption) | assumption); have q6 : (x5_1 : Int) < ((x0_1.length : Int) : Int) := of_decide_eq_true (by first | (with_reducible assumption) | assumption); obtain ⟨ce6, hcl6, hM6, hcc6, hfr6⟩ := Kd.R_elem HO_0.out z66 (x5_1 : Int) p6 q6; obtain rfl := k66_openM hM6; have hx6_0 : w9.cell? ⟨go5, (x5_1 : Int).toNat * 2, none⟩ = some (.int .i64 ((rd_T66 y416 x5_1).f0)) := hcc6 0 _ rfl; have hx6_1 : w9.cell? ⟨go5, (x5_1 : Int).toNat * 2 + 1, none⟩ = some (.int .i64 ((rd_T66 y416 x5_1).f1)) := hcc6 1 _ rfl; have hf6_0 : w9.frozen? ⟨go5, (x5_1 : Int).toNat * 2, none⟩ = false := hfr6 0; have hf6_1 : w9.frozen? ⟨go5, (x5_1 : Int).toNat * 2 + 1, none⟩ = false := hfr6 1; (try clear hcl6); (try clear hcc6); (try clear hfr6); (try clear hM6); replace p6 := eq_true p6; replace q6 := eq_true q6; have HX10 := ab_ (show Kd.R k66 66 w9 w0.heap.size (fun k_ => (P0_ k_ ∨ w.heap.size ≤ k_)) (.slice (some ⟨go5, 0, none⟩) x0_1.length co7) y416 from (by (with_reducible repeat (first | apply an_ | apply ao_ | apply ap_)); exact HO_0.out)); obtain ⟨ce10, hcl10, hM10, hcc10, hfr10⟩ := Kd.R_elem HX10.out z66 (x5_1 : Int) (of_decide_eq_true (by first | (with_reducible assumption) | assumption)) (by have h_ : (x5_1 : Int) < ((x0_1.length : Int) : Int) := of_decide_eq_true (by first | (with_reducible assumption) | assumption); first | exact h_ | (have e_ := (Kd.R_reads' HO_0.out).1; omega) | simpa using h_); obtain rfl := k66_openM hM10; have HP10 := Kd.R_seg HX10.out (x5_1 : Int) (of_decide_eq_true (by first | (with_reducible assumption) | assumption)) (by have h_ : (x5_1 : Int) < ((x0_1.length : Int) : Int) := of_decide_eq_true (by first | (with_reducible assumption) | assumption); first | exact h_ | (have e_ := (Kd.R_reads' HO_0.out).1; omega) | simpa using h_) (seg := [.int .i64 (wrap64 (x1_1 + 1))]) (j := 1) hcl10 hcc10 (show 2 ≤ 2 from by decide) (x' := (⟨(rd_T66 y416 x5_1).f0, wrap64 (x1_1 + 1)⟩ : S66)) (k66_mkM _ _ _ (⟨(rd_T66 y416 x5_1).f0, wrap64 (x1_1 + 1)⟩ : S66) ) (fun _ hk => hk); have hx10_1 := hcc10 1 _ rfl; (try simp only [show (k66).sz = 2 from rfl, Nat.mul_one, Nat.add_zero] at hx10_1); have hf10_1 := hfr10 1; (try simp only [show (k66).sz = 2 from rfl, Nat.mul_one, Nat.add_zero] at hf10_1); (try clear hcl10); (try clear hcc10); (try clear hfr10); (try clear hM10)) | ((with_reducible refine gate_store (t := 3) (p := 23) rfl ?_); refine store_event (t := 3) (p := 23) (v := ?vo_w11) (w1 := (w9.setCell ⟨go5, (x5_1 : Int).toNat * 2 + 1, none⟩ (.int .i64 (wrap64 (x1_1 + 1))))) ?hg ?ho ?hn ?hr ?_; (case ho => rfl); (case hg => rfl); (case hn => rfl); (case hr => first | (go_simp; done) | (go_simp; rfl)); intro w11 hw; have hg : w9.grownBy w11 (some go5) := (by rw [hw]; exact HP10.2); have hp_ : Kd.R k66 66 w11 w0.heap.size (fun k_ => (P0_ k_ ∨ w.heap.size ≤ k_)) (.slice (some ⟨go5, 0, none⟩) x0_1.length co7) y417 := (by rw [hw, Ny417.out]; exact HP10.1); clear HP10; have n0_ := ab_ (hp_); have n1_ := ab_ ((by rw [hw]; exact af_ (HB.out) GB5.out : Below w0.heap.size w0 w11)); have n2_ := ab_ (Kept.of_grown (S := (fun k_ => P0_ k_)) hg (by repeat (first | (with_reducible first | exact HK.out | apply Kept.alloc | apply Kept.drewN | apply Kept.drew) | exact HK.out)) (fun k_ e_ => (HO_0.out.1 k_ e_))); clear HO_0; clear HB; clear HK; have HO_0 := n0_; have HB := n1_; have HK := n2_; clear n0_ n1_ n2_; clear hg hw hp_))
          go_roundg k1
          case measure => have := HK1.out; omega
          case rel => exact ⟨(y417), (wrap64 ((wrap64 (x1_1 + 1)) + 1)), (wrap64 (x5_1 + 1)), (by first | rfl | (simp; done) | (simp [*]; done)), (by first | rfl | (simp; done) | (simp [*]; done)), H', ⟨by have := HK1.out; omega⟩, ⟨by (with_reducible repeat (first | apply an_ | apply ao_ | apply ap_)); exact HO_0.out⟩, ⟨by repeat (first | (with_reducible first | exact HK.out | apply Kept.alloc | apply Kept.drewN | apply Kept.drew) | exact HK.out)⟩, ⟨by repeat (first | (with_reducible first | exact HB.out | apply ai_ | apply ag_ | apply ah_) | exact HB.out)⟩⟩
        · rw [if_neg c4] at H
          exact absurd H (by simp)
      · rw [if_neg c3] at H
        have c3b0 : decide (x5_1 < (x0_1.length : Int)) = false := decide_eq_false c3
        clear c3
        simp only [Option.some.injEq, Prod.mk.injEq] at H
        obtain ⟨rfl, rfl⟩ := H
        obtain ⟨Ao12, co12, eo12⟩ := Kd.R_slice HO_0.out
        subst eo12
        go_wp2
        go_ret
        exact ⟨by first | rfl | (simp [errW_none, errW_some] <;> rfl) | (simp [*, errW_none, errW_some] <;> rfl), by (with_reducible repeat (first | apply an_ | apply ao_ | apply ap_)); exact HO_0.out, by repeat (first | (with_reducible first | exact HB.out | apply ai_ | apply ag_ | apply ah_) | exact HB.out), by repeat (first | (with_reducible first | exact HK.out | apply Kept.alloc | apply Kept.drewN | apply Kept.drew) | exact HK.out)⟩
def laws_heldCellS.l0 : Nat → List (S66) → Int → Int → Option (Int)
  | 0, _, _, _ => none
  | k + 1, x0, x1, x5 => if x5 < (x0.length : Int) then (if 0 ≤ x5 then (if ((rd_T66 x0 x5).f0) = x1 then (if ((rd_T66 x0 x5).f1) = (wrap64 (x1 + 1)) then (laws_heldCellS.l0 k x0 (wrap64 ((wrap64 (x1 + 1)) + 1)) (wrap64 (x5 + 1))) else (some (-1))) else (some (-1))) else (none)) else (some x1)
def laws_heldCellS.f (k : Nat) (l0 : List (S66)) (a1 : Int) : Option (Int) := laws_heldCellS.l0 k l0 a1 0
theorem laws_heldCellS.mono_l : ∀ k, (∀ y0 y1 y2, LeO (laws_heldCellS.l0 k y0 y1 y2) (laws_heldCellS.l0 (k + 1) y0 y1 y2))
  | 0 => fun _ _ _ r h => by simp [laws_heldCellS.l0] at h
  | k + 1 => by
    have ih0 := laws_heldCellS.mono_l k
    · intro y0 y1 y2
      unfold laws_heldCellS.l0
      repeat' first
      | (with_reducible exact ih0 _ _ _)
      | (with_reducible exact LeO.refl _)
      | (with_reducible exact LeO.none _)
      | (with_reducible refine LeO.ite ?_ ?_)
      | (with_reducible refine LeO.bind ?_ (fun _ => ?_))
      | exact ih0 _ _ _
      | exact LeO.none _
      | refine LeO.ite ?_ ?_
      | refine LeO.bind ?_ (fun _ => ?_)
theorem laws_heldCellS.mono : ∀ a0 a1 k, LeO (laws_heldCellS.f k a0 a1) (laws_heldCellS.f (k + 1) a0 a1) := by
  intro a0 a1 k
  have ih0 := laws_heldCellS.mono_l k
  unfold laws_heldCellS.f
  repeat' first
      | (with_reducible exact ih0 _ _ _)
      | (with_reducible exact LeO.refl _)
      | (with_reducible exact LeO.none _)
      | (with_reducible refine LeO.ite ?_ ?_)
      | (with_reducible refine LeO.bind ?_ (fun _ => ?_))
      | exact ih0 _ _ _
      | exact LeO.none _
      | refine LeO.ite ?_ ?_
      | refine LeO.bind ?_ (fun _ => ?_)
set_option maxHeartbeats 8000000 in
set_option maxRecDepth 100000 in
theorem laws_heldCellS.calls (k : Nat) (A0 : Option Addr) (c0 : Nat) (l0 : List (S66)) (a1 : Int) (r : Int) (w : World) (hr0 : Kd.C k66 w A0 l0.length l0) (hc0 : l0.length ≤ c0) (h : laws_heldCellS.f k l0 a1 = some r) :
    Calls Try.prog 27 #[.slice A0 l0.length c0, .int .i64 a1] w fun e w' => e = .returned (.int .i64 r) ∧ Drawn0 w w' := by
  have HR0 := ab_ hr0
  have HC0 := ab_ hc0
  clear hr0 hc0
  have H : (laws_heldCellS.l0 k l0 a1 0) = some r := h
  clear h
  have H' := ab_ H
  clear H
  go_enter Try.func27, Try.ntmps27
  go_wp2
  go_loopg [1, 5] k (fun kq v1 v5 w' => ∃ (x1_1 : Int) (x5_1 : Int), v1 = .int .i64 x1_1 ∧ v5 = .int .i64 x5_1 ∧ Aside0 (laws_heldCellS.l0 kq l0 x1_1 x5_1 = some r) ∧ Aside0 (kq ≤ k) ∧ Drawn0 w w')
  case atStart => exact ⟨(a1), (0), (by first | rfl | (simp; done) | (simp [*]; done)), (by first | rfl | (simp; done) | (simp [*]; done)), H', ⟨Nat.le_refl _⟩, by repeat (first | exact Drawn0.refl _ | apply Drawn0.step)⟩
  case round =>
    clear H'
    try clear c2
    try clear p2
    obtain ⟨x1_1, x5_1, rfl, rfl, HA, HK1, ⟨m1, rfl⟩⟩ := hrel
    cases gk with
    | zero => exact absurd HA.out (by simp [laws_heldCellS.l0])
    | succ k1 =>
      have H := HA.out
      clear HA
      simp only [laws_heldCellS.l0] at H
      by_cases c3 : x5_1 < (l0.length : Int)
      · rw [if_pos c3] at H
        have c3b0 : decide (x5_1 < (l0.length : Int)) = true := aq_ c3
        clear c3
        by_cases c4 : 0 ≤ x5_1
        · rw [if_pos c4] at H
          have c4b0 : decide (0 ≤ x5_1) = true := aq_ c4
          clear c4
          by_cases c5 : ((rd_T66 l0 x5_1).f0) = x1_1
          · rw [if_pos c5] at H
            have c5b0 : (((rd_T66 l0 x5_1).f0) == x1_1) = true := beq_iff_eq.mpr c5
            have c5b1 : (((rd_T66 l0 x5_1).f0) != x1_1) = false := bne_eq_false_iff_eq.mpr c5
            clear c5
            by_cases c6 : ((rd_T66 l0 x5_1).f1) = (wrap64 (x1_1 + 1))
            · rw [if_pos c6] at H
              have c6b0 : (((rd_T66 l0 x5_1).f1) == (wrap64 (x1_1 + 1))) = true := beq_iff_eq.mpr c6
              have c6b1 : (((rd_T66 l0 x5_1).f1) != (wrap64 (x1_1 + 1))) = false := bne_eq_false_iff_eq.mpr c6
              clear c6
              have H' := ab_ H
              clear H
              have p418 : 0 ≤ (x5_1 : Int) := of_decide_eq_true (by first | (with_reducible assumption) | assumption)
              have q418 : x5_1 < (l0.length : Int) := of_decide_eq_true (by first | (with_reducible assumption) | assumption)
              obtain ⟨ad418, e418, hx418_0, hx418_1⟩ := at_T66 HR0.out x5_1 p418 q418
              cases e418
              replace p418 := eq_true p418
              replace q418 := eq_true q418
              have p419 : 0 ≤ (x5_1 : Int) := of_decide_eq_true (by first | (with_reducible assumption) | assumption)
              have q419 : x5_1 < (l0.length : Int) := of_decide_eq_true (by first | (with_reducible assumption) | assumption)
              obtain ⟨ad419, e419, hx419_0, hx419_1⟩ := at_T66 HR0.out x5_1 p419 q419
              obtain rfl : ad418 = ad419 := (by injection e419)
              replace p419 := eq_true p419
              replace q419 := eq_true q419
              go_wp2
              go_roundg k1
              case measure => have := HK1.out; omega
              case rel => exact ⟨(wrap64 ((wrap64 (x1_1 + 1)) + 1)), (wrap64 (x5_1 + 1)), (by first | rfl | (simp; done) | (simp [*]; done)), (by first | rfl | (simp; done) | (simp [*]; done)), H', ⟨by have := HK1.out; omega⟩, by repeat (first | exact Drawn0.refl _ | apply Drawn0.step)⟩
            · rw [if_neg c6] at H
              have c6b0 : (((rd_T66 l0 x5_1).f1) == (wrap64 (x1_1 + 1))) = false := beq_eq_false_iff_ne.mpr c6
              have c6b1 : (((rd_T66 l0 x5_1).f1) != (wrap64 (x1_1 + 1))) = true := bne_iff_ne.mpr c6
              obtain rfl := Option.some.inj H
              have p418 : 0 ≤ (x5_1 : Int) := of_decide_eq_true (by first | (with_reducible assumption) | assumption)
              have q418 : x5_1 < (l0.length : Int) := of_decide_eq_true (by first | (with_reducible assumption) | assumption)
              obtain ⟨ad418, e418, hx418_0, hx418_1⟩ := at_T66 HR0.out x5_1 p418 q418
              cases e418
              replace p418 := eq_true p418
              replace q418 := eq_true q418
              have p419 : 0 ≤ (x5_1 : Int) := of_decide_eq_true (by first | (with_reducible assumption) | assumption)
              have q419 : x5_1 < (l0.length : Int) := of_decide_eq_true (by first | (with_reducible assumption) | assumption)
              obtain ⟨ad419, e419, hx419_0, hx419_1⟩ := at_T66 HR0.out x5_1 p419 q419
              obtain rfl : ad418 = ad419 := (by injection e419)
              replace p419 := eq_true p419
              replace q419 := eq_true q419
              go_wp2
              go_ret
              exact ⟨by first | rfl | (simp; done) | (simp [*]; done), by repeat (first | exact Drawn0.refl _ | apply Drawn0.step)⟩
          · rw [if_neg c5] at H
            have c5b0 : (((rd_T66 l0 x5_1).f0) == x1_1) = false := beq_eq_false_iff_ne.mpr c5
            have c5b1 : (((rd_T66 l0 x5_1).f0) != x1_1) = true := bne_iff_ne.mpr c5
            obtain rfl := Option.some.inj H
            have p418 : 0 ≤ (x5_1 : Int) := of_decide_eq_true (by first | (with_reducible assumption) | assumption)
            have q418 : x5_1 < (l0.length : Int) := of_decide_eq_true (by first | (with_reducible assumption) | assumption)
            obtain ⟨ad418, e418, hx418_0, hx418_1⟩ := at_T66 HR0.out x5_1 p418 q418
            cases e418
            replace p418 := eq_true p418
            replace q418 := eq_true q418
            go_wp2
            go_ret
            exact ⟨by first | rfl | (simp; done) | (simp [*]; done), by repeat (first | exact Drawn0.refl _ | apply Drawn0.step)⟩
        · rw [if_neg c4] at H
          exact absurd H (by simp)
      · rw [if_neg c3] at H
        have c3b0 : decide (x5_1 < (l0.length : Int)) = false := decide_eq_false c3
        clear c3
        obtain rfl := Option.some.inj H
        go_wp2
        go_ret
        exact ⟨by first | rfl | (simp; done) | (simp [*]; done), by repeat (first | exact Drawn0.refl _ | apply Drawn0.step)⟩
end Go.Proofs.Ytgoiifpimpnlpaa.PAll

end

section
namespace Go.Proofs.Ytgoiifpimpnlpaa.PAll
open Go.RowKit Go.Proofs.YtgoiifpimpnlpaaW.PrintWords Go.Proofs.YtgoiifpimpnlpaaW.PrintLast Go.Proofs.YtgoiifpimpnlpaaW.PrintMore
set_option linter.unusedVariables false
set_option linter.unusedSimpArgs false
def mkC (j : Nat) : S66 := ⟨((1 + 2 * j : Nat) : Int), ((2 + 2 * j : Nat) : Int)⟩
theorem markC_loop (n : Nat) (hn : n ≤ 17592186044416) : ∀ (d k i : Nat) (xs : List S66), xs.length = n → (∀ j, j < i → xs[j]? = some (mkC j)) → i + d = n → d < k → ∃ ys, laws_markCellS.l0 k xs ((1 + 2 * i : Nat) : Int) (i : Int) = some (((1 + 2 * n : Nat) : Int), ys) ∧ ys.length = n ∧ ∀ j, j < n → ys[j]? = some (mkC j) := by
  intro d
  induction d with
  | zero =>
    intro k i xs hx hj hi hk
    obtain ⟨k, rfl⟩ : ∃ m, k = m + 1 := ⟨k - 1, by omega⟩
    simp only [laws_markCellS.l0]
    rw [if_neg (by omega)]
    obtain rfl : i = n := by omega
    exact ⟨xs, rfl, hx, hj⟩
  | succ d ih =>
    intro k i xs hx hj hi hk
    obtain ⟨k, rfl⟩ : ∃ m, k = m + 1 := ⟨k - 1, by omega⟩
    simp only [laws_markCellS.l0]
    rw [if_pos (by omega), if_pos (by omega), Option.bind_some, wrap_id (x := ((1 + 2 * i : Nat) : Int) + 1) (by omega) (by omega), wrap_id (x := (i : Int) + 1) (by omega) (by omega), wrap_id (by omega) (by omega)]
    have e1 : ((1 + 2 * i : Nat) : Int) + 1 + 1 = ((1 + 2 * (i + 1) : Nat) : Int) := by omega
    have e2 : (i : Int) + 1 = ((i + 1 : Nat) : Int) := by omega
    have e3 : ((1 + 2 * i : Nat) : Int) + 1 = ((2 + 2 * i : Nat) : Int) := by omega
    have hrd : (rd_T66 (xs.set (i : Int).toNat ⟨((1 + 2 * i : Nat) : Int), (rd_T66 xs (i : Int)).f1⟩) (i : Int)).f0 = ((1 + 2 * i : Nat) : Int) := by
      simp [rd_T66, List.getD_eq_getElem?_getD, List.getElem?_set_self (show i < xs.length by omega)]
    rw [hrd, e1, e2, e3]
    refine ih k (i + 1) _ (by simp [hx]) (fun j hj' => ?_) (by omega) (by omega)
    rw [Int.toNat_natCast]
    by_cases hji : j = i
    · subst hji
      rw [List.getElem?_set_self (by simp; omega)]
      rfl
    · rw [List.getElem?_set_ne (by omega), List.getElem?_set_ne (by omega)]
      exact hj j (by omega)
theorem heldC_loop (n : Nat) (hn : n ≤ 17592186044416) (ys : List S66) (hy : ys.length = n) (hj : ∀ j, j < n → ys[j]? = some (mkC j)) : ∀ (d k i : Nat), i + d = n → d < k → laws_heldCellS.l0 k ys ((1 + 2 * i : Nat) : Int) (i : Int) = some ((1 + 2 * n : Nat) : Int) := by
  intro d
  induction d with
  | zero =>
    intro k i hi hk
    obtain ⟨k, rfl⟩ : ∃ m, k = m + 1 := ⟨k - 1, by omega⟩
    simp only [laws_heldCellS.l0]
    rw [if_neg (by omega)]
    obtain rfl : i = n := by omega
    rfl
  | succ d ih =>
    intro k i hi hk
    obtain ⟨k, rfl⟩ : ∃ m, k = m + 1 := ⟨k - 1, by omega⟩
    have hr : rd_T66 ys (i : Int) = mkC i := by simp only [rd_T66, Int.toNat_natCast, List.getD_eq_getElem?_getD]; rw [hj i (by omega)]; rfl
    simp only [laws_heldCellS.l0, hr, mkC]
    rw [if_pos (by omega), if_pos (by omega), if_pos trivial, wrap_id (x := ((1 + 2 * i : Nat) : Int) + 1) (by omega) (by omega), if_pos (by omega), wrap_id (x := (i : Int) + 1) (by omega) (by omega), wrap_id (by omega) (by omega)]
    have e1 : ((1 + 2 * i : Nat) : Int) + 1 + 1 = ((1 + 2 * (i + 1) : Nat) : Int) := by omega
    have e2 : (i : Int) + 1 = ((i + 1 : Nat) : Int) := by omega
    rw [e1, e2]
    exact ih k (i + 1) (by omega) (by omega)
theorem markHeldC_eq (xs : List S66) (hn : xs.length ≤ 17592186044416) (k : Nat) (hk : xs.length < k) : ∃ ys, laws_markCellS.f k xs 1 = some (((1 + 2 * xs.length : Nat) : Int), ys) ∧ ∀ q, xs.length < q → laws_heldCellS.f q ys 1 = some ((1 + 2 * xs.length : Nat) : Int) := by
  unfold laws_markCellS.f laws_heldCellS.f
  obtain ⟨ys, h, hy, hj⟩ := markC_loop xs.length hn xs.length k 0 xs rfl (fun j h => by omega) (by omega) hk
  exact ⟨ys, h, fun q hq => heldC_loop xs.length hn ys hy hj xs.length q 0 (by omega) hq⟩
theorem markFrom_loop (n : Nat) (hn : n ≤ 17592186044416) (a : Nat) (ha : a ≤ 100000000000000) : ∀ (d k i : Nat) (xs : List S66), xs.length = n → i + d = n → d < k → ∃ ys, laws_markCellS.l0 k xs ((a + 2 * i : Nat) : Int) (i : Int) = some (((a + 2 * n : Nat) : Int), ys) := by
  intro d
  induction d with
  | zero =>
    intro k i xs hx hi hk
    obtain ⟨k, rfl⟩ : ∃ m, k = m + 1 := ⟨k - 1, by omega⟩
    simp only [laws_markCellS.l0]
    rw [if_neg (by omega)]
    obtain rfl : i = n := by omega
    exact ⟨xs, rfl⟩
  | succ d ih =>
    intro k i xs hx hi hk
    obtain ⟨k, rfl⟩ : ∃ m, k = m + 1 := ⟨k - 1, by omega⟩
    simp only [laws_markCellS.l0]
    rw [if_pos (by omega), if_pos (by omega), Option.bind_some, wrap_id (x := ((a + 2 * i : Nat) : Int) + 1) (by omega) (by omega), wrap_id (x := (i : Int) + 1) (by omega) (by omega), wrap_id (by omega) (by omega)]
    have e1 : ((a + 2 * i : Nat) : Int) + 1 + 1 = ((a + 2 * (i + 1) : Nat) : Int) := by omega
    have e2 : (i : Int) + 1 = ((i + 1 : Nat) : Int) := by omega
    rw [e1, e2]
    exact ih k (i + 1) _ (by simp [hx]) (by omega) (by omega)
theorem markFrom_eq (xs : List S66) (hn : xs.length ≤ 17592186044416) (a : Nat) (ha : a ≤ 100000000000000) (k : Nat) (hk : xs.length < k) : ∃ ys, laws_markCellS.f k xs (a : Int) = some (((a + 2 * xs.length : Nat) : Int), ys) := by
  unfold laws_markCellS.f
  exact markFrom_loop xs.length hn a ha xs.length k 0 xs rfl (by omega) hk
theorem nodes_cnt (t : Tm) : t.nodes = t.cnt := by
  refine (Tm.ind2 (P := fun t => t.nodes = t.cnt) (Q := fun ts => nodesAll ts = cnts ts) ?_ (by simp [nodesAll, cnts]) ?_).1 t
  · intro k n ks h; rw [nodes_mk, cnt_mk, h]
  · intro t ts h1 h2; simp [nodesAll, cnts, h1, h2]
theorem binds_eq (k : Int) (i : Nat) : spec_l3Binds.f k (i : Int) = some (bindsI k i) := by
  unfold spec_l3Binds.f bindsI
  by_cases h3 : k = 3
  · rw [if_pos h3, if_pos h3]
  · rw [if_neg h3, if_neg h3]
    by_cases h7 : k = 7
    · rw [if_pos h7]
      by_cases h1 : i = 1
      · rw [if_pos (by omega), if_pos ⟨h7, h1⟩]
      · rw [if_neg (by omega), if_neg (fun x => h1 x.2)]
    · rw [if_neg h7, if_neg (fun x => h7 x.1)]
theorem cnts_drop (ks : List Tm) (i : Nat) (h : i < ks.length) : cnts (ks.drop i) = ks[i].cnt + cnts (ks.drop (i + 1)) := by
  rw [List.drop_eq_getElem_cons h]; simp [cnts]
theorem var_kids {n : Int} {ks : List Tm} (h : arI 1 = (ks.length : Int)) : ks = [] := by
  simp [arI] at h
  exact List.length_eq_zero_iff.1 (by omega)
theorem usesLoop_eq (kk : Int) (ks : List Tm) (hks : ks.length ≤ 3) (hws : wfs ks) (hc : cnts ks ≤ 1000000) (ih : ∀ t ∈ ks, t.wf → t.cnt ≤ 1000000 → ∀ v : Int, -10000000000 ≤ v → v + t.cnt ≤ 10000000000 → ∀ k, 10 * t.cnt ≤ k → spec_l3Uses.f k (tv t).f0 (tv t).f1 (tv t).f2 v = some (uses t v : Int)) (v : Int) (hv0 : -10000000000 ≤ v) (hv1 : v + cnts ks + 1 ≤ 10000000000) (n : Int) :
    ∀ (d i b k : Nat), i + d = ks.length → d + 10 * cnts ks + 1 ≤ k → b + cnts (ks.drop i) ≤ 2000000 → spec_l3Uses.l0 k v (b : Int) (tvs ks) (ks.length : Int) (i : Int) kk n (tvs ks) = some ((b + usesAll kk i (ks.drop i) v : Nat) : Int) := by
  intro d
  induction d with
  | zero =>
    intro i b k hi hk hb
    obtain ⟨k, rfl⟩ : ∃ m, k = m + 1 := ⟨k - 1, by omega⟩
    simp only [spec_l3Uses.l0]
    rw [if_neg (by omega), List.drop_eq_nil_of_le (by omega)]
    simp [usesAll]
  | succ d ihd =>
    intro i b k hi hk hb
    obtain ⟨k, rfl⟩ : ∃ m, k = m + 1 := ⟨k - 1, by omega⟩
    have hlt : i < ks.length := by omega
    have hg : ks[i]? = some ks[i] := by simp [hlt]
    have hmem : ks[i] ∈ ks := List.getElem_mem hlt
    have hn := cnt_mem hmem
    have hbi := bindsI_bd kk i
    have hd : ks.drop i = ks[i] :: ks.drop (i + 1) := by rw [List.drop_eq_getElem_cons hlt]
    have hcd := cnts_drop ks i hlt
    have hul := uses_le ks[i] (v + bindsI kk i)
    simp only [spec_l3Uses.l0]
    rw [if_pos (by omega), if_pos (by omega), tvs_length, if_pos (by omega), rd62_get ks i _ hg, binds_eq, Option.bind_some, wrap_id (x := v + bindsI kk i) (by omega) (by omega), ih _ hmem (wfs_get hws _ hmem) (by omega) _ (by omega) (by omega) k (by omega), Option.bind_some, wrap_id (x := (i : Int) + 1) (by omega) (by omega), wrap_id (by omega) (by omega), hd]
    have e : (i : Int) + 1 = ((i + 1 : Nat) : Int) := by omega
    have e2 : (b : Int) + (uses ks[i] (v + bindsI kk i) : Int) = ((b + uses ks[i] (v + bindsI kk i) : Nat) : Int) := by omega
    rw [e, e2, ihd (i + 1) _ k (by omega) (by omega) (by omega)]
    simp only [usesAll]
    congr 1
    omega
theorem l3Uses_eq (t : Tm) : t.wf → t.cnt ≤ 1000000 → ∀ v : Int, -10000000000 ≤ v → v + t.cnt ≤ 10000000000 → ∀ k, 10 * t.cnt ≤ k → spec_l3Uses.f k (tv t).f0 (tv t).f1 (tv t).f2 v = some (uses t v : Int) := by
  induction t using Tm.ind with
  | h k n ks ih =>
    intro hwf h6 v hv0 hv1 q hq
    simp only [Tm.wf] at hwf
    have hkl : ks.length ≤ 3 := by have := arI_bd k; omega
    rw [cnt_mk] at hq h6 hv1
    obtain ⟨q, rfl⟩ : ∃ m, q = m + 2 := ⟨q - 2, by omega⟩
    have L := usesLoop_eq k ks hkl hwf.2 (by omega) ih v hv0 (by omega) n ks.length 0 0 q (by omega) (by omega) (by simp; omega)
    simp only [Int.cast_ofNat_Int, List.drop_zero, Nat.zero_add] at L
    rw [tv_f, uses_mk]
    simp only [spec_l3Uses.f, spec_l3Uses.j0, tvs_length]
    by_cases h1 : k = 1
    · rw [if_pos h1, if_pos h1]
      have hk0 : ks = [] := by rw [h1] at hwf; exact var_kids (n := n) hwf.1
      by_cases hn : n = v
      · rw [if_pos (by simp [hn]), if_pos hn]; rfl
      · rw [if_neg (by simp [hn]), if_neg hn, L, hk0]
        simp [usesAll]
    · rw [if_neg h1, if_neg h1, if_neg (by simp), L]
theorem eta62 (x : S62) : (⟨x.f0, x.f1, x.f2⟩ : S62) = x := by cases x; rfl
def tv3 (t : Tm) : Int × Int × List S62 := ((tv t).f0, (tv t).f1, (tv t).f2)
theorem tv3_mk (k n : Int) (ks : List Tm) : tv3 (.mk k n ks) = (k, n, tvs ks) := by simp [tv3, tv_f]
theorem chgs_drop (f : Int → Int → Tm) (kk : Int) (ks : List Tm) (i : Nat) (h : i < ks.length) (b : Int) : chgs f kk i (ks.drop i) b = chg f ks[i] (b + bindsI kk i) :: chgs f kk (i + 1) (ks.drop (i + 1)) b := by
  rw [List.drop_eq_getElem_cons h]; simp [chgs]
theorem shiftLoop_eq (by_ : Int) (kk n m x : Int) (ks : List Tm) (hks : ks.length ≤ 3) (hws : wfs ks) (B : Int) (hvs : vbs B ks) (ih : ∀ t ∈ ks, t.wf → t.vb B → ∀ b : Int, 0 ≤ b → b + t.cnt ≤ 10000000000 → ∀ k, 10 * t.cnt ≤ k → spec_l3Shift.f k (tv t).f0 (tv t).f1 (tv t).f2 by_ b = some (tv3 (chg (shF by_ 0) t b))) (b : Int) (hb0 : 0 ≤ b) (hb1 : b + cnts ks + 1 ≤ 10000000000) (tl : List S62) :
    ∀ (d i k : Nat) (acc : List S62), i + d = ks.length → acc.length + d ≤ 10 → d + 10 * cnts ks + 1 ≤ k → spec_l3Shift.l0 k by_ b (tvs ks) (ks.length : Int) (i : Int) kk n tl m x acc = some (m, x, acc ++ tvs (chgs (shF by_ 0) kk i (ks.drop i) b)) := by
  intro d
  induction d with
  | zero =>
    intro i k acc hi ha hk
    obtain ⟨k, rfl⟩ : ∃ m, k = m + 1 := ⟨k - 1, by omega⟩
    simp only [spec_l3Shift.l0]
    rw [if_neg (by omega), List.drop_eq_nil_of_le (by omega)]
    simp [chgs, tvs]
  | succ d ihd =>
    intro i k acc hi ha hk
    obtain ⟨k, rfl⟩ : ∃ m, k = m + 1 := ⟨k - 1, by omega⟩
    have hlt : i < ks.length := by omega
    have hg : ks[i]? = some ks[i] := by simp [hlt]
    have hmem : ks[i] ∈ ks := List.getElem_mem hlt
    have hn := cnt_mem hmem
    have hbi := bindsI_bd kk i
    simp only [spec_l3Shift.l0]
    rw [if_pos (by omega), if_pos (by omega), tvs_length, if_pos (by omega), rd62_get ks i _ hg, binds_eq, Option.bind_some, wrap_id (x := b + bindsI kk i) (by omega) (by omega), ih _ hmem (wfs_get hws _ hmem) (vbs_get hvs _ hmem) _ (by omega) (by omega) k (by omega), Option.bind_some, if_pos (by omega), wrap_id (x := (i : Int) + 1) (by omega) (by omega)]
    have e : (i : Int) + 1 = ((i + 1 : Nat) : Int) := by omega
    rw [e, ihd (i + 1) k _ (by omega) (by simp; omega) (by omega), chgs_drop _ _ _ _ hlt]
    simp [tvs, tv3, eta62]
theorem l3Shift_eq (by_ : Int) (h0 : 0 ≤ by_) (h1 : by_ ≤ 10000000000) (B : Int) (hB : B ≤ 10000000000) (t : Tm) : t.wf → t.vb B → ∀ b : Int, 0 ≤ b → b + t.cnt ≤ 10000000000 → ∀ k, 10 * t.cnt ≤ k → spec_l3Shift.f k (tv t).f0 (tv t).f1 (tv t).f2 by_ b = some (tv3 (chg (shF by_ 0) t b)) := by
  induction t using Tm.ind with
  | h k n ks ih =>
    intro hwf hvb b hb0 hb1 q hq
    simp only [Tm.wf] at hwf
    rw [vb_mk] at hvb
    have hkl : ks.length ≤ 3 := by have := arI_bd k; omega
    rw [cnt_mk] at hq hb1
    obtain ⟨q, rfl⟩ : ∃ m, q = m + 3 := ⟨q - 3, by omega⟩
    have L := fun m x => shiftLoop_eq by_ k n m x ks hkl hwf.2 B hvb.2 ih b hb0 (by omega) (tvs ks) ks.length 0 q [] (by omega) (by simp; omega) (by omega)
    simp only [Int.cast_ofNat_Int, List.drop_zero, List.nil_append] at L
    rw [tv_f, chg_mk]
    simp only [spec_l3Shift.f, spec_l3Shift.j0, spec_l3Shift.j1, tvs_length]
    by_cases h1 : k = 1
    · rw [if_pos h1, if_pos h1]
      have hk0 : ks = [] := by rw [h1] at hwf; exact var_kids (n := n) hwf.1
      have hn := hvb.1 h1
      unfold shF
      by_cases hge : n ≥ b
      · rw [if_pos (by simp [hge]), if_neg (by omega), wrap_id (by omega) (by omega), L]
        rw [hk0, h1]; simp [chgs, tvar, tv3_mk, tvs]
      · rw [if_neg (by simp [hge]), if_pos (by omega), L]
        rw [hk0, h1]; simp [chgs, tvar, tv3_mk, tvs]
    · rw [if_neg h1, if_neg h1, if_neg (by simp), L, tv3_mk]
theorem chg_zero (fr : Int) (t : Tm) : ∀ b, t.wf → chg (shF 0 fr) t b = t := by
  refine (Tm.ind2 (P := fun t => ∀ b, t.wf → chg (shF 0 fr) t b = t) (Q := fun ts => ∀ k i b, wfs ts → chgs (shF 0 fr) k i ts b = ts) ?_ ?_ ?_).1 t
  · intro k n ks h b hw
    simp only [Tm.wf] at hw
    rw [chg_mk]
    by_cases h1 : k = 1
    · rw [if_pos h1]
      have hk0 : ks = [] := by rw [h1] at hw; exact var_kids (n := n) hw.1
      unfold shF tvar
      rw [h1, hk0]
      split <;> simp
    · rw [if_neg h1, h k 0 b hw.2]
  · intro k i b _; simp [chgs]
  · intro t ts h1 h2 k i b hw
    simp only [wfs] at hw
    simp only [chgs]
    rw [h1 _ hw.1, h2 _ _ _ hw.2]
theorem tshift_chg (by_ : Int) (t : Tm) (hw : t.wf) : tshift by_ 0 t = chg (shF by_ 0) t 0 := by
  unfold tshift
  split
  · rename_i h; rw [h, chg_zero _ _ _ hw]
  · rfl
theorem substLoop_eq (v : Int) (s : Tm) (kk n m x : Int) (ks : List Tm) (hks : ks.length ≤ 3) (hws : wfs ks) (B : Int) (hvs : vbs B ks) (F : Nat) (ih : ∀ t ∈ ks, t.wf → t.vb B → ∀ b : Int, 0 ≤ b → b + t.cnt ≤ 1000000000 → ∀ k, 10 * t.cnt + F ≤ k → spec_l3Subst.f k (tv t).f0 (tv t).f1 (tv t).f2 v (tv s).f0 (tv s).f1 (tv s).f2 b = some (tv3 (chg (sbF v s) t b))) (b : Int) (hb0 : 0 ≤ b) (hb1 : b + cnts ks + 1 ≤ 1000000000) (tl : List S62) :
    ∀ (d i k : Nat) (acc : List S62), i + d = ks.length → acc.length + d ≤ 10 → d + 10 * cnts ks + F + 1 ≤ k → spec_l3Subst.l0 k v b (tvs ks) (ks.length : Int) (i : Int) kk n tl (tv s).f0 (tv s).f1 (tv s).f2 m x acc = some (m, x, acc ++ tvs (chgs (sbF v s) kk i (ks.drop i) b)) := by
  intro d
  induction d with
  | zero =>
    intro i k acc hi ha hk
    obtain ⟨k, rfl⟩ : ∃ m, k = m + 1 := ⟨k - 1, by omega⟩
    simp only [spec_l3Subst.l0]
    rw [if_neg (by omega), List.drop_eq_nil_of_le (by omega)]
    simp [chgs, tvs]
  | succ d ihd =>
    intro i k acc hi ha hk
    obtain ⟨k, rfl⟩ : ∃ m, k = m + 1 := ⟨k - 1, by omega⟩
    have hlt : i < ks.length := by omega
    have hg : ks[i]? = some ks[i] := by simp [hlt]
    have hmem : ks[i] ∈ ks := List.getElem_mem hlt
    have hn := cnt_mem hmem
    have hbi := bindsI_bd kk i
    simp only [spec_l3Subst.l0]
    rw [if_pos (by omega), if_pos (by omega), tvs_length, if_pos (by omega), rd62_get ks i _ hg, binds_eq, Option.bind_some, wrap_id (x := b + bindsI kk i) (by omega) (by omega), ih _ hmem (wfs_get hws _ hmem) (vbs_get hvs _ hmem) _ (by omega) (by omega) k (by omega), Option.bind_some, if_pos (by omega), wrap_id (x := (i : Int) + 1) (by omega) (by omega)]
    have e : (i : Int) + 1 = ((i + 1 : Nat) : Int) := by omega
    rw [e, ihd (i + 1) k _ (by omega) (by simp; omega) (by omega), chgs_drop _ _ _ _ hlt]
    simp [tvs, tv3, eta62]
theorem l3Subst_eq (v : Int) (hv0 : 0 ≤ v) (hv1 : v ≤ 1000) (s : Tm) (hsw : s.wf) (B : Int) (hB : B ≤ 1000000000) (hsv : s.vb B) (hsc : s.cnt ≤ 1000000000) (t : Tm) : t.wf → t.vb B → ∀ b : Int, 0 ≤ b → b + t.cnt ≤ 1000000000 → ∀ k, 10 * t.cnt + 10 * s.cnt ≤ k → spec_l3Subst.f k (tv t).f0 (tv t).f1 (tv t).f2 v (tv s).f0 (tv s).f1 (tv s).f2 b = some (tv3 (chg (sbF v s) t b)) := by
  induction t using Tm.ind with
  | h k n ks ih =>
    intro hwf hvb b hb0 hb1 q hq
    simp only [Tm.wf] at hwf
    rw [vb_mk] at hvb
    have hkl : ks.length ≤ 3 := by have := arI_bd k; omega
    rw [cnt_mk] at hq hb1
    obtain ⟨q, rfl⟩ : ∃ m, q = m + 1 := ⟨q - 1, by omega⟩
    have L := fun m x => substLoop_eq v s k n m x ks hkl hwf.2 B hvb.2 (10 * s.cnt) ih b hb0 (by omega) (tvs ks) ks.length 0 q [] (by omega) (by simp; omega) (by omega)
    simp only [Int.cast_ofNat_Int, List.drop_zero, List.nil_append] at L
    rw [tv_f, chg_mk]
    simp only [spec_l3Subst.f, tvs_length]
    by_cases h1 : k = 1
    · rw [if_pos h1, if_pos h1]
      have hk0 : ks = [] := by rw [h1] at hwf; exact var_kids (n := n) hwf.1
      have hn := hvb.1 h1
      unfold sbF
      rw [wrap_id (x := v + b) (by omega) (by omega)]
      by_cases he : n = v + b
      · rw [if_pos he, if_pos (by omega), l3Shift_eq b (by omega) (by omega) B (by omega) s hsw hsv 0 (by omega) (by omega) q (by omega), tshift_chg _ _ hsw]
        rfl
      · rw [if_neg he]
        by_cases hg : n > v + b
        · rw [if_pos hg, if_neg (show ¬ n - b = v by omega), if_pos (show n - b > v by omega), wrap_id (by omega) (by omega)]
          simp [tvar, tv3_mk, tvs]
        · rw [if_neg hg, if_neg (show ¬ n - b = v by omega), if_neg (show ¬ n - b > v by omega), hk0, h1]
          simp [tvar, tv3_mk, tvs]
    · rw [if_neg h1, if_neg h1, L, tv3_mk]
def putOf (t : Tm) (v : Int) (s : Tm) : Option Tm := if (tsubst v s t).cnt ≤ 600 then some (tsubst v s t) else none
theorem l3Put_eq (v : Int) (hv0 : 0 ≤ v) (hv1 : v ≤ 1000) (s : Tm) (hsw : s.wf) (B : Int) (hB : B ≤ 1000000000) (hsv : s.vb B) (hsc : s.cnt ≤ 1000000) (t : Tm) (htw : t.wf) (htv : t.vb B) (htc : t.cnt ≤ 1000000) (k : Nat) (hk : 10 * t.cnt + 10 * s.cnt ≤ k) :
    spec_l3Put.f k (tv t).f0 (tv t).f1 (tv t).f2 v (tv s).f0 (tv s).f1 (tv s).f2 = some (match putOf t v s with
      | none => (0, 0, [], false)
      | some u => ((tv u).f0, (tv u).f1, (tv u).f2, true)) := by
  have hc := subst_cnt v s hsw t 0 htw
  have hul := uses_le t v
  have hp := cnt_pos s
  obtain ⟨d, hd⟩ : ∃ d, s.cnt = d + 1 := ⟨s.cnt - 1, by omega⟩
  have hmul : uses t v * d ≤ 1000000 * 1000000 := Nat.mul_le_mul (by omega) (by omega)
  rw [Int.add_zero, hd, Nat.add_sub_cancel] at hc
  unfold spec_l3Put.f putOf
  have e1 := l3Size_eq t htw (by rw [nodes_cnt]; omega) k (by rw [nodes_cnt]; omega)
  have e2 := l3Size_eq s hsw (by rw [nodes_cnt]; omega) k (by rw [nodes_cnt]; omega)
  rw [nodes_cnt] at e1 e2
  have e3 : (uses t v : Int) * ((s.cnt : Int) - 1) = ((uses t v * d : Nat) : Int) := by rw [hd]; simp
  rw [e1, Option.bind_some, l3Uses_eq t htw (by omega) v (by omega) (by omega) k (by omega), Option.bind_some, e2, Option.bind_some, wrap_id (x := (s.cnt : Int) - 1) (by omega) (by omega), e3, wrap_id (x := ((uses t v * d : Nat) : Int)) (by omega) (by omega), wrap_id (by omega) (by omega)]
  by_cases h : (tsubst v s t).cnt ≤ 600
  · rw [if_pos h, if_neg (by unfold tsubst at h; omega), l3Subst_eq v hv0 hv1 s hsw B hB hsv (by omega) t htw htv 0 (by omega) (by omega) k (by omega)]
    rfl
  · rw [if_neg h, if_pos (by unfold tsubst at h; omega)]
theorem flat_eq (t : Tm) : ∀ (k : Nat) (out : List S66), t.wf → t.cnt < k → out.length + t.cnt ≤ 1000000 → l3flat k (tv t).f0 (tv t).f1 (tv t).f2 out = some (out ++ tcells t) := by
  refine (Tm.ind2 (P := fun t => ∀ (k : Nat) (out : List S66), t.wf → t.cnt < k → out.length + t.cnt ≤ 1000000 → l3flat k (tv t).f0 (tv t).f1 (tv t).f2 out = some (out ++ tcells t)) (Q := fun ts => ∀ (k : Nat) (out : List S66), wfs ts → cnts ts < k → out.length + cnts ts ≤ 1000000 → l3fl (l3flat k) (tvs ts) out = some (out ++ lcells ts)) ?_ ?_ ?_).1 t
  · intro q n ks h k out hw hk ho
    simp only [Tm.wf] at hw
    rw [cnt_mk] at hk ho
    have hkl : ks.length ≤ 3 := by have := arI_bd q; omega
    obtain ⟨k, rfl⟩ : ∃ m, k = m + 1 := ⟨k - 1, by omega⟩
    rw [tv_f, tcells_mk]
    simp only [l3flat]
    rw [if_pos (by omega), tvs_length, if_pos (by omega), h k _ hw.2 (by omega) (by simp; omega)]
    simp
  · intro k out _ _ _; simp [tvs, l3fl, lcells]
  · intro t ts h1 h2 k out hw hk ho
    simp only [wfs] at hw
    simp only [cnts] at hk ho
    have := cnt_pos t
    simp only [tvs, l3fl]
    rw [h1 k out hw.1 (by omega) (by omega), Option.bind_some, h2 k _ hw.2 (by omega) (by simp [tcells_len]; omega)]
    simp [lcells]
theorem l3Tell_eq (t : Tm) (hw : t.wf) (hc : t.cnt < 2000) (k : Nat) (hk : 3606 ≤ k) : spec_l3Tell.f k (tv t).f0 (tv t).f1 (tv t).f2 = some (goodOfT t) := by
  unfold spec_l3Tell.f
  simp only [spec_l3Flat.f]
  rw [flat_eq t 2000 [] hw (by omega) (by simp; omega), Option.bind_some, List.nil_append, GoodTerm_eq _ k hk, Option.bind_some, goodOfT_tmof t hw]
  split <;> rfl
theorem SubstTerm_eq (l : List S66) (v : Int) (m : List S66) (k : Nat) (hk : 20000 ≤ k) : spec_SubstTerm.f k l v m = some (substOf l v m) := by
  have h := l3Tree_eq l k (by omega)
  have h2 := l3Tree_eq m k (by omega)
  obtain ⟨q, rfl⟩ : ∃ q, k = q + 1 := ⟨k - 1, by omega⟩
  unfold spec_SubstTerm.f substOf
  cases hq : tmof l with
  | none =>
    rw [hq] at h; obtain ⟨b, n, ks, h⟩ := h; rw [h, Option.bind_some]
    cases hq2 : tmof m with
    | none => rw [hq2] at h2; obtain ⟨b2, n2, ks2, h2⟩ := h2; rw [h2, Option.bind_some, if_neg (by simp)]; simp [spec_SubstTerm.j0]
    | some u => rw [hq2] at h2; simp only at h2; rw [h2, Option.bind_some, if_neg (by simp)]; simp [spec_SubstTerm.j0]
  | some t =>
    rw [hq] at h
    simp only at h ⊢
    rw [h, Option.bind_some]
    cases hq2 : tmof m with
    | none => rw [hq2] at h2; obtain ⟨b2, n2, ks2, h2⟩ := h2; rw [h2, Option.bind_some, if_pos rfl, if_neg (by simp)]; simp [spec_SubstTerm.j0]
    | some u =>
      rw [hq2] at h2
      simp only at h2 ⊢
      rw [h2, Option.bind_some, if_pos rfl, if_pos trivial, l1In_eq, Option.bind_some]
      simp only [spec_SubstTerm.j0]
      have hw := tmof_wf hq
      have hw2 := tmof_wf hq2
      have hv := tmof_vb hq
      have hv2 := tmof_vb hq2
      by_cases hb : 0 ≤ v ∧ v ≤ 99
      · rw [if_neg (by simp [hb]), if_pos hb, l3Put_eq v hb.1 (by omega) u hw2 99 (by omega) hv2.1 (by omega) t hw hv.1 (by omega) q (by omega), Option.bind_some]
        unfold putOf
        by_cases h6 : (tsubst v u t).cnt ≤ 600
        · rw [if_pos h6]
          simp only [if_true]
          rw [l3Tell_eq _ (chg_wf u hw2 t hw) (by omega) q (by omega)]
          rfl
        · rw [if_neg h6]
          unfold goodOfT
          rw [if_neg h6]
          simp
      · rw [if_pos (by rw [decide_eq_false hb]; rfl), if_neg hb]
theorem goodOfT_len (t : Tm) : (goodOfT t).1.length ≤ 600 := by
  unfold goodOfT
  split
  · split
    · rw [tcells_len]; omega
    · simp
  · simp
theorem substOf_len (l : List S66) (v : Int) (m : List S66) : (substOf l v m).1.length ≤ 600 := by
  unfold substOf
  split
  · simp
  · split
    · simp
    · split
      · exact goodOfT_len _
      · simp
end Go.Proofs.Ytgoiifpimpnlpaa.PAll

end

section
namespace Go.Proofs.Ytgoiifpimpnlpaa.PAll
open Go.RowKit Go.Proofs.YtgoiifpimpnlpaaW.PrintWords Go.Proofs.YtgoiifpimpnlpaaW.PrintLast Go.Proofs.YtgoiifpimpnlpaaW.PrintMore
attribute [local go_sem] max2_int min2_int max_two min_two max_three min_three max_four min_four   -- for this text's walks alone
set_option linter.unusedVariables false
set_option linter.unusedSimpArgs false
def impl_SubstTerm.f (k : Nat) (l0 : List (S66)) (a1 : Int) (l2 : List (S66)) : Option ((List (S66)) × Bool) := some (substOf l0 a1 l2)
theorem impl_SubstTerm.mono : ∀ l0 a1 l2 k, LeO (impl_SubstTerm.f k l0 a1 l2) (impl_SubstTerm.f (k + 1) l0 a1 l2) := fun _ _ _ _  => LeO.refl _
theorem impl_SubstTerm.calls (k : Nat) (A0 : Option Addr) (c0 : Nat) (l0 : List (S66)) (a1 : Int) (A2 : Option Addr) (c2 : Nat) (l2 : List (S66)) (r1 : List (S66)) (r2 : Bool) (w : World) (hr0 : Kd.C k66 w A0 l0.length l0) (hc0 : l0.length ≤ c0) (hr2 : Kd.C k66 w A2 l2.length l2) (hc2 : l2.length ≤ c2) (h : impl_SubstTerm.f k l0 a1 l2 = some (r1, r2)) :
    Calls Try.prog 25 #[.slice A0 l0.length c0, .int .i64 a1, .slice A2 l2.length c2] w fun e w' => ∃ v0_ : Value, e = .returned (.tuple #[v0_, .bool r2]) ∧ Kd.R k66 66 w' w.heap.size (fun _ => True) v0_ r1 ∧ Below w.heap.size w w' := by
  have e := Option.some.inj h
  have := SubstTerm_calls l0 A0 c0 a1 l2 A2 c2 w hr0 hc0 hr2 hc2
  rw [e] at this
  exact this
end Go.Proofs.Ytgoiifpimpnlpaa.PAll

end
