-- Made by pack.py of the texts that the law reaches.
import Derived.ChangeArms
import Derived.ChangeSame
import Derived.DataReads
import Derived.Deep.Strs
import Derived.Lib.SmallJoins
import Derived.Test.YtgoiifpimpnlpaaV5
section
namespace Go.Proofs.Ytgoiifpimpnlpaa.PAll
open Go.RowKit Go.Proofs.YtgoiifpimpnlpaaW.PrintWords Go.Proofs.YtgoiifpimpnlpaaW.PrintLast Go.Proofs.YtgoiifpimpnlpaaW.PrintMore
attribute [local go_sem] max2_int min2_int max_two min_two max_three min_three max_four min_four   -- for this text's walks alone
set_option linter.unusedVariables false
set_option linter.unusedSimpArgs false
mutual
def laws_FnExactSubstTerm.j0 : Nat → List (S68) → Int → List (S68) → List (S66) → Bool → List (S66) → List (S66) → List (S66) → Bool → Bool → Option (Bool)
  | 0, _, _, _, _, _, _, _, _, _, _ => none
  | k + 1, x0, x1, x2, x8, x9, x10, x11, x12, x13, x57 => if x57 = true then (some false) else ((laws_toCellS.f k x0).bind fun t443 => ((laws_eqCellS.f k x10 t443).bind fun t446 => (if t446 = true then ((laws_toCellS.f k x2).bind fun t447 => ((laws_eqCellS.f k x11 t447).bind fun t450 => (if t450 = true then ((laws_markCellS.f k x10 1).bind fun bt451 => ((laws_markCellS.f k x11 bt451.1).bind fun bt453 => (if bt453.1 < 0 then (laws_FnExactSubstTerm.j1 k x0 x1 x2 x8 x9 x12 true) else ((laws_eqCellS.f k x12 x8).bind fun t455 => (if t455 = true then (laws_FnExactSubstTerm.j1 k x0 x1 x2 x8 x9 x12 (x13 != x9)) else (laws_FnExactSubstTerm.j1 k x0 x1 x2 x8 x9 x12 true)))))) else (some false)))) else (some false))))
def laws_FnExactSubstTerm.j1 : Nat → List (S68) → Int → List (S68) → List (S66) → Bool → List (S66) → Bool → Option (Bool)
  | 0, _, _, _, _, _, _, _ => none
  | k + 1, x0, x1, x2, x8, x9, x12, x86 => if x86 = true then (some false) else ((laws_markCellS.f k x12 1).bind fun bt456 => ((laws_heldCellS.f k bt456.2 1).bind fun t458 => (if t458 < 0 then (some false) else (if t458 = bt456.1 then ((laws_toCellS.f k x0).bind fun t459 => ((laws_toCellS.f k x2).bind fun t462 => ((impl_SubstTerm.f k t459 x1 t462).bind fun bt465 => ((laws_eqCellS.f k bt465.1 x8).bind fun t469 => (if t469 = true then (laws_FnExactSubstTerm.j2 k bt456.2 bt456.1 (bt465.2 != x9)) else (laws_FnExactSubstTerm.j2 k bt456.2 bt456.1 true)))))) else (some false)))))
def laws_FnExactSubstTerm.j2 : Nat → List (S66) → Int → Bool → Option (Bool)
  | 0, _, _, _ => none
  | k + 1, x12, x15, x115 => if x115 = true then (some false) else ((laws_heldCellS.f k x12 1).bind fun t470 => (if t470 < 0 then (some false) else (if t470 = x15 then (some true) else (some false))))
end
def laws_FnExactSubstTerm.f (k : Nat) (l0 : List (S68)) (a1 : Int) (l2 : List (S68)) : Option (Bool) := (laws_szCellS.f l0 1048576).bind fun t420 => (if t420 < 0 then (some true) else ((laws_szCellS.f l2 t420).bind fun t421 => (if t421 < 0 then (some true) else ((laws_toCellS.f k l0).bind fun t422 => ((laws_toCellS.f k l2).bind fun t425 => ((spec_SubstTerm.f k t422 a1 t425).bind fun bt428 => ((laws_toCellS.f k l0).bind fun t432 => ((laws_toCellS.f k l2).bind fun t435 => ((impl_SubstTerm.f k t432 a1 t435).bind fun bt438 => ((laws_eqCellS.f k bt438.1 bt428.1).bind fun t442 => (if t442 = true then (laws_FnExactSubstTerm.j0 k l0 a1 l2 bt428.1 bt428.2 t432 t435 bt438.1 bt438.2 (bt438.2 != bt428.2)) else (laws_FnExactSubstTerm.j0 k l0 a1 l2 bt428.1 bt428.2 t432 t435 bt438.1 bt438.2 true))))))))))))
theorem laws_FnExactSubstTerm.mono_l : ∀ k, (∀ y0 y1 y2 y3 y4 y5 y6 y7 y8 y9, LeO (laws_FnExactSubstTerm.j0 k y0 y1 y2 y3 y4 y5 y6 y7 y8 y9) (laws_FnExactSubstTerm.j0 (k + 1) y0 y1 y2 y3 y4 y5 y6 y7 y8 y9)) ∧ (∀ y0 y1 y2 y3 y4 y5 y6, LeO (laws_FnExactSubstTerm.j1 k y0 y1 y2 y3 y4 y5 y6) (laws_FnExactSubstTerm.j1 (k + 1) y0 y1 y2 y3 y4 y5 y6)) ∧ (∀ y0 y1 y2, LeO (laws_FnExactSubstTerm.j2 k y0 y1 y2) (laws_FnExactSubstTerm.j2 (k + 1) y0 y1 y2))
  | 0 => ⟨fun _ _ _ _ _ _ _ _ _ _ r h => by simp [laws_FnExactSubstTerm.j0] at h, fun _ _ _ _ _ _ _ r h => by simp [laws_FnExactSubstTerm.j1] at h, fun _ _ _ r h => by simp [laws_FnExactSubstTerm.j2] at h⟩
  | k + 1 => by
    obtain ⟨ih0, ih1, ih2⟩ := laws_FnExactSubstTerm.mono_l k
    refine ⟨?_, ?_, ?_⟩
    · intro y0 y1 y2 y3 y4 y5 y6 y7 y8 y9
      unfold laws_FnExactSubstTerm.j0
      repeat' first
      | (with_reducible exact ih0 _ _ _ _ _ _ _ _ _ _)
      | (with_reducible exact ih1 _ _ _ _ _ _ _)
      | (with_reducible exact ih2 _ _ _)
      | (with_reducible exact impl_SubstTerm.mono _ _ _ _)
      | (with_reducible exact laws_eqCellS.mono _ _ _)
      | (with_reducible exact laws_heldCellS.mono _ _ _)
      | (with_reducible exact laws_markCellS.mono _ _ _)
      | (with_reducible exact laws_toCellS.mono _ _)
      | (with_reducible exact spec_SubstTerm.mono _ _ _ _)
      | (with_reducible exact LeO.refl _)
      | (with_reducible exact LeO.none _)
      | (with_reducible refine LeO.ite ?_ ?_)
      | (with_reducible refine LeO.bind ?_ (fun _ => ?_))
      | exact ih0 _ _ _ _ _ _ _ _ _ _
      | exact ih1 _ _ _ _ _ _ _
      | exact ih2 _ _ _
      | exact impl_SubstTerm.mono _ _ _ _
      | exact laws_eqCellS.mono _ _ _
      | exact laws_heldCellS.mono _ _ _
      | exact laws_markCellS.mono _ _ _
      | exact laws_toCellS.mono _ _
      | exact spec_SubstTerm.mono _ _ _ _
      | exact LeO.none _
      | refine LeO.ite ?_ ?_
      | refine LeO.bind ?_ (fun _ => ?_)
    · intro y0 y1 y2 y3 y4 y5 y6
      unfold laws_FnExactSubstTerm.j1
      repeat' first
      | (with_reducible exact ih0 _ _ _ _ _ _ _ _ _ _)
      | (with_reducible exact ih1 _ _ _ _ _ _ _)
      | (with_reducible exact ih2 _ _ _)
      | (with_reducible exact impl_SubstTerm.mono _ _ _ _)
      | (with_reducible exact laws_eqCellS.mono _ _ _)
      | (with_reducible exact laws_heldCellS.mono _ _ _)
      | (with_reducible exact laws_markCellS.mono _ _ _)
      | (with_reducible exact laws_toCellS.mono _ _)
      | (with_reducible exact spec_SubstTerm.mono _ _ _ _)
      | (with_reducible exact LeO.refl _)
      | (with_reducible exact LeO.none _)
      | (with_reducible refine LeO.ite ?_ ?_)
      | (with_reducible refine LeO.bind ?_ (fun _ => ?_))
      | exact ih0 _ _ _ _ _ _ _ _ _ _
      | exact ih1 _ _ _ _ _ _ _
      | exact ih2 _ _ _
      | exact impl_SubstTerm.mono _ _ _ _
      | exact laws_eqCellS.mono _ _ _
      | exact laws_heldCellS.mono _ _ _
      | exact laws_markCellS.mono _ _ _
      | exact laws_toCellS.mono _ _
      | exact spec_SubstTerm.mono _ _ _ _
      | exact LeO.none _
      | refine LeO.ite ?_ ?_
      | refine LeO.bind ?_ (fun _ => ?_)
    · intro y0 y1 y2
      unfold laws_FnExactSubstTerm.j2
      repeat' first
      | (with_reducible exact ih0 _ _ _ _ _ _ _ _ _ _)
      | (with_reducible exact ih1 _ _ _ _ _ _ _)
      | (with_reducible exact ih2 _ _ _)
      | (with_reducible exact impl_SubstTerm.mono _ _ _ _)
      | (with_reducible exact laws_eqCellS.mono _ _ _)
      | (with_reducible exact laws_heldCellS.mono _ _ _)
      | (with_reducible exact laws_markCellS.mono _ _ _)
      | (with_reducible exact laws_toCellS.mono _ _)
      | (with_reducible exact spec_SubstTerm.mono _ _ _ _)
      | (with_reducible exact LeO.refl _)
      | (with_reducible exact LeO.none _)
      | (with_reducible refine LeO.ite ?_ ?_)
      | (with_reducible refine LeO.bind ?_ (fun _ => ?_))
      | exact ih0 _ _ _ _ _ _ _ _ _ _
      | exact ih1 _ _ _ _ _ _ _
      | exact ih2 _ _ _
      | exact impl_SubstTerm.mono _ _ _ _
      | exact laws_eqCellS.mono _ _ _
      | exact laws_heldCellS.mono _ _ _
      | exact laws_markCellS.mono _ _ _
      | exact laws_toCellS.mono _ _
      | exact spec_SubstTerm.mono _ _ _ _
      | exact LeO.none _
      | refine LeO.ite ?_ ?_
      | refine LeO.bind ?_ (fun _ => ?_)
theorem laws_FnExactSubstTerm.mono : ∀ a0 a1 a2 k, LeO (laws_FnExactSubstTerm.f k a0 a1 a2) (laws_FnExactSubstTerm.f (k + 1) a0 a1 a2) := by
  intro a0 a1 a2 k
  obtain ⟨ih0, ih1, ih2⟩ := laws_FnExactSubstTerm.mono_l k
  unfold laws_FnExactSubstTerm.f
  repeat' first
      | (with_reducible exact ih0 _ _ _ _ _ _ _ _ _ _)
      | (with_reducible exact ih1 _ _ _ _ _ _ _)
      | (with_reducible exact ih2 _ _ _)
      | (with_reducible exact impl_SubstTerm.mono _ _ _ _)
      | (with_reducible exact laws_eqCellS.mono _ _ _)
      | (with_reducible exact laws_heldCellS.mono _ _ _)
      | (with_reducible exact laws_markCellS.mono _ _ _)
      | (with_reducible exact laws_toCellS.mono _ _)
      | (with_reducible exact spec_SubstTerm.mono _ _ _ _)
      | (with_reducible exact LeO.refl _)
      | (with_reducible exact LeO.none _)
      | (with_reducible refine LeO.ite ?_ ?_)
      | (with_reducible refine LeO.bind ?_ (fun _ => ?_))
      | exact ih0 _ _ _ _ _ _ _ _ _ _
      | exact ih1 _ _ _ _ _ _ _
      | exact ih2 _ _ _
      | exact impl_SubstTerm.mono _ _ _ _
      | exact laws_eqCellS.mono _ _ _
      | exact laws_heldCellS.mono _ _ _
      | exact laws_markCellS.mono _ _ _
      | exact laws_toCellS.mono _ _
      | exact spec_SubstTerm.mono _ _ _ _
      | exact LeO.none _
      | refine LeO.ite ?_ ?_
      | refine LeO.bind ?_ (fun _ => ?_)
set_option maxHeartbeats 8000000 in
set_option maxRecDepth 100000 in
theorem laws_FnExactSubstTerm.calls (k : Nat) (A0 : Option Addr) (c0 : Nat) (l0 : List (S68)) (a1 : Int) (A2 : Option Addr) (c2 : Nat) (l2 : List (S68)) (r_ : Bool) (w : World) (hr0 : Kd.C k68 w A0 l0.length l0) (hc0 : l0.length ≤ c0) (hr2 : Kd.C k68 w A2 l2.length l2) (hc2 : l2.length ≤ c2) (h : laws_FnExactSubstTerm.f k l0 a1 l2 = some true) :
    Calls Try.prog 7 #[.slice A0 l0.length c0, .int .i64 a1, .slice A2 l2.length c2] w fun e w' => e = .returned (.bool true) ∧ Below w.heap.size w w' := by
  have HR0 := ab_ hr0
  have HC0 := ab_ hc0
  clear hr0 hc0
  have HR2 := ab_ hr2
  have HC2 := ab_ hc2
  clear hr2 hc2
  have HB := ab_ (Below.refl w.heap.size w)
  have H : ((laws_szCellS.f l0 1048576).bind fun t420 => (if t420 < 0 then (some true) else ((laws_szCellS.f l2 t420).bind fun t421 => (if t421 < 0 then (some true) else ((laws_toCellS.f k l0).bind fun t422 => ((laws_toCellS.f k l2).bind fun t425 => ((spec_SubstTerm.f k t422 a1 t425).bind fun bt428 => ((laws_toCellS.f k l0).bind fun t432 => ((laws_toCellS.f k l2).bind fun t435 => ((impl_SubstTerm.f k t432 a1 t435).bind fun bt438 => ((laws_eqCellS.f k bt438.1 bt428.1).bind fun t442 => (if t442 = true then (laws_FnExactSubstTerm.j0 k l0 a1 l2 bt428.1 bt428.2 t432 t435 bt438.1 bt438.2 (bt438.2 != bt428.2)) else (laws_FnExactSubstTerm.j0 k l0 a1 l2 bt428.1 bt428.2 t432 t435 bt438.1 bt438.2 true))))))))))))) = some true := h
  clear h
  replace H := Option.bind_eq_some_iff.mp H
  obtain ⟨t420, A40, H⟩ := H
  replace H : (if t420 < 0 then (some true) else ((laws_szCellS.f l2 t420).bind fun t421 => (if t421 < 0 then (some true) else ((laws_toCellS.f k l0).bind fun t422 => ((laws_toCellS.f k l2).bind fun t425 => ((spec_SubstTerm.f k t422 a1 t425).bind fun bt428 => ((laws_toCellS.f k l0).bind fun t432 => ((laws_toCellS.f k l2).bind fun t435 => ((impl_SubstTerm.f k t432 a1 t435).bind fun bt438 => ((laws_eqCellS.f k bt438.1 bt428.1).bind fun t442 => (if t442 = true then (laws_FnExactSubstTerm.j0 k l0 a1 l2 bt428.1 bt428.2 t432 t435 bt438.1 bt438.2 (bt438.2 != bt428.2)) else (laws_FnExactSubstTerm.j0 k l0 a1 l2 bt428.1 bt428.2 t432 t435 bt438.1 bt438.2 true)))))))))))) = some true := H
  have A4 := ab_ A40
  clear A40
  by_cases c5 : t420 < 0
  · rw [if_pos c5] at H
    have c5b0 : decide (t420 < 0) = true := aq_ c5
    clear c5
    clear H
    go_enter Try.func7, Try.ntmps7
    go_wp2_with (first | ((with_reducible refine gate_callee (f := 13) rfl ?_); refine goesL_ (some 21) rfl rfl Try.func13 (by kernel_rfl) rfl #[.slice A0 l0.length c0, .int .i64 1048576] rfl (by (try simp only [List.map_toArray, List.map_cons, List.map_nil]); first | done | rfl | (simp only [List.length_drop, List.length_take]; rfl)) ?_; (with_reducible refine (laws_szCellS.calls _ _ l0 1048576 t420 _ ?side1 ?side2 A4.out).mono ?_); (case side1 => repeat (first | exact HR0.out | (with_reducible refine Kd.C_alloc ?_ _) | (with_reducible refine Kd.C_drewN ?_ _) | (with_reducible refine Kd.C_drew ?_))); (case side2 => exact HC0.out); rintro e w' ⟨rfl, ⟨nd, rfl⟩⟩; refine ⟨_, rfl, ?_⟩))
    go_ret
    exact ⟨by first | rfl | (simp [errW_none, errW_some] <;> rfl) | (simp [*, errW_none, errW_some] <;> rfl), by repeat (first | (with_reducible first | exact HB.out | apply ai_ | apply ag_ | apply ah_) | exact HB.out)⟩
  · rw [if_neg c5] at H
    have c5b0 : decide (t420 < 0) = false := decide_eq_false c5
    clear c5
    replace H := Option.bind_eq_some_iff.mp H
    obtain ⟨t421, A60, H⟩ := H
    replace H : (if t421 < 0 then (some true) else ((laws_toCellS.f k l0).bind fun t422 => ((laws_toCellS.f k l2).bind fun t425 => ((spec_SubstTerm.f k t422 a1 t425).bind fun bt428 => ((laws_toCellS.f k l0).bind fun t432 => ((laws_toCellS.f k l2).bind fun t435 => ((impl_SubstTerm.f k t432 a1 t435).bind fun bt438 => ((laws_eqCellS.f k bt438.1 bt428.1).bind fun t442 => (if t442 = true then (laws_FnExactSubstTerm.j0 k l0 a1 l2 bt428.1 bt428.2 t432 t435 bt438.1 bt438.2 (bt438.2 != bt428.2)) else (laws_FnExactSubstTerm.j0 k l0 a1 l2 bt428.1 bt428.2 t432 t435 bt438.1 bt438.2 true)))))))))) = some true := H
    have A6 := ab_ A60
    clear A60
    by_cases c7 : t421 < 0
    · rw [if_pos c7] at H
      have c7b0 : decide (t421 < 0) = true := aq_ c7
      clear c7
      clear H
      go_enter Try.func7, Try.ntmps7
      go_wp2_with (first | ((with_reducible refine gate_callee (f := 13) rfl ?_); refine goesL_ (some 21) rfl rfl Try.func13 (by kernel_rfl) rfl #[.slice A0 l0.length c0, .int .i64 1048576] rfl (by (try simp only [List.map_toArray, List.map_cons, List.map_nil]); first | done | rfl | (simp only [List.length_drop, List.length_take]; rfl)) ?_; (with_reducible refine (laws_szCellS.calls _ _ l0 1048576 t420 _ ?side1 ?side2 A4.out).mono ?_); (case side1 => repeat (first | exact HR0.out | (with_reducible refine Kd.C_alloc ?_ _) | (with_reducible refine Kd.C_drewN ?_ _) | (with_reducible refine Kd.C_drew ?_))); (case side2 => exact HC0.out); rintro e w' ⟨rfl, ⟨nd, rfl⟩⟩; refine ⟨_, rfl, ?_⟩) | ((with_reducible refine gate_callee (f := 13) rfl ?_); refine goesL_ (some 26) rfl rfl Try.func13 (by kernel_rfl) rfl #[.slice A2 l2.length c2, .int .i64 t420] rfl (by (try simp only [List.map_toArray, List.map_cons, List.map_nil]); first | done | rfl | (simp only [List.length_drop, List.length_take]; rfl)) ?_; (with_reducible refine (laws_szCellS.calls _ _ l2 t420 t421 _ ?side1 ?side2 A6.out).mono ?_); (case side1 => repeat (first | exact HR2.out | (with_reducible refine Kd.C_alloc ?_ _) | (with_reducible refine Kd.C_drewN ?_ _) | (with_reducible refine Kd.C_drew ?_))); (case side2 => exact HC2.out); rintro e w' ⟨rfl, ⟨nd, rfl⟩⟩; refine ⟨_, rfl, ?_⟩))
      go_ret
      exact ⟨by first | rfl | (simp [errW_none, errW_some] <;> rfl) | (simp [*, errW_none, errW_some] <;> rfl), by repeat (first | (with_reducible first | exact HB.out | apply ai_ | apply ag_ | apply ah_) | exact HB.out)⟩
    · rw [if_neg c7] at H
      have c7b0 : decide (t421 < 0) = false := decide_eq_false c7
      clear c7
      replace H := Option.bind_eq_some_iff.mp H
      obtain ⟨t422, A80, H⟩ := H
      replace H : ((laws_toCellS.f k l2).bind fun t425 => ((spec_SubstTerm.f k t422 a1 t425).bind fun bt428 => ((laws_toCellS.f k l0).bind fun t432 => ((laws_toCellS.f k l2).bind fun t435 => ((impl_SubstTerm.f k t432 a1 t435).bind fun bt438 => ((laws_eqCellS.f k bt438.1 bt428.1).bind fun t442 => (if t442 = true then (laws_FnExactSubstTerm.j0 k l0 a1 l2 bt428.1 bt428.2 t432 t435 bt438.1 bt438.2 (bt438.2 != bt428.2)) else (laws_FnExactSubstTerm.j0 k l0 a1 l2 bt428.1 bt428.2 t432 t435 bt438.1 bt438.2 true)))))))) = some true := H
      have A8 := ab_ A80
      clear A80
      replace H := Option.bind_eq_some_iff.mp H
      obtain ⟨t425, A90, H⟩ := H
      replace H : ((spec_SubstTerm.f k t422 a1 t425).bind fun bt428 => ((laws_toCellS.f k l0).bind fun t432 => ((laws_toCellS.f k l2).bind fun t435 => ((impl_SubstTerm.f k t432 a1 t435).bind fun bt438 => ((laws_eqCellS.f k bt438.1 bt428.1).bind fun t442 => (if t442 = true then (laws_FnExactSubstTerm.j0 k l0 a1 l2 bt428.1 bt428.2 t432 t435 bt438.1 bt438.2 (bt438.2 != bt428.2)) else (laws_FnExactSubstTerm.j0 k l0 a1 l2 bt428.1 bt428.2 t432 t435 bt438.1 bt438.2 true))))))) = some true := H
      have A9 := ab_ A90
      clear A90
      replace H := Option.bind_eq_some_iff.mp H
      obtain ⟨⟨t428, t429⟩, A100, H⟩ := H
      replace H : ((laws_toCellS.f k l0).bind fun t432 => ((laws_toCellS.f k l2).bind fun t435 => ((impl_SubstTerm.f k t432 a1 t435).bind fun bt438 => ((laws_eqCellS.f k bt438.1 t428).bind fun t442 => (if t442 = true then (laws_FnExactSubstTerm.j0 k l0 a1 l2 t428 t429 t432 t435 bt438.1 bt438.2 (bt438.2 != t429)) else (laws_FnExactSubstTerm.j0 k l0 a1 l2 t428 t429 t432 t435 bt438.1 bt438.2 true)))))) = some true := H
      have A10 := ab_ A100
      clear A100
      replace H := Option.bind_eq_some_iff.mp H
      obtain ⟨t432, A110, H⟩ := H
      replace H : ((laws_toCellS.f k l2).bind fun t435 => ((impl_SubstTerm.f k t432 a1 t435).bind fun bt438 => ((laws_eqCellS.f k bt438.1 t428).bind fun t442 => (if t442 = true then (laws_FnExactSubstTerm.j0 k l0 a1 l2 t428 t429 t432 t435 bt438.1 bt438.2 (bt438.2 != t429)) else (laws_FnExactSubstTerm.j0 k l0 a1 l2 t428 t429 t432 t435 bt438.1 bt438.2 true))))) = some true := H
      have A11 := ab_ A110
      clear A110
      replace H := Option.bind_eq_some_iff.mp H
      obtain ⟨t435, A120, H⟩ := H
      replace H : ((impl_SubstTerm.f k t432 a1 t435).bind fun bt438 => ((laws_eqCellS.f k bt438.1 t428).bind fun t442 => (if t442 = true then (laws_FnExactSubstTerm.j0 k l0 a1 l2 t428 t429 t432 t435 bt438.1 bt438.2 (bt438.2 != t429)) else (laws_FnExactSubstTerm.j0 k l0 a1 l2 t428 t429 t432 t435 bt438.1 bt438.2 true)))) = some true := H
      have A12 := ab_ A120
      clear A120
      replace H := Option.bind_eq_some_iff.mp H
      obtain ⟨⟨t438, t439⟩, A130, H⟩ := H
      replace H : ((laws_eqCellS.f k t438 t428).bind fun t442 => (if t442 = true then (laws_FnExactSubstTerm.j0 k l0 a1 l2 t428 t429 t432 t435 t438 t439 (t439 != t429)) else (laws_FnExactSubstTerm.j0 k l0 a1 l2 t428 t429 t432 t435 t438 t439 true))) = some true := H
      have A13 := ab_ A130
      clear A130
      have HC14 := ab_ H
      clear H
      go_enter Try.func7, Try.ntmps7
      go_upto_region 12 with (first | ((with_reducible refine gate_callee (f := 13) rfl ?_); refine goesL_ (some 21) rfl rfl Try.func13 (by kernel_rfl) rfl #[.slice A0 l0.length c0, .int .i64 1048576] rfl (by (try simp only [List.map_toArray, List.map_cons, List.map_nil]); first | done | rfl | (simp only [List.length_drop, List.length_take]; rfl)) ?_; (with_reducible refine (laws_szCellS.calls _ _ l0 1048576 t420 _ ?side1 ?side2 A4.out).mono ?_); (case side1 => repeat (first | exact HR0.out | (with_reducible refine Kd.C_alloc ?_ _) | (with_reducible refine Kd.C_drewN ?_ _) | (with_reducible refine Kd.C_drew ?_))); (case side2 => exact HC0.out); rintro e w' ⟨rfl, ⟨nd, rfl⟩⟩; refine ⟨_, rfl, ?_⟩) | ((with_reducible refine gate_callee (f := 13) rfl ?_); refine goesL_ (some 26) rfl rfl Try.func13 (by kernel_rfl) rfl #[.slice A2 l2.length c2, .int .i64 t420] rfl (by (try simp only [List.map_toArray, List.map_cons, List.map_nil]); first | done | rfl | (simp only [List.length_drop, List.length_take]; rfl)) ?_; (with_reducible refine (laws_szCellS.calls _ _ l2 t420 t421 _ ?side1 ?side2 A6.out).mono ?_); (case side1 => repeat (first | exact HR2.out | (with_reducible refine Kd.C_alloc ?_ _) | (with_reducible refine Kd.C_drewN ?_ _) | (with_reducible refine Kd.C_drew ?_))); (case side2 => exact HC2.out); rintro e w' ⟨rfl, ⟨nd, rfl⟩⟩; refine ⟨_, rfl, ?_⟩) | ((with_reducible refine gate_callee (f := 15) rfl ?_); refine goesL_ (some 31) rfl rfl Try.func15 (by kernel_rfl) rfl #[.slice A0 l0.length c0] rfl (by (try simp only [List.map_toArray, List.map_cons, List.map_nil]); first | done | rfl | (simp only [List.length_drop, List.length_take]; rfl)) ?_; (with_reducible refine (laws_toCellS.calls k _ _ l0 t422 _ ?side1 ?side2 A8.out).mono ?_); (case side1 => repeat (first | exact HR0.out | (with_reducible refine Kd.C_alloc ?_ _) | (with_reducible refine Kd.C_drewN ?_ _) | (with_reducible refine Kd.C_drew ?_))); (case side2 => exact HC0.out); rintro e w15 ⟨v423, rfl, ho0, hb⟩; refine ⟨_, rfl, ?_⟩; have n0_ := ab_ (Kd.R_lower ho0 (below_size (by repeat (first | (with_reducible first | exact HB.out | apply ai_ | apply ag_ | apply ah_) | exact HB.out)))); have n1_ := ab_ (ar_ (by repeat (first | (with_reducible first | exact HB.out | apply ai_ | apply ag_ | apply ah_) | exact HB.out)) hb); clear HB; have HO424 := n0_; have HB := n1_; clear n0_ n1_; (try clear hb); (try clear hb2); (try clear hk); (try clear hi); (try clear ho0)) | ((with_reducible refine gate_callee (f := 15) rfl ?_); refine goesL_ (some 34) rfl rfl Try.func15 (by kernel_rfl) rfl #[.slice A2 l2.length c2] rfl (by (try simp only [List.map_toArray, List.map_cons, List.map_nil]); first | done | rfl | (simp only [List.length_drop, List.length_take]; rfl)) ?_; (with_reducible refine (laws_toCellS.calls k _ _ l2 t425 _ ?side1 ?side2 A9.out).mono ?_); (case side1 => repeat (first | exact (Kd.C_below HR2.out HB.out) | (with_reducible refine Kd.C_alloc ?_ _) | (with_reducible refine Kd.C_drewN ?_ _) | (with_reducible refine Kd.C_drew ?_))); (case side2 => exact HC2.out); rintro e w16 ⟨v426, rfl, ho0, hb⟩; refine ⟨_, rfl, ?_⟩; have n0_ := ab_ (Kd.R_elder' (by (with_reducible repeat (first | apply an_ | apply ao_ | apply ap_)); exact HO424.out) (Kd.R_base ho0) hb); have n1_ := ab_ (Kd.R_lower (Kd.R_new' ho0 (Kd.R_lt (by (with_reducible repeat (first | apply an_ | apply ao_ | apply ap_)); exact HO424.out))) (below_size (by repeat (first | (with_reducible first | exact HB.out | apply ai_ | apply ag_ | apply ah_) | exact HB.out)))); have n2_ := ab_ (ar_ (by repeat (first | (with_reducible first | exact HB.out | apply ai_ | apply ag_ | apply ah_) | exact HB.out)) hb); clear HO424; clear HB; have HO424 := n0_; have HO427 := n1_; have HB := n2_; clear n0_ n1_ n2_; (try clear hb); (try clear hb2); (try clear hk); (try clear hi); (try clear ho0); obtain ⟨Ao17, co17, eo17⟩ := Kd.R_slice HO424.out; subst eo17; obtain ⟨Ao18, co18, eo18⟩ := Kd.R_slice HO427.out; subst eo18) | ((with_reducible refine gate_callee (f := 24) rfl ?_); refine goesL_ (some 35) rfl rfl Try.func24 (by kernel_rfl) rfl #[.slice Ao17 t422.length co17, .int .i64 a1, .slice Ao18 t425.length co18] rfl (by (try simp only [List.map_toArray, List.map_cons, List.map_nil]); first | done | rfl | (simp only [List.length_drop, List.length_take]; rfl)) ?_; (with_reducible refine (spec_SubstTerm.calls k _ _ t422 a1 _ _ t425 t428 t429 _ ?side1 ?side2 ?side3 ?side4 A10.out).mono ?_); (case side1 => repeat (first | exact (Kd.R_reads' HO424.out).2.2 | (with_reducible refine Kd.C_alloc ?_ _) | (with_reducible refine Kd.C_drewN ?_ _) | (with_reducible refine Kd.C_drew ?_))); (case side2 => exact (Kd.R_reads' HO424.out).2.1); (case side3 => repeat (first | exact (Kd.R_reads' HO427.out).2.2 | (with_reducible refine Kd.C_alloc ?_ _) | (with_reducible refine Kd.C_drewN ?_ _) | (with_reducible refine Kd.C_drew ?_))); (case side4 => exact (Kd.R_reads' HO427.out).2.1); rintro e w19 ⟨v430, rfl, ho0, hb⟩; refine ⟨_, rfl, ?_⟩; have n0_ := ab_ (Kd.R_elder' (by (with_reducible repeat (first | apply an_ | apply ao_ | apply ap_)); exact HO424.out) (Kd.R_base ho0) hb); have n1_ := ab_ (Kd.R_elder' (by (with_reducible repeat (first | apply an_ | apply ao_ | apply ap_)); exact HO427.out) (Kd.R_base ho0) hb); have n2_ := ab_ (Kd.R_lower (Kd.R_new' (Kd.R_new' ho0 (Kd.R_lt (by (with_reducible repeat (first | apply an_ | apply ao_ | apply ap_)); exact HO424.out))) (Kd.R_lt (by (with_reducible repeat (first | apply an_ | apply ao_ | apply ap_)); exact HO427.out))) (below_size (by repeat (first | (with_reducible first | exact HB.out | apply ai_ | apply ag_ | apply ah_) | exact HB.out)))); have n3_ := ab_ (ar_ (by repeat (first | (with_reducible first | exact HB.out | apply ai_ | apply ag_ | apply ah_) | exact HB.out)) hb); clear HO424; clear HO427; clear HB; have HO424 := n0_; have HO427 := n1_; have HO431 := n2_; have HB := n3_; clear n0_ n1_ n2_ n3_; (try clear hb); (try clear hb2); (try clear hk); (try clear hi); (try clear ho0)) | ((with_reducible refine gate_callee (f := 15) rfl ?_); refine goesL_ (some 39) rfl rfl Try.func15 (by kernel_rfl) rfl #[.slice A0 l0.length c0] rfl (by (try simp only [List.map_toArray, List.map_cons, List.map_nil]); first | done | rfl | (simp only [List.length_drop, List.length_take]; rfl)) ?_; (with_reducible refine (laws_toCellS.calls k _ _ l0 t432 _ ?side1 ?side2 A11.out).mono ?_); (case side1 => repeat (first | exact (Kd.C_below HR0.out HB.out) | (with_reducible refine Kd.C_alloc ?_ _) | (with_reducible refine Kd.C_drewN ?_ _) | (with_reducible refine Kd.C_drew ?_))); (case side2 => exact HC0.out); rintro e w20 ⟨v433, rfl, ho0, hb⟩; refine ⟨_, rfl, ?_⟩; have n0_ := ab_ (Kd.R_elder' (by (with_reducible repeat (first | apply an_ | apply ao_ | apply ap_)); exact HO424.out) (Kd.R_base ho0) hb); have n1_ := ab_ (Kd.R_elder' (by (with_reducible repeat (first | apply an_ | apply ao_ | apply ap_)); exact HO427.out) (Kd.R_base ho0) hb); have n2_ := ab_ (Kd.R_elder' (by (with_reducible repeat (first | apply an_ | apply ao_ | apply ap_)); exact HO431.out) (Kd.R_base ho0) hb); have n3_ := ab_ (Kd.R_lower (Kd.R_new' (Kd.R_new' (Kd.R_new' ho0 (Kd.R_lt (by (with_reducible repeat (first | apply an_ | apply ao_ | apply ap_)); exact HO424.out))) (Kd.R_lt (by (with_reducible repeat (first | apply an_ | apply ao_ | apply ap_)); exact HO427.out))) (Kd.R_lt (by (with_reducible repeat (first | apply an_ | apply ao_ | apply ap_)); exact HO431.out))) (below_size (by repeat (first | (with_reducible first | exact HB.out | apply ai_ | apply ag_ | apply ah_) | exact HB.out)))); have n4_ := ab_ (ar_ (by repeat (first | (with_reducible first | exact HB.out | apply ai_ | apply ag_ | apply ah_) | exact HB.out)) hb); clear HO424; clear HO427; clear HO431; clear HB; have HO424 := n0_; have HO427 := n1_; have HO431 := n2_; have HO434 := n3_; have HB := n4_; clear n0_ n1_ n2_ n3_ n4_; (try clear hb); (try clear hb2); (try clear hk); (try clear hi); (try clear ho0)) | ((with_reducible refine gate_callee (f := 15) rfl ?_); refine goesL_ (some 41) rfl rfl Try.func15 (by kernel_rfl) rfl #[.slice A2 l2.length c2] rfl (by (try simp only [List.map_toArray, List.map_cons, List.map_nil]); first | done | rfl | (simp only [List.length_drop, List.length_take]; rfl)) ?_; (with_reducible refine (laws_toCellS.calls k _ _ l2 t435 _ ?side1 ?side2 A12.out).mono ?_); (case side1 => repeat (first | exact (Kd.C_below HR2.out HB.out) | (with_reducible refine Kd.C_alloc ?_ _) | (with_reducible refine Kd.C_drewN ?_ _) | (with_reducible refine Kd.C_drew ?_))); (case side2 => exact HC2.out); rintro e w21 ⟨v436, rfl, ho0, hb⟩; refine ⟨_, rfl, ?_⟩; have n0_ := ab_ (Kd.R_elder' (by (with_reducible repeat (first | apply an_ | apply ao_ | apply ap_)); exact HO424.out) (Kd.R_base ho0) hb); have n1_ := ab_ (Kd.R_elder' (by (with_reducible repeat (first | apply an_ | apply ao_ | apply ap_)); exact HO427.out) (Kd.R_base ho0) hb); have n2_ := ab_ (Kd.R_elder' (by (with_reducible repeat (first | apply an_ | apply ao_ | apply ap_)); exact HO431.out) (Kd.R_base ho0) hb); have n3_ := ab_ (Kd.R_elder' (by (with_reducible repeat (first | apply an_ | apply ao_ | apply ap_)); exact HO434.out) (Kd.R_base ho0) hb); have n4_ := ab_ (Kd.R_lower (Kd.R_new' (Kd.R_new' (Kd.R_new' (Kd.R_new' ho0 (Kd.R_lt (by (with_reducible repeat (first | apply an_ | apply ao_ | apply ap_)); exact HO424.out))) (Kd.R_lt (by (with_reducible repeat (first | apply an_ | apply ao_ | apply ap_)); exact HO427.out))) (Kd.R_lt (by (with_reducible repeat (first | apply an_ | apply ao_ | apply ap_)); exact HO431.out))) (Kd.R_lt (by (with_reducible repeat (first | apply an_ | apply ao_ | apply ap_)); exact HO434.out))) (below_size (by repeat (first | (with_reducible first | exact HB.out | apply ai_ | apply ag_ | apply ah_) | exact HB.out)))); have n5_ := ab_ (ar_ (by repeat (first | (with_reducible first | exact HB.out | apply ai_ | apply ag_ | apply ah_) | exact HB.out)) hb); clear HO424; clear HO427; clear HO431; clear HO434; clear HB; have HO424 := n0_; have HO427 := n1_; have HO431 := n2_; have HO434 := n3_; have HO437 := n4_; have HB := n5_; clear n0_ n1_ n2_ n3_ n4_ n5_; (try clear hb); (try clear hb2); (try clear hk); (try clear hi); (try clear ho0); obtain ⟨Ao22, co22, eo22⟩ := Kd.R_slice HO434.out; subst eo22; obtain ⟨Ao23, co23, eo23⟩ := Kd.R_slice HO437.out; subst eo23) | ((with_reducible refine gate_callee (f := 25) rfl ?_); refine goesL_ (some 46) rfl rfl Try.func25 (by kernel_rfl) rfl #[.slice Ao22 t432.length co22, .int .i64 a1, .slice Ao23 t435.length co23] rfl (by (try simp only [List.map_toArray, List.map_cons, List.map_nil]); first | done | rfl | (simp only [List.length_drop, List.length_take]; rfl)) ?_; (with_reducible refine (impl_SubstTerm.calls k _ _ t432 a1 _ _ t435 t438 t439 _ ?side1 ?side2 ?side3 ?side4 A13.out).mono ?_); (case side1 => repeat (first | exact (Kd.R_reads' HO434.out).2.2 | (with_reducible refine Kd.C_alloc ?_ _) | (with_reducible refine Kd.C_drewN ?_ _) | (with_reducible refine Kd.C_drew ?_))); (case side2 => exact (Kd.R_reads' HO434.out).2.1); (case side3 => repeat (first | exact (Kd.R_reads' HO437.out).2.2 | (with_reducible refine Kd.C_alloc ?_ _) | (with_reducible refine Kd.C_drewN ?_ _) | (with_reducible refine Kd.C_drew ?_))); (case side4 => exact (Kd.R_reads' HO437.out).2.1); rintro e w24 ⟨v440, rfl, ho0, hb⟩; refine ⟨_, rfl, ?_⟩; have n0_ := ab_ (Kd.R_elder' (by (with_reducible repeat (first | apply an_ | apply ao_ | apply ap_)); exact HO424.out) (Kd.R_base ho0) hb); have n1_ := ab_ (Kd.R_elder' (by (with_reducible repeat (first | apply an_ | apply ao_ | apply ap_)); exact HO427.out) (Kd.R_base ho0) hb); have n2_ := ab_ (Kd.R_elder' (by (with_reducible repeat (first | apply an_ | apply ao_ | apply ap_)); exact HO431.out) (Kd.R_base ho0) hb); have n3_ := ab_ (Kd.R_elder' (by (with_reducible repeat (first | apply an_ | apply ao_ | apply ap_)); exact HO434.out) (Kd.R_base ho0) hb); have n4_ := ab_ (Kd.R_elder' (by (with_reducible repeat (first | apply an_ | apply ao_ | apply ap_)); exact HO437.out) (Kd.R_base ho0) hb); have n5_ := ab_ (Kd.R_lower (Kd.R_new' (Kd.R_new' (Kd.R_new' (Kd.R_new' (Kd.R_new' ho0 (Kd.R_lt (by (with_reducible repeat (first | apply an_ | apply ao_ | apply ap_)); exact HO424.out))) (Kd.R_lt (by (with_reducible repeat (first | apply an_ | apply ao_ | apply ap_)); exact HO427.out))) (Kd.R_lt (by (with_reducible repeat (first | apply an_ | apply ao_ | apply ap_)); exact HO431.out))) (Kd.R_lt (by (with_reducible repeat (first | apply an_ | apply ao_ | apply ap_)); exact HO434.out))) (Kd.R_lt (by (with_reducible repeat (first | apply an_ | apply ao_ | apply ap_)); exact HO437.out))) (below_size (by repeat (first | (with_reducible first | exact HB.out | apply ai_ | apply ag_ | apply ah_) | exact HB.out)))); have n6_ := ab_ (ar_ (by repeat (first | (with_reducible first | exact HB.out | apply ai_ | apply ag_ | apply ah_) | exact HB.out)) hb); clear HO424; clear HO427; clear HO431; clear HO434; clear HO437; clear HB; have HO424 := n0_; have HO427 := n1_; have HO431 := n2_; have HO434 := n3_; have HO437 := n4_; have HO441 := n5_; have HB := n6_; clear n0_ n1_ n2_ n3_ n4_ n5_ n6_; (try clear hb); (try clear hb2); (try clear hk); (try clear hi); (try clear ho0)))
      (try simp only [Act.put, List.setIfInBounds_toArray, List.set_cons_zero, List.set_cons_succ])
      go_cut [57] (fun v57 wc => ∃ (kq : Nat) (x57_13 : Bool), v57 = .bool x57_13 ∧ Aside0 (laws_FnExactSubstTerm.j0 kq l0 a1 l2 t428 t429 t432 t435 t438 t439 x57_13 = some true) ∧ Aside0 (kq ≤ k) ∧ Aside0 (Kd.R k66 66 wc w.heap.size (fun k_ => some k_ ≠ ((.slice Ao22 t432.length co22) : Value).ownBlock ∧ some k_ ≠ ((.slice Ao23 t435.length co23) : Value).ownBlock ∧ some k_ ≠ (v440 : Value).ownBlock) v430 t428) ∧ Aside0 (Kd.R k66 66 wc w.heap.size (fun k_ => some k_ ≠ (v430 : Value).ownBlock ∧ some k_ ≠ ((.slice Ao23 t435.length co23) : Value).ownBlock ∧ some k_ ≠ (v440 : Value).ownBlock) (.slice Ao22 t432.length co22) t432) ∧ Aside0 (Kd.R k66 66 wc w.heap.size (fun k_ => some k_ ≠ (v430 : Value).ownBlock ∧ some k_ ≠ ((.slice Ao22 t432.length co22) : Value).ownBlock ∧ some k_ ≠ (v440 : Value).ownBlock) (.slice Ao23 t435.length co23) t435) ∧ Aside0 (Kd.R k66 66 wc w.heap.size (fun k_ => some k_ ≠ (v430 : Value).ownBlock ∧ some k_ ≠ ((.slice Ao22 t432.length co22) : Value).ownBlock ∧ some k_ ≠ ((.slice Ao23 t435.length co23) : Value).ownBlock) v440 t438) ∧ Aside0 (Below w.heap.size w wc))
      case first =>
        have H := HC14.out
        clear HC14
        replace H := Option.bind_eq_some_iff.mp H
        obtain ⟨t442, A250, H⟩ := H
        replace H : (if t442 = true then (laws_FnExactSubstTerm.j0 k l0 a1 l2 t428 t429 t432 t435 t438 t439 (t439 != t429)) else (laws_FnExactSubstTerm.j0 k l0 a1 l2 t428 t429 t432 t435 t438 t439 true)) = some true := H
        have A25 := ab_ A250
        clear A250
        by_cases c26 : t442 = true
        · subst c26
          have H1 : (laws_FnExactSubstTerm.j0 k l0 a1 l2 t428 t429 t432 t435 t438 t439 (t439 != t429)) = some true := by rw [if_pos rfl] at H; first | done | exact H
          clear H
          have H := H1
          clear H1
          have H' := ab_ H
          clear H
          obtain ⟨Ao27, co27, eo27⟩ := Kd.R_slice HO441.out
          subst eo27
          obtain ⟨Ao28, co28, eo28⟩ := Kd.R_slice HO431.out
          subst eo28
          go_wp2_with (first | ((with_reducible refine gate_callee (f := 17) rfl ?_); refine goesL_ (some 51) rfl rfl Try.func17 (by kernel_rfl) rfl #[.slice Ao27 t438.length co27, .slice Ao28 t428.length co28] rfl (by (try simp only [List.map_toArray, List.map_cons, List.map_nil]); first | done | rfl | (simp only [List.length_drop, List.length_take]; rfl)) ?_; (with_reducible refine (laws_eqCellS.calls k _ _ t438 _ _ t428 true _ ?side1 ?side2 ?side3 ?side4 A25.out).mono ?_); (case side1 => repeat (first | exact (Kd.R_reads' HO441.out).2.2 | (with_reducible refine Kd.C_alloc ?_ _) | (with_reducible refine Kd.C_drewN ?_ _) | (with_reducible refine Kd.C_drew ?_))); (case side2 => exact (Kd.R_reads' HO441.out).2.1); (case side3 => repeat (first | exact (Kd.R_reads' HO431.out).2.2 | (with_reducible refine Kd.C_alloc ?_ _) | (with_reducible refine Kd.C_drewN ?_ _) | (with_reducible refine Kd.C_drew ?_))); (case side4 => exact (Kd.R_reads' HO431.out).2.1); rintro e w29 ⟨rfl, hb⟩; refine ⟨_, rfl, ?_⟩; have n0_ := ab_ (Kd.R_below (by (with_reducible repeat (first | apply an_ | apply ao_ | apply ap_)); exact HO424.out) hb); have n1_ := ab_ (Kd.R_below (by (with_reducible repeat (first | apply an_ | apply ao_ | apply ap_)); exact HO427.out) hb); have n2_ := ab_ (Kd.R_below (by (with_reducible repeat (first | apply an_ | apply ao_ | apply ap_)); exact HO431.out) hb); have n3_ := ab_ (Kd.R_below (by (with_reducible repeat (first | apply an_ | apply ao_ | apply ap_)); exact HO434.out) hb); have n4_ := ab_ (Kd.R_below (by (with_reducible repeat (first | apply an_ | apply ao_ | apply ap_)); exact HO437.out) hb); have n5_ := ab_ (Kd.R_below (by (with_reducible repeat (first | apply an_ | apply ao_ | apply ap_)); exact HO441.out) hb); have n6_ := ab_ (ar_ (by repeat (first | (with_reducible first | exact HB.out | apply ai_ | apply ag_ | apply ah_) | exact HB.out)) hb); clear HO424; clear HO427; clear HO431; clear HO434; clear HO437; clear HO441; clear HB; have HO424 := n0_; have HO427 := n1_; have HO431 := n2_; have HO434 := n3_; have HO437 := n4_; have HO441 := n5_; have HB := n6_; clear n0_ n1_ n2_ n3_ n4_ n5_ n6_; (try clear hb); (try clear hb2); (try clear hk); (try clear hi)))
          go_meet
          case rel => exact ⟨_, ((t439 != t429)), (by first | rfl | (simp; done) | (simp [*]; done)), H', ⟨by first | omega | exact Nat.le_refl _⟩, ⟨by (with_reducible repeat (first | apply an_ | apply ao_ | apply ap_)); exact Kd.R_mono HO431.out (fun _ hk => ⟨hk.1.1.2, ⟨hk.1.2, hk.2⟩⟩)⟩, ⟨by (with_reducible repeat (first | apply an_ | apply ao_ | apply ap_)); exact Kd.R_mono HO434.out (fun _ hk => ⟨hk.1.1.2, ⟨hk.1.2, hk.2⟩⟩)⟩, ⟨by (with_reducible repeat (first | apply an_ | apply ao_ | apply ap_)); exact Kd.R_mono HO437.out (fun _ hk => ⟨hk.1.1.2, ⟨hk.1.2, hk.2⟩⟩)⟩, ⟨by (with_reducible repeat (first | apply an_ | apply ao_ | apply ap_)); exact Kd.R_mono HO441.out (fun _ hk => ⟨hk.1.1.2, ⟨hk.1.2, hk.2⟩⟩)⟩, ⟨by repeat (first | (with_reducible first | exact HB.out | apply ai_ | apply ag_ | apply ah_) | exact HB.out)⟩⟩
        · replace c26 := Bool.eq_false_iff.mpr c26
          subst c26
          have H1 : (laws_FnExactSubstTerm.j0 k l0 a1 l2 t428 t429 t432 t435 t438 t439 true) = some true := by rw [if_neg (show ¬ (false = true) by decide)] at H; first | done | exact H
          clear H
          have H := H1
          clear H1
          have H' := ab_ H
          clear H
          obtain ⟨Ao30, co30, eo30⟩ := Kd.R_slice HO441.out
          subst eo30
          obtain ⟨Ao31, co31, eo31⟩ := Kd.R_slice HO431.out
          subst eo31
          go_wp2_with (first | ((with_reducible refine gate_callee (f := 17) rfl ?_); refine goesL_ (some 51) rfl rfl Try.func17 (by kernel_rfl) rfl #[.slice Ao30 t438.length co30, .slice Ao31 t428.length co31] rfl (by (try simp only [List.map_toArray, List.map_cons, List.map_nil]); first | done | rfl | (simp only [List.length_drop, List.length_take]; rfl)) ?_; (with_reducible refine (laws_eqCellS.calls k _ _ t438 _ _ t428 false _ ?side1 ?side2 ?side3 ?side4 A25.out).mono ?_); (case side1 => repeat (first | exact (Kd.R_reads' HO441.out).2.2 | (with_reducible refine Kd.C_alloc ?_ _) | (with_reducible refine Kd.C_drewN ?_ _) | (with_reducible refine Kd.C_drew ?_))); (case side2 => exact (Kd.R_reads' HO441.out).2.1); (case side3 => repeat (first | exact (Kd.R_reads' HO431.out).2.2 | (with_reducible refine Kd.C_alloc ?_ _) | (with_reducible refine Kd.C_drewN ?_ _) | (with_reducible refine Kd.C_drew ?_))); (case side4 => exact (Kd.R_reads' HO431.out).2.1); rintro e w32 ⟨rfl, hb⟩; refine ⟨_, rfl, ?_⟩; have n0_ := ab_ (Kd.R_below (by (with_reducible repeat (first | apply an_ | apply ao_ | apply ap_)); exact HO424.out) hb); have n1_ := ab_ (Kd.R_below (by (with_reducible repeat (first | apply an_ | apply ao_ | apply ap_)); exact HO427.out) hb); have n2_ := ab_ (Kd.R_below (by (with_reducible repeat (first | apply an_ | apply ao_ | apply ap_)); exact HO431.out) hb); have n3_ := ab_ (Kd.R_below (by (with_reducible repeat (first | apply an_ | apply ao_ | apply ap_)); exact HO434.out) hb); have n4_ := ab_ (Kd.R_below (by (with_reducible repeat (first | apply an_ | apply ao_ | apply ap_)); exact HO437.out) hb); have n5_ := ab_ (Kd.R_below (by (with_reducible repeat (first | apply an_ | apply ao_ | apply ap_)); exact HO441.out) hb); have n6_ := ab_ (ar_ (by repeat (first | (with_reducible first | exact HB.out | apply ai_ | apply ag_ | apply ah_) | exact HB.out)) hb); clear HO424; clear HO427; clear HO431; clear HO434; clear HO437; clear HO441; clear HB; have HO424 := n0_; have HO427 := n1_; have HO431 := n2_; have HO434 := n3_; have HO437 := n4_; have HO441 := n5_; have HB := n6_; clear n0_ n1_ n2_ n3_ n4_ n5_ n6_; (try clear hb); (try clear hb2); (try clear hk); (try clear hi)))
          go_meet
          case rel => exact ⟨_, (true), (by first | rfl | (simp; done) | (simp [*]; done)), H', ⟨by first | omega | exact Nat.le_refl _⟩, ⟨by (with_reducible repeat (first | apply an_ | apply ao_ | apply ap_)); exact Kd.R_mono HO431.out (fun _ hk => ⟨hk.1.1.2, ⟨hk.1.2, hk.2⟩⟩)⟩, ⟨by (with_reducible repeat (first | apply an_ | apply ao_ | apply ap_)); exact Kd.R_mono HO434.out (fun _ hk => ⟨hk.1.1.2, ⟨hk.1.2, hk.2⟩⟩)⟩, ⟨by (with_reducible repeat (first | apply an_ | apply ao_ | apply ap_)); exact Kd.R_mono HO437.out (fun _ hk => ⟨hk.1.1.2, ⟨hk.1.2, hk.2⟩⟩)⟩, ⟨by (with_reducible repeat (first | apply an_ | apply ao_ | apply ap_)); exact Kd.R_mono HO441.out (fun _ hk => ⟨hk.1.1.2, ⟨hk.1.2, hk.2⟩⟩)⟩, ⟨by repeat (first | (with_reducible first | exact HB.out | apply ai_ | apply ag_ | apply ah_) | exact HB.out)⟩⟩
      case rest =>
        clear HC14
        try clear c1
        try clear c2
        try clear p2
        try clear c5
        try clear c5b0
        try clear c7
        try clear c7b0
        try clear c13
        try clear c15
        try clear c17
        try clear c24
        try clear c25
        try clear c26
        obtain ⟨kq, x57_13, rfl, HA, HJ13, HO_8, HO_10, HO_11, HO_12, HB⟩ := hcut
        cases kq with
        | zero => exact absurd HA.out (by simp [laws_FnExactSubstTerm.j0])
        | succ kj13 =>
          have H := HA.out
          clear HA
          simp only [laws_FnExactSubstTerm.j0] at H
          by_cases c33 : x57_13 = true
          · subst c33
            have H1 : (some false) = some true := by rw [if_pos rfl] at H; first | done | exact H
            clear H
            have H := H1
            clear H1
            exact absurd H (by simp)
          · replace c33 := Bool.eq_false_iff.mpr c33
            subst c33
            have H1 : ((laws_toCellS.f kj13 l0).bind fun t443 => ((laws_eqCellS.f kj13 t432 t443).bind fun t446 => (if t446 = true then ((laws_toCellS.f kj13 l2).bind fun t447 => ((laws_eqCellS.f kj13 t435 t447).bind fun t450 => (if t450 = true then ((laws_markCellS.f kj13 t432 1).bind fun bt451 => ((laws_markCellS.f kj13 t435 bt451.1).bind fun bt453 => (if bt453.1 < 0 then (laws_FnExactSubstTerm.j1 kj13 l0 a1 l2 t428 t429 t438 true) else ((laws_eqCellS.f kj13 t438 t428).bind fun t455 => (if t455 = true then (laws_FnExactSubstTerm.j1 kj13 l0 a1 l2 t428 t429 t438 (t439 != t429)) else (laws_FnExactSubstTerm.j1 kj13 l0 a1 l2 t428 t429 t438 true)))))) else (some false)))) else (some false)))) = some true := by rw [if_neg (show ¬ (false = true) by decide)] at H; first | done | exact H
            clear H
            have H := H1
            clear H1
            replace H := Option.bind_eq_some_iff.mp H
            obtain ⟨t443, A340, H⟩ := H
            replace H : ((laws_eqCellS.f kj13 t432 t443).bind fun t446 => (if t446 = true then ((laws_toCellS.f kj13 l2).bind fun t447 => ((laws_eqCellS.f kj13 t435 t447).bind fun t450 => (if t450 = true then ((laws_markCellS.f kj13 t432 1).bind fun bt451 => ((laws_markCellS.f kj13 t435 bt451.1).bind fun bt453 => (if bt453.1 < 0 then (laws_FnExactSubstTerm.j1 kj13 l0 a1 l2 t428 t429 t438 true) else ((laws_eqCellS.f kj13 t438 t428).bind fun t455 => (if t455 = true then (laws_FnExactSubstTerm.j1 kj13 l0 a1 l2 t428 t429 t438 (t439 != t429)) else (laws_FnExactSubstTerm.j1 kj13 l0 a1 l2 t428 t429 t438 true)))))) else (some false)))) else (some false))) = some true := H
            have A34 := ab_ A340
            clear A340
            replace H := Option.bind_eq_some_iff.mp H
            obtain ⟨t446, A350, H⟩ := H
            replace H : (if t446 = true then ((laws_toCellS.f kj13 l2).bind fun t447 => ((laws_eqCellS.f kj13 t435 t447).bind fun t450 => (if t450 = true then ((laws_markCellS.f kj13 t432 1).bind fun bt451 => ((laws_markCellS.f kj13 t435 bt451.1).bind fun bt453 => (if bt453.1 < 0 then (laws_FnExactSubstTerm.j1 kj13 l0 a1 l2 t428 t429 t438 true) else ((laws_eqCellS.f kj13 t438 t428).bind fun t455 => (if t455 = true then (laws_FnExactSubstTerm.j1 kj13 l0 a1 l2 t428 t429 t438 (t439 != t429)) else (laws_FnExactSubstTerm.j1 kj13 l0 a1 l2 t428 t429 t438 true)))))) else (some false)))) else (some false)) = some true := H
            have A35 := ab_ A350
            clear A350
            by_cases c36 : t446 = true
            · subst c36
              have H1 : ((laws_toCellS.f kj13 l2).bind fun t447 => ((laws_eqCellS.f kj13 t435 t447).bind fun t450 => (if t450 = true then ((laws_markCellS.f kj13 t432 1).bind fun bt451 => ((laws_markCellS.f kj13 t435 bt451.1).bind fun bt453 => (if bt453.1 < 0 then (laws_FnExactSubstTerm.j1 kj13 l0 a1 l2 t428 t429 t438 true) else ((laws_eqCellS.f kj13 t438 t428).bind fun t455 => (if t455 = true then (laws_FnExactSubstTerm.j1 kj13 l0 a1 l2 t428 t429 t438 (t439 != t429)) else (laws_FnExactSubstTerm.j1 kj13 l0 a1 l2 t428 t429 t438 true)))))) else (some false)))) = some true := by rw [if_pos rfl] at H; first | done | exact H
              clear H
              have H := H1
              clear H1
              replace H := Option.bind_eq_some_iff.mp H
              obtain ⟨t447, A370, H⟩ := H
              replace H : ((laws_eqCellS.f kj13 t435 t447).bind fun t450 => (if t450 = true then ((laws_markCellS.f kj13 t432 1).bind fun bt451 => ((laws_markCellS.f kj13 t435 bt451.1).bind fun bt453 => (if bt453.1 < 0 then (laws_FnExactSubstTerm.j1 kj13 l0 a1 l2 t428 t429 t438 true) else ((laws_eqCellS.f kj13 t438 t428).bind fun t455 => (if t455 = true then (laws_FnExactSubstTerm.j1 kj13 l0 a1 l2 t428 t429 t438 (t439 != t429)) else (laws_FnExactSubstTerm.j1 kj13 l0 a1 l2 t428 t429 t438 true)))))) else (some false))) = some true := H
              have A37 := ab_ A370
              clear A370
              replace H := Option.bind_eq_some_iff.mp H
              obtain ⟨t450, A380, H⟩ := H
              replace H : (if t450 = true then ((laws_markCellS.f kj13 t432 1).bind fun bt451 => ((laws_markCellS.f kj13 t435 bt451.1).bind fun bt453 => (if bt453.1 < 0 then (laws_FnExactSubstTerm.j1 kj13 l0 a1 l2 t428 t429 t438 true) else ((laws_eqCellS.f kj13 t438 t428).bind fun t455 => (if t455 = true then (laws_FnExactSubstTerm.j1 kj13 l0 a1 l2 t428 t429 t438 (t439 != t429)) else (laws_FnExactSubstTerm.j1 kj13 l0 a1 l2 t428 t429 t438 true)))))) else (some false)) = some true := H
              have A38 := ab_ A380
              clear A380
              by_cases c39 : t450 = true
              · subst c39
                have H1 : ((laws_markCellS.f kj13 t432 1).bind fun bt451 => ((laws_markCellS.f kj13 t435 bt451.1).bind fun bt453 => (if bt453.1 < 0 then (laws_FnExactSubstTerm.j1 kj13 l0 a1 l2 t428 t429 t438 true) else ((laws_eqCellS.f kj13 t438 t428).bind fun t455 => (if t455 = true then (laws_FnExactSubstTerm.j1 kj13 l0 a1 l2 t428 t429 t438 (t439 != t429)) else (laws_FnExactSubstTerm.j1 kj13 l0 a1 l2 t428 t429 t438 true)))))) = some true := by rw [if_pos rfl] at H; first | done | exact H
                clear H
                have H := H1
                clear H1
                replace H := Option.bind_eq_some_iff.mp H
                obtain ⟨⟨t451, t452⟩, A400, H⟩ := H
                replace H : ((laws_markCellS.f kj13 t435 t451).bind fun bt453 => (if bt453.1 < 0 then (laws_FnExactSubstTerm.j1 kj13 l0 a1 l2 t428 t429 t438 true) else ((laws_eqCellS.f kj13 t438 t428).bind fun t455 => (if t455 = true then (laws_FnExactSubstTerm.j1 kj13 l0 a1 l2 t428 t429 t438 (t439 != t429)) else (laws_FnExactSubstTerm.j1 kj13 l0 a1 l2 t428 t429 t438 true))))) = some true := H
                have A40 := ab_ A400
                clear A400
                replace H := Option.bind_eq_some_iff.mp H
                obtain ⟨⟨t453, t454⟩, A410, H⟩ := H
                replace H : (if t453 < 0 then (laws_FnExactSubstTerm.j1 kj13 l0 a1 l2 t428 t429 t438 true) else ((laws_eqCellS.f kj13 t438 t428).bind fun t455 => (if t455 = true then (laws_FnExactSubstTerm.j1 kj13 l0 a1 l2 t428 t429 t438 (t439 != t429)) else (laws_FnExactSubstTerm.j1 kj13 l0 a1 l2 t428 t429 t438 true)))) = some true := H
                have A41 := ab_ A410
                clear A410
                have HC42 := ab_ H
                clear H
                go_upto_region 21 with (first | ((with_reducible refine gate_callee (f := 15) rfl ?_); refine goesL_ (some 60) rfl rfl Try.func15 (by kernel_rfl) rfl #[.slice A0 l0.length c0] rfl (by (try simp only [List.map_toArray, List.map_cons, List.map_nil]); first | done | rfl | (simp only [List.length_drop, List.length_take]; rfl)) ?_; (with_reducible refine (laws_toCellS.calls kj13 _ _ l0 t443 _ ?side1 ?side2 A34.out).mono ?_); (case side1 => repeat (first | exact (Kd.C_below HR0.out HB.out) | (with_reducible refine Kd.C_alloc ?_ _) | (with_reducible refine Kd.C_drewN ?_ _) | (with_reducible refine Kd.C_drew ?_))); (case side2 => exact HC0.out); rintro e w43 ⟨v444, rfl, ho0, hb⟩; refine ⟨_, rfl, ?_⟩; have n0_ := ab_ (Kd.R_elder' (by (with_reducible repeat (first | apply an_ | apply ao_ | apply ap_)); exact HO_8.out) (Kd.R_base ho0) hb); have n1_ := ab_ (Kd.R_elder' (by (with_reducible repeat (first | apply an_ | apply ao_ | apply ap_)); exact HO_10.out) (Kd.R_base ho0) hb); have n2_ := ab_ (Kd.R_elder' (by (with_reducible repeat (first | apply an_ | apply ao_ | apply ap_)); exact HO_11.out) (Kd.R_base ho0) hb); have n3_ := ab_ (Kd.R_elder' (by (with_reducible repeat (first | apply an_ | apply ao_ | apply ap_)); exact HO_12.out) (Kd.R_base ho0) hb); have n4_ := ab_ (Kd.R_lower (Kd.R_new' (Kd.R_new' (Kd.R_new' (Kd.R_new' ho0 (Kd.R_lt (by (with_reducible repeat (first | apply an_ | apply ao_ | apply ap_)); exact HO_8.out))) (Kd.R_lt (by (with_reducible repeat (first | apply an_ | apply ao_ | apply ap_)); exact HO_10.out))) (Kd.R_lt (by (with_reducible repeat (first | apply an_ | apply ao_ | apply ap_)); exact HO_11.out))) (Kd.R_lt (by (with_reducible repeat (first | apply an_ | apply ao_ | apply ap_)); exact HO_12.out))) (below_size (by repeat (first | (with_reducible first | exact HB.out | apply ai_ | apply ag_ | apply ah_) | exact HB.out)))); have n5_ := ab_ (ar_ (by repeat (first | (with_reducible first | exact HB.out | apply ai_ | apply ag_ | apply ah_) | exact HB.out)) hb); clear HO_8; clear HO_10; clear HO_11; clear HO_12; clear HB; have HO_8 := n0_; have HO_10 := n1_; have HO_11 := n2_; have HO_12 := n3_; have HO445 := n4_; have HB := n5_; clear n0_ n1_ n2_ n3_ n4_ n5_; (try clear hb); (try clear hb2); (try clear hk); (try clear hi); (try clear ho0); obtain ⟨Ao44, co44, eo44⟩ := Kd.R_slice HO445.out; subst eo44) | ((with_reducible refine gate_callee (f := 17) rfl ?_); refine goesL_ (some 61) rfl rfl Try.func17 (by kernel_rfl) rfl #[.slice Ao22 t432.length co22, .slice Ao44 t443.length co44] rfl (by (try simp only [List.map_toArray, List.map_cons, List.map_nil]); first | done | rfl | (simp only [List.length_drop, List.length_take]; rfl)) ?_; (with_reducible refine (laws_eqCellS.calls kj13 _ _ t432 _ _ t443 true _ ?side1 ?side2 ?side3 ?side4 A35.out).mono ?_); (case side1 => repeat (first | exact (Kd.R_reads' HO_10.out).2.2 | (with_reducible refine Kd.C_alloc ?_ _) | (with_reducible refine Kd.C_drewN ?_ _) | (with_reducible refine Kd.C_drew ?_))); (case side2 => exact (Kd.R_reads' HO_10.out).2.1); (case side3 => repeat (first | exact (Kd.R_reads' HO445.out).2.2 | (with_reducible refine Kd.C_alloc ?_ _) | (with_reducible refine Kd.C_drewN ?_ _) | (with_reducible refine Kd.C_drew ?_))); (case side4 => exact (Kd.R_reads' HO445.out).2.1); rintro e w45 ⟨rfl, hb⟩; refine ⟨_, rfl, ?_⟩; have n0_ := ab_ (Kd.R_below (by (with_reducible repeat (first | apply an_ | apply ao_ | apply ap_)); exact HO_8.out) hb); have n1_ := ab_ (Kd.R_below (by (with_reducible repeat (first | apply an_ | apply ao_ | apply ap_)); exact HO_10.out) hb); have n2_ := ab_ (Kd.R_below (by (with_reducible repeat (first | apply an_ | apply ao_ | apply ap_)); exact HO_11.out) hb); have n3_ := ab_ (Kd.R_below (by (with_reducible repeat (first | apply an_ | apply ao_ | apply ap_)); exact HO_12.out) hb); have n4_ := ab_ (Kd.R_below (by (with_reducible repeat (first | apply an_ | apply ao_ | apply ap_)); exact HO445.out) hb); have n5_ := ab_ (ar_ (by repeat (first | (with_reducible first | exact HB.out | apply ai_ | apply ag_ | apply ah_) | exact HB.out)) hb); clear HO_8; clear HO_10; clear HO_11; clear HO_12; clear HO445; clear HB; have HO_8 := n0_; have HO_10 := n1_; have HO_11 := n2_; have HO_12 := n3_; have HO445 := n4_; have HB := n5_; clear n0_ n1_ n2_ n3_ n4_ n5_; (try clear hb); (try clear hb2); (try clear hk); (try clear hi)) | ((with_reducible refine gate_callee (f := 15) rfl ?_); refine goesL_ (some 65) rfl rfl Try.func15 (by kernel_rfl) rfl #[.slice A2 l2.length c2] rfl (by (try simp only [List.map_toArray, List.map_cons, List.map_nil]); first | done | rfl | (simp only [List.length_drop, List.length_take]; rfl)) ?_; (with_reducible refine (laws_toCellS.calls kj13 _ _ l2 t447 _ ?side1 ?side2 A37.out).mono ?_); (case side1 => repeat (first | exact (Kd.C_below HR2.out HB.out) | (with_reducible refine Kd.C_alloc ?_ _) | (with_reducible refine Kd.C_drewN ?_ _) | (with_reducible refine Kd.C_drew ?_))); (case side2 => exact HC2.out); rintro e w46 ⟨v448, rfl, ho0, hb⟩; refine ⟨_, rfl, ?_⟩; have n0_ := ab_ (Kd.R_elder' (by (with_reducible repeat (first | apply an_ | apply ao_ | apply ap_)); exact HO_8.out) (Kd.R_base ho0) hb); have n1_ := ab_ (Kd.R_elder' (by (with_reducible repeat (first | apply an_ | apply ao_ | apply ap_)); exact HO_10.out) (Kd.R_base ho0) hb); have n2_ := ab_ (Kd.R_elder' (by (with_reducible repeat (first | apply an_ | apply ao_ | apply ap_)); exact HO_11.out) (Kd.R_base ho0) hb); have n3_ := ab_ (Kd.R_elder' (by (with_reducible repeat (first | apply an_ | apply ao_ | apply ap_)); exact HO_12.out) (Kd.R_base ho0) hb); have n4_ := ab_ (Kd.R_elder' (by (with_reducible repeat (first | apply an_ | apply ao_ | apply ap_)); exact HO445.out) (Kd.R_base ho0) hb); have n5_ := ab_ (Kd.R_lower (Kd.R_new' (Kd.R_new' (Kd.R_new' (Kd.R_new' (Kd.R_new' ho0 (Kd.R_lt (by (with_reducible repeat (first | apply an_ | apply ao_ | apply ap_)); exact HO_8.out))) (Kd.R_lt (by (with_reducible repeat (first | apply an_ | apply ao_ | apply ap_)); exact HO_10.out))) (Kd.R_lt (by (with_reducible repeat (first | apply an_ | apply ao_ | apply ap_)); exact HO_11.out))) (Kd.R_lt (by (with_reducible repeat (first | apply an_ | apply ao_ | apply ap_)); exact HO_12.out))) (Kd.R_lt (by (with_reducible repeat (first | apply an_ | apply ao_ | apply ap_)); exact HO445.out))) (below_size (by repeat (first | (with_reducible first | exact HB.out | apply ai_ | apply ag_ | apply ah_) | exact HB.out)))); have n6_ := ab_ (ar_ (by repeat (first | (with_reducible first | exact HB.out | apply ai_ | apply ag_ | apply ah_) | exact HB.out)) hb); clear HO_8; clear HO_10; clear HO_11; clear HO_12; clear HO445; clear HB; have HO_8 := n0_; have HO_10 := n1_; have HO_11 := n2_; have HO_12 := n3_; have HO445 := n4_; have HO449 := n5_; have HB := n6_; clear n0_ n1_ n2_ n3_ n4_ n5_ n6_; (try clear hb); (try clear hb2); (try clear hk); (try clear hi); (try clear ho0); obtain ⟨Ao47, co47, eo47⟩ := Kd.R_slice HO449.out; subst eo47) | ((with_reducible refine gate_callee (f := 17) rfl ?_); refine goesL_ (some 66) rfl rfl Try.func17 (by kernel_rfl) rfl #[.slice Ao23 t435.length co23, .slice Ao47 t447.length co47] rfl (by (try simp only [List.map_toArray, List.map_cons, List.map_nil]); first | done | rfl | (simp only [List.length_drop, List.length_take]; rfl)) ?_; (with_reducible refine (laws_eqCellS.calls kj13 _ _ t435 _ _ t447 true _ ?side1 ?side2 ?side3 ?side4 A38.out).mono ?_); (case side1 => repeat (first | exact (Kd.R_reads' HO_11.out).2.2 | (with_reducible refine Kd.C_alloc ?_ _) | (with_reducible refine Kd.C_drewN ?_ _) | (with_reducible refine Kd.C_drew ?_))); (case side2 => exact (Kd.R_reads' HO_11.out).2.1); (case side3 => repeat (first | exact (Kd.R_reads' HO449.out).2.2 | (with_reducible refine Kd.C_alloc ?_ _) | (with_reducible refine Kd.C_drewN ?_ _) | (with_reducible refine Kd.C_drew ?_))); (case side4 => exact (Kd.R_reads' HO449.out).2.1); rintro e w48 ⟨rfl, hb⟩; refine ⟨_, rfl, ?_⟩; have n0_ := ab_ (Kd.R_below (by (with_reducible repeat (first | apply an_ | apply ao_ | apply ap_)); exact HO_8.out) hb); have n1_ := ab_ (Kd.R_below (by (with_reducible repeat (first | apply an_ | apply ao_ | apply ap_)); exact HO_10.out) hb); have n2_ := ab_ (Kd.R_below (by (with_reducible repeat (first | apply an_ | apply ao_ | apply ap_)); exact HO_11.out) hb); have n3_ := ab_ (Kd.R_below (by (with_reducible repeat (first | apply an_ | apply ao_ | apply ap_)); exact HO_12.out) hb); have n4_ := ab_ (Kd.R_below (by (with_reducible repeat (first | apply an_ | apply ao_ | apply ap_)); exact HO445.out) hb); have n5_ := ab_ (Kd.R_below (by (with_reducible repeat (first | apply an_ | apply ao_ | apply ap_)); exact HO449.out) hb); have n6_ := ab_ (ar_ (by repeat (first | (with_reducible first | exact HB.out | apply ai_ | apply ag_ | apply ah_) | exact HB.out)) hb); clear HO_8; clear HO_10; clear HO_11; clear HO_12; clear HO445; clear HO449; clear HB; have HO_8 := n0_; have HO_10 := n1_; have HO_11 := n2_; have HO_12 := n3_; have HO445 := n4_; have HO449 := n5_; have HB := n6_; clear n0_ n1_ n2_ n3_ n4_ n5_ n6_; (try clear hb); (try clear hb2); (try clear hk); (try clear hi)) | ((with_reducible refine gate_callee (f := 26) rfl ?_); refine goesL_ (some 70) rfl rfl Try.func26 (by kernel_rfl) rfl #[.slice Ao22 t432.length co22, .int .i64 1] rfl (by (try simp only [List.map_toArray, List.map_cons, List.map_nil]); first | done | rfl | (simp only [List.length_drop, List.length_take]; rfl)) ?_; (with_reducible refine (laws_markCellS.calls kj13 (fun k_ => some k_ = (.slice Ao22 t432.length co22 : Value).ownBlock) (.slice Ao22 t432.length co22) t432 1 t451 t452 w _ ?side1 ?side2 A40.out).mono ?_); (case side1 => repeat (first | (with_reducible first | exact HB.out | apply ai_ | apply ag_ | apply ah_) | exact HB.out)); (case side2 => exact Kd.R_tight rfl HO_10.out); rintro e w49 ⟨rfl, hy0, hb, hkp⟩; refine ⟨_, rfl, ?_⟩; have n0_ := ab_ (Kd.R_mono (ok' := fun k_ => some k_ ≠ (.slice Ao22 t432.length co22 : Value).ownBlock ∧ some k_ ≠ (.slice Ao23 t435.length co23 : Value).ownBlock ∧ some k_ ≠ (v440 : Value).ownBlock ∧ some k_ ≠ (.slice Ao44 t443.length co44 : Value).ownBlock ∧ some k_ ≠ (.slice Ao47 t447.length co47 : Value).ownBlock) (Kd.R_keptB (HO_8.out) hkp (fun k_ hk_ hs_ => (hk_.1.1.1) hs_)) (fun k_ hk_ => ⟨hk_.1.1.1.1, hk_.1.1.1.2.1, hk_.1.1.1.2.2, hk_.1.1.2, hk_.1.2⟩)); have n1_ := ab_ (Kd.R_reok rfl hy0 (fun k_ e_ => HO_10.out.1 k_ e_)); have n2_ := ab_ (Kd.R_mono (ok' := fun k_ => some k_ ≠ (v430 : Value).ownBlock ∧ some k_ ≠ (.slice Ao22 t432.length co22 : Value).ownBlock ∧ some k_ ≠ (v440 : Value).ownBlock ∧ some k_ ≠ (.slice Ao44 t443.length co44 : Value).ownBlock ∧ some k_ ≠ (.slice Ao47 t447.length co47 : Value).ownBlock) (Kd.R_keptB (HO_11.out) hkp (fun k_ hk_ hs_ => (hk_.1.1.2.1) hs_)) (fun k_ hk_ => ⟨hk_.1.1.1.1, hk_.1.1.1.2.1, hk_.1.1.1.2.2, hk_.1.1.2, hk_.1.2⟩)); have n3_ := ab_ (Kd.R_mono (ok' := fun k_ => some k_ ≠ (v430 : Value).ownBlock ∧ some k_ ≠ (.slice Ao22 t432.length co22 : Value).ownBlock ∧ some k_ ≠ (.slice Ao23 t435.length co23 : Value).ownBlock ∧ some k_ ≠ (.slice Ao44 t443.length co44 : Value).ownBlock ∧ some k_ ≠ (.slice Ao47 t447.length co47 : Value).ownBlock) (Kd.R_keptB (HO_12.out) hkp (fun k_ hk_ hs_ => (hk_.1.1.2.1) hs_)) (fun k_ hk_ => ⟨hk_.1.1.1.1, hk_.1.1.1.2.1, hk_.1.1.1.2.2, hk_.1.1.2, hk_.1.2⟩)); have n4_ := ab_ (Kd.R_mono (ok' := fun k_ => some k_ ≠ (v430 : Value).ownBlock ∧ some k_ ≠ (.slice Ao22 t432.length co22 : Value).ownBlock ∧ some k_ ≠ (.slice Ao23 t435.length co23 : Value).ownBlock ∧ some k_ ≠ (v440 : Value).ownBlock ∧ some k_ ≠ (.slice Ao47 t447.length co47 : Value).ownBlock) (Kd.R_keptB (HO445.out) hkp (fun k_ hk_ hs_ => (hk_.1.1.1.2) hs_)) (fun k_ hk_ => ⟨hk_.1.1.1.1.1.2, hk_.1.1.1.1.2, hk_.1.1.1.2, hk_.1.1.2, hk_.1.2⟩)); have n5_ := ab_ (Kd.R_mono (ok' := fun k_ => some k_ ≠ (v430 : Value).ownBlock ∧ some k_ ≠ (.slice Ao22 t432.length co22 : Value).ownBlock ∧ some k_ ≠ (.slice Ao23 t435.length co23 : Value).ownBlock ∧ some k_ ≠ (v440 : Value).ownBlock ∧ some k_ ≠ (.slice Ao44 t443.length co44 : Value).ownBlock) (Kd.R_keptB (HO449.out) hkp (fun k_ hk_ hs_ => (hk_.1.1.1.2) hs_)) (fun k_ hk_ => ⟨hk_.1.1.1.1.1.2, hk_.1.1.1.1.2, hk_.1.1.1.2, hk_.1.1.2, hk_.1.2⟩)); have n6_ := ab_ (hb); clear HO_8; clear HO_10; clear HO_11; clear HO_12; clear HO445; clear HO449; clear HB; have HO_8 := n0_; have HO_10 := n1_; have HO_11 := n2_; have HO_12 := n3_; have HO445 := n4_; have HO449 := n5_; have HB := n6_; clear n0_ n1_ n2_ n3_ n4_ n5_ n6_; (try clear hb); (try clear hkp); (try clear hy0)) | ((with_reducible refine gate_callee (f := 26) rfl ?_); refine goesL_ (some 73) rfl rfl Try.func26 (by kernel_rfl) rfl #[.slice Ao23 t435.length co23, .int .i64 t451] rfl (by (try simp only [List.map_toArray, List.map_cons, List.map_nil]); first | done | rfl | (simp only [List.length_drop, List.length_take]; rfl)) ?_; (with_reducible refine (laws_markCellS.calls kj13 (fun k_ => some k_ = (.slice Ao23 t435.length co23 : Value).ownBlock) (.slice Ao23 t435.length co23) t435 t451 t453 t454 w _ ?side1 ?side2 A41.out).mono ?_); (case side1 => repeat (first | (with_reducible first | exact HB.out | apply ai_ | apply ag_ | apply ah_) | exact HB.out)); (case side2 => exact Kd.R_tight rfl HO_11.out); rintro e w50 ⟨rfl, hy0, hb, hkp⟩; refine ⟨_, rfl, ?_⟩; have n0_ := ab_ (Kd.R_mono (ok' := fun k_ => some k_ ≠ (.slice Ao22 t432.length co22 : Value).ownBlock ∧ some k_ ≠ (.slice Ao23 t435.length co23 : Value).ownBlock ∧ some k_ ≠ (v440 : Value).ownBlock ∧ some k_ ≠ (.slice Ao44 t443.length co44 : Value).ownBlock ∧ some k_ ≠ (.slice Ao47 t447.length co47 : Value).ownBlock) (Kd.R_keptB (HO_8.out) hkp (fun k_ hk_ hs_ => (hk_.2.1) hs_)) (fun k_ hk_ => ⟨hk_.1.1, hk_.1.2.1, hk_.1.2.2.1, hk_.1.2.2.2.1, hk_.1.2.2.2.2⟩)); have n1_ := ab_ (Kd.R_mono (ok' := fun k_ => some k_ ≠ (v430 : Value).ownBlock ∧ some k_ ≠ (.slice Ao23 t435.length co23 : Value).ownBlock ∧ some k_ ≠ (v440 : Value).ownBlock ∧ some k_ ≠ (.slice Ao44 t443.length co44 : Value).ownBlock ∧ some k_ ≠ (.slice Ao47 t447.length co47 : Value).ownBlock) (Kd.R_keptB (HO_10.out) hkp (fun k_ hk_ hs_ => (hk_.1.1.2.1) hs_)) (fun k_ hk_ => ⟨hk_.1.1.1.1, hk_.1.1.1.2.1, hk_.1.1.1.2.2, hk_.1.1.2, hk_.1.2⟩)); have n2_ := ab_ (Kd.R_reok rfl hy0 (fun k_ e_ => HO_11.out.1 k_ e_)); have n3_ := ab_ (Kd.R_mono (ok' := fun k_ => some k_ ≠ (v430 : Value).ownBlock ∧ some k_ ≠ (.slice Ao22 t432.length co22 : Value).ownBlock ∧ some k_ ≠ (.slice Ao23 t435.length co23 : Value).ownBlock ∧ some k_ ≠ (.slice Ao44 t443.length co44 : Value).ownBlock ∧ some k_ ≠ (.slice Ao47 t447.length co47 : Value).ownBlock) (Kd.R_keptB (HO_12.out) hkp (fun k_ hk_ hs_ => (hk_.2.2.1) hs_)) (fun k_ hk_ => ⟨hk_.1.1, hk_.1.2.1, hk_.1.2.2.1, hk_.1.2.2.2.1, hk_.1.2.2.2.2⟩)); have n4_ := ab_ (Kd.R_mono (ok' := fun k_ => some k_ ≠ (v430 : Value).ownBlock ∧ some k_ ≠ (.slice Ao22 t432.length co22 : Value).ownBlock ∧ some k_ ≠ (.slice Ao23 t435.length co23 : Value).ownBlock ∧ some k_ ≠ (v440 : Value).ownBlock ∧ some k_ ≠ (.slice Ao47 t447.length co47 : Value).ownBlock) (Kd.R_keptB (HO445.out) hkp (fun k_ hk_ hs_ => (hk_.2.2.1) hs_)) (fun k_ hk_ => ⟨hk_.1.1, hk_.1.2.1, hk_.1.2.2.1, hk_.1.2.2.2.1, hk_.1.2.2.2.2⟩)); have n5_ := ab_ (Kd.R_mono (ok' := fun k_ => some k_ ≠ (v430 : Value).ownBlock ∧ some k_ ≠ (.slice Ao22 t432.length co22 : Value).ownBlock ∧ some k_ ≠ (.slice Ao23 t435.length co23 : Value).ownBlock ∧ some k_ ≠ (v440 : Value).ownBlock ∧ some k_ ≠ (.slice Ao44 t443.length co44 : Value).ownBlock) (Kd.R_keptB (HO449.out) hkp (fun k_ hk_ hs_ => (hk_.2.2.1) hs_)) (fun k_ hk_ => ⟨hk_.1.1, hk_.1.2.1, hk_.1.2.2.1, hk_.1.2.2.2.1, hk_.1.2.2.2.2⟩)); have n6_ := ab_ (hb); clear HO_8; clear HO_10; clear HO_11; clear HO_12; clear HO445; clear HO449; clear HB; have HO_8 := n0_; have HO_10 := n1_; have HO_11 := n2_; have HO_12 := n3_; have HO445 := n4_; have HO449 := n5_; have HB := n6_; clear n0_ n1_ n2_ n3_ n4_ n5_ n6_; (try clear hb); (try clear hkp); (try clear hy0)))
                (try simp only [Act.put, List.setIfInBounds_toArray, List.set_cons_zero, List.set_cons_succ])
                go_cut [86] (fun v86 wc => ∃ (kq : Nat) (x86_41 : Bool), v86 = .bool x86_41 ∧ Aside0 (laws_FnExactSubstTerm.j1 kq l0 a1 l2 t428 t429 t438 x86_41 = some true) ∧ Aside0 (kq ≤ kj13) ∧ Aside0 (Kd.R k66 66 wc w.heap.size (fun k_ => some k_ ≠ (v440 : Value).ownBlock) v430 t428) ∧ Aside0 (Kd.R k66 66 wc w.heap.size (fun k_ => some k_ ≠ (v430 : Value).ownBlock) v440 t438) ∧ Aside0 (Below w.heap.size w wc))
                case first =>
                  have H := HC42.out
                  clear HC42
                  by_cases c51 : t453 < 0
                  · rw [if_pos c51] at H
                    have c51b0 : decide (t453 < 0) = true := aq_ c51
                    clear c51
                    (first | rw [c51b0] | (simp only [i64_w, i32_w]; rw [c51b0]) | skip)
                    have H' := ab_ H
                    clear H
                    go_wp2
                    go_meet
                    case rel => exact ⟨_, (true), (by first | rfl | (simp; done) | (simp [*]; done)), H', ⟨by have := HJ13.out; first | omega | exact Nat.le_refl _⟩, ⟨by (with_reducible repeat (first | apply an_ | apply ao_ | apply ap_)); exact Kd.R_mono HO_8.out (fun _ hk => hk.2.2.1)⟩, ⟨by (with_reducible repeat (first | apply an_ | apply ao_ | apply ap_)); exact Kd.R_mono HO_12.out (fun _ hk => hk.1)⟩, ⟨by repeat (first | (with_reducible first | exact HB.out | apply ai_ | apply ag_ | apply ah_) | exact HB.out)⟩⟩
                  · rw [if_neg c51] at H
                    have c51b0 : decide (t453 < 0) = false := decide_eq_false c51
                    clear c51
                    (first | rw [c51b0] | (simp only [i64_w, i32_w]; rw [c51b0]) | skip)
                    replace H := Option.bind_eq_some_iff.mp H
                    obtain ⟨t455, A520, H⟩ := H
                    replace H : (if t455 = true then (laws_FnExactSubstTerm.j1 kj13 l0 a1 l2 t428 t429 t438 (t439 != t429)) else (laws_FnExactSubstTerm.j1 kj13 l0 a1 l2 t428 t429 t438 true)) = some true := H
                    have A52 := ab_ A520
                    clear A520
                    by_cases c53 : t455 = true
                    · subst c53
                      have H1 : (laws_FnExactSubstTerm.j1 kj13 l0 a1 l2 t428 t429 t438 (t439 != t429)) = some true := by rw [if_pos rfl] at H; first | done | exact H
                      clear H
                      have H := H1
                      clear H1
                      have H' := ab_ H
                      clear H
                      obtain ⟨Ao54, co54, eo54⟩ := Kd.R_slice HO_12.out
                      subst eo54
                      obtain ⟨Ao55, co55, eo55⟩ := Kd.R_slice HO_8.out
                      subst eo55
                      go_wp2_with (first | (go_at_call 17; (with_reducible refine (laws_eqCellS.calls kj13 _ _ t438 _ _ t428 true _ ?side1 ?side2 ?side3 ?side4 A52.out).mono ?_); (case side1 => repeat (first | exact (Kd.R_reads' HO_12.out).2.2 | (with_reducible refine Kd.C_alloc ?_ _) | (with_reducible refine Kd.C_drewN ?_ _) | (with_reducible refine Kd.C_drew ?_))); (case side2 => exact (Kd.R_reads' HO_12.out).2.1); (case side3 => repeat (first | exact (Kd.R_reads' HO_8.out).2.2 | (with_reducible refine Kd.C_alloc ?_ _) | (with_reducible refine Kd.C_drewN ?_ _) | (with_reducible refine Kd.C_drew ?_))); (case side4 => exact (Kd.R_reads' HO_8.out).2.1); rintro e w56 ⟨rfl, hb⟩; have n0_ := ab_ (Kd.R_below (by (with_reducible repeat (first | apply an_ | apply ao_ | apply ap_)); exact HO_8.out) hb); have n1_ := ab_ (Kd.R_below (by (with_reducible repeat (first | apply an_ | apply ao_ | apply ap_)); exact HO_10.out) hb); have n2_ := ab_ (Kd.R_below (by (with_reducible repeat (first | apply an_ | apply ao_ | apply ap_)); exact HO_11.out) hb); have n3_ := ab_ (Kd.R_below (by (with_reducible repeat (first | apply an_ | apply ao_ | apply ap_)); exact HO_12.out) hb); have n4_ := ab_ (Kd.R_below (by (with_reducible repeat (first | apply an_ | apply ao_ | apply ap_)); exact HO445.out) hb); have n5_ := ab_ (Kd.R_below (by (with_reducible repeat (first | apply an_ | apply ao_ | apply ap_)); exact HO449.out) hb); have n6_ := ab_ (ar_ (by repeat (first | (with_reducible first | exact HB.out | apply ai_ | apply ag_ | apply ah_) | exact HB.out)) hb); clear HO_8; clear HO_10; clear HO_11; clear HO_12; clear HO445; clear HO449; clear HB; have HO_8 := n0_; have HO_10 := n1_; have HO_11 := n2_; have HO_12 := n3_; have HO445 := n4_; have HO449 := n5_; have HB := n6_; clear n0_ n1_ n2_ n3_ n4_ n5_ n6_; (try clear hb); (try clear hb2); (try clear hk); (try clear hi)))
                      go_meet
                      case rel => exact ⟨_, ((t439 != t429)), (by first | rfl | (simp; done) | (simp [*]; done)), H', ⟨by have := HJ13.out; first | omega | exact Nat.le_refl _⟩, ⟨by (with_reducible repeat (first | apply an_ | apply ao_ | apply ap_)); exact Kd.R_mono HO_8.out (fun _ hk => hk.2.2.1)⟩, ⟨by (with_reducible repeat (first | apply an_ | apply ao_ | apply ap_)); exact Kd.R_mono HO_12.out (fun _ hk => hk.1)⟩, ⟨by repeat (first | (with_reducible first | exact HB.out | apply ai_ | apply ag_ | apply ah_) | exact HB.out)⟩⟩
                    · replace c53 := Bool.eq_false_iff.mpr c53
                      subst c53
                      have H1 : (laws_FnExactSubstTerm.j1 kj13 l0 a1 l2 t428 t429 t438 true) = some true := by rw [if_neg (show ¬ (false = true) by decide)] at H; first | done | exact H
                      clear H
                      have H := H1
                      clear H1
                      have H' := ab_ H
                      clear H
                      obtain ⟨Ao57, co57, eo57⟩ := Kd.R_slice HO_12.out
                      subst eo57
                      obtain ⟨Ao58, co58, eo58⟩ := Kd.R_slice HO_8.out
                      subst eo58
                      go_wp2_with (first | (go_at_call 17; (with_reducible refine (laws_eqCellS.calls kj13 _ _ t438 _ _ t428 false _ ?side1 ?side2 ?side3 ?side4 A52.out).mono ?_); (case side1 => repeat (first | exact (Kd.R_reads' HO_12.out).2.2 | (with_reducible refine Kd.C_alloc ?_ _) | (with_reducible refine Kd.C_drewN ?_ _) | (with_reducible refine Kd.C_drew ?_))); (case side2 => exact (Kd.R_reads' HO_12.out).2.1); (case side3 => repeat (first | exact (Kd.R_reads' HO_8.out).2.2 | (with_reducible refine Kd.C_alloc ?_ _) | (with_reducible refine Kd.C_drewN ?_ _) | (with_reducible refine Kd.C_drew ?_))); (case side4 => exact (Kd.R_reads' HO_8.out).2.1); rintro e w59 ⟨rfl, hb⟩; have n0_ := ab_ (Kd.R_below (by (with_reducible repeat (first | apply an_ | apply ao_ | apply ap_)); exact HO_8.out) hb); have n1_ := ab_ (Kd.R_below (by (with_reducible repeat (first | apply an_ | apply ao_ | apply ap_)); exact HO_10.out) hb); have n2_ := ab_ (Kd.R_below (by (with_reducible repeat (first | apply an_ | apply ao_ | apply ap_)); exact HO_11.out) hb); have n3_ := ab_ (Kd.R_below (by (with_reducible repeat (first | apply an_ | apply ao_ | apply ap_)); exact HO_12.out) hb); have n4_ := ab_ (Kd.R_below (by (with_reducible repeat (first | apply an_ | apply ao_ | apply ap_)); exact HO445.out) hb); have n5_ := ab_ (Kd.R_below (by (with_reducible repeat (first | apply an_ | apply ao_ | apply ap_)); exact HO449.out) hb); have n6_ := ab_ (ar_ (by repeat (first | (with_reducible first | exact HB.out | apply ai_ | apply ag_ | apply ah_) | exact HB.out)) hb); clear HO_8; clear HO_10; clear HO_11; clear HO_12; clear HO445; clear HO449; clear HB; have HO_8 := n0_; have HO_10 := n1_; have HO_11 := n2_; have HO_12 := n3_; have HO445 := n4_; have HO449 := n5_; have HB := n6_; clear n0_ n1_ n2_ n3_ n4_ n5_ n6_; (try clear hb); (try clear hb2); (try clear hk); (try clear hi)))
                      go_meet
                      case rel => exact ⟨_, (true), (by first | rfl | (simp; done) | (simp [*]; done)), H', ⟨by have := HJ13.out; first | omega | exact Nat.le_refl _⟩, ⟨by (with_reducible repeat (first | apply an_ | apply ao_ | apply ap_)); exact Kd.R_mono HO_8.out (fun _ hk => hk.2.2.1)⟩, ⟨by (with_reducible repeat (first | apply an_ | apply ao_ | apply ap_)); exact Kd.R_mono HO_12.out (fun _ hk => hk.1)⟩, ⟨by repeat (first | (with_reducible first | exact HB.out | apply ai_ | apply ag_ | apply ah_) | exact HB.out)⟩⟩
                case rest =>
                  clear HC42
                  try clear c1
                  try clear c2
                  try clear p2
                  try clear c3
                  try clear c5
                  try clear c5b0
                  try clear c7
                  try clear c7b0
                  try clear c13
                  try clear c15
                  try clear c17
                  try clear c24
                  try clear c25
                  try clear c26
                  try clear c33
                  try clear c36
                  try clear c39
                  try clear c51
                  try clear c51b0
                  try clear c53
                  try clear p2
                  obtain ⟨kq, x86_41, rfl, HA, HJ41, HO_8, HO_12, HB⟩ := hcut
                  cases kq with
                  | zero => exact absurd HA.out (by simp [laws_FnExactSubstTerm.j1])
                  | succ kj41 =>
                    have H := HA.out
                    clear HA
                    simp only [laws_FnExactSubstTerm.j1] at H
                    by_cases c60 : x86_41 = true
                    · subst c60
                      have H1 : (some false) = some true := by rw [if_pos rfl] at H; first | done | exact H
                      clear H
                      have H := H1
                      clear H1
                      exact absurd H (by simp)
                    · replace c60 := Bool.eq_false_iff.mpr c60
                      subst c60
                      have H1 : ((laws_markCellS.f kj41 t438 1).bind fun bt456 => ((laws_heldCellS.f kj41 bt456.2 1).bind fun t458 => (if t458 < 0 then (some false) else (if t458 = bt456.1 then ((laws_toCellS.f kj41 l0).bind fun t459 => ((laws_toCellS.f kj41 l2).bind fun t462 => ((impl_SubstTerm.f kj41 t459 a1 t462).bind fun bt465 => ((laws_eqCellS.f kj41 bt465.1 t428).bind fun t469 => (if t469 = true then (laws_FnExactSubstTerm.j2 kj41 bt456.2 bt456.1 (bt465.2 != t429)) else (laws_FnExactSubstTerm.j2 kj41 bt456.2 bt456.1 true)))))) else (some false))))) = some true := by rw [if_neg (show ¬ (false = true) by decide)] at H; first | done | exact H
                      clear H
                      have H := H1
                      clear H1
                      replace H := Option.bind_eq_some_iff.mp H
                      obtain ⟨⟨t456, t457⟩, A610, H⟩ := H
                      replace H : ((laws_heldCellS.f kj41 t457 1).bind fun t458 => (if t458 < 0 then (some false) else (if t458 = t456 then ((laws_toCellS.f kj41 l0).bind fun t459 => ((laws_toCellS.f kj41 l2).bind fun t462 => ((impl_SubstTerm.f kj41 t459 a1 t462).bind fun bt465 => ((laws_eqCellS.f kj41 bt465.1 t428).bind fun t469 => (if t469 = true then (laws_FnExactSubstTerm.j2 kj41 t457 t456 (bt465.2 != t429)) else (laws_FnExactSubstTerm.j2 kj41 t457 t456 true)))))) else (some false)))) = some true := H
                      have A61 := ab_ A610
                      clear A610
                      replace H := Option.bind_eq_some_iff.mp H
                      obtain ⟨t458, A620, H⟩ := H
                      replace H : (if t458 < 0 then (some false) else (if t458 = t456 then ((laws_toCellS.f kj41 l0).bind fun t459 => ((laws_toCellS.f kj41 l2).bind fun t462 => ((impl_SubstTerm.f kj41 t459 a1 t462).bind fun bt465 => ((laws_eqCellS.f kj41 bt465.1 t428).bind fun t469 => (if t469 = true then (laws_FnExactSubstTerm.j2 kj41 t457 t456 (bt465.2 != t429)) else (laws_FnExactSubstTerm.j2 kj41 t457 t456 true)))))) else (some false))) = some true := H
                      have A62 := ab_ A620
                      clear A620
                      by_cases c63 : t458 < 0
                      · rw [if_pos c63] at H
                        have c63b0 : decide (t458 < 0) = true := aq_ c63
                        clear c63
                        exact absurd H (by simp)
                      · rw [if_neg c63] at H
                        have c63b0 : decide (t458 < 0) = false := decide_eq_false c63
                        clear c63
                        by_cases c64 : t458 = t456
                        · rw [if_pos c64] at H
                          have c64b0 : (t458 == t456) = true := beq_iff_eq.mpr c64
                          have c64b1 : (t458 != t456) = false := bne_eq_false_iff_eq.mpr c64
                          clear c64
                          replace H := Option.bind_eq_some_iff.mp H
                          obtain ⟨t459, A650, H⟩ := H
                          replace H : ((laws_toCellS.f kj41 l2).bind fun t462 => ((impl_SubstTerm.f kj41 t459 a1 t462).bind fun bt465 => ((laws_eqCellS.f kj41 bt465.1 t428).bind fun t469 => (if t469 = true then (laws_FnExactSubstTerm.j2 kj41 t457 t456 (bt465.2 != t429)) else (laws_FnExactSubstTerm.j2 kj41 t457 t456 true))))) = some true := H
                          have A65 := ab_ A650
                          clear A650
                          replace H := Option.bind_eq_some_iff.mp H
                          obtain ⟨t462, A660, H⟩ := H
                          replace H : ((impl_SubstTerm.f kj41 t459 a1 t462).bind fun bt465 => ((laws_eqCellS.f kj41 bt465.1 t428).bind fun t469 => (if t469 = true then (laws_FnExactSubstTerm.j2 kj41 t457 t456 (bt465.2 != t429)) else (laws_FnExactSubstTerm.j2 kj41 t457 t456 true)))) = some true := H
                          have A66 := ab_ A660
                          clear A660
                          replace H := Option.bind_eq_some_iff.mp H
                          obtain ⟨⟨t465, t466⟩, A670, H⟩ := H
                          replace H : ((laws_eqCellS.f kj41 t465 t428).bind fun t469 => (if t469 = true then (laws_FnExactSubstTerm.j2 kj41 t457 t456 (t466 != t429)) else (laws_FnExactSubstTerm.j2 kj41 t457 t456 true))) = some true := H
                          have A67 := ab_ A670
                          clear A670
                          have HC68 := ab_ H
                          clear H
                          obtain ⟨Ao69, co69, eo69⟩ := Kd.R_slice HO_12.out
                          subst eo69
                          go_upto_region 32 with (first | ((with_reducible refine gate_callee (f := 26) rfl ?_); refine goesL_ (some 89) rfl rfl Try.func26 (by kernel_rfl) rfl #[.slice Ao69 t438.length co69, .int .i64 1] rfl (by (try simp only [List.map_toArray, List.map_cons, List.map_nil]); first | done | rfl | (simp only [List.length_drop, List.length_take]; rfl)) ?_; (with_reducible refine (laws_markCellS.calls kj41 (fun k_ => some k_ = (.slice Ao69 t438.length co69 : Value).ownBlock) (.slice Ao69 t438.length co69) t438 1 t456 t457 w _ ?side1 ?side2 A61.out).mono ?_); (case side1 => repeat (first | (with_reducible first | exact HB.out | apply ai_ | apply ag_ | apply ah_) | exact HB.out)); (case side2 => exact Kd.R_tight rfl HO_12.out); rintro e w70 ⟨rfl, hy0, hb, hkp⟩; refine ⟨_, rfl, ?_⟩; have n0_ := ab_ (Kd.R_mono (ok' := fun k_ => some k_ ≠ (.slice Ao69 t438.length co69 : Value).ownBlock) (Kd.R_keptB (HO_8.out) hkp (fun k_ hk_ hs_ => (hk_) hs_)) (fun k_ hk_ => hk_.1)); have n1_ := ab_ (Kd.R_reok rfl hy0 (fun k_ e_ => HO_12.out.1 k_ e_)); have n2_ := ab_ (hb); clear HO_8; clear HO_12; clear HB; have HO_8 := n0_; have HO_12 := n1_; have HB := n2_; clear n0_ n1_ n2_; (try clear hb); (try clear hkp); (try clear hy0)) | ((with_reducible refine gate_callee (f := 27) rfl ?_); refine goesL_ (some 92) rfl rfl Try.func27 (by kernel_rfl) rfl #[.slice Ao69 t457.length co69, .int .i64 1] rfl (by (try simp only [List.map_toArray, List.map_cons, List.map_nil]); first | done | (rw [show t457.length = t438.length from (Kd.R_reads' HO_12.out).1.symm] <;> rfl) | rfl | (simp only [List.length_drop, List.length_take]; rfl)) ?_; (with_reducible refine (laws_heldCellS.calls kj41 _ _ t457 1 t458 _ ?side1 ?side2 A62.out).mono ?_); (case side1 => repeat (first | exact (Kd.R_reads' HO_12.out).2.2 | (with_reducible refine Kd.C_alloc ?_ _) | (with_reducible refine Kd.C_drewN ?_ _) | (with_reducible refine Kd.C_drew ?_))); (case side2 => rw [show t457.length = t438.length from (Kd.R_reads' HO_12.out).1.symm]; exact (Kd.R_reads' HO_12.out).2.1); rintro e w' ⟨rfl, ⟨nd, rfl⟩⟩; refine ⟨_, rfl, ?_⟩) | ((with_reducible refine gate_callee (f := 15) rfl ?_); refine goesL_ (some 100) rfl rfl Try.func15 (by kernel_rfl) rfl #[.slice A0 l0.length c0] rfl (by (try simp only [List.map_toArray, List.map_cons, List.map_nil]); first | done | rfl | (simp only [List.length_drop, List.length_take]; rfl)) ?_; (with_reducible refine (laws_toCellS.calls kj41 _ _ l0 t459 _ ?side1 ?side2 A65.out).mono ?_); (case side1 => repeat (first | exact (Kd.C_below HR0.out (by repeat (first | (with_reducible first | exact HB.out | apply ai_ | apply ag_ | apply ah_) | exact HB.out))) | (with_reducible refine Kd.C_alloc ?_ _) | (with_reducible refine Kd.C_drewN ?_ _) | (with_reducible refine Kd.C_drew ?_))); (case side2 => exact HC0.out); rintro e w71 ⟨v460, rfl, ho0, hb⟩; refine ⟨_, rfl, ?_⟩; have n0_ := ab_ (Kd.R_elder' (by (with_reducible repeat (first | apply an_ | apply ao_ | apply ap_)); exact HO_8.out) (Kd.R_base ho0) hb); have n1_ := ab_ (Kd.R_elder' (by (with_reducible repeat (first | apply an_ | apply ao_ | apply ap_)); exact HO_12.out) (Kd.R_base ho0) hb); have n2_ := ab_ (Kd.R_lower (Kd.R_new' (Kd.R_new' ho0 (Kd.R_lt (by (with_reducible repeat (first | apply an_ | apply ao_ | apply ap_)); exact HO_8.out))) (Kd.R_lt (by (with_reducible repeat (first | apply an_ | apply ao_ | apply ap_)); exact HO_12.out))) (below_size (by repeat (first | (with_reducible first | exact HB.out | apply ai_ | apply ag_ | apply ah_) | exact HB.out)))); have n3_ := ab_ (ar_ (by repeat (first | (with_reducible first | exact HB.out | apply ai_ | apply ag_ | apply ah_) | exact HB.out)) hb); clear HO_8; clear HO_12; clear HB; have HO_8 := n0_; have HO_12 := n1_; have HO461 := n2_; have HB := n3_; clear n0_ n1_ n2_ n3_; (try clear hb); (try clear hb2); (try clear hk); (try clear hi); (try clear ho0)) | ((with_reducible refine gate_callee (f := 15) rfl ?_); refine goesL_ (some 103) rfl rfl Try.func15 (by kernel_rfl) rfl #[.slice A2 l2.length c2] rfl (by (try simp only [List.map_toArray, List.map_cons, List.map_nil]); first | done | rfl | (simp only [List.length_drop, List.length_take]; rfl)) ?_; (with_reducible refine (laws_toCellS.calls kj41 _ _ l2 t462 _ ?side1 ?side2 A66.out).mono ?_); (case side1 => repeat (first | exact (Kd.C_below HR2.out HB.out) | (with_reducible refine Kd.C_alloc ?_ _) | (with_reducible refine Kd.C_drewN ?_ _) | (with_reducible refine Kd.C_drew ?_))); (case side2 => exact HC2.out); rintro e w72 ⟨v463, rfl, ho0, hb⟩; refine ⟨_, rfl, ?_⟩; have n0_ := ab_ (Kd.R_elder' (by (with_reducible repeat (first | apply an_ | apply ao_ | apply ap_)); exact HO_8.out) (Kd.R_base ho0) hb); have n1_ := ab_ (Kd.R_elder' (by (with_reducible repeat (first | apply an_ | apply ao_ | apply ap_)); exact HO_12.out) (Kd.R_base ho0) hb); have n2_ := ab_ (Kd.R_elder' (by (with_reducible repeat (first | apply an_ | apply ao_ | apply ap_)); exact HO461.out) (Kd.R_base ho0) hb); have n3_ := ab_ (Kd.R_lower (Kd.R_new' (Kd.R_new' (Kd.R_new' ho0 (Kd.R_lt (by (with_reducible repeat (first | apply an_ | apply ao_ | apply ap_)); exact HO_8.out))) (Kd.R_lt (by (with_reducible repeat (first | apply an_ | apply ao_ | apply ap_)); exact HO_12.out))) (Kd.R_lt (by (with_reducible repeat (first | apply an_ | apply ao_ | apply ap_)); exact HO461.out))) (below_size (by repeat (first | (with_reducible first | exact HB.out | apply ai_ | apply ag_ | apply ah_) | exact HB.out)))); have n4_ := ab_ (ar_ (by repeat (first | (with_reducible first | exact HB.out | apply ai_ | apply ag_ | apply ah_) | exact HB.out)) hb); clear HO_8; clear HO_12; clear HO461; clear HB; have HO_8 := n0_; have HO_12 := n1_; have HO461 := n2_; have HO464 := n3_; have HB := n4_; clear n0_ n1_ n2_ n3_ n4_; (try clear hb); (try clear hb2); (try clear hk); (try clear hi); (try clear ho0); obtain ⟨Ao73, co73, eo73⟩ := Kd.R_slice HO461.out; subst eo73; obtain ⟨Ao74, co74, eo74⟩ := Kd.R_slice HO464.out; subst eo74) | ((with_reducible refine gate_callee (f := 25) rfl ?_); refine goesL_ (some 104) rfl rfl Try.func25 (by kernel_rfl) rfl #[.slice Ao73 t459.length co73, .int .i64 a1, .slice Ao74 t462.length co74] rfl (by (try simp only [List.map_toArray, List.map_cons, List.map_nil]); first | done | rfl | (simp only [List.length_drop, List.length_take]; rfl)) ?_; (with_reducible refine (impl_SubstTerm.calls kj41 _ _ t459 a1 _ _ t462 t465 t466 _ ?side1 ?side2 ?side3 ?side4 A67.out).mono ?_); (case side1 => repeat (first | exact (Kd.R_reads' HO461.out).2.2 | (with_reducible refine Kd.C_alloc ?_ _) | (with_reducible refine Kd.C_drewN ?_ _) | (with_reducible refine Kd.C_drew ?_))); (case side2 => exact (Kd.R_reads' HO461.out).2.1); (case side3 => repeat (first | exact (Kd.R_reads' HO464.out).2.2 | (with_reducible refine Kd.C_alloc ?_ _) | (with_reducible refine Kd.C_drewN ?_ _) | (with_reducible refine Kd.C_drew ?_))); (case side4 => exact (Kd.R_reads' HO464.out).2.1); rintro e w75 ⟨v467, rfl, ho0, hb⟩; refine ⟨_, rfl, ?_⟩; have n0_ := ab_ (Kd.R_elder' (by (with_reducible repeat (first | apply an_ | apply ao_ | apply ap_)); exact HO_8.out) (Kd.R_base ho0) hb); have n1_ := ab_ (Kd.R_elder' (by (with_reducible repeat (first | apply an_ | apply ao_ | apply ap_)); exact HO_12.out) (Kd.R_base ho0) hb); have n2_ := ab_ (Kd.R_elder' (by (with_reducible repeat (first | apply an_ | apply ao_ | apply ap_)); exact HO461.out) (Kd.R_base ho0) hb); have n3_ := ab_ (Kd.R_elder' (by (with_reducible repeat (first | apply an_ | apply ao_ | apply ap_)); exact HO464.out) (Kd.R_base ho0) hb); have n4_ := ab_ (Kd.R_lower (Kd.R_new' (Kd.R_new' (Kd.R_new' (Kd.R_new' ho0 (Kd.R_lt (by (with_reducible repeat (first | apply an_ | apply ao_ | apply ap_)); exact HO_8.out))) (Kd.R_lt (by (with_reducible repeat (first | apply an_ | apply ao_ | apply ap_)); exact HO_12.out))) (Kd.R_lt (by (with_reducible repeat (first | apply an_ | apply ao_ | apply ap_)); exact HO461.out))) (Kd.R_lt (by (with_reducible repeat (first | apply an_ | apply ao_ | apply ap_)); exact HO464.out))) (below_size (by repeat (first | (with_reducible first | exact HB.out | apply ai_ | apply ag_ | apply ah_) | exact HB.out)))); have n5_ := ab_ (ar_ (by repeat (first | (with_reducible first | exact HB.out | apply ai_ | apply ag_ | apply ah_) | exact HB.out)) hb); clear HO_8; clear HO_12; clear HO461; clear HO464; clear HB; have HO_8 := n0_; have HO_12 := n1_; have HO461 := n2_; have HO464 := n3_; have HO468 := n4_; have HB := n5_; clear n0_ n1_ n2_ n3_ n4_ n5_; (try clear hb); (try clear hb2); (try clear hk); (try clear hi); (try clear ho0)))
                          (try simp only [Act.put, List.setIfInBounds_toArray, List.set_cons_zero, List.set_cons_succ])
                          go_cut [115] (fun v115 wc => ∃ (kq : Nat) (x115_67 : Bool), v115 = .bool x115_67 ∧ Aside0 (laws_FnExactSubstTerm.j2 kq t457 t456 x115_67 = some true) ∧ Aside0 (kq ≤ kj41) ∧ Aside0 (Kd.R k66 66 wc w.heap.size (fun _ => True) (.slice Ao69 t438.length co69) t457) ∧ Aside0 (Below w.heap.size w wc))
                          case first =>
                            have H := HC68.out
                            clear HC68
                            replace H := Option.bind_eq_some_iff.mp H
                            obtain ⟨t469, A760, H⟩ := H
                            replace H : (if t469 = true then (laws_FnExactSubstTerm.j2 kj41 t457 t456 (t466 != t429)) else (laws_FnExactSubstTerm.j2 kj41 t457 t456 true)) = some true := H
                            have A76 := ab_ A760
                            clear A760
                            by_cases c77 : t469 = true
                            · subst c77
                              have H1 : (laws_FnExactSubstTerm.j2 kj41 t457 t456 (t466 != t429)) = some true := by rw [if_pos rfl] at H; first | done | exact H
                              clear H
                              have H := H1
                              clear H1
                              have H' := ab_ H
                              clear H
                              obtain ⟨Ao78, co78, eo78⟩ := Kd.R_slice HO468.out
                              subst eo78
                              obtain ⟨Ao79, co79, eo79⟩ := Kd.R_slice HO_8.out
                              subst eo79
                              go_wp2_with (first | ((with_reducible refine gate_callee (f := 17) rfl ?_); refine goesL_ (some 109) rfl rfl Try.func17 (by kernel_rfl) rfl #[.slice Ao78 t465.length co78, .slice Ao79 t428.length co79] rfl (by (try simp only [List.map_toArray, List.map_cons, List.map_nil]); first | done | rfl | (simp only [List.length_drop, List.length_take]; rfl)) ?_; (with_reducible refine (laws_eqCellS.calls kj41 _ _ t465 _ _ t428 true _ ?side1 ?side2 ?side3 ?side4 A76.out).mono ?_); (case side1 => repeat (first | exact (Kd.R_reads' HO468.out).2.2 | (with_reducible refine Kd.C_alloc ?_ _) | (with_reducible refine Kd.C_drewN ?_ _) | (with_reducible refine Kd.C_drew ?_))); (case side2 => exact (Kd.R_reads' HO468.out).2.1); (case side3 => repeat (first | exact (Kd.R_reads' HO_8.out).2.2 | (with_reducible refine Kd.C_alloc ?_ _) | (with_reducible refine Kd.C_drewN ?_ _) | (with_reducible refine Kd.C_drew ?_))); (case side4 => exact (Kd.R_reads' HO_8.out).2.1); rintro e w80 ⟨rfl, hb⟩; refine ⟨_, rfl, ?_⟩; have n0_ := ab_ (Kd.R_below (by (with_reducible repeat (first | apply an_ | apply ao_ | apply ap_)); exact HO_8.out) hb); have n1_ := ab_ (Kd.R_below (by (with_reducible repeat (first | apply an_ | apply ao_ | apply ap_)); exact HO_12.out) hb); have n2_ := ab_ (Kd.R_below (by (with_reducible repeat (first | apply an_ | apply ao_ | apply ap_)); exact HO461.out) hb); have n3_ := ab_ (Kd.R_below (by (with_reducible repeat (first | apply an_ | apply ao_ | apply ap_)); exact HO464.out) hb); have n4_ := ab_ (Kd.R_below (by (with_reducible repeat (first | apply an_ | apply ao_ | apply ap_)); exact HO468.out) hb); have n5_ := ab_ (ar_ (by repeat (first | (with_reducible first | exact HB.out | apply ai_ | apply ag_ | apply ah_) | exact HB.out)) hb); clear HO_8; clear HO_12; clear HO461; clear HO464; clear HO468; clear HB; have HO_8 := n0_; have HO_12 := n1_; have HO461 := n2_; have HO464 := n3_; have HO468 := n4_; have HB := n5_; clear n0_ n1_ n2_ n3_ n4_ n5_; (try clear hb); (try clear hb2); (try clear hk); (try clear hi)))
                              go_meet
                              case rel => exact ⟨_, ((t466 != t429)), (by first | rfl | (simp; done) | (simp [*]; done)), H', ⟨by have := HJ13.out; have := HJ41.out; first | omega | exact Nat.le_refl _⟩, ⟨by (with_reducible repeat (first | apply an_ | apply ao_ | apply ap_)); exact Kd.R_mono HO_12.out (fun _ hk => trivial)⟩, ⟨by repeat (first | (with_reducible first | exact HB.out | apply ai_ | apply ag_ | apply ah_) | exact HB.out)⟩⟩
                            · replace c77 := Bool.eq_false_iff.mpr c77
                              subst c77
                              have H1 : (laws_FnExactSubstTerm.j2 kj41 t457 t456 true) = some true := by rw [if_neg (show ¬ (false = true) by decide)] at H; first | done | exact H
                              clear H
                              have H := H1
                              clear H1
                              have H' := ab_ H
                              clear H
                              obtain ⟨Ao81, co81, eo81⟩ := Kd.R_slice HO468.out
                              subst eo81
                              obtain ⟨Ao82, co82, eo82⟩ := Kd.R_slice HO_8.out
                              subst eo82
                              go_wp2_with (first | ((with_reducible refine gate_callee (f := 17) rfl ?_); refine goesL_ (some 109) rfl rfl Try.func17 (by kernel_rfl) rfl #[.slice Ao81 t465.length co81, .slice Ao82 t428.length co82] rfl (by (try simp only [List.map_toArray, List.map_cons, List.map_nil]); first | done | rfl | (simp only [List.length_drop, List.length_take]; rfl)) ?_; (with_reducible refine (laws_eqCellS.calls kj41 _ _ t465 _ _ t428 false _ ?side1 ?side2 ?side3 ?side4 A76.out).mono ?_); (case side1 => repeat (first | exact (Kd.R_reads' HO468.out).2.2 | (with_reducible refine Kd.C_alloc ?_ _) | (with_reducible refine Kd.C_drewN ?_ _) | (with_reducible refine Kd.C_drew ?_))); (case side2 => exact (Kd.R_reads' HO468.out).2.1); (case side3 => repeat (first | exact (Kd.R_reads' HO_8.out).2.2 | (with_reducible refine Kd.C_alloc ?_ _) | (with_reducible refine Kd.C_drewN ?_ _) | (with_reducible refine Kd.C_drew ?_))); (case side4 => exact (Kd.R_reads' HO_8.out).2.1); rintro e w83 ⟨rfl, hb⟩; refine ⟨_, rfl, ?_⟩; have n0_ := ab_ (Kd.R_below (by (with_reducible repeat (first | apply an_ | apply ao_ | apply ap_)); exact HO_8.out) hb); have n1_ := ab_ (Kd.R_below (by (with_reducible repeat (first | apply an_ | apply ao_ | apply ap_)); exact HO_12.out) hb); have n2_ := ab_ (Kd.R_below (by (with_reducible repeat (first | apply an_ | apply ao_ | apply ap_)); exact HO461.out) hb); have n3_ := ab_ (Kd.R_below (by (with_reducible repeat (first | apply an_ | apply ao_ | apply ap_)); exact HO464.out) hb); have n4_ := ab_ (Kd.R_below (by (with_reducible repeat (first | apply an_ | apply ao_ | apply ap_)); exact HO468.out) hb); have n5_ := ab_ (ar_ (by repeat (first | (with_reducible first | exact HB.out | apply ai_ | apply ag_ | apply ah_) | exact HB.out)) hb); clear HO_8; clear HO_12; clear HO461; clear HO464; clear HO468; clear HB; have HO_8 := n0_; have HO_12 := n1_; have HO461 := n2_; have HO464 := n3_; have HO468 := n4_; have HB := n5_; clear n0_ n1_ n2_ n3_ n4_ n5_; (try clear hb); (try clear hb2); (try clear hk); (try clear hi)))
                              go_meet
                              case rel => exact ⟨_, (true), (by first | rfl | (simp; done) | (simp [*]; done)), H', ⟨by have := HJ13.out; have := HJ41.out; first | omega | exact Nat.le_refl _⟩, ⟨by (with_reducible repeat (first | apply an_ | apply ao_ | apply ap_)); exact Kd.R_mono HO_12.out (fun _ hk => trivial)⟩, ⟨by repeat (first | (with_reducible first | exact HB.out | apply ai_ | apply ag_ | apply ah_) | exact HB.out)⟩⟩
                          case rest =>
                            clear HC68
                            try clear c1
                            try clear c2
                            try clear p2
                            try clear c3
                            try clear c5
                            try clear c5b0
                            try clear c6
                            try clear c7
                            try clear c7b0
                            try clear c13
                            try clear c15
                            try clear c17
                            try clear c24
                            try clear c25
                            try clear c26
                            try clear c27
                            try clear c33
                            try clear c36
                            try clear c39
                            try clear c51
                            try clear c51b0
                            try clear c53
                            try clear c60
                            try clear c63
                            try clear c63b0
                            try clear c64
                            try clear c64b0
                            try clear c64b1
                            try clear c77
                            try clear p2
                            obtain ⟨kq, x115_67, rfl, HA, HJ67, HO_12, HB⟩ := hcut
                            have hl12_67 := (Kd.R_reads' HO_12.out).1
                            rw [hl12_67] at HO_12
                            (try simp only [hl12_67])
                            cases kq with
                            | zero => exact absurd HA.out (by simp [laws_FnExactSubstTerm.j2])
                            | succ kj67 =>
                              have H := HA.out
                              clear HA
                              simp only [laws_FnExactSubstTerm.j2] at H
                              by_cases c84 : x115_67 = true
                              · subst c84
                                have H1 : (some false) = some true := by rw [if_pos rfl] at H; first | done | exact H
                                clear H
                                have H := H1
                                clear H1
                                exact absurd H (by simp)
                              · replace c84 := Bool.eq_false_iff.mpr c84
                                subst c84
                                have H1 : ((laws_heldCellS.f kj67 t457 1).bind fun t470 => (if t470 < 0 then (some false) else (if t470 = t456 then (some true) else (some false)))) = some true := by rw [if_neg (show ¬ (false = true) by decide)] at H; first | done | exact H
                                clear H
                                have H := H1
                                clear H1
                                replace H := Option.bind_eq_some_iff.mp H
                                obtain ⟨t470, A850, H⟩ := H
                                replace H : (if t470 < 0 then (some false) else (if t470 = t456 then (some true) else (some false))) = some true := H
                                have A85 := ab_ A850
                                clear A850
                                by_cases c86 : t470 < 0
                                · rw [if_pos c86] at H
                                  have c86b0 : decide (t470 < 0) = true := aq_ c86
                                  clear c86
                                  exact absurd H (by simp)
                                · rw [if_neg c86] at H
                                  have c86b0 : decide (t470 < 0) = false := decide_eq_false c86
                                  clear c86
                                  by_cases c87 : t470 = t456
                                  · rw [if_pos c87] at H
                                    have c87b0 : (t470 == t456) = true := beq_iff_eq.mpr c87
                                    have c87b1 : (t470 != t456) = false := bne_eq_false_iff_eq.mpr c87
                                    clear c87
                                    clear H
                                    go_wp2_with (first | ((with_reducible refine gate_callee (f := 27) rfl ?_); refine goesL_ (some 118) rfl rfl Try.func27 (by kernel_rfl) rfl #[.slice Ao69 t457.length co69, .int .i64 1] rfl (by (try simp only [List.map_toArray, List.map_cons, List.map_nil]); first | done | rfl | (simp only [List.length_drop, List.length_take]; rfl)) ?_; (with_reducible refine (laws_heldCellS.calls kj67 _ _ t457 1 t470 _ ?side1 ?side2 A85.out).mono ?_); (case side1 => repeat (first | exact (Kd.R_reads' HO_12.out).2.2 | (with_reducible refine Kd.C_alloc ?_ _) | (with_reducible refine Kd.C_drewN ?_ _) | (with_reducible refine Kd.C_drew ?_))); (case side2 => exact (Kd.R_reads' HO_12.out).2.1); rintro e w' ⟨rfl, ⟨nd, rfl⟩⟩; refine ⟨_, rfl, ?_⟩))
                                    go_ret
                                    exact ⟨by first | rfl | (simp [errW_none, errW_some] <;> rfl) | (simp [*, errW_none, errW_some] <;> rfl), by repeat (first | (with_reducible first | exact HB.out | apply ai_ | apply ag_ | apply ah_) | exact HB.out)⟩
                                  · rw [if_neg c87] at H
                                    have c87b0 : (t470 == t456) = false := beq_eq_false_iff_ne.mpr c87
                                    have c87b1 : (t470 != t456) = true := bne_iff_ne.mpr c87
                                    exact absurd H (by simp)
                        · rw [if_neg c64] at H
                          have c64b0 : (t458 == t456) = false := beq_eq_false_iff_ne.mpr c64
                          have c64b1 : (t458 != t456) = true := bne_iff_ne.mpr c64
                          exact absurd H (by simp)
              · replace c39 := Bool.eq_false_iff.mpr c39
                subst c39
                have H1 : (some false) = some true := by rw [if_neg (show ¬ (false = true) by decide)] at H; first | done | exact H
                clear H
                have H := H1
                clear H1
                exact absurd H (by simp)
            · replace c36 := Bool.eq_false_iff.mpr c36
              subst c36
              have H1 : (some false) = some true := by rw [if_neg (show ¬ (false = true) by decide)] at H; first | done | exact H
              clear H
              have H := H1
              clear H1
              exact absurd H (by simp)
end Go.Proofs.Ytgoiifpimpnlpaa.PAll

end

section
namespace Go.Proofs.Ytgoiifpimpnlpaa.PAll
open Go.RowKit Go.Proofs.YtgoiifpimpnlpaaW.PrintWords Go.Proofs.YtgoiifpimpnlpaaW.PrintLast Go.Proofs.YtgoiifpimpnlpaaW.PrintMore
def laws_FnExactSubstTerm.Pure : Prop := ∀ (l0 : List (S68)) (a1 : Int) (l2 : List (S68)), (l0.length ≤ 9223372036854775807 ∧ ∀ xl0_ ∈ l0, ((Lit.int .i64 xl0_.f0).wf = true ∧ (Lit.int .i64 xl0_.f1).wf = true)) → (Lit.int .i64 a1).wf = true → (l2.length ≤ 9223372036854775807 ∧ ∀ xl2_ ∈ l2, ((Lit.int .i64 xl2_.f0).wf = true ∧ (Lit.int .i64 xl2_.f1).wf = true)) → ∃ k, laws_FnExactSubstTerm.f k l0 a1 l2 = some true
end Go.Proofs.Ytgoiifpimpnlpaa.PAll

end

section
namespace Go.Proofs.Ytgoiifpimpnlpaa.PAll
open Go.RowKit Go.Proofs.YtgoiifpimpnlpaaW.PrintWords Go.Proofs.YtgoiifpimpnlpaaW.PrintLast Go.Proofs.YtgoiifpimpnlpaaW.PrintMore
theorem FnExactSubstTerm_pure : laws_FnExactSubstTerm.Pure := by
  intro l0 a1 l2 g0 _ g2
  refine ⟨1050004, ?_⟩
  unfold laws_FnExactSubstTerm.f laws_szCellS.f
  by_cases h : wrap64 (1048576 - (l0.length : Int)) < 0
  · rw [if_pos h]; simp
  · have hl : l0.length ≤ 17592186044416 ∧ l0.length < 1050000 := by have := g0.1; unfold wrap64 at h; omega
    obtain ⟨hl, hk⟩ := hl
    rw [if_neg h, wrap_id (by omega) (by omega)]
    rw [wrap_id (by omega) (by omega)] at h
    simp only [Option.bind_some]
    rw [if_neg h]
    by_cases h2 : wrap64 ((1048576 - (l0.length : Int)) - (l2.length : Int)) < 0
    · rw [if_pos h2]; simp
    · have hl2 : l2.length ≤ 17592186044416 ∧ l2.length < 1050000 := by have := g2.1; unfold wrap64 at h2; omega
      obtain ⟨hl2, hk2⟩ := hl2
      rw [if_neg h2, wrap_id (by omega) (by omega)]
      rw [wrap_id (by omega) (by omega)] at h2
      simp only [Option.bind_some]
      rw [if_neg h2, toCellS_eq l0 hl _ (by omega), Option.bind_some, toCellS_eq l2 hl2 _ (by omega), Option.bind_some, SubstTerm_eq _ _ _ _ (by omega)]
      have hr := substOf_len (l0.map cvM) a1 (l2.map cvM)
      obtain ⟨ys, hm, hh⟩ := markHeldC_eq (substOf (l0.map cvM) a1 (l2.map cvM)).1 (by omega) 1050002 (by omega)
      obtain ⟨zs, hz⟩ := markFrom_eq (l0.map cvM) (by simpa using hl) 1 (by omega) 1050003 (by simp; omega)
      obtain ⟨zs2, hz2⟩ := markFrom_eq (l2.map cvM) (by simpa using hl2) (1 + 2 * (l0.map cvM).length) (by simp; omega) 1050003 (by simp; omega)
      simp only [Int.cast_ofNat_Int] at hz
      simp only [Option.bind_some, impl_SubstTerm.f]
      rw [eqCellS_self _ (by omega) _ (by omega), Option.bind_some, if_pos rfl]
      simp only [laws_FnExactSubstTerm.j0, bne_self_eq_false]
      rw [if_neg (by simp), toCellS_eq l0 hl _ (by omega), Option.bind_some, eqCellS_self _ (by simpa using hl) _ (by simp; omega), Option.bind_some, if_pos rfl, toCellS_eq l2 hl2 _ (by omega), Option.bind_some, eqCellS_self _ (by simpa using hl2) _ (by simp; omega), Option.bind_some, if_pos rfl, hz, Option.bind_some]
      simp only
      rw [hz2, Option.bind_some]
      simp only
      rw [if_neg (by omega), eqCellS_self _ (by omega) _ (by omega), Option.bind_some, if_pos rfl]
      simp only [laws_FnExactSubstTerm.j1, impl_SubstTerm.f]
      rw [if_neg (by simp), hm, Option.bind_some]
      simp only
      rw [hh _ (by omega), Option.bind_some, if_neg (by omega), if_pos rfl, toCellS_eq l0 hl _ (by omega), Option.bind_some, toCellS_eq l2 hl2 _ (by omega), Option.bind_some, Option.bind_some, eqCellS_self _ (by omega) _ (by omega), Option.bind_some, if_pos rfl]
      simp only [laws_FnExactSubstTerm.j2, bne_self_eq_false]
      rw [if_neg (by simp), hh _ (by omega), Option.bind_some, if_neg (by omega), if_pos rfl]
end Go.Proofs.Ytgoiifpimpnlpaa.PAll

end

section
namespace Go.Proofs.YtgoiifpimpnlpaaW.Opens
open Go.RowKit Go.Proofs.YtgoiifpimpnlpaaW.PrintWords Go.ChangeShapes Go.WideShapes Go.Deep Go.Joins
def Opn {α : Type} (P : Program) (t : TypeId) (d : Kd α) (G : α → Prop) : Prop :=
  ∀ {H : Type} (enc : TypeId × Value → H) (w : World) (base : Nat) (spare : Nat → Bool) (held : Bool) (fuel : Nat) (cs : List Value) (x : DataW H × List MemPlace),
    DataW.trod enc P w base spare held fuel t cs = some x → ∃ a, d.K w a cs ∧ G a
theorem opn_int {P : Program} {t : TypeId} {k : IntKind} (ht : P.underlying t = some (.int k)) : Opn P t (Kd.int k) (fun n => (Lit.int k n).wf = true) := by
  intro H enc w base spare held fuel cs x h
  obtain ⟨n, rfl, _, hw⟩ := DataW.trod_int ht h
  exact ⟨n, rfl, hw⟩
theorem list_of {α : Type} {p : Nat → α → Prop} : ∀ {n : Nat}, (∀ i, i < n → ∃ a, p i a) → ∃ xs : List α, xs.length = n ∧ ∀ i a, xs[i]? = some a → p i a := by
  intro n
  induction n with
  | zero => intro _; exact ⟨[], rfl, fun i a h => by simp at h⟩
  | succ n ih =>
    intro h
    obtain ⟨xs, hl, hx⟩ := ih (fun i hi => h i (by omega))
    obtain ⟨a, ha⟩ := h n (by omega)
    refine ⟨xs ++ [a], by simp [hl], fun i b hb => ?_⟩
    rcases Nat.lt_or_ge i xs.length with hi | hi
    · rw [List.getElem?_append_left hi] at hb; exact hx i b hb
    · rw [List.getElem?_append_right hi] at hb
      have : i - xs.length = 0 := by
        rcases Nat.eq_zero_or_pos (i - xs.length) with h0 | h0
        · exact h0
        · rw [List.getElem?_eq_none (by simp; omega)] at hb; cases hb
      rw [this] at hb
      simp at hb
      subst hb
      rw [show i = n by omega]
      exact ha
theorem opn_slice {α : Type} {P : Program} {t e : TypeId} {d : Kd α} {G : α → Prop} (ht : P.underlying t = some (.slice e)) (hc : P.cellsOf e = d.sz) (h : Opn P e d G) : Opn P t (Kd.slice e d) (fun xs => xs.length ≤ 9223372036854775807 ∧ ∀ x ∈ xs, G x) := by
  intro H enc w base spare held fuel cs x hx
  rcases DataW.trod_slice ht hx with ⟨rfl, _⟩ | ⟨a, len, cap, elems, rest, n, _, rfl, _, hb, hl, hm, hlen, hel, _, _⟩
  · exact ⟨[], ⟨none, 0, rfl, Nat.le_refl _, ⟨rfl, by simp, fun h0 => absurd h0 (by simp)⟩⟩, by simp, fun x hx => by cases hx⟩
  · obtain ⟨xs, hxl, hxs⟩ := list_of (n := len) (p := fun i a' => (∃ c, w.cells? base (a.add (i * P.cellsOf e)) (P.cellsOf e) = some c ∧ d.K w a' c) ∧ G a') (fun i hi => by
      have he := hel i hi
      rw [List.getElem?_eq_getElem (show i < elems.length by omega)] at he
      obtain ⟨c, h1, h2⟩ := Option.bind_eq_some_iff.1 he
      obtain ⟨a', hk, hg⟩ := h enc w base spare held n c _ h2
      exact ⟨a', ⟨c, h1, hk⟩, hg⟩)
    have hxm : xs.length ≤ 9223372036854775807 := by rw [hxl]; have := hm; simp only [maxLen] at this; omega
    refine ⟨xs, ⟨some a, cap, by rw [hxl], by omega, ⟨rfl, hxm, fun _ => ⟨a, rfl, fun j p hj => ?_⟩⟩⟩, hxm, fun x hx => ?_⟩
    · obtain ⟨⟨c, h1, hk⟩, _⟩ := hxs j p hj
      obtain ⟨h2, h3, h4⟩ := World.cells?_some h1
      refine ⟨c, d.K_len hk, hk, fun i u hu => ?_⟩
      have hi : i < P.cellsOf e := by rw [← h3]; exact (List.getElem?_eq_some_iff.1 hu).1
      have := h4 i hi
      rw [Go.Deep.add_add, hu, hc] at this
      exact this
    · obtain ⟨i, hi, rfl⟩ := List.getElem_of_mem hx
      exact (hxs i _ (List.getElem?_eq_getElem hi)).2
theorem opn_iso {α β : Type} {P : Program} {t : TypeId} {d : Kd α} {G : α → Prop} {f : β → α} (g : α → β) (hg : ∀ a, f (g a) = a) (h : Opn P t d G) : Opn P t (Kd.iso d f) (fun b => G (f b)) := by
  intro H enc w base spare held fuel cs x hx
  obtain ⟨a, hk, ha⟩ := h enc w base spare held fuel cs x hx
  exact ⟨g a, by show d.K w (f (g a)) cs; rw [hg]; exact hk, by show G (f (g a)); rw [hg]; exact ha⟩
theorem opn_struct2 {α β : Type} {P : Program} {t : TypeId} {f0 f1 : Field} {d0 : Kd α} {d1 : Kd β} {G0 : α → Prop} {G1 : β → Prop} (ht : P.underlying t = some (.struct #[f0, f1]))
    (hs : ((f0.offset, P.cellsOf f0.type), (f1.offset, P.cellsOf f1.type), P.cellsOf t) = ((0, d0.sz), (d0.sz, d1.sz), d0.sz + d1.sz)) (h0 : Opn P f0.type d0 G0) (h1 : Opn P f1.type d1 G1) :
    Opn P t (Kd.pair d0 d1) (fun p => G0 p.1 ∧ G1 p.2) := by
  intro H enc w base spare held fuel cs x hx
  obtain ⟨y0, y1, n, _, hl, hf0, hf1⟩ := trod_struct2 ht hx
  simp only [Prod.mk.injEq] at hs
  obtain ⟨⟨a0, b0⟩, ⟨a1, b1⟩, c⟩ := hs
  rw [a0, b0] at hf0
  rw [a1, b1] at hf1
  obtain ⟨u0, k0, g0⟩ := h0 enc w base spare held n _ _ hf0
  obtain ⟨u1, k1, g1⟩ := h1 enc w base spare held n _ _ hf1
  refine ⟨(u0, u1), ⟨_, _, ?_, k0, k1⟩, g0, g1⟩
  rw [List.drop_zero, List.take_of_length_le (l := cs.drop d0.sz) (by simp; omega), List.take_append_drop]
theorem slice_came {α : Type} {P : Program} {t e : TypeId} {d : Kd α} {G : List α → Prop} (h : Opn P t (Kd.slice e d) G) {H : Type} {enc : TypeId × Value → H} {w : World} {base : Nat} {spare : Nat → Bool} {held : Bool} {dd : DataW H} {ps : List MemPlace} {A : Option Addr} {n c : Nat}
    (hd : DataW.Trod enc P w base spare held t (.slice A n c) dd ps) : ∃ xs, n = xs.length ∧ Kd.C d w A xs.length xs ∧ xs.length ≤ c ∧ G xs := by
  obtain ⟨fuel, hf⟩ := hd
  obtain ⟨xs, ⟨A', c', he, hl, hr⟩, hg⟩ := h enc w base spare held fuel _ _ hf
  simp [Value.cells] at he
  obtain ⟨rfl, rfl, rfl⟩ := he
  exact ⟨xs, rfl, hr, hl, hg⟩
end Go.Proofs.YtgoiifpimpnlpaaW.Opens

end
