-- Made by pack.py of the texts that the law reaches.
import Derived.ChangeArms
import Derived.ChangeSame
import Derived.DataReads
import Derived.Deep.Strs
import Derived.Lib.SmallJoins
import Derived.Test.YtgoiifpimpnlpaaV6
section
namespace Go.Proofs.Ytgoiifpimpnlpaa.PAll
open Go.RowKit Go.Proofs.YtgoiifpimpnlpaaW.PrintWords Go.Proofs.YtgoiifpimpnlpaaW.PrintLast Go.Proofs.YtgoiifpimpnlpaaW.PrintMore
attribute [local go_sem] max2_int min2_int max_two min_two max_three min_three max_four min_four   -- for this text's walks alone
set_option linter.unusedVariables false
set_option linter.unusedSimpArgs false
mutual
def laws_FnExactDevelopTerm.j0 : Nat → List (S68) → List (S66) → Bool → List (S66) → List (S66) → Bool → Bool → Option (Bool)
  | 0, _, _, _, _, _, _, _ => none
  | k + 1, x0, x4, x5, x6, x7, x8, x40 => if x40 = true then (some false) else ((laws_toCellS.f k x0).bind fun t575 => ((laws_eqCellS.f k x6 t575).bind fun t578 => (if t578 = true then ((laws_markCellS.f k x6 1).bind fun bt579 => (if bt579.1 < 0 then (laws_FnExactDevelopTerm.j1 k x0 x4 x5 x7 true) else ((laws_eqCellS.f k x7 x4).bind fun t581 => (if t581 = true then (laws_FnExactDevelopTerm.j1 k x0 x4 x5 x7 (x8 != x5)) else (laws_FnExactDevelopTerm.j1 k x0 x4 x5 x7 true))))) else (some false))))
def laws_FnExactDevelopTerm.j1 : Nat → List (S68) → List (S66) → Bool → List (S66) → Bool → Option (Bool)
  | 0, _, _, _, _, _ => none
  | k + 1, x0, x4, x5, x7, x61 => if x61 = true then (some false) else ((laws_markCellS.f k x7 1).bind fun bt582 => ((laws_heldCellS.f k bt582.2 1).bind fun t584 => (if t584 < 0 then (some false) else (if t584 = bt582.1 then ((laws_toCellS.f k x0).bind fun t585 => ((impl_DevelopTerm.f k t585).bind fun bt588 => ((laws_eqCellS.f k bt588.1 x4).bind fun t592 => (if t592 = true then (laws_FnExactDevelopTerm.j2 k bt582.2 bt582.1 (bt588.2 != x5)) else (laws_FnExactDevelopTerm.j2 k bt582.2 bt582.1 true))))) else (some false)))))
def laws_FnExactDevelopTerm.j2 : Nat → List (S66) → Int → Bool → Option (Bool)
  | 0, _, _, _ => none
  | k + 1, x7, x10, x87 => if x87 = true then (some false) else ((laws_heldCellS.f k x7 1).bind fun t593 => (if t593 < 0 then (some false) else (if t593 = x10 then (some true) else (some false))))
end
def laws_FnExactDevelopTerm.f (k : Nat) (l0 : List (S68)) : Option (Bool) := (laws_szCellS.f l0 1048576).bind fun t559 => (if t559 < 0 then (some true) else ((laws_toCellS.f k l0).bind fun t560 => ((spec_DevelopTerm.f k t560).bind fun bt563 => ((laws_toCellS.f k l0).bind fun t567 => ((impl_DevelopTerm.f k t567).bind fun bt570 => ((laws_eqCellS.f k bt570.1 bt563.1).bind fun t574 => (if t574 = true then (laws_FnExactDevelopTerm.j0 k l0 bt563.1 bt563.2 t567 bt570.1 bt570.2 (bt570.2 != bt563.2)) else (laws_FnExactDevelopTerm.j0 k l0 bt563.1 bt563.2 t567 bt570.1 bt570.2 true))))))))
set_option maxHeartbeats 8000000 in
set_option maxRecDepth 100000 in
theorem laws_FnExactDevelopTerm.calls (k : Nat) (A0 : Option Addr) (c0 : Nat) (l0 : List (S68)) (r_ : Bool) (w : World) (hr0 : Kd.C k68 w A0 l0.length l0) (hc0 : l0.length ≤ c0) (h : laws_FnExactDevelopTerm.f k l0 = some true) :
    Calls Try.prog 8 #[.slice A0 l0.length c0] w fun e w' => e = .returned (.bool true) ∧ Below w.heap.size w w' := by
  have HR0 := ab_ hr0
  have HC0 := ab_ hc0
  clear hr0 hc0
  have HB := ab_ (at_ w.heap.size w)
  have H : ((laws_szCellS.f l0 1048576).bind fun t559 => (if t559 < 0 then (some true) else ((laws_toCellS.f k l0).bind fun t560 => ((spec_DevelopTerm.f k t560).bind fun bt563 => ((laws_toCellS.f k l0).bind fun t567 => ((impl_DevelopTerm.f k t567).bind fun bt570 => ((laws_eqCellS.f k bt570.1 bt563.1).bind fun t574 => (if t574 = true then (laws_FnExactDevelopTerm.j0 k l0 bt563.1 bt563.2 t567 bt570.1 bt570.2 (bt570.2 != bt563.2)) else (laws_FnExactDevelopTerm.j0 k l0 bt563.1 bt563.2 t567 bt570.1 bt570.2 true))))))))) = some true := h
  clear h
  replace H := Option.bind_eq_some_iff.mp H
  obtain ⟨t559, A20, H⟩ := H
  replace H : (if t559 < 0 then (some true) else ((laws_toCellS.f k l0).bind fun t560 => ((spec_DevelopTerm.f k t560).bind fun bt563 => ((laws_toCellS.f k l0).bind fun t567 => ((impl_DevelopTerm.f k t567).bind fun bt570 => ((laws_eqCellS.f k bt570.1 bt563.1).bind fun t574 => (if t574 = true then (laws_FnExactDevelopTerm.j0 k l0 bt563.1 bt563.2 t567 bt570.1 bt570.2 (bt570.2 != bt563.2)) else (laws_FnExactDevelopTerm.j0 k l0 bt563.1 bt563.2 t567 bt570.1 bt570.2 true)))))))) = some true := H
  have A2 := ab_ A20
  clear A20
  by_cases c3 : t559 < 0
  · rw [if_pos c3] at H
    have c3b0 : decide (t559 < 0) = true := ar_ c3
    clear c3
    clear H
    go_enter Try.func8, Try.ntmps8
    go_wp2_with (first | ((with_reducible refine gate_callee (f := 13) rfl ?_); refine goesL_ (some 16) rfl rfl Try.func13 (by kernel_rfl) rfl #[.slice A0 l0.length c0, .int .i64 1048576] rfl (by (try simp only [List.map_toArray, List.map_cons, List.map_nil]); first | done | rfl | (simp only [List.length_drop, List.length_take]; rfl)) ?_; (with_reducible refine (laws_szCellS.calls _ _ l0 1048576 t559 _ ?side1 ?side2 A2.out).mono ?_); (case side1 => repeat (first | exact HR0.out | (with_reducible refine Kd.C_alloc ?_ _) | (with_reducible refine Kd.C_drewN ?_ _) | (with_reducible refine Kd.C_drew ?_))); (case side2 => exact HC0.out); rintro e w' ⟨rfl, ⟨nd, rfl⟩⟩; refine ⟨_, rfl, ?_⟩))
    go_ret
    exact ⟨by first | rfl | (simp [errW_none, errW_some] <;> rfl) | (simp [*, errW_none, errW_some] <;> rfl), by repeat (first | (with_reducible first | exact HB.out | apply ai_ | apply ag_ | apply ah_) | exact HB.out)⟩
  · rw [if_neg c3] at H
    have c3b0 : decide (t559 < 0) = false := decide_eq_false c3
    clear c3
    replace H := Option.bind_eq_some_iff.mp H
    obtain ⟨t560, A40, H⟩ := H
    replace H : ((spec_DevelopTerm.f k t560).bind fun bt563 => ((laws_toCellS.f k l0).bind fun t567 => ((impl_DevelopTerm.f k t567).bind fun bt570 => ((laws_eqCellS.f k bt570.1 bt563.1).bind fun t574 => (if t574 = true then (laws_FnExactDevelopTerm.j0 k l0 bt563.1 bt563.2 t567 bt570.1 bt570.2 (bt570.2 != bt563.2)) else (laws_FnExactDevelopTerm.j0 k l0 bt563.1 bt563.2 t567 bt570.1 bt570.2 true)))))) = some true := H
    have A4 := ab_ A40
    clear A40
    replace H := Option.bind_eq_some_iff.mp H
    obtain ⟨⟨t563, t564⟩, A50, H⟩ := H
    replace H : ((laws_toCellS.f k l0).bind fun t567 => ((impl_DevelopTerm.f k t567).bind fun bt570 => ((laws_eqCellS.f k bt570.1 t563).bind fun t574 => (if t574 = true then (laws_FnExactDevelopTerm.j0 k l0 t563 t564 t567 bt570.1 bt570.2 (bt570.2 != t564)) else (laws_FnExactDevelopTerm.j0 k l0 t563 t564 t567 bt570.1 bt570.2 true))))) = some true := H
    have A5 := ab_ A50
    clear A50
    replace H := Option.bind_eq_some_iff.mp H
    obtain ⟨t567, A60, H⟩ := H
    replace H : ((impl_DevelopTerm.f k t567).bind fun bt570 => ((laws_eqCellS.f k bt570.1 t563).bind fun t574 => (if t574 = true then (laws_FnExactDevelopTerm.j0 k l0 t563 t564 t567 bt570.1 bt570.2 (bt570.2 != t564)) else (laws_FnExactDevelopTerm.j0 k l0 t563 t564 t567 bt570.1 bt570.2 true)))) = some true := H
    have A6 := ab_ A60
    clear A60
    replace H := Option.bind_eq_some_iff.mp H
    obtain ⟨⟨t570, t571⟩, A70, H⟩ := H
    replace H : ((laws_eqCellS.f k t570 t563).bind fun t574 => (if t574 = true then (laws_FnExactDevelopTerm.j0 k l0 t563 t564 t567 t570 t571 (t571 != t564)) else (laws_FnExactDevelopTerm.j0 k l0 t563 t564 t567 t570 t571 true))) = some true := H
    have A7 := ab_ A70
    clear A70
    have HC8 := ab_ H
    clear H
    go_enter Try.func8, Try.ntmps8
    go_upto_region 8 with (first | ((with_reducible refine gate_callee (f := 13) rfl ?_); refine goesL_ (some 16) rfl rfl Try.func13 (by kernel_rfl) rfl #[.slice A0 l0.length c0, .int .i64 1048576] rfl (by (try simp only [List.map_toArray, List.map_cons, List.map_nil]); first | done | rfl | (simp only [List.length_drop, List.length_take]; rfl)) ?_; (with_reducible refine (laws_szCellS.calls _ _ l0 1048576 t559 _ ?side1 ?side2 A2.out).mono ?_); (case side1 => repeat (first | exact HR0.out | (with_reducible refine Kd.C_alloc ?_ _) | (with_reducible refine Kd.C_drewN ?_ _) | (with_reducible refine Kd.C_drew ?_))); (case side2 => exact HC0.out); rintro e w' ⟨rfl, ⟨nd, rfl⟩⟩; refine ⟨_, rfl, ?_⟩) | ((with_reducible refine gate_callee (f := 15) rfl ?_); refine goesL_ (some 21) rfl rfl Try.func15 (by kernel_rfl) rfl #[.slice A0 l0.length c0] rfl (by (try simp only [List.map_toArray, List.map_cons, List.map_nil]); first | done | rfl | (simp only [List.length_drop, List.length_take]; rfl)) ?_; (with_reducible refine (laws_toCellS.calls k _ _ l0 t560 _ ?side1 ?side2 A4.out).mono ?_); (case side1 => repeat (first | exact HR0.out | (with_reducible refine Kd.C_alloc ?_ _) | (with_reducible refine Kd.C_drewN ?_ _) | (with_reducible refine Kd.C_drew ?_))); (case side2 => exact HC0.out); rintro e w9 ⟨v561, rfl, ho0, hb⟩; refine ⟨_, rfl, ?_⟩; have n0_ := ab_ (Kd.R_lower ho0 (below_size (by repeat (first | (with_reducible first | exact HB.out | apply ai_ | apply ag_ | apply ah_) | exact HB.out)))); have n1_ := ab_ (as_ (by repeat (first | (with_reducible first | exact HB.out | apply ai_ | apply ag_ | apply ah_) | exact HB.out)) hb); clear HB; have HO562 := n0_; have HB := n1_; clear n0_ n1_; (try clear hb); (try clear hb2); (try clear hk); (try clear hi); (try clear ho0); obtain ⟨Ao10, co10, eo10⟩ := Kd.R_slice HO562.out; subst eo10) | ((with_reducible refine gate_callee (f := 28) rfl ?_); refine goesL_ (some 22) rfl rfl Try.func28 (by kernel_rfl) rfl #[.slice Ao10 t560.length co10] rfl (by (try simp only [List.map_toArray, List.map_cons, List.map_nil]); first | done | rfl | (simp only [List.length_drop, List.length_take]; rfl)) ?_; (with_reducible refine (spec_DevelopTerm.calls k _ _ t560 t563 t564 _ ?side1 ?side2 A5.out).mono ?_); (case side1 => repeat (first | exact (Kd.R_reads' HO562.out).2.2 | (with_reducible refine Kd.C_alloc ?_ _) | (with_reducible refine Kd.C_drewN ?_ _) | (with_reducible refine Kd.C_drew ?_))); (case side2 => exact (Kd.R_reads' HO562.out).2.1); rintro e w11 ⟨v565, rfl, ho0, hb⟩; refine ⟨_, rfl, ?_⟩; have n0_ := ab_ (Kd.R_elder' (by (with_reducible repeat (first | apply ao_ | apply ap_ | apply aq_)); exact HO562.out) (Kd.R_base ho0) hb); have n1_ := ab_ (Kd.R_lower (Kd.R_new' ho0 (Kd.R_lt (by (with_reducible repeat (first | apply ao_ | apply ap_ | apply aq_)); exact HO562.out))) (below_size (by repeat (first | (with_reducible first | exact HB.out | apply ai_ | apply ag_ | apply ah_) | exact HB.out)))); have n2_ := ab_ (as_ (by repeat (first | (with_reducible first | exact HB.out | apply ai_ | apply ag_ | apply ah_) | exact HB.out)) hb); clear HO562; clear HB; have HO562 := n0_; have HO566 := n1_; have HB := n2_; clear n0_ n1_ n2_; (try clear hb); (try clear hb2); (try clear hk); (try clear hi); (try clear ho0)) | ((with_reducible refine gate_callee (f := 15) rfl ?_); refine goesL_ (some 26) rfl rfl Try.func15 (by kernel_rfl) rfl #[.slice A0 l0.length c0] rfl (by (try simp only [List.map_toArray, List.map_cons, List.map_nil]); first | done | rfl | (simp only [List.length_drop, List.length_take]; rfl)) ?_; (with_reducible refine (laws_toCellS.calls k _ _ l0 t567 _ ?side1 ?side2 A6.out).mono ?_); (case side1 => repeat (first | exact (Kd.C_below HR0.out HB.out) | (with_reducible refine Kd.C_alloc ?_ _) | (with_reducible refine Kd.C_drewN ?_ _) | (with_reducible refine Kd.C_drew ?_))); (case side2 => exact HC0.out); rintro e w12 ⟨v568, rfl, ho0, hb⟩; refine ⟨_, rfl, ?_⟩; have n0_ := ab_ (Kd.R_elder' (by (with_reducible repeat (first | apply ao_ | apply ap_ | apply aq_)); exact HO562.out) (Kd.R_base ho0) hb); have n1_ := ab_ (Kd.R_elder' (by (with_reducible repeat (first | apply ao_ | apply ap_ | apply aq_)); exact HO566.out) (Kd.R_base ho0) hb); have n2_ := ab_ (Kd.R_lower (Kd.R_new' (Kd.R_new' ho0 (Kd.R_lt (by (with_reducible repeat (first | apply ao_ | apply ap_ | apply aq_)); exact HO562.out))) (Kd.R_lt (by (with_reducible repeat (first | apply ao_ | apply ap_ | apply aq_)); exact HO566.out))) (below_size (by repeat (first | (with_reducible first | exact HB.out | apply ai_ | apply ag_ | apply ah_) | exact HB.out)))); have n3_ := ab_ (as_ (by repeat (first | (with_reducible first | exact HB.out | apply ai_ | apply ag_ | apply ah_) | exact HB.out)) hb); clear HO562; clear HO566; clear HB; have HO562 := n0_; have HO566 := n1_; have HO569 := n2_; have HB := n3_; clear n0_ n1_ n2_ n3_; (try clear hb); (try clear hb2); (try clear hk); (try clear hi); (try clear ho0); obtain ⟨Ao13, co13, eo13⟩ := Kd.R_slice HO569.out; subst eo13) | ((with_reducible refine gate_callee (f := 29) rfl ?_); refine goesL_ (some 29) rfl rfl Try.func29 (by kernel_rfl) rfl #[.slice Ao13 t567.length co13] rfl (by (try simp only [List.map_toArray, List.map_cons, List.map_nil]); first | done | rfl | (simp only [List.length_drop, List.length_take]; rfl)) ?_; (with_reducible refine (impl_DevelopTerm.calls k _ _ t567 t570 t571 _ ?side1 ?side2 A7.out).mono ?_); (case side1 => repeat (first | exact (Kd.R_reads' HO569.out).2.2 | (with_reducible refine Kd.C_alloc ?_ _) | (with_reducible refine Kd.C_drewN ?_ _) | (with_reducible refine Kd.C_drew ?_))); (case side2 => exact (Kd.R_reads' HO569.out).2.1); rintro e w14 ⟨v572, rfl, ho0, hb⟩; refine ⟨_, rfl, ?_⟩; have n0_ := ab_ (Kd.R_elder' (by (with_reducible repeat (first | apply ao_ | apply ap_ | apply aq_)); exact HO562.out) (Kd.R_base ho0) hb); have n1_ := ab_ (Kd.R_elder' (by (with_reducible repeat (first | apply ao_ | apply ap_ | apply aq_)); exact HO566.out) (Kd.R_base ho0) hb); have n2_ := ab_ (Kd.R_elder' (by (with_reducible repeat (first | apply ao_ | apply ap_ | apply aq_)); exact HO569.out) (Kd.R_base ho0) hb); have n3_ := ab_ (Kd.R_lower (Kd.R_new' (Kd.R_new' (Kd.R_new' ho0 (Kd.R_lt (by (with_reducible repeat (first | apply ao_ | apply ap_ | apply aq_)); exact HO562.out))) (Kd.R_lt (by (with_reducible repeat (first | apply ao_ | apply ap_ | apply aq_)); exact HO566.out))) (Kd.R_lt (by (with_reducible repeat (first | apply ao_ | apply ap_ | apply aq_)); exact HO569.out))) (below_size (by repeat (first | (with_reducible first | exact HB.out | apply ai_ | apply ag_ | apply ah_) | exact HB.out)))); have n4_ := ab_ (as_ (by repeat (first | (with_reducible first | exact HB.out | apply ai_ | apply ag_ | apply ah_) | exact HB.out)) hb); clear HO562; clear HO566; clear HO569; clear HB; have HO562 := n0_; have HO566 := n1_; have HO569 := n2_; have HO573 := n3_; have HB := n4_; clear n0_ n1_ n2_ n3_ n4_; (try clear hb); (try clear hb2); (try clear hk); (try clear hi); (try clear ho0)))
    (try simp only [Act.put, List.setIfInBounds_toArray, List.set_cons_zero, List.set_cons_succ])
    go_cut [40] (fun v40 wc => ∃ (kq : Nat) (x40_7 : Bool), v40 = .bool x40_7 ∧ Aside0 (laws_FnExactDevelopTerm.j0 kq l0 t563 t564 t567 t570 t571 x40_7 = some true) ∧ Aside0 (kq ≤ k) ∧ Aside0 (Kd.R k66 66 wc w.heap.size (fun k_ => some k_ ≠ ((.slice Ao13 t567.length co13) : Value).ownBlock ∧ some k_ ≠ (v572 : Value).ownBlock) v565 t563) ∧ Aside0 (Kd.R k66 66 wc w.heap.size (fun k_ => some k_ ≠ (v565 : Value).ownBlock ∧ some k_ ≠ (v572 : Value).ownBlock) (.slice Ao13 t567.length co13) t567) ∧ Aside0 (Kd.R k66 66 wc w.heap.size (fun k_ => some k_ ≠ (v565 : Value).ownBlock ∧ some k_ ≠ ((.slice Ao13 t567.length co13) : Value).ownBlock) v572 t570) ∧ Aside0 (Below w.heap.size w wc))
    case first =>
      have H := HC8.out
      clear HC8
      replace H := Option.bind_eq_some_iff.mp H
      obtain ⟨t574, A150, H⟩ := H
      replace H : (if t574 = true then (laws_FnExactDevelopTerm.j0 k l0 t563 t564 t567 t570 t571 (t571 != t564)) else (laws_FnExactDevelopTerm.j0 k l0 t563 t564 t567 t570 t571 true)) = some true := H
      have A15 := ab_ A150
      clear A150
      by_cases c16 : t574 = true
      · subst c16
        have H1 : (laws_FnExactDevelopTerm.j0 k l0 t563 t564 t567 t570 t571 (t571 != t564)) = some true := by rw [if_pos rfl] at H; first | done | exact H
        clear H
        have H := H1
        clear H1
        have H' := ab_ H
        clear H
        obtain ⟨Ao17, co17, eo17⟩ := Kd.R_slice HO573.out
        subst eo17
        obtain ⟨Ao18, co18, eo18⟩ := Kd.R_slice HO566.out
        subst eo18
        go_wp2_with (first | ((with_reducible refine gate_callee (f := 17) rfl ?_); refine goesL_ (some 34) rfl rfl Try.func17 (by kernel_rfl) rfl #[.slice Ao17 t570.length co17, .slice Ao18 t563.length co18] rfl (by (try simp only [List.map_toArray, List.map_cons, List.map_nil]); first | done | rfl | (simp only [List.length_drop, List.length_take]; rfl)) ?_; (with_reducible refine (laws_eqCellS.calls k _ _ t570 _ _ t563 true _ ?side1 ?side2 ?side3 ?side4 A15.out).mono ?_); (case side1 => repeat (first | exact (Kd.R_reads' HO573.out).2.2 | (with_reducible refine Kd.C_alloc ?_ _) | (with_reducible refine Kd.C_drewN ?_ _) | (with_reducible refine Kd.C_drew ?_))); (case side2 => exact (Kd.R_reads' HO573.out).2.1); (case side3 => repeat (first | exact (Kd.R_reads' HO566.out).2.2 | (with_reducible refine Kd.C_alloc ?_ _) | (with_reducible refine Kd.C_drewN ?_ _) | (with_reducible refine Kd.C_drew ?_))); (case side4 => exact (Kd.R_reads' HO566.out).2.1); rintro e w19 ⟨rfl, hb⟩; refine ⟨_, rfl, ?_⟩; have n0_ := ab_ (Kd.R_below (by (with_reducible repeat (first | apply ao_ | apply ap_ | apply aq_)); exact HO562.out) hb); have n1_ := ab_ (Kd.R_below (by (with_reducible repeat (first | apply ao_ | apply ap_ | apply aq_)); exact HO566.out) hb); have n2_ := ab_ (Kd.R_below (by (with_reducible repeat (first | apply ao_ | apply ap_ | apply aq_)); exact HO569.out) hb); have n3_ := ab_ (Kd.R_below (by (with_reducible repeat (first | apply ao_ | apply ap_ | apply aq_)); exact HO573.out) hb); have n4_ := ab_ (as_ (by repeat (first | (with_reducible first | exact HB.out | apply ai_ | apply ag_ | apply ah_) | exact HB.out)) hb); clear HO562; clear HO566; clear HO569; clear HO573; clear HB; have HO562 := n0_; have HO566 := n1_; have HO569 := n2_; have HO573 := n3_; have HB := n4_; clear n0_ n1_ n2_ n3_ n4_; (try clear hb); (try clear hb2); (try clear hk); (try clear hi)))
        go_meet
        case rel => exact ⟨_, ((t571 != t564)), (by first | rfl | (simp; done) | (simp [*]; done)), H', ⟨by first | omega | exact Nat.le_refl _⟩, ⟨by (with_reducible repeat (first | apply ao_ | apply ap_ | apply aq_)); exact Kd.R_mono HO566.out (fun _ hk => ⟨hk.1.2, hk.2⟩)⟩, ⟨by (with_reducible repeat (first | apply ao_ | apply ap_ | apply aq_)); exact Kd.R_mono HO569.out (fun _ hk => ⟨hk.1.2, hk.2⟩)⟩, ⟨by (with_reducible repeat (first | apply ao_ | apply ap_ | apply aq_)); exact Kd.R_mono HO573.out (fun _ hk => ⟨hk.1.2, hk.2⟩)⟩, ⟨by repeat (first | (with_reducible first | exact HB.out | apply ai_ | apply ag_ | apply ah_) | exact HB.out)⟩⟩
      · replace c16 := Bool.eq_false_iff.mpr c16
        subst c16
        have H1 : (laws_FnExactDevelopTerm.j0 k l0 t563 t564 t567 t570 t571 true) = some true := by rw [if_neg (show ¬ (false = true) by decide)] at H; first | done | exact H
        clear H
        have H := H1
        clear H1
        have H' := ab_ H
        clear H
        obtain ⟨Ao20, co20, eo20⟩ := Kd.R_slice HO573.out
        subst eo20
        obtain ⟨Ao21, co21, eo21⟩ := Kd.R_slice HO566.out
        subst eo21
        go_wp2_with (first | ((with_reducible refine gate_callee (f := 17) rfl ?_); refine goesL_ (some 34) rfl rfl Try.func17 (by kernel_rfl) rfl #[.slice Ao20 t570.length co20, .slice Ao21 t563.length co21] rfl (by (try simp only [List.map_toArray, List.map_cons, List.map_nil]); first | done | rfl | (simp only [List.length_drop, List.length_take]; rfl)) ?_; (with_reducible refine (laws_eqCellS.calls k _ _ t570 _ _ t563 false _ ?side1 ?side2 ?side3 ?side4 A15.out).mono ?_); (case side1 => repeat (first | exact (Kd.R_reads' HO573.out).2.2 | (with_reducible refine Kd.C_alloc ?_ _) | (with_reducible refine Kd.C_drewN ?_ _) | (with_reducible refine Kd.C_drew ?_))); (case side2 => exact (Kd.R_reads' HO573.out).2.1); (case side3 => repeat (first | exact (Kd.R_reads' HO566.out).2.2 | (with_reducible refine Kd.C_alloc ?_ _) | (with_reducible refine Kd.C_drewN ?_ _) | (with_reducible refine Kd.C_drew ?_))); (case side4 => exact (Kd.R_reads' HO566.out).2.1); rintro e w22 ⟨rfl, hb⟩; refine ⟨_, rfl, ?_⟩; have n0_ := ab_ (Kd.R_below (by (with_reducible repeat (first | apply ao_ | apply ap_ | apply aq_)); exact HO562.out) hb); have n1_ := ab_ (Kd.R_below (by (with_reducible repeat (first | apply ao_ | apply ap_ | apply aq_)); exact HO566.out) hb); have n2_ := ab_ (Kd.R_below (by (with_reducible repeat (first | apply ao_ | apply ap_ | apply aq_)); exact HO569.out) hb); have n3_ := ab_ (Kd.R_below (by (with_reducible repeat (first | apply ao_ | apply ap_ | apply aq_)); exact HO573.out) hb); have n4_ := ab_ (as_ (by repeat (first | (with_reducible first | exact HB.out | apply ai_ | apply ag_ | apply ah_) | exact HB.out)) hb); clear HO562; clear HO566; clear HO569; clear HO573; clear HB; have HO562 := n0_; have HO566 := n1_; have HO569 := n2_; have HO573 := n3_; have HB := n4_; clear n0_ n1_ n2_ n3_ n4_; (try clear hb); (try clear hb2); (try clear hk); (try clear hi)))
        go_meet
        case rel => exact ⟨_, (true), (by first | rfl | (simp; done) | (simp [*]; done)), H', ⟨by first | omega | exact Nat.le_refl _⟩, ⟨by (with_reducible repeat (first | apply ao_ | apply ap_ | apply aq_)); exact Kd.R_mono HO566.out (fun _ hk => ⟨hk.1.2, hk.2⟩)⟩, ⟨by (with_reducible repeat (first | apply ao_ | apply ap_ | apply aq_)); exact Kd.R_mono HO569.out (fun _ hk => ⟨hk.1.2, hk.2⟩)⟩, ⟨by (with_reducible repeat (first | apply ao_ | apply ap_ | apply aq_)); exact Kd.R_mono HO573.out (fun _ hk => ⟨hk.1.2, hk.2⟩)⟩, ⟨by repeat (first | (with_reducible first | exact HB.out | apply ai_ | apply ag_ | apply ah_) | exact HB.out)⟩⟩
    case rest =>
      clear HC8
      try clear c1
      try clear c2
      try clear p2
      try clear c3
      try clear c3b0
      try clear c8
      try clear c13
      try clear c15
      try clear c16
      try clear c17
      obtain ⟨kq, x40_7, rfl, HA, HJ7, HO_4, HO_6, HO_7, HB⟩ := hcut
      cases kq with
      | zero => exact absurd HA.out (by simp [laws_FnExactDevelopTerm.j0])
      | succ kj7 =>
        have H := HA.out
        clear HA
        simp only [laws_FnExactDevelopTerm.j0] at H
        by_cases c23 : x40_7 = true
        · subst c23
          have H1 : (some false) = some true := by rw [if_pos rfl] at H; first | done | exact H
          clear H
          have H := H1
          clear H1
          exact absurd H (by simp)
        · replace c23 := Bool.eq_false_iff.mpr c23
          subst c23
          have H1 : ((laws_toCellS.f kj7 l0).bind fun t575 => ((laws_eqCellS.f kj7 t567 t575).bind fun t578 => (if t578 = true then ((laws_markCellS.f kj7 t567 1).bind fun bt579 => (if bt579.1 < 0 then (laws_FnExactDevelopTerm.j1 kj7 l0 t563 t564 t570 true) else ((laws_eqCellS.f kj7 t570 t563).bind fun t581 => (if t581 = true then (laws_FnExactDevelopTerm.j1 kj7 l0 t563 t564 t570 (t571 != t564)) else (laws_FnExactDevelopTerm.j1 kj7 l0 t563 t564 t570 true))))) else (some false)))) = some true := by rw [if_neg (show ¬ (false = true) by decide)] at H; first | done | exact H
          clear H
          have H := H1
          clear H1
          replace H := Option.bind_eq_some_iff.mp H
          obtain ⟨t575, A240, H⟩ := H
          replace H : ((laws_eqCellS.f kj7 t567 t575).bind fun t578 => (if t578 = true then ((laws_markCellS.f kj7 t567 1).bind fun bt579 => (if bt579.1 < 0 then (laws_FnExactDevelopTerm.j1 kj7 l0 t563 t564 t570 true) else ((laws_eqCellS.f kj7 t570 t563).bind fun t581 => (if t581 = true then (laws_FnExactDevelopTerm.j1 kj7 l0 t563 t564 t570 (t571 != t564)) else (laws_FnExactDevelopTerm.j1 kj7 l0 t563 t564 t570 true))))) else (some false))) = some true := H
          have A24 := ab_ A240
          clear A240
          replace H := Option.bind_eq_some_iff.mp H
          obtain ⟨t578, A250, H⟩ := H
          replace H : (if t578 = true then ((laws_markCellS.f kj7 t567 1).bind fun bt579 => (if bt579.1 < 0 then (laws_FnExactDevelopTerm.j1 kj7 l0 t563 t564 t570 true) else ((laws_eqCellS.f kj7 t570 t563).bind fun t581 => (if t581 = true then (laws_FnExactDevelopTerm.j1 kj7 l0 t563 t564 t570 (t571 != t564)) else (laws_FnExactDevelopTerm.j1 kj7 l0 t563 t564 t570 true))))) else (some false)) = some true := H
          have A25 := ab_ A250
          clear A250
          by_cases c26 : t578 = true
          · subst c26
            have H1 : ((laws_markCellS.f kj7 t567 1).bind fun bt579 => (if bt579.1 < 0 then (laws_FnExactDevelopTerm.j1 kj7 l0 t563 t564 t570 true) else ((laws_eqCellS.f kj7 t570 t563).bind fun t581 => (if t581 = true then (laws_FnExactDevelopTerm.j1 kj7 l0 t563 t564 t570 (t571 != t564)) else (laws_FnExactDevelopTerm.j1 kj7 l0 t563 t564 t570 true))))) = some true := by rw [if_pos rfl] at H; first | done | exact H
            clear H
            have H := H1
            clear H1
            replace H := Option.bind_eq_some_iff.mp H
            obtain ⟨⟨t579, t580⟩, A270, H⟩ := H
            replace H : (if t579 < 0 then (laws_FnExactDevelopTerm.j1 kj7 l0 t563 t564 t570 true) else ((laws_eqCellS.f kj7 t570 t563).bind fun t581 => (if t581 = true then (laws_FnExactDevelopTerm.j1 kj7 l0 t563 t564 t570 (t571 != t564)) else (laws_FnExactDevelopTerm.j1 kj7 l0 t563 t564 t570 true)))) = some true := H
            have A27 := ab_ A270
            clear A270
            have HC28 := ab_ H
            clear H
            go_upto_region 14 with (first | ((with_reducible refine gate_callee (f := 15) rfl ?_); refine goesL_ (some 43) rfl rfl Try.func15 (by kernel_rfl) rfl #[.slice A0 l0.length c0] rfl (by (try simp only [List.map_toArray, List.map_cons, List.map_nil]); first | done | rfl | (simp only [List.length_drop, List.length_take]; rfl)) ?_; (with_reducible refine (laws_toCellS.calls kj7 _ _ l0 t575 _ ?side1 ?side2 A24.out).mono ?_); (case side1 => repeat (first | exact (Kd.C_below HR0.out HB.out) | (with_reducible refine Kd.C_alloc ?_ _) | (with_reducible refine Kd.C_drewN ?_ _) | (with_reducible refine Kd.C_drew ?_))); (case side2 => exact HC0.out); rintro e w29 ⟨v576, rfl, ho0, hb⟩; refine ⟨_, rfl, ?_⟩; have n0_ := ab_ (Kd.R_elder' (by (with_reducible repeat (first | apply ao_ | apply ap_ | apply aq_)); exact HO_4.out) (Kd.R_base ho0) hb); have n1_ := ab_ (Kd.R_elder' (by (with_reducible repeat (first | apply ao_ | apply ap_ | apply aq_)); exact HO_6.out) (Kd.R_base ho0) hb); have n2_ := ab_ (Kd.R_elder' (by (with_reducible repeat (first | apply ao_ | apply ap_ | apply aq_)); exact HO_7.out) (Kd.R_base ho0) hb); have n3_ := ab_ (Kd.R_lower (Kd.R_new' (Kd.R_new' (Kd.R_new' ho0 (Kd.R_lt (by (with_reducible repeat (first | apply ao_ | apply ap_ | apply aq_)); exact HO_4.out))) (Kd.R_lt (by (with_reducible repeat (first | apply ao_ | apply ap_ | apply aq_)); exact HO_6.out))) (Kd.R_lt (by (with_reducible repeat (first | apply ao_ | apply ap_ | apply aq_)); exact HO_7.out))) (below_size (by repeat (first | (with_reducible first | exact HB.out | apply ai_ | apply ag_ | apply ah_) | exact HB.out)))); have n4_ := ab_ (as_ (by repeat (first | (with_reducible first | exact HB.out | apply ai_ | apply ag_ | apply ah_) | exact HB.out)) hb); clear HO_4; clear HO_6; clear HO_7; clear HB; have HO_4 := n0_; have HO_6 := n1_; have HO_7 := n2_; have HO577 := n3_; have HB := n4_; clear n0_ n1_ n2_ n3_ n4_; (try clear hb); (try clear hb2); (try clear hk); (try clear hi); (try clear ho0); obtain ⟨Ao30, co30, eo30⟩ := Kd.R_slice HO577.out; subst eo30) | ((with_reducible refine gate_callee (f := 17) rfl ?_); refine goesL_ (some 44) rfl rfl Try.func17 (by kernel_rfl) rfl #[.slice Ao13 t567.length co13, .slice Ao30 t575.length co30] rfl (by (try simp only [List.map_toArray, List.map_cons, List.map_nil]); first | done | rfl | (simp only [List.length_drop, List.length_take]; rfl)) ?_; (with_reducible refine (laws_eqCellS.calls kj7 _ _ t567 _ _ t575 true _ ?side1 ?side2 ?side3 ?side4 A25.out).mono ?_); (case side1 => repeat (first | exact (Kd.R_reads' HO_6.out).2.2 | (with_reducible refine Kd.C_alloc ?_ _) | (with_reducible refine Kd.C_drewN ?_ _) | (with_reducible refine Kd.C_drew ?_))); (case side2 => exact (Kd.R_reads' HO_6.out).2.1); (case side3 => repeat (first | exact (Kd.R_reads' HO577.out).2.2 | (with_reducible refine Kd.C_alloc ?_ _) | (with_reducible refine Kd.C_drewN ?_ _) | (with_reducible refine Kd.C_drew ?_))); (case side4 => exact (Kd.R_reads' HO577.out).2.1); rintro e w31 ⟨rfl, hb⟩; refine ⟨_, rfl, ?_⟩; have n0_ := ab_ (Kd.R_below (by (with_reducible repeat (first | apply ao_ | apply ap_ | apply aq_)); exact HO_4.out) hb); have n1_ := ab_ (Kd.R_below (by (with_reducible repeat (first | apply ao_ | apply ap_ | apply aq_)); exact HO_6.out) hb); have n2_ := ab_ (Kd.R_below (by (with_reducible repeat (first | apply ao_ | apply ap_ | apply aq_)); exact HO_7.out) hb); have n3_ := ab_ (Kd.R_below (by (with_reducible repeat (first | apply ao_ | apply ap_ | apply aq_)); exact HO577.out) hb); have n4_ := ab_ (as_ (by repeat (first | (with_reducible first | exact HB.out | apply ai_ | apply ag_ | apply ah_) | exact HB.out)) hb); clear HO_4; clear HO_6; clear HO_7; clear HO577; clear HB; have HO_4 := n0_; have HO_6 := n1_; have HO_7 := n2_; have HO577 := n3_; have HB := n4_; clear n0_ n1_ n2_ n3_ n4_; (try clear hb); (try clear hb2); (try clear hk); (try clear hi)) | ((with_reducible refine gate_callee (f := 26) rfl ?_); refine goesL_ (some 48) rfl rfl Try.func26 (by kernel_rfl) rfl #[.slice Ao13 t567.length co13, .int .i64 1] rfl (by (try simp only [List.map_toArray, List.map_cons, List.map_nil]); first | done | rfl | (simp only [List.length_drop, List.length_take]; rfl)) ?_; (with_reducible refine (laws_markCellS.calls kj7 (fun k_ => some k_ = (.slice Ao13 t567.length co13 : Value).ownBlock) (.slice Ao13 t567.length co13) t567 1 t579 t580 w _ ?side1 ?side2 A27.out).mono ?_); (case side1 => repeat (first | (with_reducible first | exact HB.out | apply ai_ | apply ag_ | apply ah_) | exact HB.out)); (case side2 => exact Kd.R_tight rfl HO_6.out); rintro e w32 ⟨rfl, hy0, hb, hkp⟩; refine ⟨_, rfl, ?_⟩; have n0_ := ab_ (Kd.R_mono (ok' := fun k_ => some k_ ≠ (.slice Ao13 t567.length co13 : Value).ownBlock ∧ some k_ ≠ (v572 : Value).ownBlock ∧ some k_ ≠ (.slice Ao30 t575.length co30 : Value).ownBlock) (Kd.R_keptB (HO_4.out) hkp (fun k_ hk_ hs_ => (hk_.1.1) hs_)) (fun k_ hk_ => ⟨hk_.1.1.1, hk_.1.1.2, hk_.1.2⟩)); have n1_ := ab_ (Kd.R_reok rfl hy0 (fun k_ e_ => HO_6.out.1 k_ e_)); have n2_ := ab_ (Kd.R_mono (ok' := fun k_ => some k_ ≠ (v565 : Value).ownBlock ∧ some k_ ≠ (.slice Ao13 t567.length co13 : Value).ownBlock ∧ some k_ ≠ (.slice Ao30 t575.length co30 : Value).ownBlock) (Kd.R_keptB (HO_7.out) hkp (fun k_ hk_ hs_ => (hk_.1.2) hs_)) (fun k_ hk_ => ⟨hk_.1.1.1, hk_.1.1.2, hk_.1.2⟩)); have n3_ := ab_ (Kd.R_mono (ok' := fun k_ => some k_ ≠ (v565 : Value).ownBlock ∧ some k_ ≠ (.slice Ao13 t567.length co13 : Value).ownBlock ∧ some k_ ≠ (v572 : Value).ownBlock) (Kd.R_keptB (HO577.out) hkp (fun k_ hk_ hs_ => (hk_.1.2) hs_)) (fun k_ hk_ => ⟨hk_.1.1.1.2, hk_.1.1.2, hk_.1.2⟩)); have n4_ := ab_ (hb); clear HO_4; clear HO_6; clear HO_7; clear HO577; clear HB; have HO_4 := n0_; have HO_6 := n1_; have HO_7 := n2_; have HO577 := n3_; have HB := n4_; clear n0_ n1_ n2_ n3_ n4_; (try clear hb); (try clear hkp); (try clear hy0)))
            (try simp only [Act.put, List.setIfInBounds_toArray, List.set_cons_zero, List.set_cons_succ])
            go_cut [61] (fun v61 wc => ∃ (kq : Nat) (x61_27 : Bool), v61 = .bool x61_27 ∧ Aside0 (laws_FnExactDevelopTerm.j1 kq l0 t563 t564 t570 x61_27 = some true) ∧ Aside0 (kq ≤ kj7) ∧ Aside0 (Kd.R k66 66 wc w.heap.size (fun k_ => some k_ ≠ (v572 : Value).ownBlock) v565 t563) ∧ Aside0 (Kd.R k66 66 wc w.heap.size (fun k_ => some k_ ≠ (v565 : Value).ownBlock) v572 t570) ∧ Aside0 (Below w.heap.size w wc))
            case first =>
              have H := HC28.out
              clear HC28
              by_cases c33 : t579 < 0
              · rw [if_pos c33] at H
                have c33b0 : decide (t579 < 0) = true := ar_ c33
                clear c33
                (first | rw [c33b0] | (simp only [i64_w, i32_w]; rw [c33b0]) | skip)
                have H' := ab_ H
                clear H
                go_wp2
                go_meet
                case rel => exact ⟨_, (true), (by first | rfl | (simp; done) | (simp [*]; done)), H', ⟨by have := HJ7.out; first | omega | exact Nat.le_refl _⟩, ⟨by (with_reducible repeat (first | apply ao_ | apply ap_ | apply aq_)); exact Kd.R_mono HO_4.out (fun _ hk => hk.2.1)⟩, ⟨by (with_reducible repeat (first | apply ao_ | apply ap_ | apply aq_)); exact Kd.R_mono HO_7.out (fun _ hk => hk.1)⟩, ⟨by repeat (first | (with_reducible first | exact HB.out | apply ai_ | apply ag_ | apply ah_) | exact HB.out)⟩⟩
              · rw [if_neg c33] at H
                have c33b0 : decide (t579 < 0) = false := decide_eq_false c33
                clear c33
                (first | rw [c33b0] | (simp only [i64_w, i32_w]; rw [c33b0]) | skip)
                replace H := Option.bind_eq_some_iff.mp H
                obtain ⟨t581, A340, H⟩ := H
                replace H : (if t581 = true then (laws_FnExactDevelopTerm.j1 kj7 l0 t563 t564 t570 (t571 != t564)) else (laws_FnExactDevelopTerm.j1 kj7 l0 t563 t564 t570 true)) = some true := H
                have A34 := ab_ A340
                clear A340
                by_cases c35 : t581 = true
                · subst c35
                  have H1 : (laws_FnExactDevelopTerm.j1 kj7 l0 t563 t564 t570 (t571 != t564)) = some true := by rw [if_pos rfl] at H; first | done | exact H
                  clear H
                  have H := H1
                  clear H1
                  have H' := ab_ H
                  clear H
                  obtain ⟨Ao36, co36, eo36⟩ := Kd.R_slice HO_7.out
                  subst eo36
                  obtain ⟨Ao37, co37, eo37⟩ := Kd.R_slice HO_4.out
                  subst eo37
                  go_wp2_with (first | (go_at_call 17; (with_reducible refine (laws_eqCellS.calls kj7 _ _ t570 _ _ t563 true _ ?side1 ?side2 ?side3 ?side4 A34.out).mono ?_); (case side1 => repeat (first | exact (Kd.R_reads' HO_7.out).2.2 | (with_reducible refine Kd.C_alloc ?_ _) | (with_reducible refine Kd.C_drewN ?_ _) | (with_reducible refine Kd.C_drew ?_))); (case side2 => exact (Kd.R_reads' HO_7.out).2.1); (case side3 => repeat (first | exact (Kd.R_reads' HO_4.out).2.2 | (with_reducible refine Kd.C_alloc ?_ _) | (with_reducible refine Kd.C_drewN ?_ _) | (with_reducible refine Kd.C_drew ?_))); (case side4 => exact (Kd.R_reads' HO_4.out).2.1); rintro e w38 ⟨rfl, hb⟩; have n0_ := ab_ (Kd.R_below (by (with_reducible repeat (first | apply ao_ | apply ap_ | apply aq_)); exact HO_4.out) hb); have n1_ := ab_ (Kd.R_below (by (with_reducible repeat (first | apply ao_ | apply ap_ | apply aq_)); exact HO_6.out) hb); have n2_ := ab_ (Kd.R_below (by (with_reducible repeat (first | apply ao_ | apply ap_ | apply aq_)); exact HO_7.out) hb); have n3_ := ab_ (Kd.R_below (by (with_reducible repeat (first | apply ao_ | apply ap_ | apply aq_)); exact HO577.out) hb); have n4_ := ab_ (as_ (by repeat (first | (with_reducible first | exact HB.out | apply ai_ | apply ag_ | apply ah_) | exact HB.out)) hb); clear HO_4; clear HO_6; clear HO_7; clear HO577; clear HB; have HO_4 := n0_; have HO_6 := n1_; have HO_7 := n2_; have HO577 := n3_; have HB := n4_; clear n0_ n1_ n2_ n3_ n4_; (try clear hb); (try clear hb2); (try clear hk); (try clear hi)))
                  go_meet
                  case rel => exact ⟨_, ((t571 != t564)), (by first | rfl | (simp; done) | (simp [*]; done)), H', ⟨by have := HJ7.out; first | omega | exact Nat.le_refl _⟩, ⟨by (with_reducible repeat (first | apply ao_ | apply ap_ | apply aq_)); exact Kd.R_mono HO_4.out (fun _ hk => hk.2.1)⟩, ⟨by (with_reducible repeat (first | apply ao_ | apply ap_ | apply aq_)); exact Kd.R_mono HO_7.out (fun _ hk => hk.1)⟩, ⟨by repeat (first | (with_reducible first | exact HB.out | apply ai_ | apply ag_ | apply ah_) | exact HB.out)⟩⟩
                · replace c35 := Bool.eq_false_iff.mpr c35
                  subst c35
                  have H1 : (laws_FnExactDevelopTerm.j1 kj7 l0 t563 t564 t570 true) = some true := by rw [if_neg (show ¬ (false = true) by decide)] at H; first | done | exact H
                  clear H
                  have H := H1
                  clear H1
                  have H' := ab_ H
                  clear H
                  obtain ⟨Ao39, co39, eo39⟩ := Kd.R_slice HO_7.out
                  subst eo39
                  obtain ⟨Ao40, co40, eo40⟩ := Kd.R_slice HO_4.out
                  subst eo40
                  go_wp2_with (first | (go_at_call 17; (with_reducible refine (laws_eqCellS.calls kj7 _ _ t570 _ _ t563 false _ ?side1 ?side2 ?side3 ?side4 A34.out).mono ?_); (case side1 => repeat (first | exact (Kd.R_reads' HO_7.out).2.2 | (with_reducible refine Kd.C_alloc ?_ _) | (with_reducible refine Kd.C_drewN ?_ _) | (with_reducible refine Kd.C_drew ?_))); (case side2 => exact (Kd.R_reads' HO_7.out).2.1); (case side3 => repeat (first | exact (Kd.R_reads' HO_4.out).2.2 | (with_reducible refine Kd.C_alloc ?_ _) | (with_reducible refine Kd.C_drewN ?_ _) | (with_reducible refine Kd.C_drew ?_))); (case side4 => exact (Kd.R_reads' HO_4.out).2.1); rintro e w41 ⟨rfl, hb⟩; have n0_ := ab_ (Kd.R_below (by (with_reducible repeat (first | apply ao_ | apply ap_ | apply aq_)); exact HO_4.out) hb); have n1_ := ab_ (Kd.R_below (by (with_reducible repeat (first | apply ao_ | apply ap_ | apply aq_)); exact HO_6.out) hb); have n2_ := ab_ (Kd.R_below (by (with_reducible repeat (first | apply ao_ | apply ap_ | apply aq_)); exact HO_7.out) hb); have n3_ := ab_ (Kd.R_below (by (with_reducible repeat (first | apply ao_ | apply ap_ | apply aq_)); exact HO577.out) hb); have n4_ := ab_ (as_ (by repeat (first | (with_reducible first | exact HB.out | apply ai_ | apply ag_ | apply ah_) | exact HB.out)) hb); clear HO_4; clear HO_6; clear HO_7; clear HO577; clear HB; have HO_4 := n0_; have HO_6 := n1_; have HO_7 := n2_; have HO577 := n3_; have HB := n4_; clear n0_ n1_ n2_ n3_ n4_; (try clear hb); (try clear hb2); (try clear hk); (try clear hi)))
                  go_meet
                  case rel => exact ⟨_, (true), (by first | rfl | (simp; done) | (simp [*]; done)), H', ⟨by have := HJ7.out; first | omega | exact Nat.le_refl _⟩, ⟨by (with_reducible repeat (first | apply ao_ | apply ap_ | apply aq_)); exact Kd.R_mono HO_4.out (fun _ hk => hk.2.1)⟩, ⟨by (with_reducible repeat (first | apply ao_ | apply ap_ | apply aq_)); exact Kd.R_mono HO_7.out (fun _ hk => hk.1)⟩, ⟨by repeat (first | (with_reducible first | exact HB.out | apply ai_ | apply ag_ | apply ah_) | exact HB.out)⟩⟩
            case rest =>
              clear HC28
              try clear c1
              try clear c2
              try clear p2
              try clear c3
              try clear c3b0
              try clear c8
              try clear c13
              try clear c15
              try clear c16
              try clear c17
              try clear c23
              try clear c26
              try clear c28
              try clear c29
              try clear c33
              try clear c33b0
              try clear c35
              try clear p2
              obtain ⟨kq, x61_27, rfl, HA, HJ27, HO_4, HO_7, HB⟩ := hcut
              cases kq with
              | zero => exact absurd HA.out (by simp [laws_FnExactDevelopTerm.j1])
              | succ kj27 =>
                have H := HA.out
                clear HA
                simp only [laws_FnExactDevelopTerm.j1] at H
                by_cases c42 : x61_27 = true
                · subst c42
                  have H1 : (some false) = some true := by rw [if_pos rfl] at H; first | done | exact H
                  clear H
                  have H := H1
                  clear H1
                  exact absurd H (by simp)
                · replace c42 := Bool.eq_false_iff.mpr c42
                  subst c42
                  have H1 : ((laws_markCellS.f kj27 t570 1).bind fun bt582 => ((laws_heldCellS.f kj27 bt582.2 1).bind fun t584 => (if t584 < 0 then (some false) else (if t584 = bt582.1 then ((laws_toCellS.f kj27 l0).bind fun t585 => ((impl_DevelopTerm.f kj27 t585).bind fun bt588 => ((laws_eqCellS.f kj27 bt588.1 t563).bind fun t592 => (if t592 = true then (laws_FnExactDevelopTerm.j2 kj27 bt582.2 bt582.1 (bt588.2 != t564)) else (laws_FnExactDevelopTerm.j2 kj27 bt582.2 bt582.1 true))))) else (some false))))) = some true := by rw [if_neg (show ¬ (false = true) by decide)] at H; first | done | exact H
                  clear H
                  have H := H1
                  clear H1
                  replace H := Option.bind_eq_some_iff.mp H
                  obtain ⟨⟨t582, t583⟩, A430, H⟩ := H
                  replace H : ((laws_heldCellS.f kj27 t583 1).bind fun t584 => (if t584 < 0 then (some false) else (if t584 = t582 then ((laws_toCellS.f kj27 l0).bind fun t585 => ((impl_DevelopTerm.f kj27 t585).bind fun bt588 => ((laws_eqCellS.f kj27 bt588.1 t563).bind fun t592 => (if t592 = true then (laws_FnExactDevelopTerm.j2 kj27 t583 t582 (bt588.2 != t564)) else (laws_FnExactDevelopTerm.j2 kj27 t583 t582 true))))) else (some false)))) = some true := H
                  have A43 := ab_ A430
                  clear A430
                  replace H := Option.bind_eq_some_iff.mp H
                  obtain ⟨t584, A440, H⟩ := H
                  replace H : (if t584 < 0 then (some false) else (if t584 = t582 then ((laws_toCellS.f kj27 l0).bind fun t585 => ((impl_DevelopTerm.f kj27 t585).bind fun bt588 => ((laws_eqCellS.f kj27 bt588.1 t563).bind fun t592 => (if t592 = true then (laws_FnExactDevelopTerm.j2 kj27 t583 t582 (bt588.2 != t564)) else (laws_FnExactDevelopTerm.j2 kj27 t583 t582 true))))) else (some false))) = some true := H
                  have A44 := ab_ A440
                  clear A440
                  by_cases c45 : t584 < 0
                  · rw [if_pos c45] at H
                    have c45b0 : decide (t584 < 0) = true := ar_ c45
                    clear c45
                    exact absurd H (by simp)
                  · rw [if_neg c45] at H
                    have c45b0 : decide (t584 < 0) = false := decide_eq_false c45
                    clear c45
                    by_cases c46 : t584 = t582
                    · rw [if_pos c46] at H
                      have c46b0 : (t584 == t582) = true := beq_iff_eq.mpr c46
                      have c46b1 : (t584 != t582) = false := bne_eq_false_iff_eq.mpr c46
                      clear c46
                      replace H := Option.bind_eq_some_iff.mp H
                      obtain ⟨t585, A470, H⟩ := H
                      replace H : ((impl_DevelopTerm.f kj27 t585).bind fun bt588 => ((laws_eqCellS.f kj27 bt588.1 t563).bind fun t592 => (if t592 = true then (laws_FnExactDevelopTerm.j2 kj27 t583 t582 (bt588.2 != t564)) else (laws_FnExactDevelopTerm.j2 kj27 t583 t582 true)))) = some true := H
                      have A47 := ab_ A470
                      clear A470
                      replace H := Option.bind_eq_some_iff.mp H
                      obtain ⟨⟨t588, t589⟩, A480, H⟩ := H
                      replace H : ((laws_eqCellS.f kj27 t588 t563).bind fun t592 => (if t592 = true then (laws_FnExactDevelopTerm.j2 kj27 t583 t582 (t589 != t564)) else (laws_FnExactDevelopTerm.j2 kj27 t583 t582 true))) = some true := H
                      have A48 := ab_ A480
                      clear A480
                      have HC49 := ab_ H
                      clear H
                      obtain ⟨Ao50, co50, eo50⟩ := Kd.R_slice HO_7.out
                      subst eo50
                      go_upto_region 25 with (first | ((with_reducible refine gate_callee (f := 26) rfl ?_); refine goesL_ (some 64) rfl rfl Try.func26 (by kernel_rfl) rfl #[.slice Ao50 t570.length co50, .int .i64 1] rfl (by (try simp only [List.map_toArray, List.map_cons, List.map_nil]); first | done | rfl | (simp only [List.length_drop, List.length_take]; rfl)) ?_; (with_reducible refine (laws_markCellS.calls kj27 (fun k_ => some k_ = (.slice Ao50 t570.length co50 : Value).ownBlock) (.slice Ao50 t570.length co50) t570 1 t582 t583 w _ ?side1 ?side2 A43.out).mono ?_); (case side1 => repeat (first | (with_reducible first | exact HB.out | apply ai_ | apply ag_ | apply ah_) | exact HB.out)); (case side2 => exact Kd.R_tight rfl HO_7.out); rintro e w51 ⟨rfl, hy0, hb, hkp⟩; refine ⟨_, rfl, ?_⟩; have n0_ := ab_ (Kd.R_mono (ok' := fun k_ => some k_ ≠ (.slice Ao50 t570.length co50 : Value).ownBlock) (Kd.R_keptB (HO_4.out) hkp (fun k_ hk_ hs_ => (hk_) hs_)) (fun k_ hk_ => hk_.1)); have n1_ := ab_ (Kd.R_reok rfl hy0 (fun k_ e_ => HO_7.out.1 k_ e_)); have n2_ := ab_ (hb); clear HO_4; clear HO_7; clear HB; have HO_4 := n0_; have HO_7 := n1_; have HB := n2_; clear n0_ n1_ n2_; (try clear hb); (try clear hkp); (try clear hy0)) | ((with_reducible refine gate_callee (f := 27) rfl ?_); refine goesL_ (some 67) rfl rfl Try.func27 (by kernel_rfl) rfl #[.slice Ao50 t583.length co50, .int .i64 1] rfl (by (try simp only [List.map_toArray, List.map_cons, List.map_nil]); first | done | (rw [show t583.length = t570.length from (Kd.R_reads' HO_7.out).1.symm] <;> rfl) | rfl | (simp only [List.length_drop, List.length_take]; rfl)) ?_; (with_reducible refine (laws_heldCellS.calls kj27 _ _ t583 1 t584 _ ?side1 ?side2 A44.out).mono ?_); (case side1 => repeat (first | exact (Kd.R_reads' HO_7.out).2.2 | (with_reducible refine Kd.C_alloc ?_ _) | (with_reducible refine Kd.C_drewN ?_ _) | (with_reducible refine Kd.C_drew ?_))); (case side2 => rw [show t583.length = t570.length from (Kd.R_reads' HO_7.out).1.symm]; exact (Kd.R_reads' HO_7.out).2.1); rintro e w' ⟨rfl, ⟨nd, rfl⟩⟩; refine ⟨_, rfl, ?_⟩) | ((with_reducible refine gate_callee (f := 15) rfl ?_); refine goesL_ (some 75) rfl rfl Try.func15 (by kernel_rfl) rfl #[.slice A0 l0.length c0] rfl (by (try simp only [List.map_toArray, List.map_cons, List.map_nil]); first | done | rfl | (simp only [List.length_drop, List.length_take]; rfl)) ?_; (with_reducible refine (laws_toCellS.calls kj27 _ _ l0 t585 _ ?side1 ?side2 A47.out).mono ?_); (case side1 => repeat (first | exact (Kd.C_below HR0.out (by repeat (first | (with_reducible first | exact HB.out | apply ai_ | apply ag_ | apply ah_) | exact HB.out))) | (with_reducible refine Kd.C_alloc ?_ _) | (with_reducible refine Kd.C_drewN ?_ _) | (with_reducible refine Kd.C_drew ?_))); (case side2 => exact HC0.out); rintro e w52 ⟨v586, rfl, ho0, hb⟩; refine ⟨_, rfl, ?_⟩; have n0_ := ab_ (Kd.R_elder' (by (with_reducible repeat (first | apply ao_ | apply ap_ | apply aq_)); exact HO_4.out) (Kd.R_base ho0) hb); have n1_ := ab_ (Kd.R_elder' (by (with_reducible repeat (first | apply ao_ | apply ap_ | apply aq_)); exact HO_7.out) (Kd.R_base ho0) hb); have n2_ := ab_ (Kd.R_lower (Kd.R_new' (Kd.R_new' ho0 (Kd.R_lt (by (with_reducible repeat (first | apply ao_ | apply ap_ | apply aq_)); exact HO_4.out))) (Kd.R_lt (by (with_reducible repeat (first | apply ao_ | apply ap_ | apply aq_)); exact HO_7.out))) (below_size (by repeat (first | (with_reducible first | exact HB.out | apply ai_ | apply ag_ | apply ah_) | exact HB.out)))); have n3_ := ab_ (as_ (by repeat (first | (with_reducible first | exact HB.out | apply ai_ | apply ag_ | apply ah_) | exact HB.out)) hb); clear HO_4; clear HO_7; clear HB; have HO_4 := n0_; have HO_7 := n1_; have HO587 := n2_; have HB := n3_; clear n0_ n1_ n2_ n3_; (try clear hb); (try clear hb2); (try clear hk); (try clear hi); (try clear ho0); obtain ⟨Ao53, co53, eo53⟩ := Kd.R_slice HO587.out; subst eo53) | ((with_reducible refine gate_callee (f := 29) rfl ?_); refine goesL_ (some 76) rfl rfl Try.func29 (by kernel_rfl) rfl #[.slice Ao53 t585.length co53] rfl (by (try simp only [List.map_toArray, List.map_cons, List.map_nil]); first | done | rfl | (simp only [List.length_drop, List.length_take]; rfl)) ?_; (with_reducible refine (impl_DevelopTerm.calls kj27 _ _ t585 t588 t589 _ ?side1 ?side2 A48.out).mono ?_); (case side1 => repeat (first | exact (Kd.R_reads' HO587.out).2.2 | (with_reducible refine Kd.C_alloc ?_ _) | (with_reducible refine Kd.C_drewN ?_ _) | (with_reducible refine Kd.C_drew ?_))); (case side2 => exact (Kd.R_reads' HO587.out).2.1); rintro e w54 ⟨v590, rfl, ho0, hb⟩; refine ⟨_, rfl, ?_⟩; have n0_ := ab_ (Kd.R_elder' (by (with_reducible repeat (first | apply ao_ | apply ap_ | apply aq_)); exact HO_4.out) (Kd.R_base ho0) hb); have n1_ := ab_ (Kd.R_elder' (by (with_reducible repeat (first | apply ao_ | apply ap_ | apply aq_)); exact HO_7.out) (Kd.R_base ho0) hb); have n2_ := ab_ (Kd.R_elder' (by (with_reducible repeat (first | apply ao_ | apply ap_ | apply aq_)); exact HO587.out) (Kd.R_base ho0) hb); have n3_ := ab_ (Kd.R_lower (Kd.R_new' (Kd.R_new' (Kd.R_new' ho0 (Kd.R_lt (by (with_reducible repeat (first | apply ao_ | apply ap_ | apply aq_)); exact HO_4.out))) (Kd.R_lt (by (with_reducible repeat (first | apply ao_ | apply ap_ | apply aq_)); exact HO_7.out))) (Kd.R_lt (by (with_reducible repeat (first | apply ao_ | apply ap_ | apply aq_)); exact HO587.out))) (below_size (by repeat (first | (with_reducible first | exact HB.out | apply ai_ | apply ag_ | apply ah_) | exact HB.out)))); have n4_ := ab_ (as_ (by repeat (first | (with_reducible first | exact HB.out | apply ai_ | apply ag_ | apply ah_) | exact HB.out)) hb); clear HO_4; clear HO_7; clear HO587; clear HB; have HO_4 := n0_; have HO_7 := n1_; have HO587 := n2_; have HO591 := n3_; have HB := n4_; clear n0_ n1_ n2_ n3_ n4_; (try clear hb); (try clear hb2); (try clear hk); (try clear hi); (try clear ho0)))
                      (try simp only [Act.put, List.setIfInBounds_toArray, List.set_cons_zero, List.set_cons_succ])
                      go_cut [87] (fun v87 wc => ∃ (kq : Nat) (x87_48 : Bool), v87 = .bool x87_48 ∧ Aside0 (laws_FnExactDevelopTerm.j2 kq t583 t582 x87_48 = some true) ∧ Aside0 (kq ≤ kj27) ∧ Aside0 (Kd.R k66 66 wc w.heap.size (fun _ => True) (.slice Ao50 t570.length co50) t583) ∧ Aside0 (Below w.heap.size w wc))
                      case first =>
                        have H := HC49.out
                        clear HC49
                        replace H := Option.bind_eq_some_iff.mp H
                        obtain ⟨t592, A550, H⟩ := H
                        replace H : (if t592 = true then (laws_FnExactDevelopTerm.j2 kj27 t583 t582 (t589 != t564)) else (laws_FnExactDevelopTerm.j2 kj27 t583 t582 true)) = some true := H
                        have A55 := ab_ A550
                        clear A550
                        by_cases c56 : t592 = true
                        · subst c56
                          have H1 : (laws_FnExactDevelopTerm.j2 kj27 t583 t582 (t589 != t564)) = some true := by rw [if_pos rfl] at H; first | done | exact H
                          clear H
                          have H := H1
                          clear H1
                          have H' := ab_ H
                          clear H
                          obtain ⟨Ao57, co57, eo57⟩ := Kd.R_slice HO591.out
                          subst eo57
                          obtain ⟨Ao58, co58, eo58⟩ := Kd.R_slice HO_4.out
                          subst eo58
                          go_wp2_with (first | ((with_reducible refine gate_callee (f := 17) rfl ?_); refine goesL_ (some 81) rfl rfl Try.func17 (by kernel_rfl) rfl #[.slice Ao57 t588.length co57, .slice Ao58 t563.length co58] rfl (by (try simp only [List.map_toArray, List.map_cons, List.map_nil]); first | done | rfl | (simp only [List.length_drop, List.length_take]; rfl)) ?_; (with_reducible refine (laws_eqCellS.calls kj27 _ _ t588 _ _ t563 true _ ?side1 ?side2 ?side3 ?side4 A55.out).mono ?_); (case side1 => repeat (first | exact (Kd.R_reads' HO591.out).2.2 | (with_reducible refine Kd.C_alloc ?_ _) | (with_reducible refine Kd.C_drewN ?_ _) | (with_reducible refine Kd.C_drew ?_))); (case side2 => exact (Kd.R_reads' HO591.out).2.1); (case side3 => repeat (first | exact (Kd.R_reads' HO_4.out).2.2 | (with_reducible refine Kd.C_alloc ?_ _) | (with_reducible refine Kd.C_drewN ?_ _) | (with_reducible refine Kd.C_drew ?_))); (case side4 => exact (Kd.R_reads' HO_4.out).2.1); rintro e w59 ⟨rfl, hb⟩; refine ⟨_, rfl, ?_⟩; have n0_ := ab_ (Kd.R_below (by (with_reducible repeat (first | apply ao_ | apply ap_ | apply aq_)); exact HO_4.out) hb); have n1_ := ab_ (Kd.R_below (by (with_reducible repeat (first | apply ao_ | apply ap_ | apply aq_)); exact HO_7.out) hb); have n2_ := ab_ (Kd.R_below (by (with_reducible repeat (first | apply ao_ | apply ap_ | apply aq_)); exact HO587.out) hb); have n3_ := ab_ (Kd.R_below (by (with_reducible repeat (first | apply ao_ | apply ap_ | apply aq_)); exact HO591.out) hb); have n4_ := ab_ (as_ (by repeat (first | (with_reducible first | exact HB.out | apply ai_ | apply ag_ | apply ah_) | exact HB.out)) hb); clear HO_4; clear HO_7; clear HO587; clear HO591; clear HB; have HO_4 := n0_; have HO_7 := n1_; have HO587 := n2_; have HO591 := n3_; have HB := n4_; clear n0_ n1_ n2_ n3_ n4_; (try clear hb); (try clear hb2); (try clear hk); (try clear hi)))
                          go_meet
                          case rel => exact ⟨_, ((t589 != t564)), (by first | rfl | (simp; done) | (simp [*]; done)), H', ⟨by have := HJ7.out; have := HJ27.out; first | omega | exact Nat.le_refl _⟩, ⟨by (with_reducible repeat (first | apply ao_ | apply ap_ | apply aq_)); exact Kd.R_mono HO_7.out (fun _ hk => trivial)⟩, ⟨by repeat (first | (with_reducible first | exact HB.out | apply ai_ | apply ag_ | apply ah_) | exact HB.out)⟩⟩
                        · replace c56 := Bool.eq_false_iff.mpr c56
                          subst c56
                          have H1 : (laws_FnExactDevelopTerm.j2 kj27 t583 t582 true) = some true := by rw [if_neg (show ¬ (false = true) by decide)] at H; first | done | exact H
                          clear H
                          have H := H1
                          clear H1
                          have H' := ab_ H
                          clear H
                          obtain ⟨Ao60, co60, eo60⟩ := Kd.R_slice HO591.out
                          subst eo60
                          obtain ⟨Ao61, co61, eo61⟩ := Kd.R_slice HO_4.out
                          subst eo61
                          go_wp2_with (first | ((with_reducible refine gate_callee (f := 17) rfl ?_); refine goesL_ (some 81) rfl rfl Try.func17 (by kernel_rfl) rfl #[.slice Ao60 t588.length co60, .slice Ao61 t563.length co61] rfl (by (try simp only [List.map_toArray, List.map_cons, List.map_nil]); first | done | rfl | (simp only [List.length_drop, List.length_take]; rfl)) ?_; (with_reducible refine (laws_eqCellS.calls kj27 _ _ t588 _ _ t563 false _ ?side1 ?side2 ?side3 ?side4 A55.out).mono ?_); (case side1 => repeat (first | exact (Kd.R_reads' HO591.out).2.2 | (with_reducible refine Kd.C_alloc ?_ _) | (with_reducible refine Kd.C_drewN ?_ _) | (with_reducible refine Kd.C_drew ?_))); (case side2 => exact (Kd.R_reads' HO591.out).2.1); (case side3 => repeat (first | exact (Kd.R_reads' HO_4.out).2.2 | (with_reducible refine Kd.C_alloc ?_ _) | (with_reducible refine Kd.C_drewN ?_ _) | (with_reducible refine Kd.C_drew ?_))); (case side4 => exact (Kd.R_reads' HO_4.out).2.1); rintro e w62 ⟨rfl, hb⟩; refine ⟨_, rfl, ?_⟩; have n0_ := ab_ (Kd.R_below (by (with_reducible repeat (first | apply ao_ | apply ap_ | apply aq_)); exact HO_4.out) hb); have n1_ := ab_ (Kd.R_below (by (with_reducible repeat (first | apply ao_ | apply ap_ | apply aq_)); exact HO_7.out) hb); have n2_ := ab_ (Kd.R_below (by (with_reducible repeat (first | apply ao_ | apply ap_ | apply aq_)); exact HO587.out) hb); have n3_ := ab_ (Kd.R_below (by (with_reducible repeat (first | apply ao_ | apply ap_ | apply aq_)); exact HO591.out) hb); have n4_ := ab_ (as_ (by repeat (first | (with_reducible first | exact HB.out | apply ai_ | apply ag_ | apply ah_) | exact HB.out)) hb); clear HO_4; clear HO_7; clear HO587; clear HO591; clear HB; have HO_4 := n0_; have HO_7 := n1_; have HO587 := n2_; have HO591 := n3_; have HB := n4_; clear n0_ n1_ n2_ n3_ n4_; (try clear hb); (try clear hb2); (try clear hk); (try clear hi)))
                          go_meet
                          case rel => exact ⟨_, (true), (by first | rfl | (simp; done) | (simp [*]; done)), H', ⟨by have := HJ7.out; have := HJ27.out; first | omega | exact Nat.le_refl _⟩, ⟨by (with_reducible repeat (first | apply ao_ | apply ap_ | apply aq_)); exact Kd.R_mono HO_7.out (fun _ hk => trivial)⟩, ⟨by repeat (first | (with_reducible first | exact HB.out | apply ai_ | apply ag_ | apply ah_) | exact HB.out)⟩⟩
                      case rest =>
                        clear HC49
                        try clear c1
                        try clear c2
                        try clear p2
                        try clear c3
                        try clear c3b0
                        try clear c4
                        try clear c5
                        try clear c8
                        try clear c13
                        try clear c15
                        try clear c16
                        try clear c17
                        try clear c23
                        try clear c26
                        try clear c27
                        try clear c28
                        try clear c29
                        try clear c33
                        try clear c33b0
                        try clear c35
                        try clear c42
                        try clear c45
                        try clear c45b0
                        try clear c46
                        try clear c46b0
                        try clear c46b1
                        try clear c56
                        try clear p2
                        obtain ⟨kq, x87_48, rfl, HA, HJ48, HO_7, HB⟩ := hcut
                        have hl7_48 := (Kd.R_reads' HO_7.out).1
                        rw [hl7_48] at HO_7
                        (try simp only [hl7_48])
                        cases kq with
                        | zero => exact absurd HA.out (by simp [laws_FnExactDevelopTerm.j2])
                        | succ kj48 =>
                          have H := HA.out
                          clear HA
                          simp only [laws_FnExactDevelopTerm.j2] at H
                          by_cases c63 : x87_48 = true
                          · subst c63
                            have H1 : (some false) = some true := by rw [if_pos rfl] at H; first | done | exact H
                            clear H
                            have H := H1
                            clear H1
                            exact absurd H (by simp)
                          · replace c63 := Bool.eq_false_iff.mpr c63
                            subst c63
                            have H1 : ((laws_heldCellS.f kj48 t583 1).bind fun t593 => (if t593 < 0 then (some false) else (if t593 = t582 then (some true) else (some false)))) = some true := by rw [if_neg (show ¬ (false = true) by decide)] at H; first | done | exact H
                            clear H
                            have H := H1
                            clear H1
                            replace H := Option.bind_eq_some_iff.mp H
                            obtain ⟨t593, A640, H⟩ := H
                            replace H : (if t593 < 0 then (some false) else (if t593 = t582 then (some true) else (some false))) = some true := H
                            have A64 := ab_ A640
                            clear A640
                            by_cases c65 : t593 < 0
                            · rw [if_pos c65] at H
                              have c65b0 : decide (t593 < 0) = true := ar_ c65
                              clear c65
                              exact absurd H (by simp)
                            · rw [if_neg c65] at H
                              have c65b0 : decide (t593 < 0) = false := decide_eq_false c65
                              clear c65
                              by_cases c66 : t593 = t582
                              · rw [if_pos c66] at H
                                have c66b0 : (t593 == t582) = true := beq_iff_eq.mpr c66
                                have c66b1 : (t593 != t582) = false := bne_eq_false_iff_eq.mpr c66
                                clear c66
                                clear H
                                go_wp2_with (first | ((with_reducible refine gate_callee (f := 27) rfl ?_); refine goesL_ (some 90) rfl rfl Try.func27 (by kernel_rfl) rfl #[.slice Ao50 t583.length co50, .int .i64 1] rfl (by (try simp only [List.map_toArray, List.map_cons, List.map_nil]); first | done | rfl | (simp only [List.length_drop, List.length_take]; rfl)) ?_; (with_reducible refine (laws_heldCellS.calls kj48 _ _ t583 1 t593 _ ?side1 ?side2 A64.out).mono ?_); (case side1 => repeat (first | exact (Kd.R_reads' HO_7.out).2.2 | (with_reducible refine Kd.C_alloc ?_ _) | (with_reducible refine Kd.C_drewN ?_ _) | (with_reducible refine Kd.C_drew ?_))); (case side2 => exact (Kd.R_reads' HO_7.out).2.1); rintro e w' ⟨rfl, ⟨nd, rfl⟩⟩; refine ⟨_, rfl, ?_⟩))
                                go_ret
                                exact ⟨by first | rfl | (simp [errW_none, errW_some] <;> rfl) | (simp [*, errW_none, errW_some] <;> rfl), by repeat (first | (with_reducible first | exact HB.out | apply ai_ | apply ag_ | apply ah_) | exact HB.out)⟩
                              · rw [if_neg c66] at H
                                have c66b0 : (t593 == t582) = false := beq_eq_false_iff_ne.mpr c66
                                have c66b1 : (t593 != t582) = true := bne_iff_ne.mpr c66
                                exact absurd H (by simp)
                    · rw [if_neg c46] at H
                      have c46b0 : (t584 == t582) = false := beq_eq_false_iff_ne.mpr c46
                      have c46b1 : (t584 != t582) = true := bne_iff_ne.mpr c46
                      exact absurd H (by simp)
          · replace c26 := Bool.eq_false_iff.mpr c26
            subst c26
            have H1 : (some false) = some true := by rw [if_neg (show ¬ (false = true) by decide)] at H; first | done | exact H
            clear H
            have H := H1
            clear H1
            exact absurd H (by simp)
end Go.Proofs.Ytgoiifpimpnlpaa.PAll

end

section
namespace Go.Proofs.Ytgoiifpimpnlpaa.PAll
open Go.RowKit Go.Proofs.YtgoiifpimpnlpaaW.PrintWords Go.Proofs.YtgoiifpimpnlpaaW.PrintLast Go.Proofs.YtgoiifpimpnlpaaW.PrintMore
def laws_FnExactDevelopTerm.Pure : Prop := ∀ (l0 : List (S68)), (l0.length ≤ 9223372036854775807 ∧ ∀ xl0_ ∈ l0, ((Lit.int .i64 xl0_.f0).wf = true ∧ (Lit.int .i64 xl0_.f1).wf = true)) → ∃ k, laws_FnExactDevelopTerm.f k l0 = some true
end Go.Proofs.Ytgoiifpimpnlpaa.PAll

end

section
namespace Go.Proofs.Ytgoiifpimpnlpaa.PAll
open Go.RowKit Go.Proofs.YtgoiifpimpnlpaaW.PrintWords Go.Proofs.YtgoiifpimpnlpaaW.PrintLast Go.Proofs.YtgoiifpimpnlpaaW.PrintMore
theorem FnExactDevelopTerm_pure : laws_FnExactDevelopTerm.Pure := by
  intro l0 g0
  refine ⟨1050004, ?_⟩
  unfold laws_FnExactDevelopTerm.f laws_szCellS.f
  by_cases h : wrap64 (1048576 - (l0.length : Int)) < 0
  · rw [if_pos h]; simp
  · have hl : l0.length ≤ 17592186044416 ∧ l0.length < 1050000 := by have := g0.1; unfold wrap64 at h; omega
    rw [if_neg h]
    simp only [Option.bind_some]
    rw [if_neg h]
    obtain ⟨hl, hk⟩ := hl
    rw [toCellS_eq l0 hl _ (by omega)]
    simp only [Option.bind_some]
    rw [DevelopTerm_eq _ _ (by omega)]
    have hr := devOf_len (l0.map cvM)
    obtain ⟨ys, hm, hh⟩ := markHeldC_eq (devOf (l0.map cvM)).1 (by omega) 1050002 (by omega)
    obtain ⟨zs, hz⟩ := markFrom_eq (l0.map cvM) (by simpa using hl) 1 (by omega) 1050003 (by simp; omega)
    simp only [Int.cast_ofNat_Int] at hz
    simp only [Option.bind_some, impl_DevelopTerm.f]
    rw [eqCellS_self _ (by omega) _ (by omega), Option.bind_some, if_pos rfl]
    simp only [laws_FnExactDevelopTerm.j0, bne_self_eq_false]
    rw [if_neg (by simp), toCellS_eq l0 hl _ (by omega), Option.bind_some, eqCellS_self _ (by simpa using hl) _ (by simp; omega), Option.bind_some, if_pos rfl, hz, Option.bind_some, if_neg (by omega), eqCellS_self _ (by omega) _ (by omega), Option.bind_some, if_pos rfl]
    simp only [laws_FnExactDevelopTerm.j1, impl_DevelopTerm.f]
    rw [if_neg (by simp), hm, Option.bind_some]
    simp only
    rw [hh _ (by omega), Option.bind_some, if_neg (by omega), if_pos rfl, toCellS_eq l0 hl _ (by omega), Option.bind_some, Option.bind_some, eqCellS_self _ (by omega) _ (by omega), Option.bind_some, if_pos rfl]
    simp only [laws_FnExactDevelopTerm.j2, bne_self_eq_false]
    rw [if_neg (by simp), hh _ (by omega), Option.bind_some, if_neg (by omega), if_pos rfl]
end Go.Proofs.Ytgoiifpimpnlpaa.PAll

end

section
namespace Go.Proofs.YtgoiifpimpnlpaaW.Opens
open Go.RowKit Go.Proofs.YtgoiifpimpnlpaaW.PrintWords Go.ChangeShapes Go.WideShapes Go.Deep Go.Joins
def Opn {α : Type} (P : Program) (t : TypeId) (d : Kd α) (G : α → Prop) : Prop :=
  ∀ {H : Type} (enc : TypeId × Value → H) (w : World) (base : Nat) (spare : Nat → Bool) (held : Bool) (fuel : Nat) (cs : List Value) (x : DataW H × List MemPlace),
    DataW.trod enc P w base spare held fuel t cs = some x → ∃ a, d.K w a cs ∧ G a
theorem opn_int {P : Program} {t : TypeId} {k : IntKind} (ht : P.underlying t = some (.int k)) : Opn P t (Kd.int k) (fun n => (Lit.int k n).wf = true) := by
  intro H enc w base spare held fuel cs x h
  obtain ⟨n, rfl, _, hw⟩ := DataW.trod_int ht h
  exact ⟨n, rfl, hw⟩
theorem list_of {α : Type} {p : Nat → α → Prop} : ∀ {n : Nat}, (∀ i, i < n → ∃ a, p i a) → ∃ xs : List α, xs.length = n ∧ ∀ i a, xs[i]? = some a → p i a := by
  intro n
  induction n with
  | zero => intro _; exact ⟨[], rfl, fun i a h => by simp at h⟩
  | succ n ih =>
    intro h
    obtain ⟨xs, hl, hx⟩ := ih (fun i hi => h i (by omega))
    obtain ⟨a, ha⟩ := h n (by omega)
    refine ⟨xs ++ [a], by simp [hl], fun i b hb => ?_⟩
    rcases Nat.lt_or_ge i xs.length with hi | hi
    · rw [List.getElem?_append_left hi] at hb; exact hx i b hb
    · rw [List.getElem?_append_right hi] at hb
      have : i - xs.length = 0 := by
        rcases Nat.eq_zero_or_pos (i - xs.length) with h0 | h0
        · exact h0
        · rw [List.getElem?_eq_none (by simp; omega)] at hb; cases hb
      rw [this] at hb
      simp at hb
      subst hb
      rw [show i = n by omega]
      exact ha
theorem opn_slice {α : Type} {P : Program} {t e : TypeId} {d : Kd α} {G : α → Prop} (ht : P.underlying t = some (.slice e)) (hc : P.cellsOf e = d.sz) (h : Opn P e d G) : Opn P t (Kd.slice e d) (fun xs => xs.length ≤ 9223372036854775807 ∧ ∀ x ∈ xs, G x) := by
  intro H enc w base spare held fuel cs x hx
  rcases DataW.trod_slice ht hx with ⟨rfl, _⟩ | ⟨a, len, cap, elems, rest, n, _, rfl, _, hb, hl, hm, hlen, hel, _, _⟩
  · exact ⟨[], ⟨none, 0, rfl, Nat.le_refl _, ⟨rfl, by simp, fun h0 => absurd h0 (by simp)⟩⟩, by simp, fun x hx => by cases hx⟩
  · obtain ⟨xs, hxl, hxs⟩ := list_of (n := len) (p := fun i a' => (∃ c, w.cells? base (a.add (i * P.cellsOf e)) (P.cellsOf e) = some c ∧ d.K w a' c) ∧ G a') (fun i hi => by
      have he := hel i hi
      rw [List.getElem?_eq_getElem (show i < elems.length by omega)] at he
      obtain ⟨c, h1, h2⟩ := Option.bind_eq_some_iff.1 he
      obtain ⟨a', hk, hg⟩ := h enc w base spare held n c _ h2
      exact ⟨a', ⟨c, h1, hk⟩, hg⟩)
    have hxm : xs.length ≤ 9223372036854775807 := by rw [hxl]; have := hm; simp only [maxLen] at this; omega
    refine ⟨xs, ⟨some a, cap, by rw [hxl], by omega, ⟨rfl, hxm, fun _ => ⟨a, rfl, fun j p hj => ?_⟩⟩⟩, hxm, fun x hx => ?_⟩
    · obtain ⟨⟨c, h1, hk⟩, _⟩ := hxs j p hj
      obtain ⟨h2, h3, h4⟩ := World.cells?_some h1
      refine ⟨c, d.K_len hk, hk, fun i u hu => ?_⟩
      have hi : i < P.cellsOf e := by rw [← h3]; exact (List.getElem?_eq_some_iff.1 hu).1
      have := h4 i hi
      rw [Go.Deep.add_add, hu, hc] at this
      exact this
    · obtain ⟨i, hi, rfl⟩ := List.getElem_of_mem hx
      exact (hxs i _ (List.getElem?_eq_getElem hi)).2
theorem opn_iso {α β : Type} {P : Program} {t : TypeId} {d : Kd α} {G : α → Prop} {f : β → α} (g : α → β) (hg : ∀ a, f (g a) = a) (h : Opn P t d G) : Opn P t (Kd.iso d f) (fun b => G (f b)) := by
  intro H enc w base spare held fuel cs x hx
  obtain ⟨a, hk, ha⟩ := h enc w base spare held fuel cs x hx
  exact ⟨g a, by show d.K w (f (g a)) cs; rw [hg]; exact hk, by show G (f (g a)); rw [hg]; exact ha⟩
theorem opn_struct2 {α β : Type} {P : Program} {t : TypeId} {f0 f1 : Field} {d0 : Kd α} {d1 : Kd β} {G0 : α → Prop} {G1 : β → Prop} (ht : P.underlying t = some (.struct #[f0, f1]))
    (hs : ((f0.offset, P.cellsOf f0.type), (f1.offset, P.cellsOf f1.type), P.cellsOf t) = ((0, d0.sz), (d0.sz, d1.sz), d0.sz + d1.sz)) (h0 : Opn P f0.type d0 G0) (h1 : Opn P f1.type d1 G1) :
    Opn P t (Kd.pair d0 d1) (fun p => G0 p.1 ∧ G1 p.2) := by
  intro H enc w base spare held fuel cs x hx
  obtain ⟨y0, y1, n, _, hl, hf0, hf1⟩ := trod_struct2 ht hx
  simp only [Prod.mk.injEq] at hs
  obtain ⟨⟨a0, b0⟩, ⟨a1, b1⟩, c⟩ := hs
  rw [a0, b0] at hf0
  rw [a1, b1] at hf1
  obtain ⟨u0, k0, g0⟩ := h0 enc w base spare held n _ _ hf0
  obtain ⟨u1, k1, g1⟩ := h1 enc w base spare held n _ _ hf1
  refine ⟨(u0, u1), ⟨_, _, ?_, k0, k1⟩, g0, g1⟩
  rw [List.drop_zero, List.take_of_length_le (l := cs.drop d0.sz) (by simp; omega), List.take_append_drop]
theorem slice_came {α : Type} {P : Program} {t e : TypeId} {d : Kd α} {G : List α → Prop} (h : Opn P t (Kd.slice e d) G) {H : Type} {enc : TypeId × Value → H} {w : World} {base : Nat} {spare : Nat → Bool} {held : Bool} {dd : DataW H} {ps : List MemPlace} {A : Option Addr} {n c : Nat}
    (hd : DataW.Trod enc P w base spare held t (.slice A n c) dd ps) : ∃ xs, n = xs.length ∧ Kd.C d w A xs.length xs ∧ xs.length ≤ c ∧ G xs := by
  obtain ⟨fuel, hf⟩ := hd
  obtain ⟨xs, ⟨A', c', he, hl, hr⟩, hg⟩ := h enc w base spare held fuel _ _ hf
  simp [Value.cells] at he
  obtain ⟨rfl, rfl, rfl⟩ := he
  exact ⟨xs, rfl, hr, hl, hg⟩
end Go.Proofs.YtgoiifpimpnlpaaW.Opens

end
