/- TermText's law, walked. -/
import Derived.Test.YtgoiifpimpnlpaaDoorHtextB
import Derived.Test.YtgoiifpimpnlpaaDoorPAllx16
import Derived.Test.YtgoiifpimpnlpaaDoorPAllx21
import Derived.Test.YtgoiifpimpnlpaaDoorPAllx22
import Derived.Test.YtgoiifpimpnlpaaDoorPAllx23
import Derived.Test.YtgoiifpimpnlpaaDoorPAllx26
namespace Go.Proofs.YtgoiifpimpnlpaaDoor.PAll
open Go.RowKit Go.Proofs.YtgoiifpimpnlpaaDoorW.PrintWords Go.Proofs.YtgoiifpimpnlpaaDoorW.PrintLast Go.Proofs.YtgoiifpimpnlpaaDoorW.PrintMore
set_option linter.unusedVariables false
set_option linter.unusedSimpArgs false

theorem if_some {p : Prop} [Decidable p] {α : Type} {a : Option α} {b : α} (h : (if p then a else none) = some b) : p ∧ a = some b := by
  by_cases hp : p
  · rw [if_pos hp] at h; exact ⟨hp, h⟩
  · rw [if_neg hp] at h; cases h

/-- What the law asks. -/
def lawTextF (k : Nat) (l0 : List S58) : Option Bool :=
  (laws_szCellS.f l0 1048576).bind fun t => if t < 0 then some true else
    (laws_toCellS.f k l0).bind fun t1 => (spec_TermText.f k t1).bind fun r => if r = (strB (textOf t1).1, (textOf t1).2) then
      (laws_eqCellS.f k t1 t1).bind fun e2 => if e2 = true then some true else none
    else none

set_option maxRecDepth 100000 in
set_option maxHeartbeats 4000000 in
theorem lawText_calls (B : Nat) (k : Nat) (A0 : Option Addr) (c0 : Nat) (l0 : List S58) (w : World) (hB : B ≤ w.heap.size) (hT : TabB B w) (hr0 : Kd.C k58 w A0 l0.length l0) (hc0 : l0.length ≤ c0) (h : lawTextF k l0 = some true) :
    Calls Tryd.prog 5 #[.slice A0 l0.length c0] w fun e w' => e = .returned (.bool true) ∧ Below w.heap.size w w' := by
  unfold lawTextF at h
  obtain ⟨t, hsz, h⟩ := Option.bind_eq_some_iff.mp h
  have HR0 := Lib.hid hr0
  have HSZ := Lib.hid hsz
  have HT := Lib.hid hT
  clear hr0 hsz hT
  by_cases ht : t < 0
  · have hd : decide (t < 0) = true := decide_eq_true ht
    clear h
    go_enter Tryd.func5, Tryd.ntmps5
    go_wp2_with fail
    refine (laws_szCellS.calls A0 c0 l0 1048576 t w HR0.out hc0 HSZ.out).mono ?_
    rintro e w1 ⟨rfl, ⟨nd, rfl⟩⟩
    go_wp2
    go_ret
    exact ⟨rfl, pw_below_drewN (Below.refl _ _) nd⟩
  · have hd : decide (t < 0) = false := decide_eq_false ht
    rw [if_neg ht] at h
    obtain ⟨t1, htc, h⟩ := Option.bind_eq_some_iff.mp h
    obtain ⟨r, hsp, h⟩ := Option.bind_eq_some_iff.mp h
    replace h := if_some h
    obtain ⟨hr, h⟩ := h
    subst hr
    obtain ⟨e2, heq2, h⟩ := Option.bind_eq_some_iff.mp h
    replace h := if_some h
    obtain ⟨he_, h⟩ := h
    subst he_
    clear h
    obtain ⟨s, b, hst⟩ : ∃ s b, textOf t1 = (s, b) := ⟨_, _, rfl⟩
    rw [hst] at hsp
    simp only at hsp
    have HTC := Lib.hid htc
    have HSP := Lib.hid hsp
    have HEQ2 := Lib.hid heq2
    have HST := Lib.hid hst
    clear htc hsp heq2 hst ht
    go_enter Tryd.func5, Tryd.ntmps5
    go_wp2_with fail
    refine (laws_szCellS.calls A0 c0 l0 1048576 t w HR0.out hc0 HSZ.out).mono ?_
    rintro e w1 ⟨rfl, ⟨nd, rfl⟩⟩
    have HB1 := Lib.hid (pw_below_drewN (Below.refl w.heap.size w) nd)
    generalize hw1 : w.drewN nd = w1 at HB1
    clear hw1
    go_wp2_with fail
    refine (laws_toCellS.calls k A0 c0 l0 t1 w1 (Kd.C_below HR0.out HB1.out) hc0 HTC.out).mono ?_
    rintro e w2 ⟨v1, rfl, h1, b2⟩
    obtain ⟨A1, c1, hv1, hl1, _⟩ := Kd.R_reads h1
    subst hv1
    have HB2 := Lib.hid (below_step HB1.out b2)
    have HC1 := Lib.hid (Kd.R_reads' h1).2.2
    clear h1 b2
    go_wp2_with fail
    refine (spec_TermText.calls k A1 c1 t1 (strB s) b w2 HC1.out hl1 HSP.out).mono ?_
    rintro e w3 ⟨rfl, b3⟩
    have HB3 := Lib.hid (below_step HB2.out b3)
    clear b3 hl1
    go_wp2_with fail
    refine (laws_toCellS.calls k A0 c0 l0 t1 w3 (Kd.C_below HR0.out HB3.out) hc0 HTC.out).mono ?_
    rintro e w4 ⟨v0, rfl, h1, b4⟩
    obtain ⟨Ax, cx, hv0, hlx, _⟩ := Kd.R_reads h1
    subst hv0
    have HB4 := Lib.hid (below_step HB3.out b4)
    have HX := Lib.hid (Kd.R_reads' h1).2.2
    clear h1 b4
    go_wp2_with fail
    refine (TermText_calls B t1 Ax cx w4 HX.out hlx (Nat.le_trans hB HB4.out.size) (HT.out.below hB HB4.out)).mono ?_
    rw [HST.out]
    rintro e w5 ⟨rfl, b5⟩
    have HB5 := Lib.hid (below_step HB4.out b5)
    have HX5 := Lib.hid (Kd.C_below HX.out b5)
    clear b5
    go_wp2_with fail
    refine (laws_toCellS.calls k A0 c0 l0 t1 w5 (Kd.C_below HR0.out HB5.out) hc0 HTC.out).mono ?_
    rintro e w7 ⟨v7, rfl, h1, b7⟩
    obtain ⟨A7, c7, hv7, hl7, _⟩ := Kd.R_reads h1
    subst hv7
    have HB7 := Lib.hid (below_step HB5.out b7)
    have HX7 := Lib.hid (Kd.C_below HX5.out b7)
    have HC7 := Lib.hid (Kd.R_reads' h1).2.2
    clear h1 b7
    go_wp2_with fail
    refine (laws_eqCellS.calls k Ax cx t1 A7 c7 t1 true w7 HX7.out hlx HC7.out hl7 HEQ2.out).mono ?_
    rintro e w8 ⟨rfl, b8⟩
    have HB8 := Lib.hid (below_step HB7.out b8)
    clear b8
    go_wp2
    go_ret
    exact ⟨rfl, HB8.out⟩
end Go.Proofs.YtgoiifpimpnlpaaDoor.PAll
