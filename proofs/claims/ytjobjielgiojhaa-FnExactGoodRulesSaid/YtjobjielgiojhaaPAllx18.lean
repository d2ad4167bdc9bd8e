-- Made by drive.py (the kit's print, with our own contracts beside it) for seat Ytjobjielgiojhaa.
import Derived.Test.YtjobjielgiojhaaPAllx0
import Derived.Test.YtjobjielgiojhaaHpatD
namespace Go.Proofs.Ytjobjielgiojhaa.PAll
open Go.RowKit Go.Proofs.YtjobjielgiojhaaW.PrintWords Go.Proofs.YtjobjielgiojhaaW.PrintLast Go.Proofs.YtjobjielgiojhaaW.PrintMore
attribute [local go_sem] max2_int min2_int max_two min_two max_three min_three max_four min_four   -- for this text's walks alone
set_option linter.unusedVariables false
set_option linter.unusedSimpArgs false

/-! ### impl_GoodRules: function 25 -/
-- INJECTED Derived.Test.YtjobjielgiojhaaHpatD
def impl_GoodRules.f (k : Nat) (l0_0 : List Int) (l1 : List (List (S139))) : Option (Bool) := some (goodRulesB l0_0 l1)
theorem impl_GoodRules.mono : ∀ l0_0 l1 k, LeO (impl_GoodRules.f k l0_0 l1) (impl_GoodRules.f (k + 1) l0_0 l1) := fun _ _ _  => LeO.refl _
theorem impl_GoodRules.calls (k : Nat) (A0_0 : Option Addr) (c0_0 : Nat) (l0_0 : List Int) (A1 : Option Addr) (c1 : Nat) (l1 : List (List (S139))) (r : Bool) (w : World) (hr0_0 : Kd.C (Kd.int .i64) w A0_0 l0_0.length l0_0) (hc0_0 : l0_0.length ≤ c0_0) (hr1 : Kd.C (Kd.slice 139 k139) w A1 l1.length l1) (hc1 : l1.length ≤ c1) (h : impl_GoodRules.f k l0_0 l1 = some r) :
    Calls Try.prog 25 #[.agg #[.slice A0_0 l0_0.length c0_0], .slice A1 l1.length c1] w fun e w' => e = .returned (.bool r) ∧ Below w.heap.size w w' := by
  have e : goodRulesB l0_0 l1 = r := Option.some.inj h
  unfold goodRulesB at e
  have := GoodRules_calls l0_0 A0_0 c0_0 l1 A1 c1 w hr0_0 hc0_0 hr1 hc1
  rw [e] at this
  exact this


end Go.Proofs.Ytjobjielgiojhaa.PAll
