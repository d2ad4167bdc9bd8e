-- Made by drive.py (the kit's print, with our own contracts beside it) for seat Ytjobjielgiojhaa.
import Derived.Test.YtjobjielgiojhaaPAllx0
import Derived.Test.YtjobjielgiojhaaHpatC
namespace Go.Proofs.Ytjobjielgiojhaa.PAll
open Go.RowKit Go.Proofs.YtjobjielgiojhaaW.PrintWords Go.Proofs.YtjobjielgiojhaaW.PrintLast Go.Proofs.YtjobjielgiojhaaW.PrintMore
attribute [local go_sem] max2_int min2_int max_two min_two max_three min_three max_four min_four   -- for this text's walks alone
set_option linter.unusedVariables false
set_option linter.unusedSimpArgs false

/-! ### impl_GoodValue: function 20 -/
-- INJECTED Derived.Test.YtjobjielgiojhaaHpatC
def impl_GoodValue.f (k : Nat) (l0_0 : List Int) (l1 : List Int) : Option (Bool) := some (goodValueB l0_0 l1)
theorem impl_GoodValue.mono : ∀ l0_0 l1 k, LeO (impl_GoodValue.f k l0_0 l1) (impl_GoodValue.f (k + 1) l0_0 l1) := fun _ _ _  => LeO.refl _
theorem impl_GoodValue.calls (k : Nat) (A0_0 : Option Addr) (c0_0 : Nat) (l0_0 : List Int) (A1 : Option Addr) (c1 : Nat) (l1 : List Int) (r : Bool) (w : World) (hr0_0 : Kd.C (Kd.int .i64) w A0_0 l0_0.length l0_0) (hc0_0 : l0_0.length ≤ c0_0) (hr1 : Kd.C (Kd.int .i64) w A1 l1.length l1) (hc1 : l1.length ≤ c1) (h : impl_GoodValue.f k l0_0 l1 = some r) :
    Calls Try.prog 20 #[.agg #[.slice A0_0 l0_0.length c0_0], .slice A1 l1.length c1] w fun e w' => e = .returned (.bool r) ∧ Below w.heap.size w w' := by
  have e : goodValueB l0_0 l1 = r := Option.some.inj h
  unfold goodValueB at e
  have := GoodValue_calls l0_0 A0_0 c0_0 l1 A1 c1 w hr0_0 hc0_0 hr1 hc1
  rw [e] at this
  exact this


end Go.Proofs.Ytjobjielgiojhaa.PAll
