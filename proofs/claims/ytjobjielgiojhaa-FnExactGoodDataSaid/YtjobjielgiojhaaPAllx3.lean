-- Made by drive.py (the kit's print, with our own contracts beside it) for seat Ytjobjielgiojhaa.
import Derived.Test.YtjobjielgiojhaaPAllx0
import Derived.Test.YtjobjielgiojhaaPAllx2
import Derived.Test.YtjobjielgiojhaaHgoodData
namespace Go.Proofs.Ytjobjielgiojhaa.PAll
open Go.RowKit Go.Proofs.YtjobjielgiojhaaW.PrintWords Go.Proofs.YtjobjielgiojhaaW.PrintLast Go.Proofs.YtjobjielgiojhaaW.PrintMore
attribute [local go_sem] max2_int min2_int max_two min_two max_three min_three max_four min_four   -- for this text's walks alone
set_option linter.unusedVariables false
set_option linter.unusedSimpArgs false

/-! ### impl_GoodData: function 16 -/
-- INJECTED Derived.Test.YtjobjielgiojhaaPAllx2 Derived.Test.YtjobjielgiojhaaHgoodData
def impl_GoodData.f (k : Nat) (l0_0 : List Int) : Option (Bool) := some (dataB l0_0)
theorem impl_GoodData.mono : ∀ a0 k, LeO (impl_GoodData.f k a0) (impl_GoodData.f (k + 1) a0) := fun _ _ => LeO.refl _
theorem impl_GoodData.calls (k : Nat) (A0_0 : Option Addr) (c0_0 : Nat) (l0_0 : List Int) (r : Bool) (w : World) (hr0_0 : Kd.C (Kd.int .i64) w A0_0 l0_0.length l0_0) (hc0_0 : l0_0.length ≤ c0_0) (h : impl_GoodData.f k l0_0 = some r) :
    Calls Try.prog 16 #[.agg #[.slice A0_0 l0_0.length c0_0]] w fun e w' => e = .returned (.bool r) ∧ Below w.heap.size w w' := by
  obtain rfl := Option.some.inj h
  exact GoodData_calls l0_0 A0_0 c0_0 w hr0_0 hc0_0


end Go.Proofs.Ytjobjielgiojhaa.PAll
