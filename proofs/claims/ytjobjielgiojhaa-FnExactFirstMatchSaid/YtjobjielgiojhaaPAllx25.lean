-- Made by drive.py (the kit's print, with our own contracts beside it) for seat Ytjobjielgiojhaa.
import Derived.Test.YtjobjielgiojhaaPAllx0
import Derived.Test.YtjobjielgiojhaaHfirst
namespace Go.Proofs.Ytjobjielgiojhaa.PAll
open Go.RowKit Go.Proofs.YtjobjielgiojhaaW.PrintWords Go.Proofs.YtjobjielgiojhaaW.PrintLast Go.Proofs.YtjobjielgiojhaaW.PrintMore
attribute [local go_sem] max2_int min2_int max_two min_two max_three min_three max_four min_four   -- for this text's walks alone
set_option linter.unusedVariables false
set_option linter.unusedSimpArgs false

/-! ### impl_FirstMatch: function 28 -/
-- INJECTED Derived.Test.YtjobjielgiojhaaHfirst
def impl_FirstMatch.f (k : Nat) (l0_0 : List Int) (l1 : List (List (S139))) (l2 : List Int) : Option (Int × Bool) := some (fmOf l0_0 l1 l2)
theorem impl_FirstMatch.mono : ∀ l0_0 l1 l2 k, LeO (impl_FirstMatch.f k l0_0 l1 l2) (impl_FirstMatch.f (k + 1) l0_0 l1 l2) := fun _ _ _ _  => LeO.refl _
theorem impl_FirstMatch.calls (k : Nat) (A0_0 : Option Addr) (c0_0 : Nat) (l0_0 : List Int) (A1 : Option Addr) (c1 : Nat) (l1 : List (List (S139))) (A2 : Option Addr) (c2 : Nat) (l2 : List Int) (r1 : Int) (r2 : Bool) (w : World) (hr0_0 : Kd.C (Kd.int .i64) w A0_0 l0_0.length l0_0) (hc0_0 : l0_0.length ≤ c0_0) (hr1 : Kd.C (Kd.slice 139 k139) w A1 l1.length l1) (hc1 : l1.length ≤ c1) (hr2 : Kd.C (Kd.int .i64) w A2 l2.length l2) (hc2 : l2.length ≤ c2) (h : impl_FirstMatch.f k l0_0 l1 l2 = some (r1, r2)) :
    Calls Try.prog 28 #[.agg #[.slice A0_0 l0_0.length c0_0], .slice A1 l1.length c1, .slice A2 l2.length c2] w fun e w' => e = .returned (.tuple #[.int .i64 r1, .bool r2]) ∧ Below w.heap.size w w' := by
  have e := Option.some.inj h
  have := FirstMatch_calls l0_0 A0_0 c0_0 l1 A1 c1 l2 A2 c2 w hr0_0 hc0_0 hr1 hc1 hr2 hc2
  rw [e] at this
  exact this


end Go.Proofs.Ytjobjielgiojhaa.PAll
