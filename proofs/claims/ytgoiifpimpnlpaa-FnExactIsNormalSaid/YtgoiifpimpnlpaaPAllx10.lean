-- Made by drive.py (the kit's print, with our own contracts beside it) for seat Ytgoiifpimpnlpaa.
import Derived.Test.YtgoiifpimpnlpaaPAllx0
import Derived.Test.YtgoiifpimpnlpaaHnormal
namespace Go.Proofs.Ytgoiifpimpnlpaa.PAll
open Go.RowKit Go.Proofs.YtgoiifpimpnlpaaW.PrintWords Go.Proofs.YtgoiifpimpnlpaaW.PrintLast Go.Proofs.YtgoiifpimpnlpaaW.PrintMore
attribute [local go_sem] max2_int min2_int max_two min_two max_three min_three max_four min_four   -- for this text's walks alone
set_option linter.unusedVariables false
set_option linter.unusedSimpArgs false

/-! ### impl_IsNormal: function 23 -/
-- INJECTED Derived.Test.YtgoiifpimpnlpaaHnormal
def impl_IsNormal.f (k : Nat) (l0 : List (S66)) : Option (Bool × Bool) := some (normalOf l0)
theorem impl_IsNormal.mono : ∀ a0 k, LeO (impl_IsNormal.f k a0) (impl_IsNormal.f (k + 1) a0) := fun _ _ => LeO.refl _
theorem impl_IsNormal.calls (k : Nat) (A0 : Option Addr) (c0 : Nat) (l0 : List (S66)) (r1 : Bool) (r2 : Bool) (w : World) (hr0 : Kd.C k66 w A0 l0.length l0) (hc0 : l0.length ≤ c0) (h : impl_IsNormal.f k l0 = some (r1, r2)) :
    Calls Try.prog 23 #[.slice A0 l0.length c0] w fun e w' => e = .returned (.tuple #[.bool r1, .bool r2]) ∧ Below w.heap.size w w' := by
  have e := Option.some.inj h
  have := IsNormal_calls l0 A0 c0 w hr0 hc0
  rw [e] at this
  exact this


end Go.Proofs.Ytgoiifpimpnlpaa.PAll
