-- Made by drive.py (the kit's print, with our own contracts beside it) for seat Ytgoiifpimpnlpaa.
import Derived.Test.YtgoiifpimpnlpaaPAllx0
import Derived.Test.YtgoiifpimpnlpaaHsizeAt
namespace Go.Proofs.Ytgoiifpimpnlpaa.PAll
open Go.RowKit Go.Proofs.YtgoiifpimpnlpaaW.PrintWords Go.Proofs.YtgoiifpimpnlpaaW.PrintLast Go.Proofs.YtgoiifpimpnlpaaW.PrintMore
attribute [local go_sem] max2_int min2_int max_two min_two max_three min_three max_four min_four   -- for this text's walks alone
set_option linter.unusedVariables false
set_option linter.unusedSimpArgs false

/-! ### impl_SizeAt: function 19 -/
-- INJECTED Derived.Test.YtgoiifpimpnlpaaHsizeAt
def impl_SizeAt.f (k : Nat) (l0 : List (S66)) (a1 : Int) : Option (Int × Bool) := some (sizeAtOf l0 a1)
theorem impl_SizeAt.mono : ∀ a0 a1 k, LeO (impl_SizeAt.f k a0 a1) (impl_SizeAt.f (k + 1) a0 a1) := fun _ _ _ => LeO.refl _
theorem impl_SizeAt.calls (k : Nat) (A0 : Option Addr) (c0 : Nat) (l0 : List (S66)) (a1 : Int) (r1 : Int) (r2 : Bool) (w : World) (hr0 : Kd.C k66 w A0 l0.length l0) (hc0 : l0.length ≤ c0) (h : impl_SizeAt.f k l0 a1 = some (r1, r2)) :
    Calls Try.prog 19 #[.slice A0 l0.length c0, .int .i64 a1] w fun e w' => e = .returned (.tuple #[.int .i64 r1, .bool r2]) ∧ Below w.heap.size w w' := by
  have e := Option.some.inj h
  have := SizeAt_calls l0 a1 A0 c0 w hr0 hc0
  rw [e] at this
  exact this


end Go.Proofs.Ytgoiifpimpnlpaa.PAll
