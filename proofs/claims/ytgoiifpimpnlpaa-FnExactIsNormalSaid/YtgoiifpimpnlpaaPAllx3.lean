-- Made by drive.py (the kit's print, with our own contracts beside it) for seat Ytgoiifpimpnlpaa.
import Derived.Test.YtgoiifpimpnlpaaPAllx0
import Derived.Test.YtgoiifpimpnlpaaHtermC
namespace Go.Proofs.Ytgoiifpimpnlpaa.PAll
open Go.RowKit Go.Proofs.YtgoiifpimpnlpaaW.PrintWords Go.Proofs.YtgoiifpimpnlpaaW.PrintLast Go.Proofs.YtgoiifpimpnlpaaW.PrintMore
attribute [local go_sem] max2_int min2_int max_two min_two max_three min_three max_four min_four   -- for this text's walks alone
set_option linter.unusedVariables false
set_option linter.unusedSimpArgs false

/-! ### impl_GoodTerm: function 16 -/
-- INJECTED Derived.Test.YtgoiifpimpnlpaaHtermC
def impl_GoodTerm.f (k : Nat) (l0 : List (S66)) : Option (Bool) := some (tmof l0).isSome
theorem impl_GoodTerm.mono : ∀ a0 k, LeO (impl_GoodTerm.f k a0) (impl_GoodTerm.f (k + 1) a0) := fun _ _ => LeO.refl _
theorem impl_GoodTerm.calls (k : Nat) (A0 : Option Addr) (c0 : Nat) (l0 : List (S66)) (r : Bool) (w : World) (hr0 : Kd.C k66 w A0 l0.length l0) (hc0 : l0.length ≤ c0) (h : impl_GoodTerm.f k l0 = some r) :
    Calls Try.prog 16 #[.slice A0 l0.length c0] w fun e w' => e = .returned (.bool r) ∧ Below w.heap.size w w' := by
  obtain rfl := Option.some.inj h
  exact GoodTerm_calls l0 A0 c0 w hr0 hc0


end Go.Proofs.Ytgoiifpimpnlpaa.PAll
