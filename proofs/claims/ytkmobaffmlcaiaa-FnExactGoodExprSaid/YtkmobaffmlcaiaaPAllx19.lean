-- Made by drive.py (the kit's print, with our own contracts beside it) for seat Ytkmobaffmlcaiaa.
import Derived.Test.YtkmobaffmlcaiaaPAllx0
import Derived.Test.YtkmobaffmlcaiaaHexprC
namespace Go.Proofs.Ytkmobaffmlcaiaa.PAll
open Go.RowKit Go.Proofs.YtkmobaffmlcaiaaW.PrintWords Go.Proofs.YtkmobaffmlcaiaaW.PrintLast Go.Proofs.YtkmobaffmlcaiaaW.PrintMore
attribute [local go_sem] max2_int min2_int max_two min_two max_three min_three max_four min_four   -- for this text's walks alone
set_option linter.unusedVariables false
set_option linter.unusedSimpArgs false

/-! ### impl_GoodExpr: function 22 -/
-- INJECTED Derived.Test.YtkmobaffmlcaiaaHexprC
def impl_GoodExpr.f (l0 : List (S60)) : Option (Bool) := if l0.all (fun x => decide (x.f2.size ≤ 9223372036854775807)) = true then some (xof l0).isSome else none
theorem impl_GoodExpr.calls (A0 : Option Addr) (c0 : Nat) (l0 : List (S60)) (r : Bool) (w : World) (hr0 : Kd.C k60 w A0 l0.length l0) (hc0 : l0.length ≤ c0) (h : impl_GoodExpr.f l0 = some r) :
    Calls Try.prog 22 #[.slice A0 l0.length c0] w fun e w' => e = .returned (.bool r) ∧ Below w.heap.size w w' := by
  unfold impl_GoodExpr.f at h
  split at h
  · rename_i hs
    obtain rfl := Option.some.inj h
    exact GoodExpr_calls l0 A0 c0 w (fun x hx => by have := List.all_eq_true.1 hs x hx; have := of_decide_eq_true this; unfold maxLen; omega) hr0 hc0
  · cases h


end Go.Proofs.Ytkmobaffmlcaiaa.PAll
