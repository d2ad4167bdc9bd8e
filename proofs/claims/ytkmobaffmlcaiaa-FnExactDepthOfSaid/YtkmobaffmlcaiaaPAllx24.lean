-- Made by drive.py (the kit's print, with our own contracts beside it) for seat Ytkmobaffmlcaiaa.
import Derived.Test.YtkmobaffmlcaiaaPAllx0
import Derived.Test.YtkmobaffmlcaiaaHexprD
namespace Go.Proofs.Ytkmobaffmlcaiaa.PAll
open Go.RowKit Go.Proofs.YtkmobaffmlcaiaaW.PrintWords Go.Proofs.YtkmobaffmlcaiaaW.PrintLast Go.Proofs.YtkmobaffmlcaiaaW.PrintMore
attribute [local go_sem] max2_int min2_int max_two min_two max_three min_three max_four min_four   -- for this text's walks alone
set_option linter.unusedVariables false
set_option linter.unusedSimpArgs false

/-! ### impl_DepthOf: function 25 -/
-- INJECTED Derived.Test.YtkmobaffmlcaiaaHexprD
def impl_DepthOf.f (l0 : List (S60)) : Option (Int × Bool) := if l0.all (fun x => decide (x.f2.size ≤ 9223372036854775807)) = true then some (depthOf l0) else none
theorem impl_DepthOf.calls (A0 : Option Addr) (c0 : Nat) (l0 : List (S60)) (r1 : Int) (r2 : Bool) (w : World) (hr0 : Kd.C k60 w A0 l0.length l0) (hc0 : l0.length ≤ c0) (h : impl_DepthOf.f l0 = some (r1, r2)) :
    Calls Try.prog 25 #[.slice A0 l0.length c0] w fun e w' => e = .returned (.tuple #[.int .i64 r1, .bool r2]) ∧ Below w.heap.size w w' := by
  unfold impl_DepthOf.f at h
  split at h
  · rename_i hs
    have he := Option.some.inj h
    obtain rfl : (depthOf l0).1 = r1 := by rw [he]
    obtain rfl : (depthOf l0).2 = r2 := by rw [he]
    exact DepthOf_calls l0 A0 c0 w (fun x hx => by have := List.all_eq_true.1 hs x hx; have := of_decide_eq_true this; unfold maxLen; omega) hr0 hc0
  · cases h


end Go.Proofs.Ytkmobaffmlcaiaa.PAll
