-- Made by drive.py (the kit's print, with our own contracts beside it) for seat Ytjnaokdncemggaa.
import Derived.Test.YtjnaokdncemggaaPAllx0
import Derived.Test.YtjnaokdncemggaaHcompD
namespace Go.Proofs.Ytjnaokdncemggaa.PAll
open Go.RowKit Go.Proofs.YtjnaokdncemggaaW.PrintWords Go.Proofs.YtjnaokdncemggaaW.PrintLast Go.Proofs.YtjnaokdncemggaaW.PrintMore
attribute [local go_sem] max2_int min2_int max_two min_two max_three min_three max_four min_four   -- for this text's walks alone
set_option linter.unusedVariables false
set_option linter.unusedSimpArgs false

/-! ### impl_GoodComp: function 21 -/
-- INJECTED Derived.Test.YtjnaokdncemggaaHcompD
def impl_GoodComp.f (k : Nat) (l0 : List (S83)) : Option (Bool) := some (cof l0).isSome
theorem impl_GoodComp.mono : ∀ a0 k, LeO (impl_GoodComp.f k a0) (impl_GoodComp.f (k + 1) a0) := fun _ _ => LeO.refl _
theorem impl_GoodComp.calls (k : Nat) (A0 : Option Addr) (c0 : Nat) (l0 : List (S83)) (r : Bool) (w : World) (hr0 : Kd.C k83 w A0 l0.length l0) (hc0 : l0.length ≤ c0) (h : impl_GoodComp.f k l0 = some r) :
    Calls Try.prog 21 #[.slice A0 l0.length c0] w fun e w' => e = .returned (.bool r) ∧ Below w.heap.size w w' := by
  obtain rfl := Option.some.inj h
  exact GoodComp_calls l0 A0 c0 w hr0 hc0


end Go.Proofs.Ytjnaokdncemggaa.PAll
