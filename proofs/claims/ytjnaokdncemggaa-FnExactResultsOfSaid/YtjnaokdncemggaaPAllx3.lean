-- Made by drive.py (the kit's print, with our own contracts beside it) for seat Ytjnaokdncemggaa.
import Derived.Test.YtjnaokdncemggaaPAllx0
import Derived.Test.YtjnaokdncemggaaHhand
namespace Go.Proofs.Ytjnaokdncemggaa.PAll
open Go.RowKit Go.Proofs.YtjnaokdncemggaaW.PrintWords Go.Proofs.YtjnaokdncemggaaW.PrintLast Go.Proofs.YtjnaokdncemggaaW.PrintMore
attribute [local go_sem] max2_int min2_int max_two min_two max_three min_three max_four min_four   -- for this text's walks alone
set_option linter.unusedVariables false
set_option linter.unusedSimpArgs false

/-! ### impl_GoodHandler: function 16 -/
-- INJECTED Derived.Test.YtjnaokdncemggaaHhand
def impl_GoodHandler.f (k : Nat) (a0_0 : Int) (l0_1 : List (S82)) : Option (Bool) := some (goodHB a0_0 l0_1)
theorem impl_GoodHandler.mono : ∀ a0 a1 k, LeO (impl_GoodHandler.f k a0 a1) (impl_GoodHandler.f (k + 1) a0 a1) := fun _ _ _ => LeO.refl _
theorem impl_GoodHandler.calls (k : Nat) (a0_0 : Int) (A0_1 : Option Addr) (c0_1 : Nat) (l0_1 : List (S82)) (r : Bool) (w : World) (hr0_1 : Kd.C k82 w A0_1 l0_1.length l0_1) (hc0_1 : l0_1.length ≤ c0_1) (h : impl_GoodHandler.f k a0_0 l0_1 = some r) :
    Calls Try.prog 16 #[.agg #[.int .i64 a0_0, .slice A0_1 l0_1.length c0_1]] w fun e w' => e = .returned (.bool r) ∧ Below w.heap.size w w' := by
  obtain rfl := Option.some.inj h
  exact GoodHandler_calls a0_0 l0_1 A0_1 c0_1 w hr0_1 hc0_1


end Go.Proofs.Ytjnaokdncemggaa.PAll
