-- Made by drive.py (the kit's print, with our own contracts beside it) for seat Ytjnaokdncemggaa.
import Derived.Test.YtjnaokdncemggaaPAllx0
import Derived.Test.YtjnaokdncemggaaHthenC
namespace Go.Proofs.Ytjnaokdncemggaa.PAll
open Go.RowKit Go.Proofs.YtjnaokdncemggaaW.PrintWords Go.Proofs.YtjnaokdncemggaaW.PrintLast Go.Proofs.YtjnaokdncemggaaW.PrintMore
attribute [local go_sem] max2_int min2_int max_two min_two max_three min_three max_four min_four   -- for this text's walks alone
set_option linter.unusedVariables false
set_option linter.unusedSimpArgs false

/-! ### impl_ThenComp: function 43 -/
-- INJECTED Derived.Test.YtjnaokdncemggaaHthenC
def impl_ThenComp.f (k : Nat) (l0 : List (S83)) (l1 : List (List (S83))) : Option ((List (S83)) × Bool) := some (thenOf l0 l1)
theorem impl_ThenComp.mono : ∀ a0 a1 k, LeO (impl_ThenComp.f k a0 a1) (impl_ThenComp.f (k + 1) a0 a1) := fun _ _ _ => LeO.refl _
theorem impl_ThenComp.calls (k : Nat) (A0 : Option Addr) (c0 : Nat) (l0 : List (S83)) (A1 : Option Addr) (c1 : Nat) (l1 : List (List (S83))) (r1 : List (S83)) (r2 : Bool) (w : World) (hr0 : Kd.C k83 w A0 l0.length l0) (hc0 : l0.length ≤ c0) (hr1 : Kd.C (Kd.slice 83 k83) w A1 l1.length l1) (hc1 : l1.length ≤ c1) (h : impl_ThenComp.f k l0 l1 = some (r1, r2)) :
    Calls Try.prog 43 #[.slice A0 l0.length c0, .slice A1 l1.length c1] w fun e w' => ∃ v0_ : Value, e = .returned (.tuple #[v0_, .bool r2]) ∧ Kd.R k83 83 w' w.heap.size (fun _ => True) v0_ r1 ∧ Below w.heap.size w w' := by
  have e := Option.some.inj h
  have := ThenComp_calls l0 A0 c0 l1 A1 c1 w hr0 hc0 hr1 hc1
  rw [e] at this
  exact this


end Go.Proofs.Ytjnaokdncemggaa.PAll
