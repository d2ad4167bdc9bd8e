-- Made by drive.py (the kit's print, with our own contracts beside it) for seat Ytjnaokdncemggaa.
import Derived.Test.YtjnaokdncemggaaPAllx0
import Derived.Test.YtjnaokdncemggaaHthenG
namespace Go.Proofs.Ytjnaokdncemggaa.PAll
open Go.RowKit Go.Proofs.YtjnaokdncemggaaW.PrintWords Go.Proofs.YtjnaokdncemggaaW.PrintLast Go.Proofs.YtjnaokdncemggaaW.PrintMore
attribute [local go_sem] max2_int min2_int max_two min_two max_three min_three max_four min_four   -- for this text's walks alone
set_option linter.unusedVariables false
set_option linter.unusedSimpArgs false

/-! ### impl_MapComp: function 38 -/
-- INJECTED Derived.Test.YtjnaokdncemggaaHthenG
def impl_MapComp.f (k : Nat) (l0 : List (S83)) (a1 : Int) : Option ((List (S83)) × Bool) := some (mapOf l0 a1)
theorem impl_MapComp.mono : ∀ a0 a1 k, LeO (impl_MapComp.f k a0 a1) (impl_MapComp.f (k + 1) a0 a1) := fun _ _ _ => LeO.refl _
theorem impl_MapComp.calls (k : Nat) (A0 : Option Addr) (c0 : Nat) (l0 : List (S83)) (a1 : Int) (r1 : List (S83)) (r2 : Bool) (w : World) (hr0 : Kd.C k83 w A0 l0.length l0) (hc0 : l0.length ≤ c0) (h : impl_MapComp.f k l0 a1 = some (r1, r2)) :
    Calls Try.prog 38 #[.slice A0 l0.length c0, .int .i64 a1] w fun e w' => ∃ v0_ : Value, e = .returned (.tuple #[v0_, .bool r2]) ∧ Kd.R k83 83 w' w.heap.size (fun _ => True) v0_ r1 ∧ Below w.heap.size w w' := by
  have e := Option.some.inj h
  have := MapComp_calls l0 A0 c0 a1 w hr0 hc0
  rw [e] at this
  exact this


end Go.Proofs.Ytjnaokdncemggaa.PAll
