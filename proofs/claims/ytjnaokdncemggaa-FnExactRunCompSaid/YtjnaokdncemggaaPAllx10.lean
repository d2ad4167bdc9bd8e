-- Made by drive.py (the kit's print, with our own contracts beside it) for seat Ytjnaokdncemggaa.
import Derived.Test.YtjnaokdncemggaaPAllx0
import Derived.Test.YtjnaokdncemggaaHrunComp
namespace Go.Proofs.Ytjnaokdncemggaa.PAll
open Go.RowKit Go.Proofs.YtjnaokdncemggaaW.PrintWords Go.Proofs.YtjnaokdncemggaaW.PrintLast Go.Proofs.YtjnaokdncemggaaW.PrintMore
attribute [local go_sem] max2_int min2_int max_two min_two max_three min_three max_four min_four   -- for this text's walks alone
set_option linter.unusedVariables false
set_option linter.unusedSimpArgs false

/-! ### impl_RunComp: function 29 -/
-- INJECTED Derived.Test.YtjnaokdncemggaaHrunComp
def impl_RunComp.f (k : Nat) (l0 : List (S83)) (l1 : List Bool) : Option (Int × Int × Bool) := some (runOf l0 l1)
theorem impl_RunComp.mono : ∀ a0 a1 k, LeO (impl_RunComp.f k a0 a1) (impl_RunComp.f (k + 1) a0 a1) := fun _ _ _ => LeO.refl _
theorem impl_RunComp.calls (k : Nat) (A0 : Option Addr) (c0 : Nat) (l0 : List (S83)) (A1 : Option Addr) (c1 : Nat) (l1 : List Bool) (r1 : Int) (r2 : Int) (r3 : Bool) (w : World) (hr0 : Kd.C k83 w A0 l0.length l0) (hc0 : l0.length ≤ c0) (hr1 : Kd.C Kd.bool w A1 l1.length l1) (hc1 : l1.length ≤ c1) (h : impl_RunComp.f k l0 l1 = some (r1, r2, r3)) :
    Calls Try.prog 29 #[.slice A0 l0.length c0, .slice A1 l1.length c1] w fun e w' => e = .returned (.tuple #[.int .i64 r1, .int .i64 r2, .bool r3]) ∧ Below w.heap.size w w' := by
  have e := Option.some.inj h
  have := RunComp_calls l0 l1 A0 c0 A1 c1 w hr0 hc0 hr1 hc1
  rw [e] at this
  exact this


end Go.Proofs.Ytjnaokdncemggaa.PAll
