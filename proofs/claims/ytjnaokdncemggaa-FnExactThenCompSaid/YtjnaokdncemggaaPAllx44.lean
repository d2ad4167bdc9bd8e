-- Made by drive.py (the kit's print, with our own contracts beside it) for seat Ytjnaokdncemggaa.
import Derived.Test.YtjnaokdncemggaaPAllx0
import Derived.Test.YtjnaokdncemggaaHmark
namespace Go.Proofs.Ytjnaokdncemggaa.PAll
open Go.RowKit Go.Proofs.YtjnaokdncemggaaW.PrintWords Go.Proofs.YtjnaokdncemggaaW.PrintLast Go.Proofs.YtjnaokdncemggaaW.PrintMore
attribute [local go_sem] max2_int min2_int max_two min_two max_three min_three max_four min_four   -- for this text's walks alone
set_option linter.unusedVariables false
set_option linter.unusedSimpArgs false

/-! ### laws_markCompSS: function 45 -/
-- INJECTED Derived.Test.YtjnaokdncemggaaHmark
def laws_markCompSS.f (k : Nat) (l0 : List (List (S83))) (a1 : Int) : Option (Int) := if 0 ≤ a1 ∧ a1 + 2 * tot l0 ≤ 1000000000 ∧ l0.length ≤ 1000000000 then some (a1 + 2 * tot l0) else none
theorem laws_markCompSS.mono : ∀ a0 a1 k, LeO (laws_markCompSS.f k a0 a1) (laws_markCompSS.f (k + 1) a0 a1) := fun _ _ _ => LeO.refl _
theorem laws_markCompSS.calls (k : Nat) (l0 : List (List (S83))) (a1 : Int) (r : Int) (u : Value) (ok : Nat → Prop) (w0 w : World) (hB : Below w0.heap.size w0 w) (hS : Kd.S (Kd.slice 83 k83) 36 w w0.heap.size ok u l0) (h : laws_markCompSS.f k l0 a1 = some r) :
    Calls Try.prog 45 #[u, .int .i64 a1] w fun e w' => e = .returned (.int .i64 r) ∧ Below w0.heap.size w0 w' ∧ Kept w w' ok := by
  unfold laws_markCompSS.f at h
  split at h
  · rename_i hc
    obtain rfl := Option.some.inj h
    exact markCompSS_calls l0 a1 u ok w0 w hB hS hc.1 hc.2.1 hc.2.2
  · cases h


end Go.Proofs.Ytjnaokdncemggaa.PAll
