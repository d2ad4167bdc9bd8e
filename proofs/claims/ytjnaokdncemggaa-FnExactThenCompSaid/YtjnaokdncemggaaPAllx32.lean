-- Made by drive.py (the kit's print, with our own contracts beside it) for seat Ytjnaokdncemggaa.
import Derived.Test.YtjnaokdncemggaaPAllx0
import Derived.Test.YtjnaokdncemggaaHflat
namespace Go.Proofs.Ytjnaokdncemggaa.PAll
open Go.RowKit Go.Proofs.YtjnaokdncemggaaW.PrintWords Go.Proofs.YtjnaokdncemggaaW.PrintLast Go.Proofs.YtjnaokdncemggaaW.PrintMore
attribute [local go_sem] max2_int min2_int max_two min_two max_three min_three max_four min_four   -- for this text's walks alone
set_option linter.unusedVariables false
set_option linter.unusedSimpArgs false

/-! ### spec_l9Flat: function 71 -/
-- INJECTED Derived.Test.YtjnaokdncemggaaHflat
def spec_l9Flat.f (a0_0 : Bool) (a0_1 : Int) (l0_2 : List (S93)) (l1 : List (S83)) : Option (List (S83)) := l9flat 1000 a0_0 a0_1 l0_2 l1
theorem spec_l9Flat.calls (a0_0 : Bool) (a0_1 : Int) (A0_2 : Option Addr) (c0_2 : Nat) (l0_2 : List (S93)) (P1_ : Nat → Prop) (u9000_ : Value) (l1 : List (S83)) (r : List (S83)) (w0 w : World) (hB : Below w0.heap.size w0 w) (hr0_2 : ∀ W_, Kept w W_ (fun k_ => P1_ k_) → Kd.C k93 W_ A0_2 l0_2.length l0_2) (hc0_2 : l0_2.length ≤ c0_2) (ho1 : Kd.R k83 83 w w0.heap.size P1_ u9000_ l1) (h : spec_l9Flat.f a0_0 a0_1 l0_2 l1 = some r) :
    Calls Try.prog 71 #[.agg #[.bool a0_0, .int .i64 a0_1, .slice A0_2 l0_2.length c0_2], u9000_] w fun e w' => ∃ v0_ : Value, e = .returned (v0_) ∧ Kd.R k83 83 w' w0.heap.size (fun k_ => (P1_ k_ ∨ w.heap.size ≤ k_)) v0_ r ∧ Below w0.heap.size w0 w' ∧ Kept w w' (fun k_ => P1_ k_) := by
  exact l9flat_calls 1000 a0_0 a0_1 A0_2 c0_2 l0_2 P1_ u9000_ l1 r w0 w hB hr0_2 hc0_2 ho1 h


end Go.Proofs.Ytjnaokdncemggaa.PAll
