/- The pure statement of FnExactRunComp: over numbers and lists alone. -/
import Derived.Test.YtjnaokdncemggaaPAllx11
namespace Go.Proofs.Ytjnaokdncemggaa.PAll
open Go.RowKit Go.Proofs.YtjnaokdncemggaaW.PrintWords Go.Proofs.YtjnaokdncemggaaW.PrintLast Go.Proofs.YtjnaokdncemggaaW.PrintMore

def laws_FnExactRunComp.Pure : Prop := ∀ (l0 : List (S97)) (l1 : List Bool), (l0.length ≤ 9223372036854775807 ∧ ∀ xl0_ ∈ l0, ((Lit.int .i64 xl0_.f0).wf = true ∧ (Lit.int .i64 xl0_.f1).wf = true)) → (l1.length ≤ 9223372036854775807 ∧ ∀ xl1_ ∈ l1, True) → ∃ k, laws_FnExactRunComp.f k l0 l1 = some true

end Go.Proofs.Ytjnaokdncemggaa.PAll
