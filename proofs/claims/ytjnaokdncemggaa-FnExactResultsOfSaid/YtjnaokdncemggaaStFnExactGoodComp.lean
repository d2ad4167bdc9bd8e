/- The pure statement of FnExactGoodComp: over numbers and lists alone. -/
import Derived.Test.YtjnaokdncemggaaPAllx7
namespace Go.Proofs.Ytjnaokdncemggaa.PAll
open Go.RowKit Go.Proofs.YtjnaokdncemggaaW.PrintWords Go.Proofs.YtjnaokdncemggaaW.PrintLast Go.Proofs.YtjnaokdncemggaaW.PrintMore

def laws_FnExactGoodComp.Pure : Prop := ∀ (l0 : List (S97)), (l0.length ≤ 9223372036854775807 ∧ ∀ xl0_ ∈ l0, ((Lit.int .i64 xl0_.f0).wf = true ∧ (Lit.int .i64 xl0_.f1).wf = true)) → ∃ k, laws_FnExactGoodComp.f k l0 = some true

end Go.Proofs.Ytjnaokdncemggaa.PAll
