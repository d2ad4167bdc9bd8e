/- The pure statement of FnExactGoodHandler: over numbers and lists alone. -/
import Derived.Test.YtjnaokdncemggaaPAllx4
namespace Go.Proofs.Ytjnaokdncemggaa.PAll
open Go.RowKit Go.Proofs.YtjnaokdncemggaaW.PrintWords Go.Proofs.YtjnaokdncemggaaW.PrintLast Go.Proofs.YtjnaokdncemggaaW.PrintMore

def laws_FnExactGoodHandler.Pure : Prop := ∀ (a0_0 : Int) (l0_1 : List (S126)), (Lit.int .i64 a0_0).wf = true → (l0_1.length ≤ 9223372036854775807 ∧ ∀ xl01_ ∈ l0_1, ((Lit.int .i64 xl01_.f0).wf = true ∧ (Lit.int .i64 xl01_.f1).wf = true)) → ∃ k, laws_FnExactGoodHandler.f k a0_0 l0_1 = some true

end Go.Proofs.Ytjnaokdncemggaa.PAll
