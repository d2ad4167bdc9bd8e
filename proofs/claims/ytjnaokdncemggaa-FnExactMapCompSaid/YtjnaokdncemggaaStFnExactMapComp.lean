/- The pure statement of FnExactMapComp: over numbers and lists alone. -/
import Derived.Test.YtjnaokdncemggaaPAllx36
namespace Go.Proofs.Ytjnaokdncemggaa.PAll
open Go.RowKit Go.Proofs.YtjnaokdncemggaaW.PrintWords Go.Proofs.YtjnaokdncemggaaW.PrintLast Go.Proofs.YtjnaokdncemggaaW.PrintMore

def laws_FnExactMapComp.Pure : Prop := ∀ (l0 : List (S97)) (a1 : Int), (l0.length ≤ 9223372036854775807 ∧ ∀ xl0_ ∈ l0, ((Lit.int .i64 xl0_.f0).wf = true ∧ (Lit.int .i64 xl0_.f1).wf = true)) → (Lit.int .i64 a1).wf = true → ∃ k, laws_FnExactMapComp.f k l0 a1 = some true

end Go.Proofs.Ytjnaokdncemggaa.PAll
