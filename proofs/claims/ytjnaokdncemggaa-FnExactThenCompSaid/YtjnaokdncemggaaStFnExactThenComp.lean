/- The pure statement of FnExactThenComp: over numbers and lists alone. -/
import Derived.Test.YtjnaokdncemggaaPAllx45
namespace Go.Proofs.Ytjnaokdncemggaa.PAll
open Go.RowKit Go.Proofs.YtjnaokdncemggaaW.PrintWords Go.Proofs.YtjnaokdncemggaaW.PrintLast Go.Proofs.YtjnaokdncemggaaW.PrintMore

def laws_FnExactThenComp.Pure : Prop := ∀ (l0 : List (S97)) (l1 : List (List (S97))), (l0.length ≤ 9223372036854775807 ∧ ∀ xl0_ ∈ l0, ((Lit.int .i64 xl0_.f0).wf = true ∧ (Lit.int .i64 xl0_.f1).wf = true)) → (l1.length ≤ 9223372036854775807 ∧ ∀ xl1_ ∈ l1, (xl1_.length ≤ 9223372036854775807 ∧ ∀ xxl1_ ∈ xl1_, ((Lit.int .i64 xxl1_.f0).wf = true ∧ (Lit.int .i64 xxl1_.f1).wf = true))) → ∃ k, laws_FnExactThenComp.f k l0 l1 = some true

end Go.Proofs.Ytjnaokdncemggaa.PAll
