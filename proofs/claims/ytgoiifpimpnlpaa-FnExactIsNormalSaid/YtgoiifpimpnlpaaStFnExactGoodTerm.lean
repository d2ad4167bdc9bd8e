/- The pure statement of FnExactGoodTerm: over numbers and lists alone. -/
import Derived.Test.YtgoiifpimpnlpaaPAllx4
namespace Go.Proofs.Ytgoiifpimpnlpaa.PAll
open Go.RowKit Go.Proofs.YtgoiifpimpnlpaaW.PrintWords Go.Proofs.YtgoiifpimpnlpaaW.PrintLast Go.Proofs.YtgoiifpimpnlpaaW.PrintMore

def laws_FnExactGoodTerm.Pure : Prop := ∀ (l0 : List (S68)), (l0.length ≤ 9223372036854775807 ∧ ∀ xl0_ ∈ l0, ((Lit.int .i64 xl0_.f0).wf = true ∧ (Lit.int .i64 xl0_.f1).wf = true)) → ∃ k, laws_FnExactGoodTerm.f k l0 = some true

end Go.Proofs.Ytgoiifpimpnlpaa.PAll
