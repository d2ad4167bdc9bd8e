/- The pure statement of FnExactDepthOf: over numbers and lists alone. -/
import Derived.Test.YtkmobaffmlcaiaaPAllx25
namespace Go.Proofs.Ytkmobaffmlcaiaa.PAll
open Go.RowKit Go.Proofs.YtkmobaffmlcaiaaW.PrintWords Go.Proofs.YtkmobaffmlcaiaaW.PrintLast Go.Proofs.YtkmobaffmlcaiaaW.PrintMore

def laws_FnExactDepthOf.Pure : Prop := ∀ (l0 : List (S54)), (l0.length ≤ 9223372036854775807 ∧ ∀ xl0_ ∈ l0, ((Lit.int .i64 xl0_.f0).wf = true ∧ (Lit.int .i64 xl0_.f1).wf = true ∧ xl0_.f2.size ≤ maxLen)) → ∃ k, laws_FnExactDepthOf.f k l0 = some true

end Go.Proofs.Ytkmobaffmlcaiaa.PAll
