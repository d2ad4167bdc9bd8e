/- FnExactSignsOf: the law's printed function answers true (one closed run). -/
import Derived.Test.YtkmobaffmlcaiaaPFnExactSignsOfx1
namespace Go.Proofs.Ytkmobaffmlcaiaa.Pure
open Go.RowKit Go.Proofs.Ytkmobaffmlcaiaa.PFnExactSignsOf Go.Proofs.YtkmobaffmlcaiaaW.PrintWords Go.Proofs.YtkmobaffmlcaiaaW.PrintLast

/-- YOURS: ∃ k, laws_FnExactSignsOf.f k  = some true
What it reaches (each with k first where it has rounds; `.mono`: more rounds tell the same; `.l0`, ..: its loops, with `.mono_l`): spec_l1Signs.f, spec_SignsOf.f, impl_SignsOf.f, laws_eqStringS.f, laws_markText.f, laws_markStringS.f, laws_heldStringS.f, laws_FnExactSignsOf.f -/
theorem FnExactSignsOf : laws_FnExactSignsOf.Pure := by
  exact ⟨60, by decide +kernel⟩

end Go.Proofs.Ytkmobaffmlcaiaa.Pure
