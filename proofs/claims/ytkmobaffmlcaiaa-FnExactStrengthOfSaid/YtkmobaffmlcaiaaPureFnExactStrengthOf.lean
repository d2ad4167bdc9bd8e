/- FnExactStrengthOf: both tables agree at every text, by cases over the signs. -/
import Derived.Test.YtkmobaffmlcaiaaPFnExactStrengthOfx2
namespace Go.Proofs.Ytkmobaffmlcaiaa.Pure
open Go.RowKit Go.Proofs.Ytkmobaffmlcaiaa.PFnExactStrengthOf Go.Proofs.YtkmobaffmlcaiaaW.PrintWords Go.Proofs.YtkmobaffmlcaiaaW.PrintLast

/-- YOURS: ∀ (a0 : ByteArray), a0.size ≤ 140737488351232 → ∃ k, laws_FnExactStrengthOf.f k a0 = some true
What it reaches (each with k first where it has rounds; `.mono`: more rounds tell the same; `.l0`, ..: its loops, with `.mono_l`): spec_l2Strength.f, spec_StrengthOf.f, impl_StrengthOf.f, laws_FnExactStrengthOf.f -/
theorem FnExactStrengthOf : laws_FnExactStrengthOf.Pure := by
  intro a0 _
  refine ⟨5, ?_⟩
  simp only [laws_FnExactStrengthOf.f, spec_StrengthOf.f, spec_l2Strength.f, spec_l2Strength.j0, spec_l2Strength.j1, spec_l2Strength.j2, spec_l2Strength.j3, impl_StrengthOf.f, impl_StrengthOf.j0, impl_StrengthOf.j1, impl_StrengthOf.j2, impl_StrengthOf.j3]
  by_cases hz : (a0.size : Int) > 1048576
  · rw [if_pos hz]
  rw [if_neg hz]
  generalize a0.toList = l
  by_cases h0 : l = ([124, 124] : List UInt8)
  · subst h0; decide
  by_cases h1 : l = ([38, 38] : List UInt8)
  · subst h1; decide
  by_cases h2 : l = ([61, 61] : List UInt8)
  · subst h2; decide
  by_cases h3 : l = ([33, 61] : List UInt8)
  · subst h3; decide
  by_cases h4 : l = ([60] : List UInt8)
  · subst h4; decide
  by_cases h5 : l = ([60, 61] : List UInt8)
  · subst h5; decide
  by_cases h6 : l = ([43] : List UInt8)
  · subst h6; decide
  by_cases h7 : l = ([45] : List UInt8)
  · subst h7; decide
  by_cases h8 : l = ([42] : List UInt8)
  · subst h8; decide
  by_cases h9 : l = ([47] : List UInt8)
  · subst h9; decide
  by_cases h10 : l = ([37] : List UInt8)
  · subst h10; decide
  by_cases h11 : l = ([60, 60] : List UInt8)
  · subst h11; decide
  simp [h0, h1, h2, h3, h4, h5, h6, h7, h8, h9, h10, h11]

end Go.Proofs.Ytkmobaffmlcaiaa.Pure
