/- FnExactIsNormal, pure: the program's answer is the reference's. -/
import Derived.Test.YtgoiifpimpnlpaaQnormal
namespace Go.Proofs.Ytgoiifpimpnlpaa.PAll
open Go.RowKit Go.Proofs.YtgoiifpimpnlpaaW.PrintWords Go.Proofs.YtgoiifpimpnlpaaW.PrintLast Go.Proofs.YtgoiifpimpnlpaaW.PrintMore

theorem FnExactIsNormal_pure : laws_FnExactIsNormal.Pure := by
  intro l0 g0
  refine ⟨1050001, ?_⟩
  unfold laws_FnExactIsNormal.f laws_szCellS.f
  by_cases h : wrap64 (1048576 - (l0.length : Int)) < 0
  · rw [if_pos h]; simp
  · have hl : l0.length ≤ 17592186044416 ∧ l0.length < 1050000 := by have := g0.1; unfold wrap64 at h; omega
    rw [if_neg h]
    simp only [Option.bind_some]
    rw [if_neg h]
    obtain ⟨hl, hk⟩ := hl
    rw [toCellS_eq l0 hl _ (by omega)]
    simp only [Option.bind_some]
    rw [IsNormal_eq _ _ (by omega)]
    simp only [Option.bind_some, impl_IsNormal.f]
    rw [if_neg (by simp)]
    simp only [laws_FnExactIsNormal.j0]
    rw [if_neg (by simp), toCellS_eq l0 hl _ hk, Option.bind_some, eqCellS_self _ (by simpa using hl) _ (by simpa using hk)]
    simp
end Go.Proofs.Ytgoiifpimpnlpaa.PAll
