/- FnExactSizeAt, pure: the program's answer is the reference's. -/
import Derived.Test.YtgoiifpimpnlpaaQsizeAt
namespace Go.Proofs.Ytgoiifpimpnlpaa.PAll
open Go.RowKit Go.Proofs.YtgoiifpimpnlpaaW.PrintWords Go.Proofs.YtgoiifpimpnlpaaW.PrintLast Go.Proofs.YtgoiifpimpnlpaaW.PrintMore

theorem FnExactSizeAt_pure : laws_FnExactSizeAt.Pure := by
  intro l0 a1 g0 g1
  refine ⟨1050001, ?_⟩
  unfold laws_FnExactSizeAt.f laws_szCellS.f
  by_cases h : wrap64 (1048576 - (l0.length : Int)) < 0
  · rw [if_pos h]; simp
  · have hl : l0.length ≤ 17592186044416 ∧ l0.length < 1050000 := by have := g0.1; unfold wrap64 at h; omega
    rw [if_neg h]
    simp only [Option.bind_some]
    rw [if_neg h]
    obtain ⟨hl, hk⟩ := hl
    rw [toCellS_eq l0 hl _ (by omega)]
    simp only [Option.bind_some]
    rw [SizeAt_eq _ _ _ (by omega)]
    simp only [Option.bind_some, impl_SizeAt.f, if_true]
    simp only [laws_FnExactSizeAt.j0]
    rw [if_neg (by simp), toCellS_eq l0 hl _ hk, Option.bind_some, eqCellS_self _ (by simpa using hl) _ (by simpa using hk)]
    simp
end Go.Proofs.Ytgoiifpimpnlpaa.PAll
