/- FnExactGoodType, pure: both find the same types good. -/
import Derived.Test.YtjobjielgiojhaaQtypeB
namespace Go.Proofs.Ytjobjielgiojhaa.PAll
open Go.RowKit Go.Proofs.YtjobjielgiojhaaW.PrintWords Go.Proofs.YtjobjielgiojhaaW.PrintLast Go.Proofs.YtjobjielgiojhaaW.PrintMore

theorem FnExactGoodType_pure : laws_FnExactGoodType.Pure := by
  intro l0 g0
  refine ⟨1050000, ?_⟩
  unfold laws_FnExactGoodType.f laws_szTyCellS.f
  by_cases h : wrap64 (1048576 - (l0.length : Int)) < 0
  · rw [if_pos h]; simp
  · have hl : l0.length ≤ 17592186044416 ∧ l0.length < 1050000 := by have := g0.1; unfold wrap64 at h; omega
    rw [if_neg h]
    simp only [Option.bind_some]
    rw [if_neg h]
    obtain ⟨hl, hk⟩ := hl
    rw [toTyCellS_eq l0 hl _ hk]
    simp only [Option.bind_some]
    rw [specGoodType_eq _ _ (by omega)]
    simp only [Option.bind_some]
    rw [implGoodType_eq _ _ (by omega)]
    simp only [Option.bind_some]
    rw [if_neg (by simp), eqTyCellS_self _ (by simpa using hl) _ (by simpa using hk)]
    simp

end Go.Proofs.Ytjobjielgiojhaa.PAll
