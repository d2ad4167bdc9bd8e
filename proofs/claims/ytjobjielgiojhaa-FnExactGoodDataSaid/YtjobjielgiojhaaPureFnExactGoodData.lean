/- FnExactGoodData, pure: the program's answer is the reference's. -/
import Derived.Test.YtjobjielgiojhaaQgoodData
namespace Go.Proofs.Ytjobjielgiojhaa.PAll
open Go.RowKit Go.Proofs.YtjobjielgiojhaaW.PrintWords Go.Proofs.YtjobjielgiojhaaW.PrintLast Go.Proofs.YtjobjielgiojhaaW.PrintMore

theorem FnExactGoodData_pure : laws_FnExactGoodData.Pure := by
  intro l g
  refine ⟨1050001, ?_⟩
  unfold laws_FnExactGoodData.f laws_szData.f laws_szIntS.f
  by_cases h : wrap64 (1048576 - (l.length : Int)) < 0
  · simp [h]
  · have hl : l.length ≤ 17592186044416 ∧ l.length < 1050000 := by have := g.1; unfold wrap64 at h; omega
    obtain ⟨hl, hk⟩ := hl
    unfold laws_toData.f
    rw [toIntS_eq l hl _ (by omega)]
    simp only [Option.bind_some, h, if_false]
    rw [GoodData_eq l hl _ (by omega)]
    simp only [Option.bind_some, impl_GoodData.f]
    rw [if_neg (by simp)]
    unfold laws_eqData.f
    rw [eqIntS_self l hl _ (by omega)]
    simp
end Go.Proofs.Ytjobjielgiojhaa.PAll
