/- FnExactGoodValue, pure: the program's answer is the reference's. -/
import Derived.Test.YtjobjielgiojhaaQpatC
import Derived.Test.YtjobjielgiojhaaStFnExactGoodValue
namespace Go.Proofs.Ytjobjielgiojhaa.PAll
open Go.RowKit Go.Proofs.YtjobjielgiojhaaW.PrintWords Go.Proofs.YtjobjielgiojhaaW.PrintLast Go.Proofs.YtjobjielgiojhaaW.PrintMore

theorem FnExactGoodValue_pure : laws_FnExactGoodValue.Pure := by
  intro l v g gv
  refine ⟨1050004, ?_⟩
  unfold laws_FnExactGoodValue.f laws_szData.f laws_szIntS.f
  by_cases hv : (v.length : Int) > 1048576
  · rw [if_pos hv]
  rw [if_neg hv]
  by_cases h : wrap64 (1048576 - (l.length : Int)) < 0
  · simp [h]
  · have hl : l.length ≤ 1048576 := by have := g.1; unfold wrap64 at h; omega
    have hv' : v.length ≤ 1048576 := by omega
    unfold laws_toData.f
    rw [toIntS_eq l (by omega) _ (by omega)]
    simp only [Option.bind_some, h, if_false]
    rw [toIntS_eq v (by omega) _ (by omega)]
    simp only [Option.bind_some]
    rw [specGoodValue_eq l v hl _ (by omega)]
    simp only [Option.bind_some, impl_GoodValue.f]
    rw [if_neg (by simp)]
    unfold laws_eqData.f
    rw [eqIntS_self l (by omega) _ (by omega), eqIntS_self v (by omega) _ (by omega)]
    simp
end Go.Proofs.Ytjobjielgiojhaa.PAll
