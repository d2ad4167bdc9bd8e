/- FnExactGoodHandler, pure: both find the same handlers good. -/
import Derived.Test.YtjnaokdncemggaaQhandB
namespace Go.Proofs.Ytjnaokdncemggaa.PAll
open Go.RowKit Go.Proofs.YtjnaokdncemggaaW.PrintWords Go.Proofs.YtjnaokdncemggaaW.PrintLast Go.Proofs.YtjnaokdncemggaaW.PrintMore

theorem FnExactGoodHandler_pure : laws_FnExactGoodHandler.Pure := by
  intro a0 l0 _ g0
  refine ⟨1050000, ?_⟩
  unfold laws_FnExactGoodHandler.f laws_szHandler.f laws_szRuleS.f
  by_cases h : wrap64 (1048576 - (l0.length : Int)) < 0
  · rw [if_pos h]; simp
  · have hl : l0.length ≤ 17592186044416 ∧ l0.length < 1050000 := by have := g0.1; unfold wrap64 at h; omega
    rw [if_neg h]
    simp only [Option.bind_some]
    rw [if_neg h]
    obtain ⟨hl, hk⟩ := hl
    simp only [Option.bind_some]
    rw [if_neg h]
    simp only [laws_toHandler.f]
    rw [toRuleS_eq l0 hl _ hk]
    simp only [Option.bind_some]
    rw [specGoodHandler_eq _ _ (by simpa using hl) _ (by simpa using hk)]
    simp only [Option.bind_some, impl_GoodHandler.f]
    rw [if_neg (by simp)]
    simp only [laws_eqHandler.f, if_true]
    rw [eqRuleS_self _ (by simpa using hl) _ (by simpa using hk)]
    simp

end Go.Proofs.Ytjnaokdncemggaa.PAll
