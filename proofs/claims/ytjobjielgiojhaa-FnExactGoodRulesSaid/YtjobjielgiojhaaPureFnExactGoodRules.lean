/- FnExactGoodRules, pure: the program's answer is the reference's. -/
import Derived.Test.YtjobjielgiojhaaQpatC
import Derived.Test.YtjobjielgiojhaaStFnExactGoodRules
namespace Go.Proofs.Ytjobjielgiojhaa.PAll
open Go.RowKit Go.Proofs.YtjobjielgiojhaaW.PrintWords Go.Proofs.YtjobjielgiojhaaW.PrintLast Go.Proofs.YtjobjielgiojhaaW.PrintMore

theorem FnExactGoodRules_pure : laws_FnExactGoodRules.Pure := by
  intro l rs g gr
  refine ⟨9000000, ?_⟩
  unfold laws_FnExactGoodRules.f laws_szData.f laws_szIntS.f
  by_cases h : wrap64 (1048576 - (l.length : Int)) < 0
  · simp [h]
  · have hl : l.length ≤ 1048576 := by have := g.1; unfold wrap64 at h; omega
    have hw : wrap64 (1048576 - (l.length : Int)) = 1048576 - (l.length : Int) := wrap_id (by omega) (by omega)
    simp only [Option.bind_some, h, if_false]
    rw [hw]
    obtain ⟨r, h2, h3⟩ := szPatSS_eq rs (1048576 - (l.length : Int)) gr.1 (fun x hx => (gr.2 x hx).1) (by omega) (by omega) 9000000 (by omega)
    rw [h2, Option.bind_some]
    by_cases hr : r < 0
    · rw [if_pos hr]
    · rw [if_neg hr]
      obtain ⟨_, hrl, hrx⟩ := h3 (by omega)
      have hin : ∀ x ∈ rs.map (List.map cvR), x.length ≤ 1048576 := by
        intro x hx
        obtain ⟨y, hy, rfl⟩ := List.mem_map.mp hx
        simpa using hrx y hy
      unfold laws_toData.f
      rw [toIntS_eq l (by omega) _ (by omega)]
      simp only [Option.bind_some]
      rw [toPatSS_eq rs (by omega) 1048576 (by omega) hrx _ (by omega)]
      simp only [Option.bind_some]
      rw [specGoodRules_eq l _ hl hin _ (by omega)]
      simp only [Option.bind_some, impl_GoodRules.f]
      rw [if_neg (by simp)]
      unfold laws_eqData.f
      rw [eqIntS_self l (by omega) _ (by omega), eqPatSS_self _ (by simp; omega) 1048576 (by omega) hin _ (by simp; omega)]
      simp
end Go.Proofs.Ytjobjielgiojhaa.PAll
