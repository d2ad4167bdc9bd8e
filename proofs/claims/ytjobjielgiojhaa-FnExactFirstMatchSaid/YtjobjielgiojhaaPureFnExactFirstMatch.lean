/- FnExactFirstMatch, pure: the program's answer is the reference's. -/
import Derived.Test.YtjobjielgiojhaaQfirst
import Derived.Test.YtjobjielgiojhaaStFnExactFirstMatch
namespace Go.Proofs.Ytjobjielgiojhaa.PAll
open Go.RowKit Go.Proofs.YtjobjielgiojhaaW.PrintWords Go.Proofs.YtjobjielgiojhaaW.PrintLast Go.Proofs.YtjobjielgiojhaaW.PrintMore

theorem FnExactFirstMatch_pure : laws_FnExactFirstMatch.Pure := by
  intro l rs v g gr gv
  refine ⟨9000000, ?_⟩
  unfold laws_FnExactFirstMatch.f laws_szData.f laws_szIntS.f
  by_cases hv : (v.length : Int) > 1048576
  · rw [if_pos hv]
  rw [if_neg hv]
  by_cases h : wrap64 (1048576 - (l.length : Int)) < 0
  · simp [h]
  · have hl : l.length ≤ 1048576 := by have := g.1; unfold wrap64 at h; omega
    have hv' : v.length ≤ 1048576 := by omega
    have hw : wrap64 (1048576 - (l.length : Int)) = 1048576 - (l.length : Int) := wrap_id (by omega) (by omega)
    simp only [Option.bind_some, h, if_false]
    rw [hw]
    obtain ⟨r, h2, h3⟩ := szPatSS_eq rs (1048576 - (l.length : Int)) gr.1 (fun x hx => (gr.2 x hx).1) (by omega) (by omega) 9000000 (by omega)
    rw [h2, Option.bind_some]
    by_cases hr : r < 0
    · rw [if_pos hr]
    · rw [if_neg hr]
      obtain ⟨_, hrl, hrx⟩ := h3 (by omega)
      have hin : ∀ x ∈ rs.map (List.map cvR), x.length ≤ 1048576 := by
        intro x hx
        obtain ⟨y, hy, rfl⟩ := List.mem_map.mp hx
        simpa using hrx y hy
      unfold laws_toData.f
      rw [toIntS_eq l (by omega) _ (by omega)]
      simp only [Option.bind_some]
      rw [toPatSS_eq rs (by omega) 1048576 (by omega) hrx _ (by omega), Option.bind_some, toIntS_eq v (by omega) _ (by omega), Option.bind_some, specFirst_eq l _ v hl hin _ (by omega)]
      simp only [Option.bind_some, impl_FirstMatch.f, laws_FnExactFirstMatch.j0, bne_self_eq_false, laws_toData.f, laws_eqData.f]
      rw [if_pos trivial, if_neg (by simp), toIntS_eq l (by omega) _ (by omega)]
      simp only [Option.bind_some]
      rw [eqIntS_self l (by omega) _ (by omega), Option.bind_some, if_pos rfl, Option.bind_some, if_pos rfl, toPatSS_eq rs (by omega) 1048576 (by omega) hrx _ (by omega), Option.bind_some, eqPatSS_self _ (by simp; omega) 1048576 (by omega) hin _ (by simp; omega), Option.bind_some, if_pos rfl, toIntS_eq v (by omega) _ (by omega), Option.bind_some, eqIntS_self v (by omega) _ (by omega), Option.bind_some, if_pos rfl]
end Go.Proofs.Ytjobjielgiojhaa.PAll
