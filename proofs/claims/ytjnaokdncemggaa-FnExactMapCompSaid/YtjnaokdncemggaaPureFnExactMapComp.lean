/- FnExactMapComp, pure: the program's answer is the reference's, and its memory is its own. -/
import Derived.Test.YtjnaokdncemggaaQmap
import Derived.Test.YtjnaokdncemggaaStFnExactMapComp
namespace Go.Proofs.Ytjnaokdncemggaa.PAll
open Go.RowKit Go.Proofs.YtjnaokdncemggaaW.PrintWords Go.Proofs.YtjnaokdncemggaaW.PrintLast Go.Proofs.YtjnaokdncemggaaW.PrintMore

theorem FnExactMapComp_pure : laws_FnExactMapComp.Pure := by
  intro l0 a1 g0 _
  refine ⟨1050004, ?_⟩
  unfold laws_FnExactMapComp.f laws_szCompS.f
  by_cases h : wrap64 (1048576 - (l0.length : Int)) < 0
  · rw [if_pos h]; simp
  · have hl : l0.length ≤ 17592186044416 ∧ l0.length < 1050000 := by have := g0.1; unfold wrap64 at h; omega
    rw [if_neg h]
    simp only [Option.bind_some]
    rw [if_neg h]
    obtain ⟨hl, hk⟩ := hl
    rw [toCompS_eq l0 hl _ (by omega)]
    simp only [Option.bind_some]
    rw [specMap_eq _ _ _ (by omega)]
    have hr := mapOf_len (l0.map cvC) a1
    obtain ⟨ys, hm, hh⟩ := markHeldC_eq (mapOf (l0.map cvC) a1).1 (by omega) 1050002 (by omega)
    obtain ⟨zs, hz⟩ := markComp_eq (l0.map cvC) (by simpa using hl) 1050003 (by simp; omega)
    simp only [Option.bind_some, impl_MapComp.f]
    rw [eqCompS_self _ (by omega) _ (by omega), Option.bind_some, if_pos rfl]
    simp only [laws_FnExactMapComp.j0, bne_self_eq_false]
    rw [if_neg (by simp), toCompS_eq l0 hl _ (by omega), Option.bind_some, eqCompS_self _ (by simpa using hl) _ (by simp; omega), Option.bind_some, if_pos rfl, hz, Option.bind_some, if_neg (by omega), eqCompS_self _ (by omega) _ (by omega), Option.bind_some, if_pos rfl]
    simp only [laws_FnExactMapComp.j1, impl_MapComp.f]
    rw [if_neg (by simp), hm, Option.bind_some]
    simp only
    rw [hh _ (by omega), Option.bind_some, if_neg (by omega), if_pos rfl, toCompS_eq l0 hl _ (by omega), Option.bind_some, Option.bind_some, eqCompS_self _ (by omega) _ (by omega), Option.bind_some, if_pos rfl]
    simp only [laws_FnExactMapComp.j2, bne_self_eq_false]
    rw [if_neg (by simp), hh _ (by omega), Option.bind_some, if_neg (by omega), if_pos rfl]
end Go.Proofs.Ytjnaokdncemggaa.PAll
