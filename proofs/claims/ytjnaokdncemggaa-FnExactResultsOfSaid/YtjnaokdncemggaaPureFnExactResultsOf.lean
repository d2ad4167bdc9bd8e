/- FnExactResultsOf, pure: the program's answer is the reference's, and its memory is its own. -/
import Derived.Test.YtjnaokdncemggaaQresults
namespace Go.Proofs.Ytjnaokdncemggaa.PAll
open Go.RowKit Go.Proofs.YtjnaokdncemggaaW.PrintWords Go.Proofs.YtjnaokdncemggaaW.PrintLast Go.Proofs.YtjnaokdncemggaaW.PrintMore

theorem FnExactResultsOf_pure : laws_FnExactResultsOf.Pure := by
  intro l0 g0
  refine ⟨1050004, ?_⟩
  unfold laws_FnExactResultsOf.f laws_szCompS.f
  by_cases h : wrap64 (1048576 - (l0.length : Int)) < 0
  · rw [if_pos h]; simp
  · have hl : l0.length ≤ 17592186044416 ∧ l0.length < 1050000 := by have := g0.1; unfold wrap64 at h; omega
    rw [if_neg h]
    simp only [Option.bind_some]
    rw [if_neg h]
    obtain ⟨hl, hk⟩ := hl
    rw [toCompS_eq l0 hl _ (by omega)]
    simp only [Option.bind_some]
    rw [specRes_eq _ _ (by omega), implRes_eq _ _ (by omega)]
    have hr := resOf_len (l0.map cvC)
    obtain ⟨ys, hm, hh⟩ := markHeld_eq (resOf (l0.map cvC)).1 (by omega) 1050002 (by omega)
    obtain ⟨zs, hz⟩ := markComp_eq (l0.map cvC) (by simpa using hl) 1050003 (by simp; omega)
    simp only [Option.bind_some]
    rw [eqIntS_self _ (by omega) _ (by omega), Option.bind_some, if_pos rfl]
    simp only [laws_FnExactResultsOf.j0, bne_self_eq_false]
    rw [if_neg (by simp), toCompS_eq l0 hl _ (by omega), Option.bind_some, eqCompS_self _ (by simpa using hl) _ (by simp; omega), Option.bind_some, if_pos rfl, hz, Option.bind_some, if_neg (by omega), eqIntS_self _ (by omega) _ (by omega), Option.bind_some, if_pos rfl]
    simp only [laws_FnExactResultsOf.j1, bne_self_eq_false]
    rw [if_neg (by simp), hm, Option.bind_some]
    simp only
    rw [hh _ (by omega), Option.bind_some, if_neg (by omega), if_pos rfl, toCompS_eq l0 hl _ (by omega), Option.bind_some, implRes_eq _ _ (by omega), Option.bind_some, eqIntS_self _ (by omega) _ (by omega), Option.bind_some, if_pos rfl]
    simp only [laws_FnExactResultsOf.j2, bne_self_eq_false]
    rw [if_neg (by simp), hh _ (by omega), Option.bind_some, if_neg (by omega), if_pos rfl]
end Go.Proofs.Ytjnaokdncemggaa.PAll
