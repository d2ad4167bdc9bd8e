/- FnExactRunComp, pure: the program's answer is the reference's. -/
import Derived.Test.YtjnaokdncemggaaQrunComp
namespace Go.Proofs.Ytjnaokdncemggaa.PAll
open Go.RowKit Go.Proofs.YtjnaokdncemggaaW.PrintWords Go.Proofs.YtjnaokdncemggaaW.PrintLast Go.Proofs.YtjnaokdncemggaaW.PrintMore

theorem FnExactRunComp_pure : laws_FnExactRunComp.Pure := by
  intro l0 l1 g0 g1
  refine ⟨1050001, ?_⟩
  unfold laws_FnExactRunComp.f laws_szCompS.f
  by_cases hb : (l1.length : Int) > 1048576
  · rw [if_pos hb]
  rw [if_neg hb]
  by_cases h : wrap64 (1048576 - (l0.length : Int)) < 0
  · rw [if_pos h]; simp
  · have hl : l0.length ≤ 17592186044416 ∧ l0.length < 1050000 := by have := g0.1; unfold wrap64 at h; omega
    rw [if_neg h]
    simp only [Option.bind_some]
    rw [if_neg h]
    obtain ⟨hl, hk⟩ := hl
    rw [toCompS_eq l0 hl _ (by omega), toBoolS_eq l1 (by omega) _ (by omega)]
    simp only [Option.bind_some]
    rw [RunComp_eq _ _ _ (by omega)]
    simp only [Option.bind_some, impl_RunComp.f, if_true]
    simp only [laws_FnExactRunComp.j0]
    rw [if_neg (by simp), toCompS_eq l0 hl _ hk, Option.bind_some, eqCompS_self _ (by simpa using hl) _ (by simpa using hk), Option.bind_some, if_pos rfl, toBoolS_eq l1 (by omega) _ (by omega), Option.bind_some, eqBoolS_self _ (by omega) _ (by omega)]
    simp
end Go.Proofs.Ytjnaokdncemggaa.PAll
