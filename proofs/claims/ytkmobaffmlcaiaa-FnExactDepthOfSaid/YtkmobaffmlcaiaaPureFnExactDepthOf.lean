/- FnExactDepthOf, pure: both tell the same depth. -/
import Derived.Test.YtkmobaffmlcaiaaQexpr
import Derived.Test.YtkmobaffmlcaiaaStFnExactDepthOf
namespace Go.Proofs.Ytkmobaffmlcaiaa.PAll
open Go.RowKit Go.Proofs.YtkmobaffmlcaiaaW.PrintWords Go.Proofs.YtkmobaffmlcaiaaW.PrintLast Go.Proofs.YtkmobaffmlcaiaaW.PrintMore
set_option linter.unusedVariables false

theorem FnExactDepthOf_pure : laws_FnExactDepthOf.Pure := by
  intro l ⟨hl, hx⟩
  obtain ⟨r, e, h2⟩ := szExS_eq l hl (fun x hx_ => by have := (hx x hx_).2.2; unfold maxLen at this; omega) 2001001 (by omega)
  refine ⟨2001001, ?_⟩
  unfold laws_FnExactDepthOf.f
  rw [e, Option.bind_some]
  by_cases h : r < 0
  · rw [if_pos h]
  · rw [if_neg h]
    obtain ⟨h3, h4⟩ := h2 (by omega)
    have h5 : ∀ x ∈ l.map cvE, x.f2.size ≤ 1048576 := by
      intro x hx_
      obtain ⟨y, hy, rfl⟩ := List.mem_map.1 hx_
      exact h4 y hy
    rw [toExS_eq l (by omega) _ (by omega), Option.bind_some, specDepth_eq _ h5 _ (by omega), Option.bind_some, Option.bind_some]
    unfold impl_DepthOf.f
    rw [if_pos (List.all_eq_true.2 (fun x hx_ => decide_eq_true (by have := h5 x hx_; omega))), Option.bind_some, if_pos rfl, bne_self_eq_false]
    show laws_FnExactDepthOf.j0 (2001000 + 1) l (l.map cvE) false = _
    simp only [laws_FnExactDepthOf.j0]
    rw [if_neg (by simp), toExS_eq l (by omega) _ (by omega), Option.bind_some, eqExS_self _ (by simp; omega) _ (by simp; omega), Option.bind_some, if_pos rfl]
end Go.Proofs.Ytkmobaffmlcaiaa.PAll
