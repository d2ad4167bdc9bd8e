/- FnExactGoodExpr, pure: both find the same rows good. -/
import Derived.Test.YtkmobaffmlcaiaaQexpr
import Derived.Test.YtkmobaffmlcaiaaStFnExactGoodExpr
namespace Go.Proofs.Ytkmobaffmlcaiaa.PAll
open Go.RowKit Go.Proofs.YtkmobaffmlcaiaaW.PrintWords Go.Proofs.YtkmobaffmlcaiaaW.PrintLast Go.Proofs.YtkmobaffmlcaiaaW.PrintMore
set_option linter.unusedVariables false

theorem FnExactGoodExpr_pure : laws_FnExactGoodExpr.Pure := by
  intro l ⟨hl, hx⟩
  obtain ⟨r, e, h2⟩ := szExS_eq l hl (fun x hx_ => by have := (hx x hx_).2.2; unfold maxLen at this; omega) 2001000 (by omega)
  refine ⟨2001000, ?_⟩
  unfold laws_FnExactGoodExpr.f
  rw [e, Option.bind_some]
  by_cases h : r < 0
  · rw [if_pos h]
  · rw [if_neg h]
    obtain ⟨h3, h4⟩ := h2 (by omega)
    have h5 : ∀ x ∈ l.map cvE, x.f2.size ≤ 1048576 := by
      intro x hx_
      obtain ⟨y, hy, rfl⟩ := List.mem_map.1 hx_
      exact h4 y hy
    rw [toExS_eq l (by omega) _ (by omega), Option.bind_some, specGood_eq _ h5 _ (by omega), Option.bind_some, Option.bind_some]
    unfold impl_GoodExpr.f
    rw [if_pos (List.all_eq_true.2 (fun x hx_ => decide_eq_true (by have := h5 x hx_; omega))), Option.bind_some, if_neg (by simp), Option.bind_some, eqExS_self _ (by simp; omega) _ (by simp; omega), Option.bind_some, if_pos rfl]
end Go.Proofs.Ytkmobaffmlcaiaa.PAll
