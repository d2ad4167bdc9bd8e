/- LexText's law, plainly. -/
import Derived.Test.YtkmobaffmlcaiaaDoorQlexB
import Derived.Test.YtkmobaffmlcaiaaDoorQlexM
namespace Go.Proofs.YtkmobaffmlcaiaaDoor.PAll
open Go.RowKit Go.Proofs.YtkmobaffmlcaiaaDoorW.PrintWords Go.Proofs.YtkmobaffmlcaiaaDoorW.PrintLast Go.Proofs.YtkmobaffmlcaiaaDoorW.PrintMore
set_option linter.unusedVariables false
set_option linter.unusedSimpArgs false

theorem eqTok_self (x : S27) : laws_eqToken.f x.f0 x.f1 x.f2 x.f3 x.f0 x.f1 x.f2 x.f3 = some true := by unfold laws_eqToken.f; simp
theorem eqTokS_loop (a : List S27) (hm : a.length ≤ 17592186044416) : ∀ (d k i : Nat), i + d = a.length → d < k → laws_eqTokenS.l0 k a a (i : Int) = some true := by
  intro d
  induction d with
  | zero =>
    intro k i hi hk
    obtain ⟨k, rfl⟩ : ∃ m, k = m + 1 := ⟨k - 1, by omega⟩
    simp only [laws_eqTokenS.l0]
    rw [if_neg (by omega)]
  | succ d ih =>
    intro k i hi hk
    obtain ⟨k, rfl⟩ : ∃ m, k = m + 1 := ⟨k - 1, by omega⟩
    have e5 : wrap64 ((i : Int) + 1) = ((i + 1 : Nat) : Int) := by rw [wrap_id (by omega) (by omega)]; omega
    simp only [laws_eqTokenS.l0, eqTok_self, e5]
    have := ih k (i + 1) (by omega) (by omega)
    rw [if_pos (by omega), if_pos (by omega)]
    first
    | (rw [Option.bind_some, if_pos rfl]; exact this)
    | (rw [if_pos (by omega), Option.bind_some, if_pos rfl]; exact this)
    | (simp only [Option.bind_some, if_true]; exact this)
theorem eqTokS_self (a : List S27) (hm : a.length ≤ 17592186044416) (k : Nat) (hk : a.length < k) : laws_eqTokenS.f k a a = some true := by
  unfold laws_eqTokenS.f
  have := eqTokS_loop a hm a.length k 0 (by omega) hk
  rw [Int.natCast_zero] at this
  simp [this]
theorem LexText_both (s : ByteArray) : ∃ r : List S27 × Int × Bool, r.1.length ≤ 100000 ∧ ∀ k, 2000 ≤ k → impl_LexText.f k s = some r ∧ spec_LexText.f k s = some r := by
  by_cases hs : s.size ≤ 300
  · obtain ⟨r, hrl, hr⟩ := lex_both s hs s.size 0 [] (by omega) (by omega) (by simp)
    refine ⟨if r.2.2 = true then (r.1, 0, true) else ([], r.2.1, false), ?_, fun k hk => ?_⟩
    · split
      · simp only; omega
      · simp
    · obtain ⟨h1, h2⟩ := hr k (by omega)
      rw [Int.natCast_zero] at h1 h2
      refine ⟨?_, ?_⟩
      · unfold impl_LexText.f impl_lex.f
        rw [Option.bind_some, if_neg (by omega), h1, Option.bind_some]
        cases hb : r.2.2 <;> simp [hb]
      · unfold spec_LexText.f spec_l1Lex.f
        rw [if_neg (by omega), h2, Option.bind_some]
  · refine ⟨([], 0, false), by simp, fun k hk => ?_⟩
    unfold impl_LexText.f impl_lex.f spec_LexText.f
    rw [Option.bind_some, if_pos (by omega), if_pos (by omega), Option.bind_some]
    exact ⟨rfl, rfl⟩
theorem FnExactLexText_pure (a0 : ByteArray) : ∃ k, laws_FnExactLexText.f k a0 = some true := by
  obtain ⟨r, hl, hr⟩ := LexText_both a0
  refine ⟨200000, ?_⟩
  unfold laws_FnExactLexText.f
  by_cases h : 1048576 < a0.size
  · rw [if_pos (by omega)]
  · obtain ⟨h1, h2⟩ := hr 200000 (by omega)
    obtain ⟨g1, g2⟩ := hr 199999 (by omega)
    obtain ⟨ys, hm, hh⟩ := markHeldK_eq r.1 hl 199999 (by omega)
    rw [if_neg (by omega), h2, Option.bind_some, h1, Option.bind_some, eqTokS_self r.1 (by omega) 200000 (by omega), Option.bind_some, if_pos rfl, if_pos rfl]
    have hb : (r.2.2 != r.2.2) = false := by simp
    rw [hb]
    simp only [laws_FnExactLexText.j0]
    rw [if_neg (by decide), hm, Option.bind_some]
    simp only
    rw [hh 199999 (by omega), Option.bind_some, if_neg (by omega), if_pos rfl, g1, Option.bind_some, eqTokS_self r.1 (by omega) 199999 (by omega), Option.bind_some, if_pos rfl, if_pos rfl, hb]
    simp only [laws_FnExactLexText.j1]
    rw [if_neg (by decide), hh 199998 (by omega), Option.bind_some, if_neg (by omega), if_pos rfl]
end Go.Proofs.YtkmobaffmlcaiaaDoor.PAll
