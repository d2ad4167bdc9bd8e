/- FnExactGoodToken, pure: both find the same tokens good. -/
import Derived.Test.YtkmobaffmlcaiaaQword
namespace Go.Proofs.Ytkmobaffmlcaiaa.PAll
open Go.RowKit Go.Proofs.YtkmobaffmlcaiaaW.PrintWords Go.Proofs.YtkmobaffmlcaiaaW.PrintLast Go.Proofs.YtkmobaffmlcaiaaW.PrintMore
set_option linter.unusedVariables false

theorem GoodToken_both (a0 a1 : Int) (s : ByteArray) (a3 : Int) (hs : s.size ≤ 4611686018427387904) : ∃ k b, spec_GoodToken.f k a0 a1 s a3 = some b ∧ impl_GoodToken.f k a0 a1 s a3 = some b := by
  by_cases h3 : a0 = 3
  · refine ⟨30, ?_⟩
    unfold spec_GoodToken.f impl_GoodToken.f
    simp only [l1In_eq, within_eq, Option.bind_some]
    by_cases hat : decide (0 ≤ a3 ∧ a3 ≤ 300) = true
    · have e1 : ¬ a0 = 1 := by omega
      have e2 : ¬ a0 = 2 := by omega
      simp only [if_pos hat, if_neg e1, if_neg e2, if_pos h3]
      by_cases h1 : a1 = 0
      · rw [if_pos h1, if_pos h1]
        by_cases hne : s.toList = ([] : List UInt8)
        · rw [if_pos hne]
          refine ⟨false, rfl, ?_⟩
          obtain ⟨n, e1, e2⟩ := indexLoop theSigns s (by decide) 19 30 0 (by decide) (by omega)
          simp only [impl_SignsOf.f, Option.bind_some]
          unfold slices_Contains_string_string.f slices_Index_string_string.f
          simp only [Int.cast_ofNat_Int] at e1
          have e3 : ¬ 0 ≤ n := fun z => by
            obtain ⟨x, hx, e⟩ := e2.1 z
            exact signs_ne x hx (by rw [← e]; exact hne)
          show ((slices_Index_string_string.l0 30 theSigns s (theSigns.length : Int) 0).bind _).bind _ = _
          rw [e1]
          simp only [Option.bind_some, Option.some.injEq, decide_eq_false_iff_not]
          exact e3
        · rw [if_neg hne]
          obtain ⟨b, e1, e2⟩ := sign_either s hs hne
          refine ⟨b, e1, ?_⟩
          simp only [impl_SignsOf.f, Option.bind_some]
          show (slices_Contains_string_string.f 30 theSigns s).bind _ = _
          rw [e2]
          rfl
      · rw [if_neg h1, if_neg h1]; exact ⟨false, rfl, rfl⟩
    · rw [if_neg hat, if_neg hat]; exact ⟨false, rfl, rfl⟩
  · refine ⟨s.size + 1, ?_⟩
    unfold spec_GoodToken.f impl_GoodToken.f
    simp only [l1In_eq, within_eq, Option.bind_some]
    by_cases hat : decide (0 ≤ a3 ∧ a3 ≤ 300) = true
    · rw [if_pos hat, if_pos hat]
      by_cases h0 : a0 = 1
      · rw [if_pos h0, if_pos h0]
        cases hd : decide (0 ≤ a1 ∧ a1 ≤ 999999999) with
        | true => exact ⟨_, rfl, rfl⟩
        | false => exact ⟨_, rfl, rfl⟩
      · rw [if_neg h0, if_neg h0]
        by_cases h2 : a0 = 2
        · rw [if_pos h2, if_pos h2]
          have := specName_loop s (by omega) a0 a1 a3 s.size (s.size + 1) 0 (by omega) (by omega) (by simp)
          simp only [Int.cast_ofNat_Int] at this
          rw [this]
          by_cases h1 : a1 = 0
          · rw [if_pos h1]
            unfold impl_nameOk.f
            rw [if_pos (by omega)]
            exact ⟨nameB s, by simp [h1], rfl⟩
          · rw [if_neg h1]
            exact ⟨false, by simp [h1], rfl⟩
        · rw [if_neg h2, if_neg h2, if_neg h3, if_neg h3]
          exact ⟨false, rfl, rfl⟩
    · rw [if_neg hat, if_neg hat]; exact ⟨false, rfl, rfl⟩

theorem FnExactGoodToken_pure : laws_FnExactGoodToken.Pure := by
  intro a0 a1 s a3 _ _ hs _
  unfold maxLen at hs
  by_cases h : wrap64 (1048576 - (s.size : Int)) < 0
  · refine ⟨0, ?_⟩
    unfold laws_FnExactGoodToken.f laws_szToken.f
    rw [if_pos h]; simp
  · have hl : s.size ≤ 4611686018427387904 := by unfold wrap64 at h; omega
    obtain ⟨k, b, e1, e2⟩ := GoodToken_both a0 a1 s a3 hl
    refine ⟨k, ?_⟩
    unfold laws_FnExactGoodToken.f laws_szToken.f
    rw [if_neg h]
    simp only [Option.bind_some, laws_toToken.f]
    rw [if_neg h, e1]
    simp only [Option.bind_some]
    rw [e2]
    simp

end Go.Proofs.Ytkmobaffmlcaiaa.PAll
