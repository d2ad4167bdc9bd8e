/- TokenText's law, plainly. -/
import Derived.Test.YtkmobaffmlcaiaaDoorQword
import Derived.Test.YtkmobaffmlcaiaaDoorHtokA
import Derived.Test.YtkmobaffmlcaiaaDoorPAllx4
namespace Go.Proofs.YtkmobaffmlcaiaaDoor.PAll
open Go.RowKit Go.Proofs.YtkmobaffmlcaiaaDoorW.PrintWords Go.Proofs.YtkmobaffmlcaiaaDoorW.PrintLast Go.Proofs.YtkmobaffmlcaiaaDoorW.PrintMore
set_option linter.unusedVariables false
set_option linter.unusedSimpArgs false

theorem strB_app (a b : List UInt8) : strB a ++ strB b = strB (a ++ b) := by
  apply ByteArray.ext
  apply Array.ext'
  simp [strB]
theorem strB_size (a : List UInt8) : (strB a).size = a.length := by simp [strB, ByteArray.size]
theorem strB_nums (l : List Int) : strOfNums l = strB (l.map fun n => UInt8.ofNat n.toNat) := rfl

theorem digit_byte (u : Nat) (h : u < 10) : strOfNums [(wrap64 (48 + (u : Int))) % 256] = strB [UInt8.ofNat (48 + u)] := by
  rw [strB_nums, wrap_id (by omega) (by omega)]
  have e : ((48 + (u : Int)) % 256).toNat = 48 + u := by omega
  simp only [List.map_cons, List.map_nil, e]

theorem decDigits_len : ∀ (k u : Nat), u < 10 ^ k → 0 < k → (Lib.decDigits u).length ≤ k := by
  intro k
  induction k with
  | zero => intro u _ h; omega
  | succ k ih =>
    intro u hu _
    rw [Lib.decDigits]
    by_cases h : u < 10
    · rw [dif_pos h]; simp
    · rw [dif_neg h]
      have hk : 0 < k := by
        rcases Nat.eq_zero_or_pos k with h0 | h0
        · subst h0; omega
        · exact h0
      have := ih (u / 10) (by rw [Nat.div_lt_iff_lt_mul (by omega)]; rw [Nat.pow_succ] at hu; exact hu) hk
      simp only [List.length_append, List.length_singleton]
      omega

theorem l1Num_nat : ∀ (k : Nat) (u : Nat), u < 10 ^ k → 0 < k → k ≤ 15 → ∀ q, k ≤ q → spec_l1Num.f q (u : Int) = some (strB (Lib.decDigits u)) := by
  intro k
  induction k with
  | zero => intro u _ h; omega
  | succ k ih =>
    intro u hu _ hk q hq
    obtain ⟨q, rfl⟩ : ∃ m, q = m + 1 := ⟨q - 1, by omega⟩
    simp only [spec_l1Num.f]
    rw [if_neg (by omega), Lib.decDigits]
    by_cases h : u < 10
    · rw [dif_pos h, if_pos (by omega), digit_byte u h]
    · rw [dif_neg h, if_neg (by omega)]
      have hk0 : 0 < k := by
        rcases Nat.eq_zero_or_pos k with h0 | h0
        · subst h0; omega
        · exact h0
      have hu9 : u < 10 ^ 15 := Nat.lt_of_lt_of_le hu (Nat.pow_le_pow_right (by omega) hk)
      have e1 : Int.tdiv (u : Int) 10 = ((u / 10 : Nat) : Int) := by
        rw [Int.tdiv_eq_ediv_of_nonneg (by omega)]; omega
      have e2 : Int.tmod (u : Int) 10 = ((u % 10 : Nat) : Int) := by
        rw [Int.tmod_eq_emod_of_nonneg (by omega)]; omega
      have hd : u / 10 < 10 ^ k := by rw [Nat.div_lt_iff_lt_mul (by omega)]; rw [Nat.pow_succ] at hu; exact hu
      have hlen := decDigits_len k (u / 10) hd hk0
      rw [e1, e2, wrap_id (x := ((u / 10 : Nat) : Int)) (by omega) (by omega), ih (u / 10) hd hk0 (by omega) q (by omega)]
      simp only [Option.bind_some]
      rw [digit_byte (u % 10) (by omega), strB_size, strB_size, if_pos (by simp; omega), strB_app]

theorem l1Num_eq (n : Int) (h0 : -1000000000 ≤ n) (h1 : n ≤ 1000000000) (q : Nat) (hq : 12 ≤ q) : spec_l1Num.f q n = some (strB (Lib.itoa n)) := by
  unfold Lib.itoa
  by_cases h : n < 0
  · rw [if_pos h]
    obtain ⟨q, rfl⟩ : ∃ m, q = m + 1 := ⟨q - 1, by omega⟩
    simp only [spec_l1Num.f]
    have e : -n = (n.natAbs : Int) := by omega
    have hlt : n.natAbs < 10 ^ 10 := by have : (10 : Nat) ^ 10 = 10000000000 := by decide
                                        omega
    have hlen := decDigits_len 10 n.natAbs hlt (by omega)
    rw [if_pos h, wrap_id (x := -n) (by omega) (by omega), e, l1Num_nat 10 n.natAbs hlt (by omega) (by omega) q (by omega)]
    simp only [Option.bind_some]
    rw [strB_size, if_pos (by omega), show (⟨#[45]⟩ : ByteArray) = strB [45] from rfl, strB_app]
    rfl
  · rw [if_neg h]
    have e : n = (n.toNat : Int) := by omega
    have hlt : n.toNat < 10 ^ 10 := by have : (10 : Nat) ^ 10 = 10000000000 := by decide
                                       omega
    conv => lhs; rw [e]
    exact l1Num_nat 10 n.toNat hlt (by omega) (by omega) q (by omega)


theorem specGood_up {a0 a1 a3 : Int} {s : ByteArray} {k : Nat} {b : Bool} (h : spec_GoodToken.f k a0 a1 s a3 = some b) : ∀ m, spec_GoodToken.f (k + m) a0 a1 s a3 = some b := by
  intro m
  induction m with
  | zero => exact h
  | succ m ih => exact spec_GoodToken.mono a0 a1 s a3 (k + m) b ih
theorem implGood_up {a0 a1 a3 : Int} {s : ByteArray} {k : Nat} {b : Bool} (h : impl_GoodToken.f k a0 a1 s a3 = some b) : ∀ m, impl_GoodToken.f (k + m) a0 a1 s a3 = some b := by
  intro m
  induction m with
  | zero => exact h
  | succ m ih => exact impl_GoodToken.mono a0 a1 s a3 (k + m) b ih
theorem good_num {a1 a3 : Int} {s : ByteArray} {k : Nat} (h : impl_GoodToken.f k 1 a1 s a3 = some true) : 0 ≤ a1 ∧ a1 ≤ 999999999 := by
  unfold impl_GoodToken.f at h
  simp only [within_eq, Option.bind_some, if_pos] at h
  by_cases h1 : decide (0 ≤ a3 ∧ a3 ≤ 300) = true
  · rw [if_pos h1] at h
    by_cases h2 : decide (0 ≤ a1 ∧ a1 ≤ 999999999) = true
    · exact of_decide_eq_true h2
    · rw [if_neg h2] at h; cases h
  · rw [if_neg h1] at h; cases h
/-- What both tell. -/
theorem TokenText_both (a0 a1 : Int) (s : ByteArray) (a3 : Int) (hs : s.size ≤ 4611686018427387904) : ∃ k r, spec_TokenText.f k a0 a1 s a3 = some r ∧ impl_TokenText.f k a0 a1 s a3 = some r := by
  obtain ⟨k, b, e1, e2⟩ := GoodToken_both a0 a1 s a3 hs
  refine ⟨k + 12, ?_⟩
  unfold spec_TokenText.f impl_TokenText.f
  rw [specGood_up e1 12, implGood_up e2 12, Option.bind_some, Option.bind_some]
  cases b with
  | false => exact ⟨_, rfl, rfl⟩
  | true =>
    rw [if_pos rfl, if_pos rfl]
    unfold spec_l1Text.f impl_Token_text.f
    by_cases h : a0 = 1
    · subst h
      obtain ⟨h0, h1⟩ := good_num e2
      rw [if_pos rfl, if_pos rfl, l1Num_eq a1 (by omega) (by omega) _ (by omega)]
      unfold strconv_Itoa_75.f
      rw [if_pos ⟨by omega, by omega⟩]
      exact ⟨_, rfl, rfl⟩
    · rw [if_neg h, if_neg h]
      exact ⟨_, rfl, rfl⟩
theorem FnExactTokenText_pure (a0 a1 : Int) (s : ByteArray) (a3 : Int) (hs : s.size ≤ maxLen) : ∃ k, laws_FnExactTokenText.f k a0 a1 s a3 = some true := by
  unfold maxLen at hs
  by_cases h : wrap64 (1048576 - (s.size : Int)) < 0
  · refine ⟨0, ?_⟩
    unfold laws_FnExactTokenText.f laws_szToken.f
    rw [if_pos h]; simp
  · have hl : s.size ≤ 4611686018427387904 := by unfold wrap64 at h; omega
    obtain ⟨k, r, e1, e2⟩ := TokenText_both a0 a1 s a3 hl
    refine ⟨k, ?_⟩
    unfold laws_FnExactTokenText.f laws_szToken.f
    rw [if_neg h]
    simp only [Option.bind_some, laws_toToken.f]
    rw [if_neg h, e1]
    simp only [Option.bind_some]
    rw [e2]
    simp
end Go.Proofs.YtkmobaffmlcaiaaDoor.PAll
