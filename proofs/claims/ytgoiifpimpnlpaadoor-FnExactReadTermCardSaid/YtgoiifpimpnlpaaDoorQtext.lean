/- The reference's numbers' and terms' texts are Itoa's and Join's; TermText's law, pure. -/
import Derived.Test.YtgoiifpimpnlpaaDoorQtermB
import Derived.Test.YtgoiifpimpnlpaaDoorHtextC
namespace Go.Proofs.YtgoiifpimpnlpaaDoor.PAll
open Go.RowKit Go.Proofs.YtgoiifpimpnlpaaDoorW.PrintWords Go.Proofs.YtgoiifpimpnlpaaDoorW.PrintLast Go.Proofs.YtgoiifpimpnlpaaDoorW.PrintMore
set_option linter.unusedVariables false
set_option linter.unusedSimpArgs false

theorem strB_app (a b : List UInt8) : strB a ++ strB b = strB (a ++ b) := by
  apply ByteArray.ext
  apply Array.ext'
  simp [strB]
theorem strB_size (a : List UInt8) : (strB a).size = a.length := by simp [strB, ByteArray.size]
theorem strB_nums (l : List Int) : strOfNums l = strB (l.map fun n => UInt8.ofNat n.toNat) := rfl

theorem digit_byte (u : Nat) (h : u < 10) : strOfNums [(wrap64 (48 + (u : Int))) % 256] = strB [UInt8.ofNat (48 + u)] := by
  rw [strB_nums, wrap_id (by omega) (by omega)]
  have e : ((48 + (u : Int)) % 256).toNat = 48 + u := by omega
  simp only [List.map_cons, List.map_nil, e]

theorem decDigits_len : ∀ (k u : Nat), u < 10 ^ k → 0 < k → (Lib.decDigits u).length ≤ k := by
  intro k
  induction k with
  | zero => intro u _ h; omega
  | succ k ih =>
    intro u hu _
    rw [Lib.decDigits]
    by_cases h : u < 10
    · rw [dif_pos h]; simp
    · rw [dif_neg h]
      have hk : 0 < k := by
        rcases Nat.eq_zero_or_pos k with h0 | h0
        · subst h0; omega
        · exact h0
      have := ih (u / 10) (by rw [Nat.div_lt_iff_lt_mul (by omega)]; rw [Nat.pow_succ] at hu; exact hu) hk
      simp only [List.length_append, List.length_singleton]
      omega

theorem l1Num_nat : ∀ (k : Nat) (u : Nat), u < 10 ^ k → 0 < k → k ≤ 15 → ∀ q, k ≤ q → spec_l1Num.f q (u : Int) = some (strB (Lib.decDigits u)) := by
  intro k
  induction k with
  | zero => intro u _ h; omega
  | succ k ih =>
    intro u hu _ hk q hq
    obtain ⟨q, rfl⟩ : ∃ m, q = m + 1 := ⟨q - 1, by omega⟩
    simp only [spec_l1Num.f]
    rw [if_neg (by omega), Lib.decDigits]
    by_cases h : u < 10
    · rw [dif_pos h, if_pos (by omega), digit_byte u h]
    · rw [dif_neg h, if_neg (by omega)]
      have hk0 : 0 < k := by
        rcases Nat.eq_zero_or_pos k with h0 | h0
        · subst h0; omega
        · exact h0
      have hu9 : u < 10 ^ 15 := Nat.lt_of_lt_of_le hu (Nat.pow_le_pow_right (by omega) hk)
      have e1 : Int.tdiv (u : Int) 10 = ((u / 10 : Nat) : Int) := by
        rw [Int.tdiv_eq_ediv_of_nonneg (by omega)]; omega
      have e2 : Int.tmod (u : Int) 10 = ((u % 10 : Nat) : Int) := by
        rw [Int.tmod_eq_emod_of_nonneg (by omega)]; omega
      have hd : u / 10 < 10 ^ k := by rw [Nat.div_lt_iff_lt_mul (by omega)]; rw [Nat.pow_succ] at hu; exact hu
      have hlen := decDigits_len k (u / 10) hd hk0
      rw [e1, e2, wrap_id (x := ((u / 10 : Nat) : Int)) (by omega) (by omega), ih (u / 10) hd hk0 (by omega) q (by omega)]
      simp only [Option.bind_some]
      rw [digit_byte (u % 10) (by omega), strB_size, strB_size, if_pos (by simp; omega), strB_app]

theorem l1Num_eq (n : Int) (h0 : -1000000000 ≤ n) (h1 : n ≤ 1000000000) (q : Nat) (hq : 12 ≤ q) : spec_l1Num.f q n = some (strB (Lib.itoa n)) := by
  unfold Lib.itoa
  by_cases h : n < 0
  · rw [if_pos h]
    obtain ⟨q, rfl⟩ : ∃ m, q = m + 1 := ⟨q - 1, by omega⟩
    simp only [spec_l1Num.f]
    have e : -n = (n.natAbs : Int) := by omega
    have hlt : n.natAbs < 10 ^ 10 := by have : (10 : Nat) ^ 10 = 10000000000 := by decide
                                        omega
    have hlen := decDigits_len 10 n.natAbs hlt (by omega)
    rw [if_pos h, wrap_id (x := -n) (by omega) (by omega), e, l1Num_nat 10 n.natAbs hlt (by omega) (by omega) q (by omega)]
    simp only [Option.bind_some]
    rw [strB_size, if_pos (by omega), show (⟨#[45]⟩ : ByteArray) = strB [45] from rfl, strB_app]
    rfl
  · rw [if_neg h]
    have e : n = (n.toNat : Int) := by omega
    have hlt : n.toNat < 10 ^ 10 := by have : (10 : Nat) ^ 10 = 10000000000 := by decide
                                       omega
    conv => lhs; rw [e]
    exact l1Num_nat 10 n.toNat hlt (by omega) (by omega) q (by omega)

theorem word_eq (x : S41) (h : cellB x = true) (q : Nat) (hq : 12 ≤ q) : spec_l3Word.f q x.f0 x.f1 = some (strB (cellT x)) := by
  unfold spec_l3Word.f cellT
  rcases cell_kinds h with ⟨h1, h2, h3⟩ | ⟨h1, h2, h3⟩ | h1 | h1 | h1 | h1 | h1
  · have hl := Lib.itoa_length_le x.f1 (by omega) (by omega)
    rw [if_pos h1, if_pos h1, l1Num_eq _ (by omega) (by omega) q hq]
    simp only [Option.bind_some]
    rw [strB_size, if_pos (by omega), show (⟨#[118]⟩ : ByteArray) = strB [118] from rfl, strB_app]
    rfl
  · have hn : ¬ x.f0 = 1 := by omega
    rw [if_neg hn, if_neg hn, if_pos h1, if_pos h1, l1Num_eq _ (by omega) (by omega) q hq]
    rfl
  all_goals
    rw [h1]
    rfl

/-- What the loop has put together behind j cells. -/
def pre (l : List S41) (j : Nat) : List UInt8 := Lib.join ((l.take j).map cellT) [32]
theorem joinTail_snoc (r : List (List UInt8)) (x : List UInt8) : Lib.joinTail [32] (r ++ [x]) = Lib.joinTail [32] r ++ ([32] ++ x) := by simp [Lib.joinTail]
theorem pre_succ (l : List S41) (j : Nat) (x : S41) (hx : l[j]? = some x) : pre l (j + 1) = if j = 0 then cellT x else pre l j ++ [32] ++ cellT x := by
  unfold pre
  rw [List.take_add_one, hx]
  simp only [Option.toList, List.map_append, List.map_cons, List.map_nil]
  by_cases h : j = 0
  · subst h; simp [Lib.join_one]
  · rw [if_neg h]
    cases hl : l.take j with
    | nil =>
      have := congrArg List.length hl
      have hj : j < l.length := by
        rcases Nat.lt_or_ge j l.length with h | h
        · exact h
        · rw [List.getElem?_eq_none h] at hx; cases hx
      rw [List.length_take, Nat.min_eq_left (by omega)] at this
      simp at this
      omega
    | cons y r =>
      simp only [List.map_cons, List.cons_append]
      rw [Lib.join_cons, Lib.join_cons, joinTail_snoc]
      simp
theorem pre_len (l : List S41) (h : ∀ x ∈ l, cellB x = true) (hl : l.length ≤ 600) (j : Nat) : (pre l j).length ≤ 23 * 600 := by
  have h1 := join_len 22 ((l.take j).map cellT) (fun x hx => by obtain ⟨y, hy, rfl⟩ := List.mem_map.1 hx; exact cellT_len y (h y (List.mem_of_mem_take hy)))
  rw [List.length_map, List.length_take] at h1
  have : 23 * min j l.length ≤ 23 * 600 := Nat.mul_le_mul_left _ (by omega)
  unfold pre
  omega

theorem text_loop (l : List S41) (hc : ∀ x ∈ l, cellB x = true) (hl : l.length ≤ 600) : ∀ (d j k : Nat), j + d = l.length → d + 12 < k → spec_TermText.l0 k (strB (pre l j)) l (l.length : Int) (j : Int) = some (if (termT l).length ≤ 2000 then (strB (termT l), true) else (strB [], false)) := by
  intro d
  induction d with
  | zero =>
    intro j k hj hk
    obtain ⟨k, rfl⟩ : ∃ m, k = m + 1 := ⟨k - 1, by omega⟩
    simp only [spec_TermText.l0]
    have e : pre l j = termT l := by unfold pre termT; rw [List.take_of_length_le (by omega)]
    rw [if_neg (by omega), e, strB_size]
    by_cases h : (termT l).length ≤ 2000
    · rw [if_neg (by omega), if_pos h]
    · rw [if_pos (by omega), if_neg h]; rfl
  | succ d ih =>
    intro j k hj hk
    obtain ⟨k, rfl⟩ : ∃ m, k = m + 1 := ⟨k - 1, by omega⟩
    have hlt : j < l.length := by omega
    have hx : l[j]? = some l[j] := by simp [hlt]
    have hr : rd_T41 l (j : Int) = l[j] := by simp [rd_T41, List.getD_eq_getElem?_getD, hx]
    have hp := pre_len l hc hl j
    have hcb := hc _ (List.getElem_mem hlt)
    have hct := cellT_len _ hcb
    have hps := pre_succ l j _ hx
    have e : (j : Int) + 1 = ((j + 1 : Nat) : Int) := by omega
    simp only [spec_TermText.l0]
    rw [if_pos (by omega), if_pos (by omega), if_pos (by omega), hr]
    by_cases h0 : j = 0
    · rw [if_neg (by omega), word_eq _ hcb k (by omega)]
      simp only [Option.bind_some]
      rw [strB_size, strB_size, if_pos (by omega), wrap_id (x := (j : Int) + 1) (by omega) (by omega), e, strB_app]
      rw [if_pos h0] at hps
      rw [show pre l j ++ cellT l[j] = pre l (j + 1) by rw [hps]; unfold pre; simp [h0, Lib.join_nil]]
      exact ih (j + 1) k (by omega) (by omega)
    · rw [if_pos (by omega), strB_size, if_pos (by omega), word_eq _ hcb k (by omega)]
      simp only [Option.bind_some]
      rw [if_neg h0] at hps
      rw [show (⟨#[32]⟩ : ByteArray) = strB [32] from rfl, strB_app, strB_app, strB_size, strB_size, if_pos (by simp; omega), wrap_id (x := (j : Int) + 1) (by omega) (by omega), e, ← hps]
      exact ih (j + 1) k (by omega) (by omega)

theorem TermText_eq (l : List S41) (k : Nat) (hk : 5000 ≤ k) : spec_TermText.f k l = some (strB (textOf l).1, (textOf l).2) := by
  unfold spec_TermText.f textOf
  rw [GoodTerm_eq l k (by omega), Option.bind_some]
  by_cases hg : (tmof l).isSome = true
  · rw [if_pos hg, if_pos hg]
    obtain ⟨hl, hc⟩ := tmof_cellB hg
    have L := text_loop l hc hl l.length 0 k (by omega) (by omega)
    simp only [Int.cast_ofNat_Int] at L
    rw [show (⟨#[]⟩ : ByteArray) = strB (pre l 0) from rfl, L]
    split <;> rfl
  · rw [if_neg hg, if_neg hg]; rfl

theorem FnExactTermText_pure (l0 : List S58) (g0 : l0.length ≤ 9223372036854775807 ∧ ∀ xl0_ ∈ l0, ((Lit.int .i64 xl0_.f0).wf = true ∧ (Lit.int .i64 xl0_.f1).wf = true)) : ∃ k, lawTextF k l0 = some true := by
  refine ⟨1050004, ?_⟩
  unfold lawTextF laws_szCellS.f
  by_cases h : wrap64 (1048576 - (l0.length : Int)) < 0
  · rw [if_pos h]; simp
  · have hl : l0.length ≤ 17592186044416 ∧ l0.length < 1050000 := by have := g0.1; unfold wrap64 at h; omega
    rw [if_neg h]
    simp only [Option.bind_some]
    rw [if_neg h]
    obtain ⟨hl, hk⟩ := hl
    rw [toCellS_eq l0 hl _ (by omega)]
    simp only [Option.bind_some]
    rw [TermText_eq _ _ (by omega)]
    simp only [Option.bind_some, if_true]
    rw [eqCellS_self _ (by simpa using hl) _ (by simp; omega)]
    simp
end Go.Proofs.YtgoiifpimpnlpaaDoor.PAll
