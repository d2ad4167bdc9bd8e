/- The reference finds the same handlers good. -/
import Derived.Test.YtjnaokdncemggaaQhandA
namespace Go.Proofs.Ytjnaokdncemggaa.PAll
open Go.RowKit Go.Proofs.YtjnaokdncemggaaW.PrintWords Go.Proofs.YtjnaokdncemggaaW.PrintLast Go.Proofs.YtjnaokdncemggaaW.PrintMore
set_option linter.unusedVariables false
set_option linter.unusedSimpArgs false

theorem l1In_eqR (n lo hi : Int) : spec_l1In.f n lo hi = some (decide (lo ≤ n ∧ n ≤ hi)) := by
  unfold spec_l1In.f
  by_cases h : lo ≤ n <;> simp [h]

theorem ruleB_eq (x : S82) : ruleB x = (decide (1 ≤ x.f0 ∧ x.f0 ≤ 5) && decide (0 ≤ x.f1 ∧ x.f1 ≤ 99) && (decide (x.f0 = 4) || decide (x.f1 = 0))) := by
  unfold ruleB
  by_cases h4 : x.f0 = 4
  · simp [h4]
  · rw [if_neg h4, decide_eq_false h4]
    simp only [Bool.false_or]
    rw [← Bool.decide_and, ← Bool.decide_and, decide_eq_decide]
    constructor <;> intro h <;> omega

theorem specGoodHandler_loop (ret : Int) (l : List S82) (hl : l.length ≤ 17592186044416) : ∀ (d k i : Nat), i + d = l.length → d < k → spec_GoodHandler.l0 k l (l.length : Int) (i : Int) ret l = some ((l.drop i).all ruleB && (decide (0 ≤ ret ∧ ret ≤ 99) && decide (l.length = 3))) := by
  intro d
  induction d with
  | zero =>
    intro k i hi hk
    obtain ⟨k, rfl⟩ : ∃ m, k = m + 1 := ⟨k - 1, by omega⟩
    simp only [spec_GoodHandler.l0]
    rw [if_neg (by omega), List.drop_of_length_le (by omega), l1In_eqR]
    by_cases h : 0 ≤ ret ∧ ret ≤ 99
    · simp [h]
      by_cases h3 : l.length = 3
      · simp [h3]
      · simp [h3]; omega
    · rw [decide_eq_false h]; simp
  | succ d ih =>
    intro k i hi hk
    obtain ⟨k, rfl⟩ : ∃ m, k = m + 1 := ⟨k - 1, by omega⟩
    have hlt : i < l.length := by omega
    have hr : rd_T82 l (i : Int) = l[i] := by simp [rd_T82, List.getD_eq_getElem?_getD, List.getElem?_eq_getElem hlt]
    have := ih k (i + 1) (by omega) (by omega)
    simp only [Int.natCast_add, Int.cast_ofNat_Int] at this
    simp only [spec_GoodHandler.l0]
    rw [if_pos (by omega), if_pos (by omega), if_pos (by omega), hr, wrap_idR (by omega) (by omega), List.drop_eq_getElem_cons hlt, List.all_cons, ruleB_eq]
    simp only [l1In_eqR, Option.bind_some, this]
    by_cases h1 : 1 ≤ l[i].f0 ∧ l[i].f0 ≤ 5
    · by_cases h2 : 0 ≤ l[i].f1 ∧ l[i].f1 ≤ 99
      · by_cases h3 : l[i].f0 = 4
        · simp [h3, h2]
        · by_cases h4 : l[i].f1 = 0
          · simp [h1, h3, h4]
          · simp [h1, h2, h3, h4]
      · rw [decide_eq_false h2]; simp
    · rw [decide_eq_false h1]; simp

theorem specGoodHandler_eq (ret : Int) (l : List S82) (hl : l.length ≤ 17592186044416) (k : Nat) (hk : l.length < k) : spec_GoodHandler.f k ret l = some (goodHB ret l) := by
  unfold spec_GoodHandler.f
  have := specGoodHandler_loop ret l hl l.length k 0 (by omega) hk
  simp only [Int.cast_ofNat_Int, List.drop_zero] at this
  rw [this]
  congr 1
  simp only [goodHB]
  cases l.all ruleB <;> simp
end Go.Proofs.Ytjnaokdncemggaa.PAll
