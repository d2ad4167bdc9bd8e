/- Marks in a row of tokens are read back. -/
import Derived.Test.YtkmobaffmlcaiaaDoorQtok
import Derived.Test.YtkmobaffmlcaiaaDoorPAllx17
import Derived.Test.YtkmobaffmlcaiaaDoorPAllx18
namespace Go.Proofs.YtkmobaffmlcaiaaDoor.PAll
open Go.RowKit Go.Proofs.YtkmobaffmlcaiaaDoorW.PrintWords Go.Proofs.YtkmobaffmlcaiaaDoorW.PrintLast Go.Proofs.YtkmobaffmlcaiaaDoorW.PrintMore
set_option linter.unusedVariables false
set_option linter.unusedSimpArgs false

theorem mkText_loop : ∀ (m n : Nat) (x : ByteArray), n < 10 ^ m → m ≤ 15 → x.size + m ≤ 1000 → ∃ t, ∀ k, m + 1 ≤ k → laws_markText.l0 k (n : Int) x = some t := by
  intro m
  induction m with
  | zero =>
    intro n x hn _ hx
    obtain rfl : n = 0 := by omega
    refine ⟨(⟨#[109]⟩ : ByteArray) ++ x, fun k hk => ?_⟩
    obtain ⟨k, rfl⟩ : ∃ q, k = q + 1 := ⟨k - 1, by omega⟩
    simp only [laws_markText.l0]
    rw [if_neg (by omega), if_pos (by omega)]
  | succ m ih =>
    intro n x hn hm hx
    by_cases h0 : 0 < n
    · have hn15 : n < 10 ^ 15 := Nat.lt_of_lt_of_le hn (Nat.pow_le_pow_right (by omega) hm)
      have hd : n / 10 < 10 ^ m := by rw [Nat.div_lt_iff_lt_mul (by omega)]; rw [Nat.pow_succ] at hn; exact hn
      have hs1 : (strOfNums [(wrap64 (48 + (Int.tmod (n : Int) 10))) % 256]).size = 1 := rfl
      obtain ⟨t, ht⟩ := ih (n / 10) (strOfNums [(wrap64 (48 + (Int.tmod (n : Int) 10))) % 256] ++ x) hd (by omega) (by rw [ByteArray.size_append, hs1]; omega)
      refine ⟨t, fun k hk => ?_⟩
      obtain ⟨k, rfl⟩ : ∃ q, k = q + 1 := ⟨k - 1, by omega⟩
      simp only [laws_markText.l0]
      have e1 : wrap64 (Int.tdiv (n : Int) 10) = ((n / 10 : Nat) : Int) := by
        rw [Int.tdiv_eq_ediv_of_nonneg (by omega), wrap_id (by omega) (by omega)]; omega
      rw [if_pos (by omega), Option.bind_some, if_pos (by rw [hs1]; omega), e1]
      exact ht k (by omega)
    · obtain rfl : n = 0 := by omega
      refine ⟨(⟨#[109]⟩ : ByteArray) ++ x, fun k hk => ?_⟩
      obtain ⟨k, rfl⟩ : ∃ q, k = q + 1 := ⟨k - 1, by omega⟩
      simp only [laws_markText.l0]
      rw [if_neg (by omega), if_pos (by omega)]
theorem mkText_ex (n : Nat) (hn : n < 10 ^ 15) : ∃ t, ∀ k, 20 ≤ k → laws_markText.f k (n : Int) = some t := by
  by_cases h0 : n = 0
  · subst h0
    exact ⟨_, fun k _ => by unfold laws_markText.f; rw [if_pos (by omega)]⟩
  · obtain ⟨t, ht⟩ := mkText_loop 15 n ⟨#[]⟩ hn (by omega) (by decide)
    exact ⟨t, fun k hk => by unfold laws_markText.f; rw [if_neg (by omega)]; exact ht k (by omega)⟩
noncomputable def mkT (n : Nat) : ByteArray := if h : n < 10 ^ 15 then Classical.choose (mkText_ex n h) else ⟨#[]⟩
theorem mkT_eq (n : Nat) (hn : n < 10 ^ 15) (k : Nat) (hk : 20 ≤ k) : laws_markText.f k (n : Int) = some (mkT n) := by
  unfold mkT
  rw [dif_pos hn]
  exact Classical.choose_spec (mkText_ex n hn) k hk
noncomputable def mkK (j : Nat) : S27 := ⟨((1 + 4 * j : Nat) : Int), ((2 + 4 * j : Nat) : Int), mkT (3 + 4 * j), ((4 + 4 * j : Nat) : Int)⟩

theorem heldK_loop (n : Nat) (hn : n ≤ 100000) (ys : List S27) (hy : ys.length = n) (hj : ∀ j, j < n → ys[j]? = some (mkK j)) : ∀ (d k i : Nat), i + d = n → d + 20 < k → laws_heldTokenS.l0 k ys ((1 + 4 * i : Nat) : Int) (i : Int) = some ((1 + 4 * n : Nat) : Int) := by
  intro d
  induction d with
  | zero =>
    intro k i hi hk
    obtain ⟨k, rfl⟩ : ∃ m, k = m + 1 := ⟨k - 1, by omega⟩
    simp only [laws_heldTokenS.l0]
    rw [if_neg (by omega)]
    obtain rfl : i = n := by omega
    rfl
  | succ d ih =>
    intro k i hi hk
    obtain ⟨k, rfl⟩ : ∃ m, k = m + 1 := ⟨k - 1, by omega⟩
    have hr : rd_T27 ys (i : Int) = mkK i := by simp only [rd_T27, Int.toNat_natCast, List.getD_eq_getElem?_getD]; rw [hj i (by omega)]; rfl
    have e1 : wrap64 (((1 + 4 * i : Nat) : Int) + 1) = ((2 + 4 * i : Nat) : Int) := by rw [wrap_id (by omega) (by omega)]; omega
    have e2 : wrap64 (((2 + 4 * i : Nat) : Int) + 1) = ((3 + 4 * i : Nat) : Int) := by rw [wrap_id (by omega) (by omega)]; omega
    have e3 : wrap64 (((3 + 4 * i : Nat) : Int) + 1) = ((4 + 4 * i : Nat) : Int) := by rw [wrap_id (by omega) (by omega)]; omega
    have e4 : wrap64 (((4 + 4 * i : Nat) : Int) + 1) = ((1 + 4 * (i + 1) : Nat) : Int) := by rw [wrap_id (by omega) (by omega)]; omega
    have e5 : wrap64 ((i : Int) + 1) = ((i + 1 : Nat) : Int) := by rw [wrap_id (by omega) (by omega)]; omega
    simp only [laws_heldTokenS.l0, hr, mkK, e1, e2, e3, e4, e5]
    rw [if_pos (by omega), if_pos (by omega), if_pos trivial, if_pos trivial, mkT_eq (3 + 4 * i) (by omega) k (by omega), Option.bind_some, if_pos rfl, if_pos trivial]
    exact ih k (i + 1) (by omega) (by omega)
theorem markK_loop (n : Nat) (hn : n ≤ 100000) : ∀ (d k i : Nat) (xs : List S27), xs.length = n → (∀ j, j < i → xs[j]? = some (mkK j)) → i + d = n → d + 20 < k →
    ∃ ys, laws_markTokenS.l0 k xs ((1 + 4 * i : Nat) : Int) (i : Int) = some (((1 + 4 * n : Nat) : Int), ys) ∧ ys.length = n ∧ ∀ j, j < n → ys[j]? = some (mkK j) := by
  intro d
  induction d with
  | zero =>
    intro k i xs hx hj hi hk
    obtain ⟨k, rfl⟩ : ∃ m, k = m + 1 := ⟨k - 1, by omega⟩
    simp only [laws_markTokenS.l0]
    rw [if_neg (by omega)]
    obtain rfl : i = n := by omega
    exact ⟨xs, rfl, hx, hj⟩
  | succ d ih =>
    intro k i xs hx hj hi hk
    obtain ⟨k, rfl⟩ : ∃ m, k = m + 1 := ⟨k - 1, by omega⟩
    have e1 : wrap64 (((1 + 4 * i : Nat) : Int) + 1) = ((2 + 4 * i : Nat) : Int) := by rw [wrap_id (by omega) (by omega)]; omega
    have e2 : wrap64 (((2 + 4 * i : Nat) : Int) + 1) = ((3 + 4 * i : Nat) : Int) := by rw [wrap_id (by omega) (by omega)]; omega
    have e3 : wrap64 (((3 + 4 * i : Nat) : Int) + 1) = ((4 + 4 * i : Nat) : Int) := by rw [wrap_id (by omega) (by omega)]; omega
    have e4 : wrap64 (((4 + 4 * i : Nat) : Int) + 1) = ((1 + 4 * (i + 1) : Nat) : Int) := by rw [wrap_id (by omega) (by omega)]; omega
    have e5 : wrap64 ((i : Int) + 1) = ((i + 1 : Nat) : Int) := by rw [wrap_id (by omega) (by omega)]; omega
    have hr : ∀ (zs : List S27) (v : S27), zs.length = n → rd_T27 (zs.set i v) (i : Int) = v := fun zs v hz => by
      simp [rd_T27, List.getD_eq_getElem?_getD, List.getElem?_set_self (show i < zs.length by omega)]
    simp only [laws_markTokenS.l0, e1, e2, e3, e4, e5, Int.toNat_natCast]
    rw [if_pos (by omega), if_pos (by omega)]
    simp only [Option.bind_some]
    rw [mkT_eq (3 + 4 * i) (by omega) k (by omega)]
    simp only [Option.bind_some, hr, hx, List.length_set, List.set_set]
    refine ih k (i + 1) _ (by simp [hx]) (fun j hj' => ?_) (by omega) (by omega)
    by_cases hji : j = i
    · subst hji
      rw [List.getElem?_set_self (by omega)]
      rfl
    · rw [List.getElem?_set_ne (by omega)]
      exact hj j (by omega)
theorem markHeldK_eq (xs : List S27) (hn : xs.length ≤ 100000) (k : Nat) (hk : xs.length + 20 < k) : ∃ ys, laws_markTokenS.f k xs 1 = some (((1 + 4 * xs.length : Nat) : Int), ys) ∧ ∀ q, xs.length + 20 < q → laws_heldTokenS.f q ys 1 = some ((1 + 4 * xs.length : Nat) : Int) := by
  unfold laws_markTokenS.f laws_heldTokenS.f
  obtain ⟨ys, h, hy, hj⟩ := markK_loop xs.length hn xs.length k 0 xs rfl (fun j h => by omega) (by omega) hk
  exact ⟨ys, h, fun q hq => heldK_loop xs.length hn ys hy hj xs.length q 0 (by omega) hq⟩
end Go.Proofs.YtkmobaffmlcaiaaDoor.PAll
