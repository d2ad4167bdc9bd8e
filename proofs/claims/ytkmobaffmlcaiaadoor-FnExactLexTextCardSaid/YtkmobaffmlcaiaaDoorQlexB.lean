/- Both lex alike. -/
import Derived.Test.YtkmobaffmlcaiaaDoorQlexA
import Derived.Test.YtkmobaffmlcaiaaDoorHlexC
namespace Go.Proofs.YtkmobaffmlcaiaaDoor.PAll
open Go.RowKit Go.Proofs.YtkmobaffmlcaiaaDoorW.PrintWords Go.Proofs.YtkmobaffmlcaiaaDoorW.PrintLast Go.Proofs.YtkmobaffmlcaiaaDoorW.PrintMore
set_option linter.unusedVariables false
set_option linter.unusedSimpArgs false

theorem bestS_le (t : ByteArray) : ∀ (l : List ByteArray) (b : ByteArray), b.size ≤ t.size → (bestS t l b).size ≤ t.size := by
  intro l
  induction l with
  | nil => intro b hb; exact hb
  | cons x r ih =>
    intro b hb
    rw [bestS_cons]
    split
    · rename_i h
      refine ih x ?_
      have := h.2
      unfold Lib.hasPrefix at this
      rw [List.isPrefixOf_iff_prefix] at this
      have := this.length_le
      rw [size_len, size_len t]; exact this
    · exact ih b hb
theorem tok_len (t : ByteArray) : 0 ≤ (tokOf t).2.2.2.2 ∧ (tokOf t).2.2.2.2 ≤ (t.size : Int) := by
  have h1 := leadD_le t
  have h2 := lead_le t
  have h3 := bestS_le t signs ⟨#[]⟩ (Nat.zero_le _)
  unfold tokOf
  repeat' split
  all_goals (simp only; omega)
theorem lex_both (s : ByteArray) (hs : s.size ≤ 300) : ∀ (n a : Nat) (x5 : List S27), s.size - a ≤ n → a ≤ s.size → x5.length ≤ 120 →
    ∃ r : List S27 × Int × Bool, r.1.length ≤ 1000 ∧ ∀ k, 2 * n + 1000 ≤ k → impl_lex.l0 k s x5 (a : Int) = some r ∧ spec_l1Lex.l0 k s x5 (a : Int) = some (if r.2.2 = true then (r.1, 0, true) else ([], r.2.1, false)) := by
  intro n
  induction n with
  | zero =>
    intro a x5 hn ha hx
    refine ⟨(x5, 0, true), by show x5.length ≤ 1000; omega, fun k hk => ?_⟩
    obtain ⟨k, rfl⟩ : ∃ q, k = q + 1 := ⟨k - 1, by omega⟩
    simp only [impl_lex.l0, spec_l1Lex.l0]
    rw [if_neg (by omega), if_neg (by omega)]
    exact ⟨rfl, rfl⟩
  | succ n ih =>
    intro a x5 hn ha hx
    by_cases hlt : a < s.size
    · obtain ⟨sp, hsp⟩ : ∃ sp : Bool, ∀ (f : Bool → Option (List S27 × Int × Bool)), (if (bt s (a : Int)) = 32 then f true else f ((bt s (a : Int)) == 10)) = f sp := by
        by_cases h : bt s (a : Int) = 32
        · exact ⟨true, fun f => by rw [if_pos h]⟩
        · exact ⟨bt s (a : Int) == 10, fun f => by rw [if_neg h]⟩
      cases sp with
      | true =>
        obtain ⟨r, hrl, hr⟩ := ih (a + 1) x5 (by omega) (by omega) hx
        refine ⟨r, hrl, fun k hk => ?_⟩
        obtain ⟨k, rfl⟩ : ∃ q, k = q + 2 := ⟨k - 2, by omega⟩
        have e2 : wrap64 ((a : Int) + 1) = ((a + 1 : Nat) : Int) := by rw [wrap_id (by omega) (by omega)]; omega
        simp only [impl_lex.l0, spec_l1Lex.l0]
        rw [if_pos (by omega), if_pos (by omega), hsp (fun b => impl_lex.j1 (k + 1) s x5 (a : Int) b), if_pos (by omega), if_pos (by omega), hsp (fun b => spec_l1Lex.j1 (k + 1) s x5 (a : Int) b)]
        simp only [impl_lex.j1, spec_l1Lex.j1]
        rw [if_pos trivial, if_pos trivial, e2]
        exact hr k (by omega)
      | false =>
        have htk := tok_len (s.extract a s.size)
        have hts : (s.extract a s.size).size = s.size - a := by rw [ByteArray.size_extract]; omega
        have hti : impl_tokenAt.f (s.extract (a : Int).toNat s.size) = some (tokOf (s.extract a s.size)) := by
          unfold impl_tokenAt.f
          rw [Int.toNat_natCast, if_pos (by omega)]
        have hst : ∀ k, 2 * s.size + 100 ≤ k → spec_l1Token.f k s (a : Int) = some (tokAt s a) := fun k hk => token_eq s a (by omega) hlt k hk
        unfold tokAt at hst
        obtain ⟨⟨t1, t2, t3, t4, t5⟩, ht⟩ : ∃ t, t = tokOf (s.extract a s.size) := ⟨_, rfl⟩
        rw [← ht] at hti hst htk
        simp only at hst htk
        by_cases h0 : t5 = 0
        · refine ⟨(x5, (a : Int), false), by show x5.length ≤ 1000; omega, fun k hk => ?_⟩
          obtain ⟨k, rfl⟩ : ∃ q, k = q + 2 := ⟨k - 2, by omega⟩
          simp only [impl_lex.l0, spec_l1Lex.l0]
          rw [if_pos (by omega), if_pos (by omega), hsp (fun b => impl_lex.j1 (k + 1) s x5 (a : Int) b), if_pos (by omega), if_pos (by omega), hsp (fun b => spec_l1Lex.j1 (k + 1) s x5 (a : Int) b)]
          simp only [impl_lex.j1, spec_l1Lex.j1]
          refine ⟨?_, ?_⟩
          · rw [if_neg (by decide), if_pos (by omega), if_pos (by omega), hti, Option.bind_some]
            simp only
            rw [if_pos h0]
          · rw [if_neg (by decide), hst k (by omega), Option.bind_some, if_pos h0]
            rfl
        · by_cases h1 : x5.length = 120
          · refine ⟨(x5, (a : Int), false), by show x5.length ≤ 1000; omega, fun k hk => ?_⟩
            obtain ⟨k, rfl⟩ : ∃ q, k = q + 2 := ⟨k - 2, by omega⟩
            simp only [impl_lex.l0, spec_l1Lex.l0]
            rw [if_pos (by omega), if_pos (by omega), hsp (fun b => impl_lex.j1 (k + 1) s x5 (a : Int) b), if_pos (by omega), if_pos (by omega), hsp (fun b => spec_l1Lex.j1 (k + 1) s x5 (a : Int) b)]
            simp only [impl_lex.j1, spec_l1Lex.j1]
            refine ⟨?_, ?_⟩
            · rw [if_neg (by decide), if_pos (by omega), if_pos (by omega), hti, Option.bind_some]
              simp only
              rw [if_neg h0, if_pos (by omega)]
            · rw [if_neg (by decide), hst k (by omega), Option.bind_some, if_neg h0]
              simp only
              rw [if_neg (by omega), if_pos (by omega)]
              rfl
          · obtain ⟨m, hm⟩ : ∃ m : Nat, t5 = m := ⟨t5.toNat, by omega⟩
            subst hm
            obtain ⟨r, hrl, hr⟩ := ih (a + m) (x5 ++ [⟨t1, t2, t3, (a : Int)⟩]) (by omega) (by omega) (by simp; omega)
            refine ⟨r, hrl, fun k hk => ?_⟩
            obtain ⟨k, rfl⟩ : ∃ q, k = q + 2 := ⟨k - 2, by omega⟩
            have e3 : wrap64 ((a : Int) + (m : Int)) = ((a + m : Nat) : Int) := by rw [wrap_id (by omega) (by omega)]; omega
            have e4 : (a : Int) + (m : Int) = ((a + m : Nat) : Int) := by omega
            simp only [impl_lex.l0, spec_l1Lex.l0]
            rw [if_pos (by omega), if_pos (by omega), hsp (fun b => impl_lex.j1 (k + 1) s x5 (a : Int) b), if_pos (by omega), if_pos (by omega), hsp (fun b => spec_l1Lex.j1 (k + 1) s x5 (a : Int) b)]
            simp only [impl_lex.j1, spec_l1Lex.j1]
            refine ⟨?_, ?_⟩
            · rw [if_neg (by decide), if_pos (by omega), if_pos (by omega), hti, Option.bind_some]
              simp only
              rw [if_neg h0, if_neg (by omega), if_pos (by omega), e3]
              exact (hr k (by omega)).1
            · rw [if_neg (by decide), hst k (by omega), Option.bind_some, if_neg h0]
              simp only
              rw [if_neg (by omega), if_neg (by omega), if_pos (by omega), e4]
              exact (hr k (by omega)).2
    · refine ⟨(x5, 0, true), by show x5.length ≤ 1000; omega, fun k hk => ?_⟩
      obtain ⟨k, rfl⟩ : ∃ q, k = q + 1 := ⟨k - 1, by omega⟩
      simp only [impl_lex.l0, spec_l1Lex.l0]
      rw [if_neg (by omega), if_neg (by omega)]
      exact ⟨rfl, rfl⟩
end Go.Proofs.YtkmobaffmlcaiaaDoor.PAll
