/- toBoolS copies, eqBoolS compares; the reference's RunComp answers as runOf. -/
import Derived.Test.YtjnaokdncemggaaQcompB
import Derived.Test.YtjnaokdncemggaaStFnExactRunComp
namespace Go.Proofs.Ytjnaokdncemggaa.PAll
open Go.RowKit Go.Proofs.YtjnaokdncemggaaW.PrintWords Go.Proofs.YtjnaokdncemggaaW.PrintLast Go.Proofs.YtjnaokdncemggaaW.PrintMore
set_option linter.unusedVariables false
set_option linter.unusedSimpArgs false

theorem toBoolS_loop (l : List Bool) (hl : l.length ≤ 17592186044416) : ∀ (d k i : Nat) (x3 : List Bool), i + d = l.length → x3.length = l.length → (∀ j, j < i → x3[j]? = l[j]?) → d < k → laws_toBoolS.l0 k l x3 (i : Int) = some l := by
  intro d
  induction d with
  | zero =>
    intro k i x3 hi hx ht hk
    obtain ⟨k, rfl⟩ : ∃ m, k = m + 1 := ⟨k - 1, by omega⟩
    simp only [laws_toBoolS.l0]
    rw [if_neg (by omega)]
    congr 1
    apply List.ext_getElem?
    intro j
    by_cases hj : j < i
    · exact ht j hj
    · rw [List.getElem?_eq_none (by omega), List.getElem?_eq_none (by omega)]
  | succ d ih =>
    intro k i x3 hi hx ht hk
    obtain ⟨k, rfl⟩ : ∃ m, k = m + 1 := ⟨k - 1, by omega⟩
    have hlt : i < l.length := by omega
    have hr : rdOf false l (i : Int) = l[i] := by simp [rdOf, List.getD_eq_getElem?_getD, List.getElem?_eq_getElem hlt]
    simp only [laws_toBoolS.l0]
    rw [if_pos (by omega), if_pos (by omega), if_pos (by omega), hr, wrap_id (by omega) (by omega)]
    have := ih k (i + 1) (x3.set i l[i]) (by omega) (by simp [hx]) (fun j hj => ?_) (by omega)
    · simpa using this
    · by_cases hji : j = i
      · subst hji
        rw [List.getElem?_set_self (by omega)]
        simp [hlt]
      · rw [List.getElem?_set_ne (by omega)]
        exact ht j (by omega)

theorem toBoolS_eq (l : List Bool) (hl : l.length ≤ 17592186044416) (k : Nat) (hk : l.length < k) : laws_toBoolS.f k l = some l := by
  unfold laws_toBoolS.f
  rw [if_pos (by omega), if_pos (by omega)]
  exact toBoolS_loop l hl l.length k 0 _ (by omega) (by simp) (fun j hj => by omega) hk

theorem eqBoolS_loop (a : List Bool) (hm : a.length ≤ 17592186044416) : ∀ (d k i : Nat), i + d = a.length → d < k → laws_eqBoolS.l0 k a a (i : Int) = some true := by
  intro d
  induction d with
  | zero =>
    intro k i hi hk
    obtain ⟨k, rfl⟩ : ∃ m, k = m + 1 := ⟨k - 1, by omega⟩
    simp only [laws_eqBoolS.l0]
    rw [if_neg (by omega)]
  | succ d ih =>
    intro k i hi hk
    obtain ⟨k, rfl⟩ : ∃ m, k = m + 1 := ⟨k - 1, by omega⟩
    simp only [laws_eqBoolS.l0]
    rw [if_pos (by omega), if_pos (by omega), if_pos (by omega), if_neg (by simp), wrap_id (by omega) (by omega)]
    have := ih k (i + 1) (by omega) (by omega)
    simpa using this

theorem eqBoolS_self (a : List Bool) (hm : a.length ≤ 17592186044416) (k : Nat) (hk : a.length < k) : laws_eqBoolS.f k a a = some true := by
  unfold laws_eqBoolS.f
  rw [if_pos rfl]
  exact eqBoolS_loop a hm a.length k 0 (by omega) hk

theorem run_eq (bs : List Bool) (hb : bs.length ≤ 60) (u : CT) : ∀ (n k : Nat), n ≤ bs.length → bs.length - n < k → spec_RunComp.l0 k bs (n : Int) (cv u).f0 (cv u).f1 (cv u).f2 = some (runC u bs n) := by
  induction u with
  | ret x =>
    intro n k hn hk
    obtain ⟨k, rfl⟩ : ∃ m, k = m + 1 := ⟨k - 1, by omega⟩
    simp [spec_RunComp.l0, cv, runC]
  | ask x a b iha ihb =>
    intro n k hn hk
    obtain ⟨k, rfl⟩ : ∃ m, k = m + 1 := ⟨k - 1, by omega⟩
    have ea : rd_T93 [cv a, cv b] 0 = cv a := by simp [rd_T93]
    have eb : rd_T93 [cv a, cv b] 1 = cv b := by simp [rd_T93]
    simp only [spec_RunComp.l0, cv, ea, eb, runC]
    rw [if_pos trivial]
    by_cases h : n < bs.length
    · have hg : bs[n]? = some bs[n] := by simp [h]
      have hrd : rdOf false bs (n : Int) = bs[n] := by simp [rdOf, List.getD_eq_getElem?_getD, hg]
      have e : (n : Int) + 1 = ((n + 1 : Nat) : Int) := by omega
      rw [if_neg (by omega), if_pos (by omega), if_pos (by omega), hrd, wrap_id (by omega) (by omega), e, hg]
      cases hv : bs[n] with
      | true => simp only [List.length_cons, List.length_nil]; rw [if_pos trivial, if_pos (by omega), iha (n + 1) k (by omega) (by omega)]
      | false => simp only [List.length_cons, List.length_nil]; rw [if_neg (by simp), if_pos (by omega), ihb (n + 1) k (by omega) (by omega)]
    · rw [if_pos (by omega), List.getElem?_eq_none (by omega)]

theorem RunComp_eq (l : List S83) (bs : List Bool) (k : Nat) (hk : 300 ≤ k) : spec_RunComp.f k l bs = some (runOf l bs) := by
  have h := l9Tree_eq l k (by omega)
  obtain ⟨k, rfl⟩ : ∃ m, k = m + 1 := ⟨k - 1, by omega⟩
  unfold spec_RunComp.f runOf
  cases hq : cof l with
  | none => rw [hq] at h; obtain ⟨b, n, ks, h⟩ := h; rw [h]; simp [spec_RunComp.j0]
  | some t =>
    rw [hq] at h
    simp only at h
    rw [h, Option.bind_some, if_pos rfl]
    by_cases h6 : 60 < bs.length
    · rw [decide_eq_true (by omega)]; simp [spec_RunComp.j0, h6]
    · rw [decide_eq_false (by omega)]
      simp only [spec_RunComp.j0]
      rw [if_neg (by simp), if_neg h6]
      have := run_eq bs (by omega) t 0 k (by omega) (by omega)
      simpa using this
end Go.Proofs.Ytjnaokdncemggaa.PAll
