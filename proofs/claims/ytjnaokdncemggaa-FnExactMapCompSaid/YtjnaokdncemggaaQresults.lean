/- eqIntS, markCompS, markIntS, heldIntS; both sides' ResultsOf answer as resOf. -/
import Derived.Test.YtjnaokdncemggaaQcompB
import Derived.Test.YtjnaokdncemggaaHcompA
import Derived.Test.YtjnaokdncemggaaHcompB
import Derived.Test.YtjnaokdncemggaaHcompD
import Derived.Test.YtjnaokdncemggaaHresults
import Derived.Test.YtjnaokdncemggaaPAllx13
import Derived.Test.YtjnaokdncemggaaPAllx26
import Derived.Test.YtjnaokdncemggaaPAllx27
import Derived.Test.YtjnaokdncemggaaPAllx28
import Derived.Test.YtjnaokdncemggaaPAllx29
namespace Go.Proofs.Ytjnaokdncemggaa.PAll
open Go.RowKit Go.Proofs.YtjnaokdncemggaaW.PrintWords Go.Proofs.YtjnaokdncemggaaW.PrintLast Go.Proofs.YtjnaokdncemggaaW.PrintMore
set_option linter.unusedVariables false
set_option linter.unusedSimpArgs false

theorem eqIntS_loop (a : List Int) (hm : a.length ≤ 17592186044416) : ∀ (d k i : Nat), i + d = a.length → d < k → laws_eqIntS.l0 k a a (i : Int) = some true := by
  intro d
  induction d with
  | zero =>
    intro k i hi hk
    obtain ⟨k, rfl⟩ : ∃ m, k = m + 1 := ⟨k - 1, by omega⟩
    simp only [laws_eqIntS.l0]
    rw [if_neg (by omega)]
  | succ d ih =>
    intro k i hi hk
    obtain ⟨k, rfl⟩ : ∃ m, k = m + 1 := ⟨k - 1, by omega⟩
    simp only [laws_eqIntS.l0]
    rw [if_pos (by omega), if_pos (by omega), if_pos (by omega), if_pos trivial, wrap_id (by omega) (by omega)]
    have := ih k (i + 1) (by omega) (by omega)
    simpa using this

theorem eqIntS_self (a : List Int) (hm : a.length ≤ 17592186044416) (k : Nat) (hk : a.length < k) : laws_eqIntS.f k a a = some true := by
  unfold laws_eqIntS.f
  rw [if_pos rfl]
  exact eqIntS_loop a hm a.length k 0 (by omega) hk


theorem markComp_loop (n : Nat) (hn : n ≤ 17592186044416) : ∀ (d k i : Nat) (xs : List S83), xs.length = n → i + d = n → d < k → ∃ ys, laws_markCompS.l0 k xs ((1 + 2 * i : Nat) : Int) (i : Int) = some (((1 + 2 * n : Nat) : Int), ys) := by
  intro d
  induction d with
  | zero =>
    intro k i xs hx hi hk
    obtain ⟨k, rfl⟩ : ∃ m, k = m + 1 := ⟨k - 1, by omega⟩
    simp only [laws_markCompS.l0]
    rw [if_neg (by omega)]
    obtain rfl : i = n := by omega
    exact ⟨xs, rfl⟩
  | succ d ih =>
    intro k i xs hx hi hk
    obtain ⟨k, rfl⟩ : ∃ m, k = m + 1 := ⟨k - 1, by omega⟩
    simp only [laws_markCompS.l0]
    rw [if_pos (by omega), if_pos (by omega), Option.bind_some, wrap_id (x := ((1 + 2 * i : Nat) : Int) + 1) (by omega) (by omega), wrap_id (x := (i : Int) + 1) (by omega) (by omega), wrap_id (by omega) (by omega)]
    have e1 : ((1 + 2 * i : Nat) : Int) + 1 + 1 = ((1 + 2 * (i + 1) : Nat) : Int) := by omega
    have e2 : (i : Int) + 1 = ((i + 1 : Nat) : Int) := by omega
    rw [e1, e2]
    exact ih k (i + 1) _ (by simp [hx]) (by omega) (by omega)
theorem markComp_eq (xs : List S83) (hn : xs.length ≤ 17592186044416) (k : Nat) (hk : xs.length < k) : ∃ ys, laws_markCompS.f k xs 1 = some (((1 + 2 * xs.length : Nat) : Int), ys) := by
  unfold laws_markCompS.f
  exact markComp_loop xs.length hn xs.length k 0 xs rfl (by omega) hk

theorem markInt_loop (n : Nat) (hn : n ≤ 17592186044416) : ∀ (d k i : Nat) (xs : List Int), xs.length = n → (∀ j, j < i → xs[j]? = some ((1 + j : Nat) : Int)) → i + d = n → d < k → ∃ ys, laws_markIntS.l0 k xs ((1 + i : Nat) : Int) (i : Int) = some (((1 + n : Nat) : Int), ys) ∧ ys.length = n ∧ ∀ j, j < n → ys[j]? = some ((1 + j : Nat) : Int) := by
  intro d
  induction d with
  | zero =>
    intro k i xs hx hj hi hk
    obtain ⟨k, rfl⟩ : ∃ m, k = m + 1 := ⟨k - 1, by omega⟩
    simp only [laws_markIntS.l0]
    rw [if_neg (by omega)]
    obtain rfl : i = n := by omega
    exact ⟨xs, rfl, hx, hj⟩
  | succ d ih =>
    intro k i xs hx hj hi hk
    obtain ⟨k, rfl⟩ : ∃ m, k = m + 1 := ⟨k - 1, by omega⟩
    simp only [laws_markIntS.l0]
    rw [if_pos (by omega), if_pos (by omega), wrap_id (x := ((1 + i : Nat) : Int) + 1) (by omega) (by omega), wrap_id (x := (i : Int) + 1) (by omega) (by omega)]
    have e1 : ((1 + i : Nat) : Int) + 1 = ((1 + (i + 1) : Nat) : Int) := by omega
    have e2 : (i : Int) + 1 = ((i + 1 : Nat) : Int) := by omega
    rw [e1, e2, Int.toNat_natCast]
    refine ih k (i + 1) _ (by simp [hx]) (fun j hj' => ?_) (by omega) (by omega)
    by_cases hji : j = i
    · subst hji
      rw [List.getElem?_set_self (by omega)]
    · rw [List.getElem?_set_ne (by omega)]
      exact hj j (by omega)
theorem heldInt_loop (n : Nat) (hn : n ≤ 17592186044416) (ys : List Int) (hy : ys.length = n) (hj : ∀ j, j < n → ys[j]? = some ((1 + j : Nat) : Int)) : ∀ (d k i : Nat), i + d = n → d < k → laws_heldIntS.l0 k ys ((1 + i : Nat) : Int) (i : Int) = some ((1 + n : Nat) : Int) := by
  intro d
  induction d with
  | zero =>
    intro k i hi hk
    obtain ⟨k, rfl⟩ : ∃ m, k = m + 1 := ⟨k - 1, by omega⟩
    simp only [laws_heldIntS.l0]
    rw [if_neg (by omega)]
    obtain rfl : i = n := by omega
    rfl
  | succ d ih =>
    intro k i hi hk
    obtain ⟨k, rfl⟩ : ∃ m, k = m + 1 := ⟨k - 1, by omega⟩
    have hr : rd ys (i : Int) = ((1 + i : Nat) : Int) := by simp only [rd, Int.toNat_natCast, List.getD_eq_getElem?_getD]; rw [hj i (by omega)]; rfl
    simp only [laws_heldIntS.l0]
    rw [if_pos (by omega), if_pos (by omega), hr, if_pos rfl, wrap_id (x := ((1 + i : Nat) : Int) + 1) (by omega) (by omega), wrap_id (x := (i : Int) + 1) (by omega) (by omega)]
    have e1 : ((1 + i : Nat) : Int) + 1 = ((1 + (i + 1) : Nat) : Int) := by omega
    have e2 : (i : Int) + 1 = ((i + 1 : Nat) : Int) := by omega
    rw [e1, e2]
    exact ih k (i + 1) (by omega) (by omega)
theorem markHeld_eq (xs : List Int) (hn : xs.length ≤ 17592186044416) (k : Nat) (hk : xs.length < k) : ∃ ys, laws_markIntS.f k xs 1 = some (((1 + xs.length : Nat) : Int), ys) ∧ ∀ q, xs.length < q → laws_heldIntS.f q ys 1 = some ((1 + xs.length : Nat) : Int) := by
  unfold laws_markIntS.f laws_heldIntS.f
  obtain ⟨ys, h, hy, hj⟩ := markInt_loop xs.length hn xs.length k 0 xs rfl (fun j h => by omega) (by omega) hk
  exact ⟨ys, h, fun q hq => heldInt_loop xs.length hn ys hy hj xs.length q 0 (by omega) hq⟩

/-- The results of a tree, of its cells. -/
def CT.res : CT → List Int
  | .ret n => [n]
  | .ask _ a b => a.res ++ b.res
def CT.dep : CT → Nat
  | .ret _ => 1
  | .ask _ a b => 1 + a.dep + b.dep
def cellRes (l : List S83) : List Int := l.filterMap (fun x => if x.f0 = 1 then some x.f1 else none)

theorem cellRes_cons (x : S83) (l : List S83) : cellRes (x :: l) = (if x.f0 = 1 then [x.f1] else []) ++ cellRes l := by
  by_cases h : x.f0 = 1 <;> simp [cellRes, h]

theorem cparse_res : ∀ (k : Nat) (l : List S83) (t : CT) (r : List S83), cparse k l = some (t, r) → cellRes l = t.res ++ cellRes r ∧ l.length = t.dep + r.length := by
  intro k
  induction k with
  | zero => intro l t r h; simp [cparse] at h
  | succ k ih =>
    intro l t r h
    cases l with
    | nil => simp [cparse] at h
    | cons x l =>
      simp only [cparse] at h
      split at h
      · rename_i h1
        simp at h
        obtain ⟨rfl, rfl⟩ := h
        simp [cellRes, h1.1, CT.res, CT.dep]; omega
      · split at h
        · rename_i h1 h2
          cases hq : cparse k l with
          | none => rw [hq] at h; simp at h
          | some p =>
            obtain ⟨a, r1⟩ := p
            rw [hq] at h
            simp only at h
            cases hq2 : cparse k r1 with
            | none => rw [hq2] at h; simp at h
            | some p2 =>
              obtain ⟨b, r2⟩ := p2
              rw [hq2] at h
              simp at h
              obtain ⟨rfl, rfl⟩ := h
              obtain ⟨A, A'⟩ := ih _ _ _ hq
              obtain ⟨B, B'⟩ := ih _ _ _ hq2
              have e : cellRes (x :: l) = cellRes l := by simp [cellRes, h2.1]
              rw [e, A, B]
              simp [CT.res, CT.dep]
              omega
        · simp at h
theorem cof_res {l : List S83} {t : CT} (h : cof l = some t) : cellRes l = t.res ∧ t.dep ≤ 60 ∧ l.length ≤ 60 := by
  unfold cof at h
  split at h
  · split at h
    · rename_i h0 _ _ h1
      injection h with h
      subst h
      obtain ⟨A, B⟩ := cparse_res _ _ _ _ h1
      refine ⟨by rw [A]; simp [cellRes], ?_, h0⟩
      simp at B
      omega
    · cases h
  · cases h
theorem res_len (t : CT) : t.res.length ≤ t.dep := by
  induction t with
  | ret n => simp [CT.res, CT.dep]
  | ask n a b iha ihb => simp [CT.res, CT.dep]; omega

theorem l9res_eq (t : CT) : ∀ (k : Nat) (out : List Int), t.dep < k → out.length + t.dep ≤ 1000 → l9res k (cv t).f0 (cv t).f1 (cv t).f2 out = some (out ++ t.res) := by
  induction t with
  | ret n =>
    intro k out hk ho
    obtain ⟨k, rfl⟩ : ∃ m, k = m + 1 := ⟨k - 1, by omega⟩
    simp only [CT.dep] at ho
    show l9res (k + 1) false n [] out = some (out ++ [n])
    simp only [l9res]
    rw [if_neg (by simp), l9leaf, if_pos (by omega)]
  | ask n a b iha ihb =>
    intro k out hk ho
    obtain ⟨k, rfl⟩ : ∃ m, k = m + 1 := ⟨k - 1, by omega⟩
    simp only [CT.dep] at hk ho
    have ea : rd_T93 [cv a, cv b] 0 = cv a := by simp [rd_T93]
    have eb : rd_T93 [cv a, cv b] 1 = cv b := by simp [rd_T93]
    have ha := res_len a
    show l9res (k + 1) true n [cv a, cv b] out = some (out ++ (a.res ++ b.res))
    simp only [l9res, ea, eb]
    rw [if_pos (by simp), if_pos (by simp), iha k out (by omega) (by omega), Option.bind_some, ihb k _ (by omega) (by simp; omega), List.append_assoc]

def resOf (l : List S83) : List Int × Bool := match cof l with
  | none => ([], false)
  | some t => (t.res, true)

theorem specRes_eq (l : List S83) (k : Nat) (hk : 300 ≤ k) : spec_ResultsOf.f k l = some (resOf l) := by
  have h := l9Tree_eq l k (by omega)
  unfold spec_ResultsOf.f resOf
  cases hq : cof l with
  | none => rw [hq] at h; obtain ⟨b, n, ks, h⟩ := h; rw [h]; simp
  | some t =>
    rw [hq] at h
    simp only at h
    obtain ⟨_, hd, _⟩ := cof_res hq
    rw [h, Option.bind_some, if_pos rfl]
    simp only [spec_l9Results.f]
    rw [l9res_eq t 61 [] (by omega) (by simp; omega)]
    simp

theorem implRes_loop (l : List S83) (hl : l.length ≤ 60) : ∀ (d k i : Nat) (out : List Int), i + d = l.length → out.length ≤ i → d < k → impl_ResultsOf.l0 k out l (l.length : Int) (i : Int) = some (out ++ cellRes (l.drop i), true) := by
  intro d
  induction d with
  | zero =>
    intro k i out hi ho hk
    obtain ⟨k, rfl⟩ : ∃ m, k = m + 1 := ⟨k - 1, by omega⟩
    simp only [impl_ResultsOf.l0]
    rw [if_neg (by omega), List.drop_eq_nil_of_le (by omega)]
    simp [cellRes]
  | succ d ih =>
    intro k i out hi ho hk
    obtain ⟨k, rfl⟩ : ∃ m, k = m + 1 := ⟨k - 1, by omega⟩
    have hlt : i < l.length := by omega
    have hr : rd_T83 l (i : Int) = l[i] := by simp [rd_T83, List.getD_eq_getElem?_getD, List.getElem?_eq_getElem hlt]
    have e2 : (i : Int) + 1 = ((i + 1 : Nat) : Int) := by omega
    simp only [impl_ResultsOf.l0]
    rw [if_pos (by omega), if_pos (by omega), if_pos (by omega), hr, wrap_id (by omega) (by omega), e2, List.drop_eq_getElem_cons hlt]
    by_cases h1 : (l[i]).f0 = 1
    · rw [if_pos h1, if_pos (by omega), ih k (i + 1) _ (by omega) (by simp; omega) (by omega), cellRes_cons, if_pos h1, List.append_assoc]
    · rw [if_neg h1, ih k (i + 1) _ (by omega) (by omega) (by omega), cellRes_cons, if_neg h1, List.nil_append]

theorem implRes_eq (l : List S83) (k : Nat) (hk : 300 ≤ k) : impl_ResultsOf.f k l = some (resOf l) := by
  unfold impl_ResultsOf.f resOf
  simp only [impl_GoodComp.f, Option.bind_some]
  cases hq : cof l with
  | none => simp
  | some t =>
    obtain ⟨he, hd, hl⟩ := cof_res hq
    rw [if_pos (by simp)]
    have := implRes_loop l hl l.length k 0 [] (by omega) (by simp) (by omega)
    simp only [Int.cast_ofNat_Int, List.drop_zero, List.nil_append] at this
    rw [this, he]
theorem resOf_len (l : List S83) : (resOf l).1.length ≤ 60 := by
  unfold resOf
  cases hq : cof l with
  | none => simp
  | some t => have := cof_res hq; have := res_len t; simp only; omega
end Go.Proofs.Ytjnaokdncemggaa.PAll
