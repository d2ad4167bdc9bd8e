/- Rows of computations; both sides' ThenComp answer as thenOf. -/
import Derived.Test.YtjnaokdncemggaaQcompB
import Derived.Test.YtjnaokdncemggaaHcompA
import Derived.Test.YtjnaokdncemggaaHcompB
import Derived.Test.YtjnaokdncemggaaHcompC
import Derived.Test.YtjnaokdncemggaaHcompD
import Derived.Test.YtjnaokdncemggaaHflat
import Derived.Test.YtjnaokdncemggaaHthen
import Derived.Test.YtjnaokdncemggaaHthenC
import Derived.Test.YtjnaokdncemggaaHthenG
import Derived.Test.YtjnaokdncemggaaHmark
import Derived.Test.YtjnaokdncemggaaPAllx29
import Derived.Test.YtjnaokdncemggaaPAllx32
import Derived.Test.YtjnaokdncemggaaPAllx36
import Derived.Test.YtjnaokdncemggaaPAllx10
import Derived.Test.YtjnaokdncemggaaPAllx38
import Derived.Test.YtjnaokdncemggaaPAllx39
import Derived.Test.YtjnaokdncemggaaPAllx40
import Derived.Test.YtjnaokdncemggaaPAllx41
import Derived.Test.YtjnaokdncemggaaPAllx43
namespace Go.Proofs.Ytjnaokdncemggaa.PAll
open Go.RowKit Go.Proofs.YtjnaokdncemggaaW.PrintWords Go.Proofs.YtjnaokdncemggaaW.PrintLast Go.Proofs.YtjnaokdncemggaaW.PrintMore
set_option linter.unusedVariables false
set_option linter.unusedSimpArgs false

theorem markComp_loop (n : Nat) (hn : n ≤ 17592186044416) : ∀ (d k i : Nat) (xs : List S83), xs.length = n → i + d = n → d < k → ∃ ys, laws_markCompS.l0 k xs ((1 + 2 * i : Nat) : Int) (i : Int) = some (((1 + 2 * n : Nat) : Int), ys) := by
  intro d
  induction d with
  | zero =>
    intro k i xs hx hi hk
    obtain ⟨k, rfl⟩ : ∃ m, k = m + 1 := ⟨k - 1, by omega⟩
    simp only [laws_markCompS.l0]
    rw [if_neg (by omega)]
    obtain rfl : i = n := by omega
    exact ⟨xs, rfl⟩
  | succ d ih =>
    intro k i xs hx hi hk
    obtain ⟨k, rfl⟩ : ∃ m, k = m + 1 := ⟨k - 1, by omega⟩
    simp only [laws_markCompS.l0]
    rw [if_pos (by omega), if_pos (by omega), Option.bind_some, wrap_id (x := ((1 + 2 * i : Nat) : Int) + 1) (by omega) (by omega), wrap_id (x := (i : Int) + 1) (by omega) (by omega), wrap_id (by omega) (by omega)]
    have e1 : ((1 + 2 * i : Nat) : Int) + 1 + 1 = ((1 + 2 * (i + 1) : Nat) : Int) := by omega
    have e2 : (i : Int) + 1 = ((i + 1 : Nat) : Int) := by omega
    rw [e1, e2]
    exact ih k (i + 1) _ (by simp [hx]) (by omega) (by omega)
theorem markComp_eq (xs : List S83) (hn : xs.length ≤ 17592186044416) (k : Nat) (hk : xs.length < k) : ∃ ys, laws_markCompS.f k xs 1 = some (((1 + 2 * xs.length : Nat) : Int), ys) := by
  unfold laws_markCompS.f
  exact markComp_loop xs.length hn xs.length k 0 xs rfl (by omega) hk

/-- The results of a tree, of its cells. -/
def CT.res : CT → List Int
  | .ret n => [n]
  | .ask _ a b => a.res ++ b.res
def CT.dep : CT → Nat
  | .ret _ => 1
  | .ask _ a b => 1 + a.dep + b.dep
def cellRes (l : List S83) : List Int := l.filterMap (fun x => if x.f0 = 1 then some x.f1 else none)

theorem cellRes_cons (x : S83) (l : List S83) : cellRes (x :: l) = (if x.f0 = 1 then [x.f1] else []) ++ cellRes l := by
  by_cases h : x.f0 = 1 <;> simp [cellRes, h]

theorem cparse_res : ∀ (k : Nat) (l : List S83) (t : CT) (r : List S83), cparse k l = some (t, r) → cellRes l = t.res ++ cellRes r ∧ l.length = t.dep + r.length := by
  intro k
  induction k with
  | zero => intro l t r h; simp [cparse] at h
  | succ k ih =>
    intro l t r h
    cases l with
    | nil => simp [cparse] at h
    | cons x l =>
      simp only [cparse] at h
      split at h
      · rename_i h1
        simp at h
        obtain ⟨rfl, rfl⟩ := h
        simp [cellRes, h1.1, CT.res, CT.dep]; omega
      · split at h
        · rename_i h1 h2
          cases hq : cparse k l with
          | none => rw [hq] at h; simp at h
          | some p =>
            obtain ⟨a, r1⟩ := p
            rw [hq] at h
            simp only at h
            cases hq2 : cparse k r1 with
            | none => rw [hq2] at h; simp at h
            | some p2 =>
              obtain ⟨b, r2⟩ := p2
              rw [hq2] at h
              simp at h
              obtain ⟨rfl, rfl⟩ := h
              obtain ⟨A, A'⟩ := ih _ _ _ hq
              obtain ⟨B, B'⟩ := ih _ _ _ hq2
              have e : cellRes (x :: l) = cellRes l := by simp [cellRes, h2.1]
              rw [e, A, B]
              simp [CT.res, CT.dep]
              omega
        · simp at h
theorem cof_res {l : List S83} {t : CT} (h : cof l = some t) : cellRes l = t.res ∧ t.dep ≤ 60 ∧ l.length ≤ 60 := by
  unfold cof at h
  split at h
  · split at h
    · rename_i h0 _ _ h1
      injection h with h
      subst h
      obtain ⟨A, B⟩ := cparse_res _ _ _ _ h1
      refine ⟨by rw [A]; simp [cellRes], ?_, h0⟩
      simp at B
      omega
    · cases h
  · cases h
theorem res_len (t : CT) : t.res.length ≤ t.dep := by
  induction t with
  | ret n => simp [CT.res, CT.dep]
  | ask n a b iha ihb => simp [CT.res, CT.dep]; omega


def mkC (j : Nat) : S83 := ⟨((1 + 2 * j : Nat) : Int), ((2 + 2 * j : Nat) : Int)⟩

theorem markC_loop (n : Nat) (hn : n ≤ 17592186044416) : ∀ (d k i : Nat) (xs : List S83), xs.length = n → (∀ j, j < i → xs[j]? = some (mkC j)) → i + d = n → d < k → ∃ ys, laws_markCompS.l0 k xs ((1 + 2 * i : Nat) : Int) (i : Int) = some (((1 + 2 * n : Nat) : Int), ys) ∧ ys.length = n ∧ ∀ j, j < n → ys[j]? = some (mkC j) := by
  intro d
  induction d with
  | zero =>
    intro k i xs hx hj hi hk
    obtain ⟨k, rfl⟩ : ∃ m, k = m + 1 := ⟨k - 1, by omega⟩
    simp only [laws_markCompS.l0]
    rw [if_neg (by omega)]
    obtain rfl : i = n := by omega
    exact ⟨xs, rfl, hx, hj⟩
  | succ d ih =>
    intro k i xs hx hj hi hk
    obtain ⟨k, rfl⟩ : ∃ m, k = m + 1 := ⟨k - 1, by omega⟩
    simp only [laws_markCompS.l0]
    rw [if_pos (by omega), if_pos (by omega), Option.bind_some, wrap_id (x := ((1 + 2 * i : Nat) : Int) + 1) (by omega) (by omega), wrap_id (x := (i : Int) + 1) (by omega) (by omega), wrap_id (by omega) (by omega)]
    have e1 : ((1 + 2 * i : Nat) : Int) + 1 + 1 = ((1 + 2 * (i + 1) : Nat) : Int) := by omega
    have e2 : (i : Int) + 1 = ((i + 1 : Nat) : Int) := by omega
    have e3 : ((1 + 2 * i : Nat) : Int) + 1 = ((2 + 2 * i : Nat) : Int) := by omega
    have hrd : (rd_T83 (xs.set (i : Int).toNat ⟨((1 + 2 * i : Nat) : Int), (rd_T83 xs (i : Int)).f1⟩) (i : Int)).f0 = ((1 + 2 * i : Nat) : Int) := by
      simp [rd_T83, List.getD_eq_getElem?_getD, List.getElem?_set_self (show i < xs.length by omega)]
    rw [hrd, e1, e2, e3]
    refine ih k (i + 1) _ (by simp [hx]) (fun j hj' => ?_) (by omega) (by omega)
    rw [Int.toNat_natCast]
    by_cases hji : j = i
    · subst hji
      rw [List.getElem?_set_self (by simp; omega)]
      rfl
    · rw [List.getElem?_set_ne (by omega), List.getElem?_set_ne (by omega)]
      exact hj j (by omega)
theorem heldC_loop (n : Nat) (hn : n ≤ 17592186044416) (ys : List S83) (hy : ys.length = n) (hj : ∀ j, j < n → ys[j]? = some (mkC j)) : ∀ (d k i : Nat), i + d = n → d < k → laws_heldCompS.l0 k ys ((1 + 2 * i : Nat) : Int) (i : Int) = some ((1 + 2 * n : Nat) : Int) := by
  intro d
  induction d with
  | zero =>
    intro k i hi hk
    obtain ⟨k, rfl⟩ : ∃ m, k = m + 1 := ⟨k - 1, by omega⟩
    simp only [laws_heldCompS.l0]
    rw [if_neg (by omega)]
    obtain rfl : i = n := by omega
    rfl
  | succ d ih =>
    intro k i hi hk
    obtain ⟨k, rfl⟩ : ∃ m, k = m + 1 := ⟨k - 1, by omega⟩
    have hr : rd_T83 ys (i : Int) = mkC i := by simp only [rd_T83, Int.toNat_natCast, List.getD_eq_getElem?_getD]; rw [hj i (by omega)]; rfl
    simp only [laws_heldCompS.l0, hr, mkC]
    rw [if_pos (by omega), if_pos (by omega), if_pos trivial, wrap_id (x := ((1 + 2 * i : Nat) : Int) + 1) (by omega) (by omega), if_pos (by omega), wrap_id (x := (i : Int) + 1) (by omega) (by omega), wrap_id (by omega) (by omega)]
    have e1 : ((1 + 2 * i : Nat) : Int) + 1 + 1 = ((1 + 2 * (i + 1) : Nat) : Int) := by omega
    have e2 : (i : Int) + 1 = ((i + 1 : Nat) : Int) := by omega
    rw [e1, e2]
    exact ih k (i + 1) (by omega) (by omega)
theorem markHeldC_eq (xs : List S83) (hn : xs.length ≤ 17592186044416) (k : Nat) (hk : xs.length < k) : ∃ ys, laws_markCompS.f k xs 1 = some (((1 + 2 * xs.length : Nat) : Int), ys) ∧ ∀ q, xs.length < q → laws_heldCompS.f q ys 1 = some ((1 + 2 * xs.length : Nat) : Int) := by
  unfold laws_markCompS.f laws_heldCompS.f
  obtain ⟨ys, h, hy, hj⟩ := markC_loop xs.length hn xs.length k 0 xs rfl (fun j h => by omega) (by omega) hk
  exact ⟨ys, h, fun q hq => heldC_loop xs.length hn ys hy hj xs.length q 0 (by omega) hq⟩

theorem size_dep (t : CT) : t.dep ≤ 1000000 → t.size = t.dep := by
  induction t with
  | ret n => intro _; rfl
  | ask n a b iha ihb =>
    intro h
    simp only [CT.dep] at h
    simp only [CT.size, CT.dep]
    rw [iha (by omega), ihb (by omega), if_neg (by omega)]
    omega
theorem dep_of_size (t : CT) : t.size < 1000000 → (t.dep : Int) = t.size := by
  induction t with
  | ret n => intro _; rfl
  | ask n a b iha ihb =>
    intro h
    have ha := a.size_bd
    have hb := b.size_bd
    simp only [CT.size] at h ⊢
    split at h
    · omega
    · rename_i h1
      rw [if_neg h1]
      simp only [CT.dep]
      have := iha (by omega)
      have := ihb (by omega)
      omega
theorem dep_pos (t : CT) : 1 ≤ t.dep := by cases t <;> simp [CT.dep]; omega
theorem cells_dep (t : CT) : (ccells t).length = t.dep := by
  induction t with
  | ret n => simp [ccells, CT.dep]
  | ask n a b iha ihb => simp [ccells, CT.dep, iha, ihb]; omega

/-- How deep a tree is. -/
def CT.tall : CT → Nat
  | .ret _ => 1
  | .ask _ a b => 1 + max a.tall b.tall
theorem tall_dep (t : CT) : t.tall ≤ t.dep := by
  induction t with
  | ret n => simp [CT.tall, CT.dep]
  | ask n a b iha ihb => simp only [CT.tall, CT.dep]; omega

theorem flat_eq (t : CT) : ∀ (k : Nat) (out : List S83), t.tall < k → out.length + t.dep ≤ 1000000 → l9flat k (cv t).f0 (cv t).f1 (cv t).f2 out = some (out ++ ccells t) := by
  induction t with
  | ret n =>
    intro k out hk ho
    obtain ⟨k, rfl⟩ : ∃ m, k = m + 1 := ⟨k - 1, by omega⟩
    simp only [CT.dep] at ho
    show l9flat (k + 1) false n [] out = some (out ++ [⟨1, n⟩])
    simp only [l9flat]
    rw [if_pos (by omega), if_neg (by simp)]
  | ask n a b iha ihb =>
    intro k out hk ho
    obtain ⟨k, rfl⟩ : ∃ m, k = m + 1 := ⟨k - 1, by omega⟩
    simp only [CT.dep] at ho
    simp only [CT.tall] at hk
    have ha := cells_dep a
    show l9flat (k + 1) true n [cv a, cv b] out = some (out ++ (⟨2, n⟩ :: (ccells a ++ ccells b)))
    simp only [l9flat, l9fl]
    rw [if_pos (by omega), if_pos trivial, if_pos (by simp), iha k _ (by omega) (by simp; omega), Option.bind_some, ihb k _ (by omega) (by simp; omega), Option.bind_some]
    simp

theorem cof_dep {l : List S83} {t : CT} (h : cof l = some t) : t.dep ≤ 60 := (cof_res h).2.1

theorem goodOf_len (t : CT) : (goodOf t).1.length ≤ 60 := by
  unfold goodOf
  split
  · rename_i h; rw [cells_dep]; have := dep_of_size t (by omega); omega
  · simp

theorem toCompSS_loop (l : List (List S97)) (hl : l.length ≤ 11728124029610) (N : Nat) (hN : N ≤ 17592186044416) (hi : ∀ x ∈ l, x.length ≤ N) : ∀ (d k i : Nat) (x3 : List (List S83)), i + d = l.length → x3.length = l.length → (∀ j, j < i → x3[j]? = (l.map (List.map cvC))[j]?) → d + N < k → laws_toCompSS.l0 k l x3 (i : Int) = some (l.map (List.map cvC)) := by
  intro d
  induction d with
  | zero =>
    intro k i x3 hi' hx ht hk
    obtain ⟨k, rfl⟩ : ∃ m, k = m + 1 := ⟨k - 1, by omega⟩
    simp only [laws_toCompSS.l0]
    rw [if_neg (by omega)]
    congr 1
    apply List.ext_getElem?
    intro j
    by_cases hj : j < i
    · exact ht j hj
    · rw [List.getElem?_eq_none (by omega), List.getElem?_eq_none (by simp; omega)]
  | succ d ih =>
    intro k i x3 hi' hx ht hk
    obtain ⟨k, rfl⟩ : ∃ m, k = m + 1 := ⟨k - 1, by omega⟩
    have hlt : i < l.length := by omega
    have hr : rd_L7 l (i : Int) = l[i] := by simp [rd_L7, List.getD_eq_getElem?_getD, List.getElem?_eq_getElem hlt]
    have hli := hi l[i] (List.getElem_mem hlt)
    simp only [laws_toCompSS.l0]
    rw [if_pos (by omega), if_pos (by omega), hr, toCompS_eq l[i] (by omega) k (by omega), Option.bind_some, if_pos (by omega), wrap_id (by omega) (by omega)]
    have := ih k (i + 1) (x3.set i (l[i].map cvC)) (by omega) (by simp [hx]) (fun j hj => ?_) (by omega)
    · simpa using this
    · by_cases hji : j = i
      · subst hji
        rw [List.getElem?_set_self (by omega)]
        simp [hlt]
      · rw [List.getElem?_set_ne (by omega)]
        exact ht j (by omega)

theorem toCompSS_eq (l : List (List S97)) (hl : l.length ≤ 11728124029610) (N : Nat) (hN : N ≤ 17592186044416) (hi : ∀ x ∈ l, x.length ≤ N) (k : Nat) (hk : l.length + N < k) : laws_toCompSS.f k l = some (l.map (List.map cvC)) := by
  unfold laws_toCompSS.f
  rw [if_pos (by omega), if_pos (by omega)]
  exact toCompSS_loop l hl N hN hi l.length k 0 _ (by omega) (by simp) (fun j hj => by omega) hk

theorem eqCompSS_loop (a : List (List S83)) (hm : a.length ≤ 11728124029610) (N : Nat) (hN : N ≤ 17592186044416) (hi : ∀ x ∈ a, x.length ≤ N) : ∀ (d k i : Nat), i + d = a.length → d + N < k → laws_eqCompSS.l0 k a a (i : Int) = some true := by
  intro d
  induction d with
  | zero =>
    intro k i hi' hk
    obtain ⟨k, rfl⟩ : ∃ m, k = m + 1 := ⟨k - 1, by omega⟩
    simp only [laws_eqCompSS.l0]
    rw [if_neg (by omega)]
  | succ d ih =>
    intro k i hi' hk
    obtain ⟨k, rfl⟩ : ∃ m, k = m + 1 := ⟨k - 1, by omega⟩
    have hlt : i < a.length := by omega
    have hr : rd_L8 a (i : Int) = a[i] := by simp [rd_L8, List.getD_eq_getElem?_getD, List.getElem?_eq_getElem hlt]
    have hli := hi a[i] (List.getElem_mem hlt)
    simp only [laws_eqCompSS.l0]
    rw [if_pos (by omega), if_pos (by omega), if_pos (by omega), hr, eqCompS_self a[i] (by omega) k (by omega), Option.bind_some, if_pos rfl, wrap_id (by omega) (by omega)]
    exact ih k (i + 1) (by omega) (by omega)

theorem eqCompSS_self (a : List (List S83)) (hm : a.length ≤ 11728124029610) (N : Nat) (hN : N ≤ 17592186044416) (hi : ∀ x ∈ a, x.length ≤ N) (k : Nat) (hk : a.length + N < k) : laws_eqCompSS.f k a a = some true := by
  unfold laws_eqCompSS.f
  rw [if_pos rfl]
  exact eqCompSS_loop a hm N hN hi a.length k 0 (by omega) hk

/-- What is not too large altogether: few rows, each of them short. -/
theorem szCompSS_loop (l : List (List S97)) (hl : l.length ≤ 11728124029610) : ∀ (d k i : Nat) (left : Int), i + d = l.length → 0 ≤ left → left ≤ 1048576 → (∀ x ∈ l, x.length ≤ 9223372036854775807) → d < k → ∃ r, laws_szCompSS.l0 k l left (i : Int) = some r ∧ (0 ≤ r → r ≤ 1048576 ∧ (∀ x ∈ l.drop i, x.length ≤ 1048576) ∧ tot (l.drop i) ≤ left) := by
  intro d
  induction d with
  | zero =>
    intro k i left hi h0 h1 hx hk
    obtain ⟨k, rfl⟩ : ∃ m, k = m + 1 := ⟨k - 1, by omega⟩
    simp only [laws_szCompSS.l0]
    rw [if_neg (by omega)]
    refine ⟨left, rfl, fun _ => ⟨h1, ?_⟩⟩
    rw [List.drop_eq_nil_of_le (by omega)]
    simp [tot, h0]
  | succ d ih =>
    intro k i left hi h0 h1 hx hk
    obtain ⟨k, rfl⟩ : ∃ m, k = m + 1 := ⟨k - 1, by omega⟩
    have hlt : i < l.length := by omega
    have hr : rd_L7 l (i : Int) = l[i] := by simp [rd_L7, List.getD_eq_getElem?_getD, List.getElem?_eq_getElem hlt]
    have hli := hx l[i] (List.getElem_mem hlt)
    simp only [laws_szCompSS.l0]
    rw [if_pos (by omega), if_pos (by omega), hr]
    unfold laws_szCompS.f
    by_cases hb : wrap64 (left - (l[i].length : Int)) < 0
    · rw [if_pos hb, Option.bind_some, if_pos (by omega)]
      exact ⟨-1, rfl, fun h => by omega⟩
    · rw [if_neg hb, Option.bind_some, if_neg hb, wrap_id (x := (i : Int) + 1) (by omega) (by omega)]
      have hle : (l[i].length : Int) ≤ left := by unfold wrap64 at hb; omega
      have hw : wrap64 (left - (l[i].length : Int)) = left - (l[i].length : Int) := wrap_id (by omega) (by omega)
      rw [hw]
      obtain ⟨r, h2, h3⟩ := ih k (i + 1) (left - (l[i].length : Int)) (by omega) (by omega) (by omega) hx (by omega)
      refine ⟨r, h2, fun hr0 => ⟨(h3 hr0).1, ?_, ?_⟩⟩
      · rw [List.drop_eq_getElem_cons hlt]
        intro x hx'
        rcases List.mem_cons.1 hx' with rfl | hx'
        · omega
        · exact (h3 hr0).2.1 x hx'
      · rw [List.drop_eq_getElem_cons hlt]
        have := (h3 hr0).2.2
        simp only [tot]
        omega
theorem szCompSS_eq (l : List (List S97)) (left : Int) (hl : l.length ≤ 9223372036854775807) (hx : ∀ x ∈ l, x.length ≤ 9223372036854775807) (h0 : 0 ≤ left) (h1 : left ≤ 1048576) (k : Nat) (hk : 1050000 ≤ k) : ∃ r, laws_szCompSS.f k l left = some r ∧ (0 ≤ r → r ≤ 1048576 ∧ l.length ≤ 1048576 ∧ (∀ x ∈ l, x.length ≤ 1048576) ∧ tot l ≤ 1048576) := by
  unfold laws_szCompSS.f
  by_cases hb : wrap64 (left - (l.length : Int)) < 0
  · rw [if_pos hb]
    exact ⟨-1, rfl, fun h => by omega⟩
  · have hle : (l.length : Int) ≤ left := by unfold wrap64 at hb; omega
    have hw : wrap64 (left - (l.length : Int)) = left - (l.length : Int) := wrap_id (by omega) (by omega)
    rw [if_neg hb, hw]
    obtain ⟨r, h2, h3⟩ := szCompSS_loop l (by omega) l.length k 0 (left - (l.length : Int)) (by omega) (by omega) (by omega) hx (by omega)
    exact ⟨r, h2, fun hr => ⟨(h3 hr).1, by omega, by simpa using (h3 hr).2.1, by have := (h3 hr).2.2; simp only [List.drop_zero] at this; omega⟩⟩

theorem sub_aok {f : Int → CT} (hf : ∀ n, 0 ≤ n → n ≤ 99 → (f n).aok) : ∀ {t : CT}, t.ok → t.aok → (t.sub f).aok
  | .ret n, h, _ => hf n h.1 h.2
  | .ask n a b, h, g => ⟨g.1, sub_aok hf h.1 g.2.1, sub_aok hf h.2 g.2.2⟩

theorem cparse_cells (t : CT) : ∀ (k : Nat) (r : List S83), t.ok → t.aok → t.tall < k → cparse k (ccells t ++ r) = some (t, r) := by
  induction t with
  | ret n =>
    intro k r ho _ hk
    obtain ⟨k, rfl⟩ : ∃ m, k = m + 1 := ⟨k - 1, by omega⟩
    show cparse (k + 1) (⟨1, n⟩ :: r) = some (.ret n, r)
    simp only [cparse]
    rw [if_pos ⟨trivial, ho.1, ho.2⟩]
  | ask n a b iha ihb =>
    intro k r ho ha hk
    obtain ⟨k, rfl⟩ : ∃ m, k = m + 1 := ⟨k - 1, by omega⟩
    simp only [CT.tall] at hk
    show cparse (k + 1) (⟨2, n⟩ :: (ccells a ++ ccells b) ++ r) = some (.ask n a b, r)
    simp only [List.cons_append, List.append_assoc, cparse]
    rw [if_neg (by simp), if_pos ⟨trivial, ha.1⟩, iha k _ ho.1 ha.2.1 (by omega)]
    simp only
    rw [ihb k r ho.2 ha.2.2 (by omega)]

theorem cof_cells (t : CT) (ho : t.ok) (ha : t.aok) : cof (ccells t) = if t.dep ≤ 60 then some t else none := by
  unfold cof
  rw [cells_dep]
  by_cases h : t.dep ≤ 60
  · rw [if_pos h, if_pos h]
    have := cparse_cells t 61 [] ho ha (by have := tall_dep t; omega)
    rw [List.append_nil] at this
    rw [this]
  · rw [if_neg h, if_neg h]

theorem size_le (t : CT) (h : t.dep ≤ 1000000) : (t.size ≤ 60 ↔ t.dep ≤ 60) := by
  rw [size_dep t h]; omega

theorem tell_eq (t : CT) (ho : t.ok) (ha : t.aok) (ht : t.tall < 1000) (hd : t.dep ≤ 1000000) (k : Nat) (hk : 244 ≤ k) : spec_l9Tell.f k (cv t).f0 (cv t).f1 (cv t).f2 = some (goodOf t) := by
  unfold spec_l9Tell.f
  simp only [spec_l9Flat.f]
  rw [flat_eq t 1000 [] ht (by simpa using hd), Option.bind_some, List.nil_append, GoodComp_eq _ k hk, Option.bind_some, cof_cells t ho ha]
  unfold goodOf
  by_cases h : t.dep ≤ 60
  · rw [if_pos h, if_pos ((size_le t hd).2 h)]; rfl
  · rw [if_neg h, if_neg (fun z => h ((size_le t hd).1 z))]; rfl

theorem sub_tall {f : Int → CT} {m : Nat} (hf : ∀ n, (f n).tall ≤ m) (t : CT) : (t.sub f).tall ≤ t.tall + m := by
  induction t with
  | ret n => simp only [CT.sub, CT.tall]; have := hf n; omega
  | ask n a b iha ihb => simp only [CT.sub, CT.tall]; omega
theorem sub_dep {f : Int → CT} {m : Nat} (hm : 1 ≤ m) (hf : ∀ n, (f n).dep ≤ m) (t : CT) : (t.sub f).dep ≤ t.dep * m := by
  induction t with
  | ret n => simp only [CT.sub, CT.dep]; have := hf n; omega
  | ask n a b iha ihb =>
    simp only [CT.sub, CT.dep, Nat.add_mul, Nat.one_mul]
    omega

theorem s93_eta (x : S93) : (⟨x.f0, x.f1, x.f2⟩ : S93) = x := by cases x; rfl

theorem l9Then_eq (ts : List CT) (hts : ts.length = 100) (t : CT) : ∀ k, t.tall < k → t.ok → spec_l9Then.f k (cv t).f0 (cv t).f1 (cv t).f2 (ts.map cv) = some ((cv (t.sub (tsF ts))).f0, (cv (t.sub (tsF ts))).f1, (cv (t.sub (tsF ts))).f2) := by
  induction t with
  | ret n =>
    intro k hk ho
    obtain ⟨k, rfl⟩ : ∃ m, k = m + 1 := ⟨k - 1, by omega⟩
    obtain ⟨h0, h1⟩ := ho
    show spec_l9Then.f (k + 1) false n [] (ts.map cv) = _
    simp only [spec_l9Then.f]
    have hr : rd_T93 (ts.map cv) n = cv (tsF ts n) := by
      have hl : n.toNat < ts.length := by omega
      simp [rd_T93, tsF, List.getD_eq_getElem?_getD, List.getElem?_eq_getElem hl]
    rw [if_neg (by simp), if_pos h0, if_pos (by simp; omega), hr]
    rfl
  | ask n a b iha ihb =>
    intro k hk ho
    obtain ⟨k, rfl⟩ : ∃ m, k = m + 1 := ⟨k - 1, by omega⟩
    simp only [CT.tall] at hk
    have ea : rd_T93 [cv a, cv b] 0 = cv a := by simp [rd_T93]
    have eb : rd_T93 [cv a, cv b] 1 = cv b := by simp [rd_T93]
    show spec_l9Then.f (k + 1) true n [cv a, cv b] (ts.map cv) = some (true, n, [cv (a.sub (tsF ts)), cv (b.sub (tsF ts))])
    simp only [spec_l9Then.f, ea, eb]
    rw [if_pos trivial, if_pos (by simp), iha k (by omega) ho.1, Option.bind_some, if_pos (by simp), ihb k (by omega) ho.2, Option.bind_some]
    simp only [s93_eta]

theorem cofs_props : ∀ {ls : List (List S83)} {ts : List CT}, cofs ls = some ts → ∀ t ∈ ts, t.ok ∧ t.aok ∧ t.dep ≤ 60
  | [], ts, h => by simp [cofs] at h; subst h; simp
  | l :: ls, ts, h => by
    simp only [cofs] at h
    split at h
    · cases h
    · rename_i h1
      split at h
      · cases h
      · rename_i h2
        obtain rfl := Option.some.inj h
        intro t ht
        rcases List.mem_cons.1 ht with rfl | ht
        · exact ⟨cof_ok h1, cof_aok h1, cof_dep h1⟩
        · exact cofs_props h2 t ht
theorem tsF_props {ts : List CT} (h : ∀ t ∈ ts, t.ok ∧ t.aok ∧ t.dep ≤ 60) (n : Int) : (tsF ts n).ok ∧ (tsF ts n).aok ∧ (tsF ts n).dep ≤ 60 := by
  unfold tsF
  rw [List.getD_eq_getElem?_getD]
  cases hn : ts[n.toNat]? with
  | none => simp [CT.ok, CT.aok, CT.dep]
  | some t => exact h t (List.mem_of_getElem? hn)

theorem then_loop (ls : List (List S83)) (hl : ls.length = 100) (t : CT) (ho : t.ok) (ha : t.aok) (hd : t.dep ≤ 60) : ∀ (d k i : Nat) (ts : List CT), i + d = 100 → ts.length = i → 400 + d ≤ k → (∀ t ∈ ts, t.ok ∧ t.aok ∧ t.dep ≤ 60) →
    spec_ThenComp.l0 k (ts.map cv) ls (ls.length : Int) (i : Int) (cv t).f0 (cv t).f1 (cv t).f2 = some (thenTo t (match cofs (ls.drop i) with
      | none => none
      | some us => some (ts ++ us))) := by
  intro d
  induction d with
  | zero =>
    intro k i ts hi hts hk hp
    obtain ⟨k, rfl⟩ : ∃ m, k = m + 1 := ⟨k - 1, by omega⟩
    have htt := tall_dep t
    simp only [spec_ThenComp.l0]
    rw [if_neg (by omega), l9Then_eq ts (by omega) t k (by omega) ho, Option.bind_some]
    have hpf := tsF_props hp
    have h1 := sub_tall (f := tsF ts) (m := 60) (fun n => Nat.le_trans (tall_dep _) (hpf n).2.2) t
    have h2 := sub_dep (f := tsF ts) (m := 60) (by omega) (fun n => (hpf n).2.2) t
    simp only
    rw [tell_eq _ (sub_ok (fun n _ _ => (hpf n).1) ho) (sub_aok (fun n _ _ => (hpf n).2.1) ho ha) (by omega) (by have : t.dep * 60 ≤ 60 * 60 := Nat.mul_le_mul_right _ hd; omega) k (by omega), Option.bind_some, List.drop_eq_nil_of_le (by omega)]
    simp [cofs, thenTo]
  | succ d ih =>
    intro k i ts hi hts hk hp
    obtain ⟨k, rfl⟩ : ∃ m, k = m + 1 := ⟨k - 1, by omega⟩
    have hlt : i < ls.length := by omega
    simp only [spec_ThenComp.l0]
    rw [if_pos (by omega), if_pos (by omega), if_pos (by omega)]
    have h := l9Tree_eq (rd_L8 ls (i : Int)) k (by omega)
    rw [rdL_drop ls i hlt]
    simp only [cofs]
    cases hq : cof (rd_L8 ls (i : Int)) with
    | none => rw [hq] at h; obtain ⟨b, n, ks, h⟩ := h; rw [h]; simp [thenTo]
    | some u =>
      rw [hq] at h
      simp only at h
      rw [h, Option.bind_some]
      simp only [s93_eta]
      have e1 : ts.map cv ++ [cv u] = (ts ++ [u]).map cv := by simp
      have e2 : (i : Int) + 1 = ((i + 1 : Nat) : Int) := by omega
      rw [if_pos trivial, if_pos (by simp; omega), wrap_id (by omega) (by omega), e1, e2, ih k (i + 1) (ts ++ [u]) (by omega) (by simp [hts]) (by omega) (fun x hx => by
        rcases List.mem_append.1 hx with hx | hx
        · exact hp x hx
        · simp at hx; subst hx; exact ⟨cof_ok hq, cof_aok hq, cof_dep hq⟩)]
      cases cofs (ls.drop (i + 1)) with
      | none => rfl
      | some us => simp

theorem specThen_eq (l : List S83) (ls : List (List S83)) (k : Nat) (hk : 600 ≤ k) : spec_ThenComp.f k l ls = some (thenOf l ls) := by
  have h := l9Tree_eq l k (by omega)
  obtain ⟨q, rfl⟩ : ∃ q, k = q + 1 := ⟨k - 1, by omega⟩
  unfold spec_ThenComp.f thenOf
  cases hq : cof l with
  | none => rw [hq] at h; obtain ⟨b, n, ks, h⟩ := h; rw [h]; simp [spec_ThenComp.j0]
  | some t =>
    rw [hq] at h
    simp only at h
    rw [h, Option.bind_some, if_pos rfl]
    simp only [spec_ThenComp.j0]
    by_cases hl : ls.length = 100
    · rw [if_neg (by simp; omega), if_pos hl]
      have := then_loop ls hl t (cof_ok hq) (cof_aok hq) (cof_dep hq) 100 q 0 [] (by omega) rfl (by omega) (by simp)
      simp only [List.map_nil, Int.cast_ofNat_Int, List.drop_zero, List.nil_append] at this
      rw [this]
      cases cofs ls <;> rfl
    · rw [if_pos (by simp; omega), if_neg hl]

theorem thenOf_len (l : List S83) (ls : List (List S83)) : (thenOf l ls).1.length ≤ 60 := by
  unfold thenOf
  split
  · simp
  · split
    · unfold thenTo
      split
      · simp
      · exact goodOf_len _
    · simp

end Go.Proofs.Ytjnaokdncemggaa.PAll
