-- Made by pack.py of the texts that the law reaches.
import Derived.Test.YtjnaokdncemggaaV6
section
namespace Go.Proofs.Ytjnaokdncemggaa.PAll
open Go.RowKit Go.Proofs.YtjnaokdncemggaaW.PrintWords Go.Proofs.YtjnaokdncemggaaW.PrintLast Go.Proofs.YtjnaokdncemggaaW.PrintMore
set_option linter.unusedVariables false
set_option linter.unusedSimpArgs false
def CT.res : CT → List Int
  | .ret n => [n]
  | .ask _ a b => a.res ++ b.res
def CT.dep : CT → Nat
  | .ret _ => 1
  | .ask _ a b => 1 + a.dep + b.dep
def cellRes (l : List S83) : List Int := l.filterMap (fun x => if x.f0 = 1 then some x.f1 else none)
theorem cparse_res : ∀ (k : Nat) (l : List S83) (t : CT) (r : List S83), cparse k l = some (t, r) → cellRes l = t.res ++ cellRes r ∧ l.length = t.dep + r.length := by
  intro k
  induction k with
  | zero => intro l t r h; simp [cparse] at h
  | succ k ih =>
    intro l t r h
    cases l with
    | nil => simp [cparse] at h
    | cons x l =>
      simp only [cparse] at h
      split at h
      · rename_i h1
        simp at h
        obtain ⟨rfl, rfl⟩ := h
        simp [cellRes, h1.1, CT.res, CT.dep]; omega
      · split at h
        · rename_i h1 h2
          cases hq : cparse k l with
          | none => rw [hq] at h; simp at h
          | some p =>
            obtain ⟨a, r1⟩ := p
            rw [hq] at h
            simp only at h
            cases hq2 : cparse k r1 with
            | none => rw [hq2] at h; simp at h
            | some p2 =>
              obtain ⟨b, r2⟩ := p2
              rw [hq2] at h
              simp at h
              obtain ⟨rfl, rfl⟩ := h
              obtain ⟨A, A'⟩ := ih _ _ _ hq
              obtain ⟨B, B'⟩ := ih _ _ _ hq2
              have e : cellRes (x :: l) = cellRes l := by simp [cellRes, h2.1]
              rw [e, A, B]
              simp [CT.res, CT.dep]
              omega
        · simp at h
theorem cof_res {l : List S83} {t : CT} (h : cof l = some t) : cellRes l = t.res ∧ t.dep ≤ 60 ∧ l.length ≤ 60 := by
  unfold cof at h
  split at h
  · split at h
    · rename_i h0 _ _ h1
      injection h with h
      subst h
      obtain ⟨A, B⟩ := cparse_res _ _ _ _ h1
      refine ⟨by rw [A]; simp [cellRes], ?_, h0⟩
      simp at B
      omega
    · cases h
  · cases h
def mkC (j : Nat) : S83 := ⟨((1 + 2 * j : Nat) : Int), ((2 + 2 * j : Nat) : Int)⟩
theorem markC_loop (n : Nat) (hn : n ≤ 17592186044416) : ∀ (d k i : Nat) (xs : List S83), xs.length = n → (∀ j, j < i → xs[j]? = some (mkC j)) → i + d = n → d < k → ∃ ys, laws_markCompS.l0 k xs ((1 + 2 * i : Nat) : Int) (i : Int) = some (((1 + 2 * n : Nat) : Int), ys) ∧ ys.length = n ∧ ∀ j, j < n → ys[j]? = some (mkC j) := by
  intro d
  induction d with
  | zero =>
    intro k i xs hx hj hi hk
    obtain ⟨k, rfl⟩ : ∃ m, k = m + 1 := ⟨k - 1, by omega⟩
    simp only [laws_markCompS.l0]
    rw [if_neg (by omega)]
    obtain rfl : i = n := by omega
    exact ⟨xs, rfl, hx, hj⟩
  | succ d ih =>
    intro k i xs hx hj hi hk
    obtain ⟨k, rfl⟩ : ∃ m, k = m + 1 := ⟨k - 1, by omega⟩
    simp only [laws_markCompS.l0]
    rw [if_pos (by omega), if_pos (by omega), Option.bind_some, wrap_id (x := ((1 + 2 * i : Nat) : Int) + 1) (by omega) (by omega), wrap_id (x := (i : Int) + 1) (by omega) (by omega), wrap_id (by omega) (by omega)]
    have e1 : ((1 + 2 * i : Nat) : Int) + 1 + 1 = ((1 + 2 * (i + 1) : Nat) : Int) := by omega
    have e2 : (i : Int) + 1 = ((i + 1 : Nat) : Int) := by omega
    have e3 : ((1 + 2 * i : Nat) : Int) + 1 = ((2 + 2 * i : Nat) : Int) := by omega
    have hrd : (rd_T83 (xs.set (i : Int).toNat ⟨((1 + 2 * i : Nat) : Int), (rd_T83 xs (i : Int)).f1⟩) (i : Int)).f0 = ((1 + 2 * i : Nat) : Int) := by
      simp [rd_T83, List.getD_eq_getElem?_getD, List.getElem?_set_self (show i < xs.length by omega)]
    rw [hrd, e1, e2, e3]
    refine ih k (i + 1) _ (by simp [hx]) (fun j hj' => ?_) (by omega) (by omega)
    rw [Int.toNat_natCast]
    by_cases hji : j = i
    · subst hji
      rw [List.getElem?_set_self (by simp; omega)]
      rfl
    · rw [List.getElem?_set_ne (by omega), List.getElem?_set_ne (by omega)]
      exact hj j (by omega)
theorem heldC_loop (n : Nat) (hn : n ≤ 17592186044416) (ys : List S83) (hy : ys.length = n) (hj : ∀ j, j < n → ys[j]? = some (mkC j)) : ∀ (d k i : Nat), i + d = n → d < k → laws_heldCompS.l0 k ys ((1 + 2 * i : Nat) : Int) (i : Int) = some ((1 + 2 * n : Nat) : Int) := by
  intro d
  induction d with
  | zero =>
    intro k i hi hk
    obtain ⟨k, rfl⟩ : ∃ m, k = m + 1 := ⟨k - 1, by omega⟩
    simp only [laws_heldCompS.l0]
    rw [if_neg (by omega)]
    obtain rfl : i = n := by omega
    rfl
  | succ d ih =>
    intro k i hi hk
    obtain ⟨k, rfl⟩ : ∃ m, k = m + 1 := ⟨k - 1, by omega⟩
    have hr : rd_T83 ys (i : Int) = mkC i := by simp only [rd_T83, Int.toNat_natCast, List.getD_eq_getElem?_getD]; rw [hj i (by omega)]; rfl
    simp only [laws_heldCompS.l0, hr, mkC]
    rw [if_pos (by omega), if_pos (by omega), if_pos trivial, wrap_id (x := ((1 + 2 * i : Nat) : Int) + 1) (by omega) (by omega), if_pos (by omega), wrap_id (x := (i : Int) + 1) (by omega) (by omega), wrap_id (by omega) (by omega)]
    have e1 : ((1 + 2 * i : Nat) : Int) + 1 + 1 = ((1 + 2 * (i + 1) : Nat) : Int) := by omega
    have e2 : (i : Int) + 1 = ((i + 1 : Nat) : Int) := by omega
    rw [e1, e2]
    exact ih k (i + 1) (by omega) (by omega)
theorem markHeldC_eq (xs : List S83) (hn : xs.length ≤ 17592186044416) (k : Nat) (hk : xs.length < k) : ∃ ys, laws_markCompS.f k xs 1 = some (((1 + 2 * xs.length : Nat) : Int), ys) ∧ ∀ q, xs.length < q → laws_heldCompS.f q ys 1 = some ((1 + 2 * xs.length : Nat) : Int) := by
  unfold laws_markCompS.f laws_heldCompS.f
  obtain ⟨ys, h, hy, hj⟩ := markC_loop xs.length hn xs.length k 0 xs rfl (fun j h => by omega) (by omega) hk
  exact ⟨ys, h, fun q hq => heldC_loop xs.length hn ys hy hj xs.length q 0 (by omega) hq⟩
theorem size_dep (t : CT) : t.dep ≤ 1000000 → t.size = t.dep := by
  induction t with
  | ret n => intro _; rfl
  | ask n a b iha ihb =>
    intro h
    simp only [CT.dep] at h
    simp only [CT.size, CT.dep]
    rw [iha (by omega), ihb (by omega), if_neg (by omega)]
    omega
theorem dep_of_size (t : CT) : t.size < 1000000 → (t.dep : Int) = t.size := by
  induction t with
  | ret n => intro _; rfl
  | ask n a b iha ihb =>
    intro h
    have ha := a.size_bd
    have hb := b.size_bd
    simp only [CT.size] at h ⊢
    split at h
    · omega
    · rename_i h1
      rw [if_neg h1]
      simp only [CT.dep]
      have := iha (by omega)
      have := ihb (by omega)
      omega
theorem dep_pos (t : CT) : 1 ≤ t.dep := by cases t <;> simp [CT.dep]; omega
theorem cells_dep (t : CT) : (ccells t).length = t.dep := by
  induction t with
  | ret n => simp [ccells, CT.dep]
  | ask n a b iha ihb => simp [ccells, CT.dep, iha, ihb]; omega
def CT.tall : CT → Nat
  | .ret _ => 1
  | .ask _ a b => 1 + max a.tall b.tall
theorem tall_dep (t : CT) : t.tall ≤ t.dep := by
  induction t with
  | ret n => simp [CT.tall, CT.dep]
  | ask n a b iha ihb => simp only [CT.tall, CT.dep]; omega
theorem flat_eq (t : CT) : ∀ (k : Nat) (out : List S83), t.tall < k → out.length + t.dep ≤ 1000000 → l9flat k (cv t).f0 (cv t).f1 (cv t).f2 out = some (out ++ ccells t) := by
  induction t with
  | ret n =>
    intro k out hk ho
    obtain ⟨k, rfl⟩ : ∃ m, k = m + 1 := ⟨k - 1, by omega⟩
    simp only [CT.dep] at ho
    show l9flat (k + 1) false n [] out = some (out ++ [⟨1, n⟩])
    simp only [l9flat]
    rw [if_pos (by omega), if_neg (by simp)]
  | ask n a b iha ihb =>
    intro k out hk ho
    obtain ⟨k, rfl⟩ : ∃ m, k = m + 1 := ⟨k - 1, by omega⟩
    simp only [CT.dep] at ho
    simp only [CT.tall] at hk
    have ha := cells_dep a
    show l9flat (k + 1) true n [cv a, cv b] out = some (out ++ (⟨2, n⟩ :: (ccells a ++ ccells b)))
    simp only [l9flat, l9fl]
    rw [if_pos (by omega), if_pos trivial, if_pos (by simp), iha k _ (by omega) (by simp; omega), Option.bind_some, ihb k _ (by omega) (by simp; omega), Option.bind_some]
    simp
theorem cof_dep {l : List S83} {t : CT} (h : cof l = some t) : t.dep ≤ 60 := (cof_res h).2.1
theorem goodOf_len (t : CT) : (goodOf t).1.length ≤ 60 := by
  unfold goodOf
  split
  · rename_i h; rw [cells_dep]; have := dep_of_size t (by omega); omega
  · simp
theorem sub_aok {f : Int → CT} (hf : ∀ n, 0 ≤ n → n ≤ 99 → (f n).aok) : ∀ {t : CT}, t.ok → t.aok → (t.sub f).aok
  | .ret n, h, _ => hf n h.1 h.2
  | .ask n a b, h, g => ⟨g.1, sub_aok hf h.1 g.2.1, sub_aok hf h.2 g.2.2⟩
theorem cparse_cells (t : CT) : ∀ (k : Nat) (r : List S83), t.ok → t.aok → t.tall < k → cparse k (ccells t ++ r) = some (t, r) := by
  induction t with
  | ret n =>
    intro k r ho _ hk
    obtain ⟨k, rfl⟩ : ∃ m, k = m + 1 := ⟨k - 1, by omega⟩
    show cparse (k + 1) (⟨1, n⟩ :: r) = some (.ret n, r)
    simp only [cparse]
    rw [if_pos ⟨trivial, ho.1, ho.2⟩]
  | ask n a b iha ihb =>
    intro k r ho ha hk
    obtain ⟨k, rfl⟩ : ∃ m, k = m + 1 := ⟨k - 1, by omega⟩
    simp only [CT.tall] at hk
    show cparse (k + 1) (⟨2, n⟩ :: (ccells a ++ ccells b) ++ r) = some (.ask n a b, r)
    simp only [List.cons_append, List.append_assoc, cparse]
    rw [if_neg (by simp), if_pos ⟨trivial, ha.1⟩, iha k _ ho.1 ha.2.1 (by omega)]
    simp only
    rw [ihb k r ho.2 ha.2.2 (by omega)]
theorem cof_cells (t : CT) (ho : t.ok) (ha : t.aok) : cof (ccells t) = if t.dep ≤ 60 then some t else none := by
  unfold cof
  rw [cells_dep]
  by_cases h : t.dep ≤ 60
  · rw [if_pos h, if_pos h]
    have := cparse_cells t 61 [] ho ha (by have := tall_dep t; omega)
    rw [List.append_nil] at this
    rw [this]
  · rw [if_neg h, if_neg h]
theorem size_le (t : CT) (h : t.dep ≤ 1000000) : (t.size ≤ 60 ↔ t.dep ≤ 60) := by
  rw [size_dep t h]; omega
theorem tell_eq (t : CT) (ho : t.ok) (ha : t.aok) (ht : t.tall < 1000) (hd : t.dep ≤ 1000000) (k : Nat) (hk : 244 ≤ k) : spec_l9Tell.f k (cv t).f0 (cv t).f1 (cv t).f2 = some (goodOf t) := by
  unfold spec_l9Tell.f
  simp only [spec_l9Flat.f]
  rw [flat_eq t 1000 [] ht (by simpa using hd), Option.bind_some, List.nil_append, GoodComp_eq _ k hk, Option.bind_some, cof_cells t ho ha]
  unfold goodOf
  by_cases h : t.dep ≤ 60
  · rw [if_pos h, if_pos ((size_le t hd).2 h)]; rfl
  · rw [if_neg h, if_neg (fun z => h ((size_le t hd).1 z))]; rfl
theorem s93_eta (x : S93) : (⟨x.f0, x.f1, x.f2⟩ : S93) = x := by cases x; rfl
theorem sub_add_dep (by_ : Int) (t : CT) : (t.sub (addF by_)).dep = t.dep := by
  induction t with
  | ret n => rfl
  | ask n a b iha ihb => simp only [CT.sub, CT.dep, iha, ihb]
theorem l9Add_eq (by_ : Int) (b0 : 0 ≤ by_) (b1 : by_ ≤ 99) (t : CT) : ∀ k, t.tall < k → t.ok → spec_l9Add.f k (cv t).f0 (cv t).f1 (cv t).f2 by_ = some ((cv (t.sub (addF by_))).f0, (cv (t.sub (addF by_))).f1, (cv (t.sub (addF by_))).f2) := by
  induction t with
  | ret n =>
    intro k hk ho
    obtain ⟨k, rfl⟩ : ∃ m, k = m + 1 := ⟨k - 1, by omega⟩
    obtain ⟨h0, h1⟩ := ho
    show spec_l9Add.f (k + 1) false n [] by_ = some (false, (n + by_) % 100, [])
    simp only [spec_l9Add.f]
    rw [if_neg (by simp), wrap_id (by omega) (by omega), Int.tmod_eq_emod_of_nonneg (by omega)]
  | ask n a b iha ihb =>
    intro k hk ho
    obtain ⟨k, rfl⟩ : ∃ m, k = m + 1 := ⟨k - 1, by omega⟩
    simp only [CT.tall] at hk
    have ea : rd_T93 [cv a, cv b] 0 = cv a := by simp [rd_T93]
    have eb : rd_T93 [cv a, cv b] 1 = cv b := by simp [rd_T93]
    show spec_l9Add.f (k + 1) true n [cv a, cv b] by_ = some (true, n, [cv (a.sub (addF by_)), cv (b.sub (addF by_))])
    simp only [spec_l9Add.f, ea, eb]
    rw [if_pos trivial, if_pos (by simp), iha k (by omega) ho.1, Option.bind_some, if_pos (by simp), ihb k (by omega) ho.2, Option.bind_some]
    cases cv (a.sub (addF by_))
    cases cv (b.sub (addF by_))
    rfl
theorem wrap_idR {x : Int} (h0 : -9223372036854775808 ≤ x) (h1 : x < 9223372036854775808) : wrap64 x = x := by unfold wrap64; omega
def cvR (x : S126) : S82 := ⟨x.f0, x.f1⟩
theorem toRuleS_loop (l : List S126) (hl : l.length ≤ 17592186044416) : ∀ (d k i : Nat) (x3 : List S82), i + d = l.length → x3.length = l.length → (∀ j, j < i → x3[j]? = (l.map cvR)[j]?) → d < k → laws_toRuleS.l0 k l x3 (i : Int) = some (l.map cvR) := by
  intro d
  induction d with
  | zero =>
    intro k i x3 hi hx ht hk
    obtain ⟨k, rfl⟩ : ∃ m, k = m + 1 := ⟨k - 1, by omega⟩
    simp only [laws_toRuleS.l0]
    rw [if_neg (by omega)]
    congr 1
    apply List.ext_getElem?
    intro j
    by_cases hj : j < i
    · exact ht j hj
    · rw [List.getElem?_eq_none (by omega), List.getElem?_eq_none (by simp; omega)]
  | succ d ih =>
    intro k i x3 hi hx ht hk
    obtain ⟨k, rfl⟩ : ∃ m, k = m + 1 := ⟨k - 1, by omega⟩
    have hlt : i < l.length := by omega
    have hr : rd_T126 l (i : Int) = l[i] := by simp [rd_T126, List.getD_eq_getElem?_getD, List.getElem?_eq_getElem hlt]
    simp only [laws_toRuleS.l0]
    rw [if_pos (by omega), if_pos (by omega), hr]
    simp only [laws_toRule.f, Option.bind_some]
    rw [if_pos (by omega), wrap_idR (by omega) (by omega)]
    have := ih k (i + 1) (x3.set i (cvR l[i])) (by omega) (by simp [hx]) (fun j hj => ?_) (by omega)
    · simpa [cvR] using this
    · by_cases hji : j = i
      · subst hji
        rw [List.getElem?_set_self (by omega)]
        simp [hlt]
      · rw [List.getElem?_set_ne (by omega)]
        exact ht j (by omega)
theorem toRuleS_eq (l : List S126) (hl : l.length ≤ 17592186044416) (k : Nat) (hk : l.length < k) : laws_toRuleS.f k l = some (l.map cvR) := by
  unfold laws_toRuleS.f
  rw [if_pos (by omega), if_pos (by omega)]
  exact toRuleS_loop l hl l.length k 0 _ (by omega) (by simp) (fun j hj => by omega) hk
theorem eqRuleS_loop (a : List S82) (hm : a.length ≤ 17592186044416) : ∀ (d k i : Nat), i + d = a.length → d < k → laws_eqRuleS.l0 k a a (i : Int) = some true := by
  intro d
  induction d with
  | zero =>
    intro k i hi hk
    obtain ⟨k, rfl⟩ : ∃ m, k = m + 1 := ⟨k - 1, by omega⟩
    simp only [laws_eqRuleS.l0]
    rw [if_neg (by omega)]
  | succ d ih =>
    intro k i hi hk
    obtain ⟨k, rfl⟩ : ∃ m, k = m + 1 := ⟨k - 1, by omega⟩
    simp only [laws_eqRuleS.l0]
    rw [if_pos (by omega), if_pos (by omega), if_pos (by omega), wrap_idR (by omega) (by omega)]
    simp only [laws_eqRule.f, if_true, Option.bind_some]
    exact ih k (i + 1) (by omega) (by omega)
theorem eqRuleS_self (a : List S82) (hm : a.length ≤ 17592186044416) (k : Nat) (hk : a.length < k) : laws_eqRuleS.f k a a = some true := by
  unfold laws_eqRuleS.f
  rw [if_pos rfl]
  exact eqRuleS_loop a hm a.length k 0 (by omega) hk
theorem l1In_eqR (n lo hi : Int) : spec_l1In.f n lo hi = some (decide (lo ≤ n ∧ n ≤ hi)) := by
  unfold spec_l1In.f
  by_cases h : lo ≤ n <;> simp [h]
theorem ruleB_eq (x : S82) : ruleB x = (decide (1 ≤ x.f0 ∧ x.f0 ≤ 5) && decide (0 ≤ x.f1 ∧ x.f1 ≤ 99) && (decide (x.f0 = 4) || decide (x.f1 = 0))) := by
  unfold ruleB
  by_cases h4 : x.f0 = 4
  · simp [h4]
  · rw [if_neg h4, decide_eq_false h4]
    simp only [Bool.false_or]
    rw [← Bool.decide_and, ← Bool.decide_and, decide_eq_decide]
    constructor <;> intro h <;> omega
theorem specGoodHandler_loop (ret : Int) (l : List S82) (hl : l.length ≤ 17592186044416) : ∀ (d k i : Nat), i + d = l.length → d < k → spec_GoodHandler.l0 k l (l.length : Int) (i : Int) ret l = some ((l.drop i).all ruleB && (decide (0 ≤ ret ∧ ret ≤ 99) && decide (l.length = 3))) := by
  intro d
  induction d with
  | zero =>
    intro k i hi hk
    obtain ⟨k, rfl⟩ : ∃ m, k = m + 1 := ⟨k - 1, by omega⟩
    simp only [spec_GoodHandler.l0]
    rw [if_neg (by omega), List.drop_of_length_le (by omega), l1In_eqR]
    by_cases h : 0 ≤ ret ∧ ret ≤ 99
    · simp [h]
      by_cases h3 : l.length = 3
      · simp [h3]
      · simp [h3]; omega
    · rw [decide_eq_false h]; simp
  | succ d ih =>
    intro k i hi hk
    obtain ⟨k, rfl⟩ : ∃ m, k = m + 1 := ⟨k - 1, by omega⟩
    have hlt : i < l.length := by omega
    have hr : rd_T82 l (i : Int) = l[i] := by simp [rd_T82, List.getD_eq_getElem?_getD, List.getElem?_eq_getElem hlt]
    have := ih k (i + 1) (by omega) (by omega)
    simp only [Int.natCast_add, Int.cast_ofNat_Int] at this
    simp only [spec_GoodHandler.l0]
    rw [if_pos (by omega), if_pos (by omega), if_pos (by omega), hr, wrap_idR (by omega) (by omega), List.drop_eq_getElem_cons hlt, List.all_cons, ruleB_eq]
    simp only [l1In_eqR, Option.bind_some, this]
    by_cases h1 : 1 ≤ l[i].f0 ∧ l[i].f0 ≤ 5
    · by_cases h2 : 0 ≤ l[i].f1 ∧ l[i].f1 ≤ 99
      · by_cases h3 : l[i].f0 = 4
        · simp [h3, h2]
        · by_cases h4 : l[i].f1 = 0
          · simp [h1, h3, h4]
          · simp [h1, h2, h3, h4]
      · rw [decide_eq_false h2]; simp
    · rw [decide_eq_false h1]; simp
theorem specGoodHandler_eq (ret : Int) (l : List S82) (hl : l.length ≤ 17592186044416) (k : Nat) (hk : l.length < k) : spec_GoodHandler.f k ret l = some (goodHB ret l) := by
  unfold spec_GoodHandler.f
  have := specGoodHandler_loop ret l hl l.length k 0 (by omega) hk
  simp only [Int.cast_ofNat_Int, List.drop_zero] at this
  rw [this]
  congr 1
  simp only [goodHB]
  cases l.all ruleB <;> simp
theorem hwrap_id {x : Int} (h0 : -9223372036854775808 ≤ x) (h1 : x < 9223372036854775808) : wrap64 x = x := by unfold wrap64; omega
theorem markComp_gen (n : Nat) (hn : n ≤ 1000000000) (a : Int) (h0 : 0 ≤ a) (h1 : a ≤ 1000000000000) : ∀ (d k i : Nat) (xs : List S83), xs.length = n → i + d = n → d < k → ∃ ys, laws_markCompS.l0 k xs (a + 2 * (i : Int)) (i : Int) = some (a + 2 * (n : Int), ys) := by
  intro d
  induction d with
  | zero =>
    intro k i xs hx hi hk
    obtain ⟨k, rfl⟩ : ∃ m, k = m + 1 := ⟨k - 1, by omega⟩
    simp only [laws_markCompS.l0]
    rw [if_neg (by omega)]
    obtain rfl : i = n := by omega
    exact ⟨xs, rfl⟩
  | succ d ih =>
    intro k i xs hx hi hk
    obtain ⟨k, rfl⟩ : ∃ m, k = m + 1 := ⟨k - 1, by omega⟩
    simp only [laws_markCompS.l0]
    rw [if_pos (by omega), if_pos (by omega), Option.bind_some, hwrap_id (x := a + 2 * (i : Int) + 1) (by omega) (by omega), hwrap_id (x := (i : Int) + 1) (by omega) (by omega), hwrap_id (by omega) (by omega)]
    have e1 : a + 2 * (i : Int) + 1 + 1 = a + 2 * ((i + 1 : Nat) : Int) := by omega
    have e2 : (i : Int) + 1 = ((i + 1 : Nat) : Int) := by omega
    rw [e1, e2]
    exact ih k (i + 1) _ (by simp [hx]) (by omega) (by omega)
theorem markRule_gen (n : Nat) (hn : n ≤ 1000000000) (a : Int) (h0 : 0 ≤ a) (h1 : a ≤ 1000000000000) : ∀ (d k i : Nat) (xs : List S82), xs.length = n → i + d = n → d < k → ∃ ys, laws_markRuleS.l0 k xs (a + 2 * (i : Int)) (i : Int) = some (a + 2 * (n : Int), ys) := by
  intro d
  induction d with
  | zero =>
    intro k i xs hx hi hk
    obtain ⟨k, rfl⟩ : ∃ m, k = m + 1 := ⟨k - 1, by omega⟩
    simp only [laws_markRuleS.l0]
    rw [if_neg (by omega)]
    obtain rfl : i = n := by omega
    exact ⟨xs, rfl⟩
  | succ d ih =>
    intro k i xs hx hi hk
    obtain ⟨k, rfl⟩ : ∃ m, k = m + 1 := ⟨k - 1, by omega⟩
    simp only [laws_markRuleS.l0]
    rw [if_pos (by omega), if_pos (by omega), Option.bind_some, hwrap_id (x := a + 2 * (i : Int) + 1) (by omega) (by omega), hwrap_id (x := (i : Int) + 1) (by omega) (by omega), hwrap_id (by omega) (by omega)]
    have e1 : a + 2 * (i : Int) + 1 + 1 = a + 2 * ((i + 1 : Nat) : Int) := by omega
    have e2 : (i : Int) + 1 = ((i + 1 : Nat) : Int) := by omega
    rw [e1, e2]
    exact ih k (i + 1) _ (by simp [hx]) (by omega) (by omega)
def CT.leaves : CT → Nat
  | .ret _ => 1
  | .ask _ a b => a.leaves + b.leaves
theorem leaves_bd (t : CT) : 1 ≤ t.leaves ∧ t.leaves ≤ t.dep := by
  induction t with
  | ret n => simp [CT.leaves, CT.dep]
  | ask n a b iha ihb => simp only [CT.leaves, CT.dep]; omega
theorem l9S_step (k : Nat) (n : Int) (l : List S93) (i : Nat) (x : S93) (hl : l.length ≤ 1000) (h : l[i]? = some x) : spec_l9Size.l0 (k + 1) n l (l.length : Int) (i : Int) = (spec_l9Size.f k x.f0 x.f1 x.f2).bind fun t => spec_l9Size.l0 k (wrap64 (n + t)) l (l.length : Int) ((i + 1 : Nat) : Int) := by
  have hlt : i < l.length := by
    rcases Nat.lt_or_ge i l.length with z | z
    · exact z
    · rw [List.getElem?_eq_none z] at h; cases h
  have hr : rd_T93 l (i : Int) = x := by simp [rd_T93, List.getD_eq_getElem?_getD, h]
  simp only [spec_l9Size.l0]
  rw [if_pos (by omega), if_pos (by omega), if_pos (by omega), hr, wrap_id (x := (i : Int) + 1) (by omega) (by omega)]
  rfl
theorem l9S_end (k : Nat) (n : Int) (l : List S93) (i : Nat) (h : l.length = i) : spec_l9Size.l0 (k + 1) n l (l.length : Int) (i : Int) = some n := by
  simp only [spec_l9Size.l0]
  rw [if_neg (by omega)]
theorem l9S_f (k : Nat) (a : Bool) (b : Int) (l : List S93) : spec_l9Size.f (k + 1) a b l = spec_l9Size.l0 k 1 l (l.length : Int) 0 := by simp only [spec_l9Size.f]
theorem l9Size_eq (t : CT) : ∀ k, 4 * t.tall ≤ k → t.dep ≤ 1000000 → spec_l9Size.f k (cv t).f0 (cv t).f1 (cv t).f2 = some (t.dep : Int) := by
  induction t with
  | ret n =>
    intro k hk hd
    simp only [CT.tall] at hk
    obtain ⟨k, rfl⟩ : ∃ q, k = q + 2 := ⟨k - 2, by omega⟩
    show spec_l9Size.f (k + 2) false n [] = _
    rw [l9S_f]
    exact l9S_end k 1 [] 0 rfl
  | ask n a b iha ihb =>
    intro k hk hd
    simp only [CT.tall] at hk
    simp only [CT.dep] at hd
    obtain ⟨k, rfl⟩ : ∃ q, k = q + 4 := ⟨k - 4, by omega⟩
    show spec_l9Size.f (k + 4) true n [cv a, cv b] = _
    have s1 := l9S_step (k + 2) 1 [cv a, cv b] 0 (cv a) (by simp) rfl
    have s2 := l9S_step (k + 1) (1 + (a.dep : Int)) [cv a, cv b] 1 (cv b) (by simp) rfl
    rw [iha (k + 2) (by omega) (by omega), Option.bind_some, wrap_id (x := 1 + (a.dep : Int)) (by omega) (by omega)] at s1
    rw [ihb (k + 1) (by omega) (by omega), Option.bind_some, wrap_id (x := 1 + (a.dep : Int) + (b.dep : Int)) (by omega) (by omega), l9S_end k _ [cv a, cv b] 2 rfl] at s2
    rw [s2] at s1
    rw [l9S_f]
    simp only [Int.cast_ofNat_Int] at s1
    rw [s1]
    simp only [CT.dep]
    congr 1
theorem l9Leaves_eq (t : CT) : ∀ k, t.tall < k → t.dep ≤ 1000000 → spec_l9Leaves.f k (cv t).f0 (cv t).f1 (cv t).f2 = some (t.leaves : Int) := by
  induction t with
  | ret n =>
    intro k hk hd
    obtain ⟨k, rfl⟩ : ∃ q, k = q + 1 := ⟨k - 1, by omega⟩
    show spec_l9Leaves.f (k + 1) false n [] = _
    simp only [spec_l9Leaves.f]
    rw [if_neg (by simp)]
    rfl
  | ask n a b iha ihb =>
    intro k hk hd
    obtain ⟨k, rfl⟩ : ∃ q, k = q + 1 := ⟨k - 1, by omega⟩
    simp only [CT.tall] at hk
    simp only [CT.dep] at hd
    have la := leaves_bd a
    have lb := leaves_bd b
    have ea : rd_T93 [cv a, cv b] 0 = cv a := by simp [rd_T93]
    have eb : rd_T93 [cv a, cv b] 1 = cv b := by simp [rd_T93]
    show spec_l9Leaves.f (k + 1) true n [cv a, cv b] = _
    simp only [spec_l9Leaves.f, ea, eb]
    rw [if_pos trivial, if_pos (by simp), iha k (by omega) (by omega), Option.bind_some, if_pos (by simp), ihb k (by omega) (by omega), Option.bind_some, wrap_id (by omega) (by omega)]
    simp only [CT.leaves]
    congr 1
theorem both_dep (y x : CT) : (x.sub (bothF y)).dep + x.leaves = x.dep + x.leaves * y.dep := by
  induction x with
  | ret n => simp only [CT.sub, bothF, sub_add_dep, CT.leaves, CT.dep]; omega
  | ask n a b iha ihb => simp only [CT.sub, CT.leaves, CT.dep, Nat.add_mul]; omega
theorem l9With_eq (y : CT) (hy : y.ok) (x : CT) : ∀ k, x.tall + y.tall < k → x.ok → spec_l9With.f k (cv x).f0 (cv x).f1 (cv x).f2 (cv y).f0 (cv y).f1 (cv y).f2 = some ((cv (x.sub (bothF y))).f0, (cv (x.sub (bothF y))).f1, (cv (x.sub (bothF y))).f2) := by
  induction x with
  | ret n =>
    intro k hk ho
    obtain ⟨k, rfl⟩ : ∃ m, k = m + 1 := ⟨k - 1, by omega⟩
    obtain ⟨h0, h1⟩ := ho
    simp only [CT.tall] at hk
    show spec_l9With.f (k + 1) false n [] _ _ _ = _
    simp only [spec_l9With.f]
    rw [if_neg (by simp), l9Add_eq n h0 h1 y k (by omega) hy]
    rfl
  | ask n a b iha ihb =>
    intro k hk ho
    obtain ⟨k, rfl⟩ : ∃ m, k = m + 1 := ⟨k - 1, by omega⟩
    simp only [CT.tall] at hk
    have ea : rd_T93 [cv a, cv b] 0 = cv a := by simp [rd_T93]
    have eb : rd_T93 [cv a, cv b] 1 = cv b := by simp [rd_T93]
    show spec_l9With.f (k + 1) true n [cv a, cv b] _ _ _ = some (true, n, [cv (a.sub (bothF y)), cv (b.sub (bothF y))])
    simp only [spec_l9With.f, ea, eb]
    rw [if_pos trivial, if_pos (by simp), iha k (by omega) ho.1, Option.bind_some, if_pos (by simp), ihb k (by omega) ho.2, Option.bind_some]
    simp only [s93_eta]
theorem addF_ok' {by_ : Int} : ∀ n, (addF by_ n).ok := fun n => by unfold addF CT.ok; omega
theorem both_ok {y : CT} (hy : y.ok) (n : Int) : (bothF y n).ok := sub_ok_ (fun m _ _ => addF_ok' m) hy
theorem both_aok {y : CT} (hy : y.ok) (ha : y.aok) (n : Int) : (bothF y n).aok := sub_aok (f := addF n) (fun m _ _ => trivial) hy ha
theorem small_eq' {t : CT} (hd : t.dep ≤ 1000000) : small t = if t.dep ≤ 60 then some t else none := by
  unfold small
  by_cases h : t.dep ≤ 60
  · rw [if_pos h, if_pos ((size_le t hd).2 h)]
  · rw [if_neg h, if_neg (fun z => h ((size_le t hd).1 z))]
def HEq (r : Option CT) (o : Option (Bool × Int × List S93 × Bool)) : Prop := match r with
  | none => ∃ a b c, o = some (a, b, c, false)
  | some x => o = some ((cv x).f0, (cv x).f1, (cv x).f2, true) ∧ x.ok ∧ x.aok ∧ x.dep ≤ 60
theorem rule_in (ret : Int) (rs : List S82) (hg : goodHB ret rs = true) (n : Int) (h0 : 0 ≤ n) (h1 : n ≤ 2) : n < (rs.length : Int) ∧ (1 ≤ (rd_T82 rs n).f0 ∧ (rd_T82 rs n).f0 ≤ 5) ∧ 0 ≤ (rd_T82 rs n).f1 ∧ (rd_T82 rs n).f1 ≤ 99 := by
  unfold goodHB at hg
  simp only [Bool.and_eq_true, decide_eq_true_eq, List.all_eq_true] at hg
  obtain ⟨⟨_, hl⟩, hr⟩ := hg
  have hm : rd_T82 rs n ∈ rs := by
    have : n.toNat < rs.length := by omega
    simp only [rd_T82, List.getD_eq_getElem?_getD, List.getElem?_eq_getElem this, Option.getD_some]
    exact List.getElem_mem _
  have := hr _ hm
  refine ⟨by omega, ?_⟩
  unfold ruleB at this
  split at this
  · have := of_decide_eq_true this; omega
  · have := of_decide_eq_true this; omega
theorem handle_eq (ret : Int) (rs : List S82) (hg : goodHB ret rs = true) (t : CT) : t.ok → t.aok → ∀ k, t.tall + 1000 ≤ k → HEq (chandle ret rs t) (spec_l9Handle.f k ret rs (cv t).f0 (cv t).f1 (cv t).f2) := by
  have hret : 0 ≤ ret ∧ ret ≤ 99 := by
    unfold goodHB at hg
    simp only [Bool.and_eq_true, decide_eq_true_eq] at hg
    exact hg.1.1
  induction t with
  | ret n =>
    intro ho ha k hk
    obtain ⟨h0, h1⟩ := ho
    obtain ⟨k, rfl⟩ : ∃ m, k = m + 1 := ⟨k - 1, by omega⟩
    show HEq (some (.ret ((n + ret) % 100))) (spec_l9Handle.f (k + 1) ret rs false n [])
    simp only [spec_l9Handle.f]
    rw [if_neg (by simp), wrap_id (by omega) (by omega), Int.tmod_eq_emod_of_nonneg (by omega)]
    exact ⟨rfl, by unfold CT.ok; omega, trivial, by simp [CT.dep]⟩
  | ask n a b iha ihb =>
    intro ho ha k hk
    obtain ⟨k, rfl⟩ : ∃ m, k = m + 1 := ⟨k - 1, by omega⟩
    simp only [CT.tall] at hk
    obtain ⟨⟨n0, n2⟩, haa, hab⟩ := ha
    obtain ⟨hoa, hob⟩ := ho
    obtain ⟨hn, hk5, hf0, hf1⟩ := rule_in ret rs hg n n0 n2
    have A := iha hoa haa k (by omega)
    have B := ihb hob hab k (by omega)
    have ea : rd_T93 [cv a, cv b] 0 = cv a := by simp [rd_T93]
    have eb : rd_T93 [cv a, cv b] 1 = cv b := by simp [rd_T93]
    show HEq (chandle ret rs (.ask n a b)) (spec_l9Handle.f (k + 1) ret rs true n [cv a, cv b])
    simp only [spec_l9Handle.f, ea, eb, chandle]
    rw [if_pos trivial, if_pos n0, if_pos hn]
    by_cases c4 : (rd_T82 rs n).f0 = 4
    · rw [if_pos c4, if_pos c4]
      refine ⟨?_, by unfold CT.ok; omega, trivial, by simp [CT.dep]⟩
      rw [show (rd_T82 rs n).f1 % 100 = (rd_T82 rs n).f1 by omega]
      rfl
    rw [if_neg c4, if_neg c4]
    by_cases c1 : (rd_T82 rs n).f0 = 1
    · rw [if_pos c1, if_pos c1, if_pos (by simp)]
      cases hA : chandle ret rs a with
      | none => rw [hA] at A; obtain ⟨p, q, r, A⟩ := A; rw [A]; exact ⟨p, q, r, rfl⟩
      | some x =>
        rw [hA] at A
        obtain ⟨A, hx⟩ := A
        rw [A]
        simp only [Option.bind_some]
        rw [small_eq' (by omega), if_pos hx.2.2]
        exact ⟨rfl, hx⟩
    rw [if_neg c1, if_neg c1]
    by_cases c2 : (rd_T82 rs n).f0 = 2
    · rw [if_pos c2, if_pos c2, if_pos (by simp)]
      cases hB : chandle ret rs b with
      | none => rw [hB] at B; obtain ⟨p, q, r, B⟩ := B; rw [B]; exact ⟨p, q, r, rfl⟩
      | some x =>
        rw [hB] at B
        obtain ⟨B, hx⟩ := B
        rw [B]
        simp only [Option.bind_some]
        rw [small_eq' (by omega), if_pos hx.2.2]
        exact ⟨rfl, hx⟩
    rw [if_neg c2, if_neg c2, if_pos (by simp)]
    have hNo : ∀ k m p q z1 z2 z3 z4 z5 z6 z7 z8, spec_l9Handle.j0 (k + 1) true m p q z1 z2 z3 z4 z5 z6 z7 z8 = some (false, 0, [], false) := by
      intros; simp only [spec_l9Handle.j0]; rw [if_pos trivial]
    obtain ⟨k, rfl⟩ : ∃ m, k = m + 1 := ⟨k - 1, by omega⟩
    cases hA : chandle ret rs a with
    | none =>
      rw [hA] at A
      obtain ⟨p, q, r, A⟩ := A
      rw [A]
      simp only [Option.bind_some, Option.bind_none]
      rw [if_pos (by simp)]
      have B' : ∃ z1 z2 z3 z4, spec_l9Handle.f (k + 1) ret rs (cv b).f0 (cv b).f1 (cv b).f2 = some (z1, z2, z3, z4) := by
        cases hB : chandle ret rs b with
        | none => rw [hB] at B; obtain ⟨p, q, r, B⟩ := B; exact ⟨_, _, _, _, B⟩
        | some x => rw [hB] at B; exact ⟨_, _, _, _, B.1⟩
      obtain ⟨z1, z2, z3, z4, B'⟩ := B'
      rw [B']
      simp only [Option.bind_some]
      rw [if_neg (by simp), hNo]
      exact ⟨_, _, _, rfl⟩
    | some x =>
      rw [hA] at A
      obtain ⟨A, hx⟩ := A
      rw [A]
      simp only [Option.bind_some]
      rw [if_pos (by simp)]
      cases hB : chandle ret rs b with
      | none =>
        rw [hB] at B
        obtain ⟨p, q, r, B⟩ := B
        rw [B]
        simp only [Option.bind_some, Option.bind_none]
        rw [if_pos trivial]
        show HEq none (spec_l9Handle.j0 (k + 1) true _ _ _ _ _ _ _ _ _ _ _)
        rw [hNo]
        exact ⟨_, _, _, rfl⟩
      | some y =>
        rw [hB] at B
        obtain ⟨B, hy⟩ := B
        rw [B]
        simp only [Option.bind_some]
        rw [if_pos trivial]
        show HEq _ (spec_l9Handle.j0 (k + 1) false _ _ _ _ _ _ _ _ _ _ _)
        (try simp only [spec_l9Handle.j0])
        rw [if_neg (show ¬ (false = true) by simp)]
        have tx := tall_dep x
        have ty := tall_dep y
        have lx := leaves_bd x
        have dy := dep_pos y
        by_cases c3 : (rd_T82 rs n).f0 = 3
        · rw [if_neg (show ¬ (rd_T82 rs n).f0 = 5 by omega), if_pos c3, l9Size_eq x k (by omega) (by omega), Option.bind_some, l9Leaves_eq x k (by omega) (by omega), Option.bind_some, l9Size_eq y k (by omega) (by omega), Option.bind_some]
          have hb := both_dep y x
          have hmul : (x.leaves : Int) * ((y.dep : Int) - 1) = (x.leaves * y.dep : Nat) - (x.leaves : Int) := by rw [Int.natCast_mul, Int.mul_sub, Int.mul_one]
          have hle : x.leaves * y.dep ≤ 60 * 60 := Nat.mul_le_mul (by omega) (by omega)
          have hge : x.leaves * 1 ≤ x.leaves * y.dep := Nat.mul_le_mul (Nat.le_refl _) dy
          rw [Nat.mul_one] at hge
          rw [wrap_id (x := (y.dep : Int) - 1) (by omega) (by omega), hmul, wrap_id (x := ((x.leaves * y.dep : Nat) : Int) - (x.leaves : Int)) (by omega) (by omega), wrap_id (by omega) (by omega), small_eq' (by omega)]
          by_cases hs : (x.sub (bothF y)).dep ≤ 60
          · rw [if_pos hs, if_neg (show ¬ ((x.dep : Int) + (((x.leaves * y.dep : Nat) : Int) - (x.leaves : Int)) > 60) by omega), l9With_eq y hy.1 x k (by omega) hx.1, Option.bind_some]
            exact ⟨rfl, sub_ok_ (fun m _ _ => both_ok hy.1 m) hx.1, sub_aok (fun m _ _ => both_aok hy.1 hy.2.1 m) hx.1 hx.2.1, hs⟩
          · rw [if_neg hs, if_pos (show ((x.dep : Int) + (((x.leaves * y.dep : Nat) : Int) - (x.leaves : Int)) > 60) by omega)]
            exact ⟨_, _, _, rfl⟩
        · rw [if_pos (show (rd_T82 rs n).f0 = 5 by omega), if_neg c3]
          simp only [Option.bind_some, s93_eta]
          have hsz := l9Size_eq (.ask n x y) k (by simp only [CT.tall]; omega) (by simp only [CT.dep]; omega)
          have hsz' : spec_l9Size.f k true n [cv x, cv y] = some ((CT.ask n x y).dep : Int) := hsz
          rw [hsz', Option.bind_some, small_eq' (by simp only [CT.dep]; omega)]
          by_cases hs : (CT.ask n x y).dep ≤ 60
          · rw [if_pos hs, at_ (by omega)]
            exact ⟨rfl, ⟨hx.1, hy.1⟩, ⟨⟨n0, n2⟩, hx.2.1, hy.2.1⟩, hs⟩
          · rw [if_neg hs, decide_eq_false (by omega)]
            exact ⟨_, _, _, rfl⟩
theorem specHandle_eq (ret : Int) (rs : List S82) (l : List S83) (hr : rs.length ≤ 1048576) (k : Nat) (hk : 1050000 ≤ k) : spec_HandleComp.f k ret rs l = some (handleOf ret rs l) := by
  have h := l9Tree_eq l k (by omega)
  unfold spec_HandleComp.f handleOf
  obtain ⟨k, rfl⟩ : ∃ m, k = m + 1 := ⟨k - 1, by omega⟩
  have hNo : ∀ m p q z1 z2, spec_HandleComp.j0 (k + 1) true m p q z1 z2 = some ([], false) := by
    intros; simp only [spec_HandleComp.j0]; rw [if_pos trivial]
  cases hq : cof l with
  | none =>
    rw [hq] at h
    obtain ⟨b, n, ks, h⟩ := h
    rw [h]
    simp only [Option.bind_some]
    rw [if_neg (by simp), hNo]
  | some t =>
    rw [hq] at h
    simp only at h
    rw [h]
    simp only [Option.bind_some]
    rw [if_pos trivial, specGoodHandler_eq ret rs (by omega) _ (by omega), Option.bind_some]
    cases hg : goodHB ret rs with
    | false =>
      rw [if_neg (by simp)]
      show spec_HandleComp.j0 (k + 1) true _ _ _ _ _ = _
      rw [hNo]
    | true =>
      rw [if_pos rfl]
      show spec_HandleComp.j0 (k + 1) false _ _ _ _ _ = _
      simp only [spec_HandleComp.j0]
      have htl := tall_dep t
      have hdp := cof_dep hq
      have H := handle_eq ret rs hg t (cof_ok hq) (cof_aok hq) k (by omega)
      rw [if_neg (by simp)]
      cases hc : chandle ret rs t with
      | none =>
        rw [hc] at H
        obtain ⟨p, q, r, H⟩ := H
        rw [H]
        simp only [Option.bind_some]
        rw [if_neg (by simp)]
        rfl
      | some u =>
        rw [hc] at H
        obtain ⟨H, ho, ha, hd⟩ := H
        have hut := tall_dep u
        rw [H]
        simp only [Option.bind_some]
        rw [if_pos trivial, tell_eq u ho ha (by omega) (by omega) k (by omega)]
        rfl
theorem handleOf_len (ret : Int) (rs : List S82) (l : List S83) : (handleOf ret rs l).1.length ≤ 60 := by
  unfold handleOf
  split
  · simp
  · split
    · unfold handleTo
      split
      · simp
      · exact goodOf_len _
    · simp
end Go.Proofs.Ytjnaokdncemggaa.PAll

end

section
namespace Go.Proofs.Ytjnaokdncemggaa.PAll
open Go.RowKit Go.Proofs.YtjnaokdncemggaaW.PrintWords Go.Proofs.YtjnaokdncemggaaW.PrintLast Go.Proofs.YtjnaokdncemggaaW.PrintMore
attribute [local go_sem] max2_int min2_int max_two min_two max_three min_three max_four min_four   -- for this text's walks alone
set_option linter.unusedVariables false
set_option linter.unusedSimpArgs false
def laws_eqHandler.f (k : Nat) (a0_0 : Int) (l0_1 : List (S82)) (a1_0 : Int) (l1_1 : List (S82)) : Option (Bool) := if a0_0 = a1_0 then ((laws_eqRuleS.f k l0_1 l1_1).bind fun t138 => (if t138 = true then (some true) else (some false))) else (some false)
theorem laws_eqHandler.mono : ∀ a0 a1 a2 a3 k, LeO (laws_eqHandler.f k a0 a1 a2 a3) (laws_eqHandler.f (k + 1) a0 a1 a2 a3) := by
  intro a0 a1 a2 a3 k
  unfold laws_eqHandler.f
  repeat' first
      | (with_reducible exact laws_eqRuleS.mono _ _ _)
      | (with_reducible exact LeO.refl _)
      | (with_reducible exact LeO.none _)
      | (with_reducible refine LeO.ite ?_ ?_)
      | (with_reducible refine LeO.bind ?_ (fun _ => ?_))
      | exact laws_eqRuleS.mono _ _ _
      | exact LeO.none _
      | refine LeO.ite ?_ ?_
      | refine LeO.bind ?_ (fun _ => ?_)
set_option maxHeartbeats 8000000 in
set_option maxRecDepth 100000 in
theorem laws_eqHandler.calls (k : Nat) (a0_0 : Int) (A0_1 : Option Addr) (c0_1 : Nat) (l0_1 : List (S82)) (a1_0 : Int) (A1_1 : Option Addr) (c1_1 : Nat) (l1_1 : List (S82)) (r : Bool) (w : World) (hr0_1 : Kd.C k82 w A0_1 l0_1.length l0_1) (hc0_1 : l0_1.length ≤ c0_1) (hr1_1 : Kd.C k82 w A1_1 l1_1.length l1_1) (hc1_1 : l1_1.length ≤ c1_1) (h : laws_eqHandler.f k a0_0 l0_1 a1_0 l1_1 = some r) :
    Calls Try.prog 17 #[.agg #[.int .i64 a0_0, .slice A0_1 l0_1.length c0_1], .agg #[.int .i64 a1_0, .slice A1_1 l1_1.length c1_1]] w fun e w' => e = .returned (.bool r) ∧ Below w.heap.size w w' := by
  have hu29 := Try.underlying29
  have HR0_1 := ab_ hr0_1
  have HC0_1 := ab_ hc0_1
  clear hr0_1 hc0_1
  have HR1_1 := ab_ hr1_1
  have HC1_1 := ab_ hc1_1
  clear hr1_1 hc1_1
  have HB := ab_ (av_ w.heap.size w)
  have H : (if a0_0 = a1_0 then ((laws_eqRuleS.f k l0_1 l1_1).bind fun t138 => (if t138 = true then (some true) else (some false))) else (some false)) = some r := h
  clear h
  by_cases c3 : a0_0 = a1_0
  · rw [if_pos c3] at H
    have c3b0 : (a0_0 == a1_0) = true := beq_iff_eq.mpr c3
    have c3b1 : (a0_0 != a1_0) = false := bne_eq_false_iff_eq.mpr c3
    clear c3
    replace H := Option.bind_eq_some_iff.mp H
    obtain ⟨t138, A40, H⟩ := H
    replace H : (if t138 = true then (some true) else (some false)) = some r := H
    have A4 := ab_ A40
    clear A40
    by_cases c5 : t138 = true
    · subst c5
      have H1 : (some true) = some r := by rw [if_pos rfl] at H; exact H
      clear H
      have H := H1
      clear H1
      obtain rfl := Option.some.inj H
      go_enter Try.func17, Try.ntmps17
      go_wp2_with (first | ((with_reducible refine gate_dst (N := 2) rfl ?_); refine box_event ?hg (N := 2) ?hd (cs := #[.int .i64 a0_0, .slice A0_1 l0_1.length c0_1]) (t := 29) ?hr ?_; (case hd => rfl); (case hg => rfl); (case hr => first | (go_simp; done) | (go_simp; rfl)); intro gb136 hg w6 hbox hb; have n0_ := ab_ (au_ (by repeat (first | (with_reducible first | exact HB.out | apply ai_ | apply ag_ | apply ah_) | exact HB.out)) hb); have n1_ := ab_ (hbox); have n2_ := ab_ ((by rw [hg]; exact (below_size (by repeat (first | (with_reducible first | exact HB.out | apply ai_ | apply ag_ | apply ah_) | exact HB.out))) : w.heap.size ≤ gb136)); have n3_ := ab_ ((by rw [hg]; exact (below_size (by repeat (first | (with_reducible first | exact HB.out | apply ai_ | apply ag_ | apply ah_) | exact HB.out))) : w.heap.size ≤ gb136)); clear HB; have HB := n0_; have BK136 := n1_; have GW136 := n2_; have GE136 := n3_; clear n0_ n1_ n2_ n3_; clear hb hbox hg) | ((with_reducible refine gate_dst (N := 3) rfl ?_); refine box_event ?hg (N := 3) ?hd (cs := #[.int .i64 a1_0, .slice A1_1 l1_1.length c1_1]) (t := 29) ?hr ?_; (case hd => rfl); (case hg => rfl); (case hr => first | (go_simp; done) | (go_simp; rfl)); intro gb137 hg w7 hbox hb; have n0_ := ab_ (blk_below (g := gb136) (o := .cells #[.int .i64 a0_0, .slice A0_1 l0_1.length c0_1] 29 (0, 0)) (by (with_reducible repeat (first | refine ac_ ?_ _ | refine ae_ ?_ | refine ad_ ?_ _)); exact BK136.out) hb); have n1_ := ab_ (au_ (by repeat (first | (with_reducible first | exact HB.out | apply ai_ | apply ag_ | apply ah_ | refine af_ ?_ GE136.out) | exact HB.out)) hb); have n2_ := ab_ (hbox); have n3_ := ab_ ((by rw [hg]; exact (below_size (by repeat (first | (with_reducible first | exact HB.out | apply ai_ | apply ag_ | apply ah_ | refine af_ ?_ GE136.out) | exact HB.out))) : w.heap.size ≤ gb137)); have n4_ := ab_ ((by rw [hg]; exact (below_size (by repeat (first | (with_reducible first | exact HB.out | apply ai_ | apply ag_ | apply ah_ | refine af_ ?_ GE136.out) | exact HB.out))) : w.heap.size ≤ gb137)); have n5_ := ab_ ((by rw [hg]; exact ak_ (blk_lt (g := gb136) (o := .cells #[.int .i64 a0_0, .slice A0_1 l0_1.length c0_1] 29 (0, 0)) (by (with_reducible repeat (first | refine ac_ ?_ _ | refine ae_ ?_ | refine ad_ ?_ _)); exact BK136.out)) : gb136 ≠ gb137)); have n6_ := ab_ ((by rw [hg]; exact Nat.ne_of_gt (blk_lt (g := gb136) (o := .cells #[.int .i64 a0_0, .slice A0_1 l0_1.length c0_1] 29 (0, 0)) (by (with_reducible repeat (first | refine ac_ ?_ _ | refine ae_ ?_ | refine ad_ ?_ _)); exact BK136.out)) : gb137 ≠ gb136)); clear BK136; clear HB; have BK136 := n0_; have HB := n1_; have BK137 := n2_; have GW137 := n3_; have GE137 := n4_; have NB136_137 := n5_; have NB137_136 := n6_; clear n0_ n1_ n2_ n3_ n4_ n5_ n6_; clear hb hbox hg; have hnb8 := NB136_137.out; have hnc8 := NB137_136.out; have hcz9_0 : w7.cell? ⟨gb136, 0, none⟩ = some (.int .i64 a0_0) := (an_ BK136.out 0).trans rfl; have hcz9_1 : w7.cell? ⟨gb136, 1, none⟩ = some (.slice A0_1 l0_1.length c0_1) := (an_ BK136.out 1).trans rfl; have hfz9_0 := am_ BK136.out 0; have hfz9_1 := am_ BK136.out 1; have hcz10_0 : w7.cell? ⟨gb137, 0, none⟩ = some (.int .i64 a1_0) := (an_ BK137.out 0).trans rfl; have hcz10_1 : w7.cell? ⟨gb137, 1, none⟩ = some (.slice A1_1 l1_1.length c1_1) := (an_ BK137.out 1).trans rfl; have hfz10_0 := am_ BK137.out 0; have hfz10_1 := am_ BK137.out 1) | ((with_reducible refine gate_callee (f := 63) rfl ?_); refine goesL_ (some 14) rfl rfl Try.func63 (by kernel_rfl) rfl #[.slice A0_1 l0_1.length c0_1, .slice A1_1 l1_1.length c1_1] rfl (by (try simp only [List.map_toArray, List.map_cons, List.map_nil]); first | done | rfl | (simp only [List.length_drop, List.length_take]; rfl)) ?_; (with_reducible refine (laws_eqRuleS.calls k _ _ l0_1 _ _ l1_1 true _ ?side1 ?side2 ?side3 ?side4 A4.out).mono ?_); (case side1 => repeat (first | exact (Kd.C_below HR0_1.out HB.out) | (with_reducible refine ar_ ?_ _) | (with_reducible refine as_ ?_ _) | (with_reducible refine Kd.C_drew ?_))); (case side2 => exact HC0_1.out); (case side3 => repeat (first | exact (Kd.C_below HR1_1.out HB.out) | (with_reducible refine ar_ ?_ _) | (with_reducible refine as_ ?_ _) | (with_reducible refine Kd.C_drew ?_))); (case side4 => exact HC1_1.out); rintro e w11 ⟨rfl, hb⟩; refine ⟨_, rfl, ?_⟩; have n0_ := ab_ (blk_below (g := gb136) (o := .cells #[.int .i64 a0_0, .slice A0_1 l0_1.length c0_1] 29 (0, 0)) (by (with_reducible repeat (first | refine ac_ ?_ _ | refine ae_ ?_ | refine ad_ ?_ _)); exact BK136.out) hb); have n1_ := ab_ (blk_below (g := gb137) (o := .cells #[.int .i64 a1_0, .slice A1_1 l1_1.length c1_1] 29 (0, 0)) (by (with_reducible repeat (first | refine ac_ ?_ _ | refine ae_ ?_ | refine ad_ ?_ _)); exact BK137.out) hb); have n2_ := ab_ (au_ (by repeat (first | (with_reducible first | exact HB.out | apply ai_ | apply ag_ | apply ah_ | refine af_ ?_ GE136.out | refine af_ ?_ GE137.out) | exact HB.out)) hb); clear BK136; clear BK137; clear HB; have BK136 := n0_; have BK137 := n1_; have HB := n2_; clear n0_ n1_ n2_; (try clear hb); (try clear hb2); (try clear hk); (try clear hi)))
      go_ret
      exact ⟨by first | rfl | (simp [errW_none, errW_some] <;> rfl) | (simp [*, errW_none, errW_some] <;> rfl), by repeat (first | (with_reducible first | exact HB.out | apply ai_ | apply ag_ | apply ah_ | refine af_ ?_ GE136.out | refine af_ ?_ GE137.out) | exact HB.out)⟩
    · replace c5 := Bool.eq_false_iff.mpr c5
      subst c5
      have H1 : (some false) = some r := by rw [if_neg (show ¬ (false = true) by decide)] at H; exact H
      clear H
      have H := H1
      clear H1
      obtain rfl := Option.some.inj H
      go_enter Try.func17, Try.ntmps17
      go_wp2_with (first | ((with_reducible refine gate_dst (N := 2) rfl ?_); refine box_event ?hg (N := 2) ?hd (cs := #[.int .i64 a0_0, .slice A0_1 l0_1.length c0_1]) (t := 29) ?hr ?_; (case hd => rfl); (case hg => rfl); (case hr => first | (go_simp; done) | (go_simp; rfl)); intro gb136 hg w12 hbox hb; have n0_ := ab_ (au_ (by repeat (first | (with_reducible first | exact HB.out | apply ai_ | apply ag_ | apply ah_) | exact HB.out)) hb); have n1_ := ab_ (hbox); have n2_ := ab_ ((by rw [hg]; exact (below_size (by repeat (first | (with_reducible first | exact HB.out | apply ai_ | apply ag_ | apply ah_) | exact HB.out))) : w.heap.size ≤ gb136)); have n3_ := ab_ ((by rw [hg]; exact (below_size (by repeat (first | (with_reducible first | exact HB.out | apply ai_ | apply ag_ | apply ah_) | exact HB.out))) : w.heap.size ≤ gb136)); clear HB; have HB := n0_; have BK136 := n1_; have GW136 := n2_; have GE136 := n3_; clear n0_ n1_ n2_ n3_; clear hb hbox hg) | ((with_reducible refine gate_dst (N := 3) rfl ?_); refine box_event ?hg (N := 3) ?hd (cs := #[.int .i64 a1_0, .slice A1_1 l1_1.length c1_1]) (t := 29) ?hr ?_; (case hd => rfl); (case hg => rfl); (case hr => first | (go_simp; done) | (go_simp; rfl)); intro gb137 hg w13 hbox hb; have n0_ := ab_ (blk_below (g := gb136) (o := .cells #[.int .i64 a0_0, .slice A0_1 l0_1.length c0_1] 29 (0, 0)) (by (with_reducible repeat (first | refine ac_ ?_ _ | refine ae_ ?_ | refine ad_ ?_ _)); exact BK136.out) hb); have n1_ := ab_ (au_ (by repeat (first | (with_reducible first | exact HB.out | apply ai_ | apply ag_ | apply ah_ | refine af_ ?_ GE136.out) | exact HB.out)) hb); have n2_ := ab_ (hbox); have n3_ := ab_ ((by rw [hg]; exact (below_size (by repeat (first | (with_reducible first | exact HB.out | apply ai_ | apply ag_ | apply ah_ | refine af_ ?_ GE136.out) | exact HB.out))) : w.heap.size ≤ gb137)); have n4_ := ab_ ((by rw [hg]; exact (below_size (by repeat (first | (with_reducible first | exact HB.out | apply ai_ | apply ag_ | apply ah_ | refine af_ ?_ GE136.out) | exact HB.out))) : w.heap.size ≤ gb137)); have n5_ := ab_ ((by rw [hg]; exact ak_ (blk_lt (g := gb136) (o := .cells #[.int .i64 a0_0, .slice A0_1 l0_1.length c0_1] 29 (0, 0)) (by (with_reducible repeat (first | refine ac_ ?_ _ | refine ae_ ?_ | refine ad_ ?_ _)); exact BK136.out)) : gb136 ≠ gb137)); have n6_ := ab_ ((by rw [hg]; exact Nat.ne_of_gt (blk_lt (g := gb136) (o := .cells #[.int .i64 a0_0, .slice A0_1 l0_1.length c0_1] 29 (0, 0)) (by (with_reducible repeat (first | refine ac_ ?_ _ | refine ae_ ?_ | refine ad_ ?_ _)); exact BK136.out)) : gb137 ≠ gb136)); clear BK136; clear HB; have BK136 := n0_; have HB := n1_; have BK137 := n2_; have GW137 := n3_; have GE137 := n4_; have NB136_137 := n5_; have NB137_136 := n6_; clear n0_ n1_ n2_ n3_ n4_ n5_ n6_; clear hb hbox hg; have hnb14 := NB136_137.out; have hnc14 := NB137_136.out; have hcz15_0 : w13.cell? ⟨gb136, 0, none⟩ = some (.int .i64 a0_0) := (an_ BK136.out 0).trans rfl; have hcz15_1 : w13.cell? ⟨gb136, 1, none⟩ = some (.slice A0_1 l0_1.length c0_1) := (an_ BK136.out 1).trans rfl; have hfz15_0 := am_ BK136.out 0; have hfz15_1 := am_ BK136.out 1; have hcz16_0 : w13.cell? ⟨gb137, 0, none⟩ = some (.int .i64 a1_0) := (an_ BK137.out 0).trans rfl; have hcz16_1 : w13.cell? ⟨gb137, 1, none⟩ = some (.slice A1_1 l1_1.length c1_1) := (an_ BK137.out 1).trans rfl; have hfz16_0 := am_ BK137.out 0; have hfz16_1 := am_ BK137.out 1) | ((with_reducible refine gate_callee (f := 63) rfl ?_); refine goesL_ (some 14) rfl rfl Try.func63 (by kernel_rfl) rfl #[.slice A0_1 l0_1.length c0_1, .slice A1_1 l1_1.length c1_1] rfl (by (try simp only [List.map_toArray, List.map_cons, List.map_nil]); first | done | rfl | (simp only [List.length_drop, List.length_take]; rfl)) ?_; (with_reducible refine (laws_eqRuleS.calls k _ _ l0_1 _ _ l1_1 false _ ?side1 ?side2 ?side3 ?side4 A4.out).mono ?_); (case side1 => repeat (first | exact (Kd.C_below HR0_1.out HB.out) | (with_reducible refine ar_ ?_ _) | (with_reducible refine as_ ?_ _) | (with_reducible refine Kd.C_drew ?_))); (case side2 => exact HC0_1.out); (case side3 => repeat (first | exact (Kd.C_below HR1_1.out HB.out) | (with_reducible refine ar_ ?_ _) | (with_reducible refine as_ ?_ _) | (with_reducible refine Kd.C_drew ?_))); (case side4 => exact HC1_1.out); rintro e w17 ⟨rfl, hb⟩; refine ⟨_, rfl, ?_⟩; have n0_ := ab_ (blk_below (g := gb136) (o := .cells #[.int .i64 a0_0, .slice A0_1 l0_1.length c0_1] 29 (0, 0)) (by (with_reducible repeat (first | refine ac_ ?_ _ | refine ae_ ?_ | refine ad_ ?_ _)); exact BK136.out) hb); have n1_ := ab_ (blk_below (g := gb137) (o := .cells #[.int .i64 a1_0, .slice A1_1 l1_1.length c1_1] 29 (0, 0)) (by (with_reducible repeat (first | refine ac_ ?_ _ | refine ae_ ?_ | refine ad_ ?_ _)); exact BK137.out) hb); have n2_ := ab_ (au_ (by repeat (first | (with_reducible first | exact HB.out | apply ai_ | apply ag_ | apply ah_ | refine af_ ?_ GE136.out | refine af_ ?_ GE137.out) | exact HB.out)) hb); clear BK136; clear BK137; clear HB; have BK136 := n0_; have BK137 := n1_; have HB := n2_; clear n0_ n1_ n2_; (try clear hb); (try clear hb2); (try clear hk); (try clear hi)))
      go_ret
      exact ⟨by first | rfl | (simp [errW_none, errW_some] <;> rfl) | (simp [*, errW_none, errW_some] <;> rfl), by repeat (first | (with_reducible first | exact HB.out | apply ai_ | apply ag_ | apply ah_ | refine af_ ?_ GE136.out | refine af_ ?_ GE137.out) | exact HB.out)⟩
  · rw [if_neg c3] at H
    have c3b0 : (a0_0 == a1_0) = false := beq_eq_false_iff_ne.mpr c3
    have c3b1 : (a0_0 != a1_0) = true := bne_iff_ne.mpr c3
    obtain rfl := Option.some.inj H
    go_enter Try.func17, Try.ntmps17
    go_wp2_with (first | ((with_reducible refine gate_dst (N := 2) rfl ?_); refine box_event ?hg (N := 2) ?hd (cs := #[.int .i64 a0_0, .slice A0_1 l0_1.length c0_1]) (t := 29) ?hr ?_; (case hd => rfl); (case hg => rfl); (case hr => first | (go_simp; done) | (go_simp; rfl)); intro gb136 hg w18 hbox hb; have n0_ := ab_ (au_ (by repeat (first | (with_reducible first | exact HB.out | apply ai_ | apply ag_ | apply ah_) | exact HB.out)) hb); have n1_ := ab_ (hbox); have n2_ := ab_ ((by rw [hg]; exact (below_size (by repeat (first | (with_reducible first | exact HB.out | apply ai_ | apply ag_ | apply ah_) | exact HB.out))) : w.heap.size ≤ gb136)); have n3_ := ab_ ((by rw [hg]; exact (below_size (by repeat (first | (with_reducible first | exact HB.out | apply ai_ | apply ag_ | apply ah_) | exact HB.out))) : w.heap.size ≤ gb136)); clear HB; have HB := n0_; have BK136 := n1_; have GW136 := n2_; have GE136 := n3_; clear n0_ n1_ n2_ n3_; clear hb hbox hg) | ((with_reducible refine gate_dst (N := 3) rfl ?_); refine box_event ?hg (N := 3) ?hd (cs := #[.int .i64 a1_0, .slice A1_1 l1_1.length c1_1]) (t := 29) ?hr ?_; (case hd => rfl); (case hg => rfl); (case hr => first | (go_simp; done) | (go_simp; rfl)); intro gb137 hg w19 hbox hb; have n0_ := ab_ (blk_below (g := gb136) (o := .cells #[.int .i64 a0_0, .slice A0_1 l0_1.length c0_1] 29 (0, 0)) (by (with_reducible repeat (first | refine ac_ ?_ _ | refine ae_ ?_ | refine ad_ ?_ _)); exact BK136.out) hb); have n1_ := ab_ (au_ (by repeat (first | (with_reducible first | exact HB.out | apply ai_ | apply ag_ | apply ah_ | refine af_ ?_ GE136.out) | exact HB.out)) hb); have n2_ := ab_ (hbox); have n3_ := ab_ ((by rw [hg]; exact (below_size (by repeat (first | (with_reducible first | exact HB.out | apply ai_ | apply ag_ | apply ah_ | refine af_ ?_ GE136.out) | exact HB.out))) : w.heap.size ≤ gb137)); have n4_ := ab_ ((by rw [hg]; exact (below_size (by repeat (first | (with_reducible first | exact HB.out | apply ai_ | apply ag_ | apply ah_ | refine af_ ?_ GE136.out) | exact HB.out))) : w.heap.size ≤ gb137)); have n5_ := ab_ ((by rw [hg]; exact ak_ (blk_lt (g := gb136) (o := .cells #[.int .i64 a0_0, .slice A0_1 l0_1.length c0_1] 29 (0, 0)) (by (with_reducible repeat (first | refine ac_ ?_ _ | refine ae_ ?_ | refine ad_ ?_ _)); exact BK136.out)) : gb136 ≠ gb137)); have n6_ := ab_ ((by rw [hg]; exact Nat.ne_of_gt (blk_lt (g := gb136) (o := .cells #[.int .i64 a0_0, .slice A0_1 l0_1.length c0_1] 29 (0, 0)) (by (with_reducible repeat (first | refine ac_ ?_ _ | refine ae_ ?_ | refine ad_ ?_ _)); exact BK136.out)) : gb137 ≠ gb136)); clear BK136; clear HB; have BK136 := n0_; have HB := n1_; have BK137 := n2_; have GW137 := n3_; have GE137 := n4_; have NB136_137 := n5_; have NB137_136 := n6_; clear n0_ n1_ n2_ n3_ n4_ n5_ n6_; clear hb hbox hg; have hnb20 := NB136_137.out; have hnc20 := NB137_136.out; have hcz21_0 : w19.cell? ⟨gb136, 0, none⟩ = some (.int .i64 a0_0) := (an_ BK136.out 0).trans rfl; have hcz21_1 : w19.cell? ⟨gb136, 1, none⟩ = some (.slice A0_1 l0_1.length c0_1) := (an_ BK136.out 1).trans rfl; have hfz21_0 := am_ BK136.out 0; have hfz21_1 := am_ BK136.out 1; have hcz22_0 : w19.cell? ⟨gb137, 0, none⟩ = some (.int .i64 a1_0) := (an_ BK137.out 0).trans rfl; have hcz22_1 : w19.cell? ⟨gb137, 1, none⟩ = some (.slice A1_1 l1_1.length c1_1) := (an_ BK137.out 1).trans rfl; have hfz22_0 := am_ BK137.out 0; have hfz22_1 := am_ BK137.out 1))
    go_ret
    exact ⟨by first | rfl | (simp [errW_none, errW_some] <;> rfl) | (simp [*, errW_none, errW_some] <;> rfl), by repeat (first | (with_reducible first | exact HB.out | apply ai_ | apply ag_ | apply ah_ | refine af_ ?_ GE136.out | refine af_ ?_ GE137.out) | exact HB.out)⟩
end Go.Proofs.Ytjnaokdncemggaa.PAll

end

section
namespace Go.Proofs.Ytjnaokdncemggaa.PAll
open Go.RowKit Go.Proofs.YtjnaokdncemggaaW.PrintWords Go.Proofs.YtjnaokdncemggaaW.PrintLast Go.Proofs.YtjnaokdncemggaaW.PrintMore
attribute [local go_sem] max2_int min2_int max_two min_two max_three min_three max_four min_four   -- for this text's walks alone
set_option linter.unusedVariables false
set_option linter.unusedSimpArgs false
def impl_HandleComp.f (a0_0 : Int) (l0_1 : List (S82)) (l1 : List (S83)) : Option ((List (S83)) × Bool) := some (handleOf a0_0 l0_1 l1)
theorem impl_HandleComp.calls (a0_0 : Int) (A0_1 : Option Addr) (c0_1 : Nat) (l0_1 : List (S82)) (A1 : Option Addr) (c1 : Nat) (l1 : List (S83)) (r1 : List (S83)) (r2 : Bool) (w : World) (hr0_1 : Kd.C k82 w A0_1 l0_1.length l0_1) (hc0_1 : l0_1.length ≤ c0_1) (hr1 : Kd.C k83 w A1 l1.length l1) (hc1 : l1.length ≤ c1) (h : impl_HandleComp.f a0_0 l0_1 l1 = some (r1, r2)) :
    Calls Try.prog 53 #[.agg #[.int .i64 a0_0, .slice A0_1 l0_1.length c0_1], .slice A1 l1.length c1] w fun e w' => ∃ v0_ : Value, e = .returned (.tuple #[v0_, .bool r2]) ∧ Kd.R k83 83 w' w.heap.size (fun _ => True) v0_ r1 ∧ Below w.heap.size w w' := by
  have e := Option.some.inj h
  have := HandleComp_calls a0_0 l0_1 A0_1 c0_1 l1 A1 c1 w hr0_1 hc0_1 hr1 hc1
  rw [e] at this
  exact this
end Go.Proofs.Ytjnaokdncemggaa.PAll

end

section
namespace Go.Proofs.Ytjnaokdncemggaa.PAll
open Go.RowKit Go.Proofs.YtjnaokdncemggaaW.PrintWords Go.Proofs.YtjnaokdncemggaaW.PrintLast Go.Proofs.YtjnaokdncemggaaW.PrintMore
attribute [local go_sem] max2_int min2_int max_two min_two max_three min_three max_four min_four   -- for this text's walks alone
set_option linter.unusedVariables false
set_option linter.unusedSimpArgs false
mutual
def laws_FnExactHandleComp.j0 : Nat → List (S97) → List (S83) → Bool → List (S83) → List (S83) → Bool → Bool → Int → List (S126) → Int → List (S82) → Option (Bool)
  | 0, _, _, _, _, _, _, _, _, _, _, _ => none
  | k + 1, x1, x6, x7, x9, x10, x11, x53, x993000, x993001, x1011000, x1011001 => if x53 = true then (some false) else ((laws_toHandler.f k x993000 x993001).bind fun bt1019 => ((laws_eqHandler.f k x1011000 x1011001 bt1019.1 bt1019.2).bind fun t1023 => (if t1023 = true then ((laws_toCompS.f k x1).bind fun t1024 => ((laws_eqCompS.f k x9 t1024).bind fun t1027 => (if t1027 = true then ((laws_markHandler.f k x1011000 x1011001 1).bind fun bt1028 => ((laws_markCompS.f k x9 bt1028.1).bind fun bt1030 => (if bt1030.1 < 0 then (laws_FnExactHandleComp.j1 k x1 x6 x7 x10 true x993000 x993001) else ((laws_eqCompS.f k x10 x6).bind fun t1032 => (if t1032 = true then (laws_FnExactHandleComp.j1 k x1 x6 x7 x10 (x11 != x7) x993000 x993001) else (laws_FnExactHandleComp.j1 k x1 x6 x7 x10 true x993000 x993001)))))) else (some false)))) else (some false))))
def laws_FnExactHandleComp.j1 : Nat → List (S97) → List (S83) → Bool → List (S83) → Bool → Int → List (S126) → Option (Bool)
  | 0, _, _, _, _, _, _, _ => none
  | k + 1, x1, x6, x7, x10, x82, x993000, x993001 => if x82 = true then (some false) else ((laws_markCompS.f k x10 1).bind fun bt1033 => ((laws_heldCompS.f k bt1033.2 1).bind fun t1035 => (if t1035 < 0 then (some false) else (if t1035 = bt1033.1 then ((laws_toHandler.f k x993000 x993001).bind fun bt1036 => ((laws_toCompS.f k x1).bind fun t1040 => ((impl_HandleComp.f bt1036.1 bt1036.2 t1040).bind fun bt1043 => ((laws_eqCompS.f k bt1043.1 x6).bind fun t1047 => (if t1047 = true then (laws_FnExactHandleComp.j2 k bt1033.2 bt1033.1 (bt1043.2 != x7)) else (laws_FnExactHandleComp.j2 k bt1033.2 bt1033.1 true)))))) else (some false)))))
def laws_FnExactHandleComp.j2 : Nat → List (S83) → Int → Bool → Option (Bool)
  | 0, _, _, _ => none
  | k + 1, x10, x13, x110 => if x110 = true then (some false) else ((laws_heldCompS.f k x10 1).bind fun t1048 => (if t1048 < 0 then (some false) else (if t1048 = x13 then (some true) else (some false))))
end
def laws_FnExactHandleComp.f (k : Nat) (a0_0 : Int) (l0_1 : List (S126)) (l1 : List (S97)) : Option (Bool) := (laws_szHandler.f a0_0 l0_1 1048576).bind fun t993 => (if t993 < 0 then (some true) else ((laws_szCompS.f l1 t993).bind fun t994 => (if t994 < 0 then (some true) else ((laws_toHandler.f k a0_0 l0_1).bind fun bt995 => ((laws_toCompS.f k l1).bind fun t999 => ((spec_HandleComp.f k bt995.1 bt995.2 t999).bind fun bt1002 => ((laws_toHandler.f k a0_0 l0_1).bind fun bt1006 => ((laws_toCompS.f k l1).bind fun t1011 => ((impl_HandleComp.f bt1006.1 bt1006.2 t1011).bind fun bt1014 => ((laws_eqCompS.f k bt1014.1 bt1002.1).bind fun t1018 => (if t1018 = true then (laws_FnExactHandleComp.j0 k l1 bt1002.1 bt1002.2 t1011 bt1014.1 bt1014.2 (bt1014.2 != bt1002.2) a0_0 l0_1 bt1006.1 bt1006.2) else (laws_FnExactHandleComp.j0 k l1 bt1002.1 bt1002.2 t1011 bt1014.1 bt1014.2 true a0_0 l0_1 bt1006.1 bt1006.2))))))))))))
theorem laws_FnExactHandleComp.mono_l : ∀ k, (∀ y0 y1 y2 y3 y4 y5 y6 y7 y8 y9 y10, LeO (laws_FnExactHandleComp.j0 k y0 y1 y2 y3 y4 y5 y6 y7 y8 y9 y10) (laws_FnExactHandleComp.j0 (k + 1) y0 y1 y2 y3 y4 y5 y6 y7 y8 y9 y10)) ∧ (∀ y0 y1 y2 y3 y4 y5 y6, LeO (laws_FnExactHandleComp.j1 k y0 y1 y2 y3 y4 y5 y6) (laws_FnExactHandleComp.j1 (k + 1) y0 y1 y2 y3 y4 y5 y6)) ∧ (∀ y0 y1 y2, LeO (laws_FnExactHandleComp.j2 k y0 y1 y2) (laws_FnExactHandleComp.j2 (k + 1) y0 y1 y2))
  | 0 => ⟨fun _ _ _ _ _ _ _ _ _ _ _ r h => by simp [laws_FnExactHandleComp.j0] at h, fun _ _ _ _ _ _ _ r h => by simp [laws_FnExactHandleComp.j1] at h, fun _ _ _ r h => by simp [laws_FnExactHandleComp.j2] at h⟩
  | k + 1 => by
    obtain ⟨ih0, ih1, ih2⟩ := laws_FnExactHandleComp.mono_l k
    refine ⟨?_, ?_, ?_⟩
    · intro y0 y1 y2 y3 y4 y5 y6 y7 y8 y9 y10
      unfold laws_FnExactHandleComp.j0
      repeat' first
      | (with_reducible exact ih0 _ _ _ _ _ _ _ _ _ _ _)
      | (with_reducible exact ih1 _ _ _ _ _ _ _)
      | (with_reducible exact ih2 _ _ _)
      | (with_reducible exact laws_eqCompS.mono _ _ _)
      | (with_reducible exact laws_eqHandler.mono _ _ _ _ _)
      | (with_reducible exact laws_heldCompS.mono _ _ _)
      | (with_reducible exact laws_markCompS.mono _ _ _)
      | (with_reducible exact laws_markHandler.mono _ _ _ _)
      | (with_reducible exact laws_toCompS.mono _ _)
      | (with_reducible exact laws_toHandler.mono _ _ _)
      | (with_reducible exact spec_HandleComp.mono _ _ _ _)
      | (with_reducible exact LeO.refl _)
      | (with_reducible exact LeO.none _)
      | (with_reducible refine LeO.ite ?_ ?_)
      | (with_reducible refine LeO.bind ?_ (fun _ => ?_))
      | exact ih0 _ _ _ _ _ _ _ _ _ _ _
      | exact ih1 _ _ _ _ _ _ _
      | exact ih2 _ _ _
      | exact laws_eqCompS.mono _ _ _
      | exact laws_eqHandler.mono _ _ _ _ _
      | exact laws_heldCompS.mono _ _ _
      | exact laws_markCompS.mono _ _ _
      | exact laws_markHandler.mono _ _ _ _
      | exact laws_toCompS.mono _ _
      | exact laws_toHandler.mono _ _ _
      | exact spec_HandleComp.mono _ _ _ _
      | exact LeO.none _
      | refine LeO.ite ?_ ?_
      | refine LeO.bind ?_ (fun _ => ?_)
    · intro y0 y1 y2 y3 y4 y5 y6
      unfold laws_FnExactHandleComp.j1
      repeat' first
      | (with_reducible exact ih0 _ _ _ _ _ _ _ _ _ _ _)
      | (with_reducible exact ih1 _ _ _ _ _ _ _)
      | (with_reducible exact ih2 _ _ _)
      | (with_reducible exact laws_eqCompS.mono _ _ _)
      | (with_reducible exact laws_eqHandler.mono _ _ _ _ _)
      | (with_reducible exact laws_heldCompS.mono _ _ _)
      | (with_reducible exact laws_markCompS.mono _ _ _)
      | (with_reducible exact laws_markHandler.mono _ _ _ _)
      | (with_reducible exact laws_toCompS.mono _ _)
      | (with_reducible exact laws_toHandler.mono _ _ _)
      | (with_reducible exact spec_HandleComp.mono _ _ _ _)
      | (with_reducible exact LeO.refl _)
      | (with_reducible exact LeO.none _)
      | (with_reducible refine LeO.ite ?_ ?_)
      | (with_reducible refine LeO.bind ?_ (fun _ => ?_))
      | exact ih0 _ _ _ _ _ _ _ _ _ _ _
      | exact ih1 _ _ _ _ _ _ _
      | exact ih2 _ _ _
      | exact laws_eqCompS.mono _ _ _
      | exact laws_eqHandler.mono _ _ _ _ _
      | exact laws_heldCompS.mono _ _ _
      | exact laws_markCompS.mono _ _ _
      | exact laws_markHandler.mono _ _ _ _
      | exact laws_toCompS.mono _ _
      | exact laws_toHandler.mono _ _ _
      | exact spec_HandleComp.mono _ _ _ _
      | exact LeO.none _
      | refine LeO.ite ?_ ?_
      | refine LeO.bind ?_ (fun _ => ?_)
    · intro y0 y1 y2
      unfold laws_FnExactHandleComp.j2
      repeat' first
      | (with_reducible exact ih0 _ _ _ _ _ _ _ _ _ _ _)
      | (with_reducible exact ih1 _ _ _ _ _ _ _)
      | (with_reducible exact ih2 _ _ _)
      | (with_reducible exact laws_eqCompS.mono _ _ _)
      | (with_reducible exact laws_eqHandler.mono _ _ _ _ _)
      | (with_reducible exact laws_heldCompS.mono _ _ _)
      | (with_reducible exact laws_markCompS.mono _ _ _)
      | (with_reducible exact laws_markHandler.mono _ _ _ _)
      | (with_reducible exact laws_toCompS.mono _ _)
      | (with_reducible exact laws_toHandler.mono _ _ _)
      | (with_reducible exact spec_HandleComp.mono _ _ _ _)
      | (with_reducible exact LeO.refl _)
      | (with_reducible exact LeO.none _)
      | (with_reducible refine LeO.ite ?_ ?_)
      | (with_reducible refine LeO.bind ?_ (fun _ => ?_))
      | exact ih0 _ _ _ _ _ _ _ _ _ _ _
      | exact ih1 _ _ _ _ _ _ _
      | exact ih2 _ _ _
      | exact laws_eqCompS.mono _ _ _
      | exact laws_eqHandler.mono _ _ _ _ _
      | exact laws_heldCompS.mono _ _ _
      | exact laws_markCompS.mono _ _ _
      | exact laws_markHandler.mono _ _ _ _
      | exact laws_toCompS.mono _ _
      | exact laws_toHandler.mono _ _ _
      | exact spec_HandleComp.mono _ _ _ _
      | exact LeO.none _
      | refine LeO.ite ?_ ?_
      | refine LeO.bind ?_ (fun _ => ?_)
theorem laws_FnExactHandleComp.mono : ∀ a0 a1 a2 k, LeO (laws_FnExactHandleComp.f k a0 a1 a2) (laws_FnExactHandleComp.f (k + 1) a0 a1 a2) := by
  intro a0 a1 a2 k
  obtain ⟨ih0, ih1, ih2⟩ := laws_FnExactHandleComp.mono_l k
  unfold laws_FnExactHandleComp.f
  repeat' first
      | (with_reducible exact ih0 _ _ _ _ _ _ _ _ _ _ _)
      | (with_reducible exact ih1 _ _ _ _ _ _ _)
      | (with_reducible exact ih2 _ _ _)
      | (with_reducible exact laws_eqCompS.mono _ _ _)
      | (with_reducible exact laws_eqHandler.mono _ _ _ _ _)
      | (with_reducible exact laws_heldCompS.mono _ _ _)
      | (with_reducible exact laws_markCompS.mono _ _ _)
      | (with_reducible exact laws_markHandler.mono _ _ _ _)
      | (with_reducible exact laws_toCompS.mono _ _)
      | (with_reducible exact laws_toHandler.mono _ _ _)
      | (with_reducible exact spec_HandleComp.mono _ _ _ _)
      | (with_reducible exact LeO.refl _)
      | (with_reducible exact LeO.none _)
      | (with_reducible refine LeO.ite ?_ ?_)
      | (with_reducible refine LeO.bind ?_ (fun _ => ?_))
      | exact ih0 _ _ _ _ _ _ _ _ _ _ _
      | exact ih1 _ _ _ _ _ _ _
      | exact ih2 _ _ _
      | exact laws_eqCompS.mono _ _ _
      | exact laws_eqHandler.mono _ _ _ _ _
      | exact laws_heldCompS.mono _ _ _
      | exact laws_markCompS.mono _ _ _
      | exact laws_markHandler.mono _ _ _ _
      | exact laws_toCompS.mono _ _
      | exact laws_toHandler.mono _ _ _
      | exact spec_HandleComp.mono _ _ _ _
      | exact LeO.none _
      | refine LeO.ite ?_ ?_
      | refine LeO.bind ?_ (fun _ => ?_)
set_option maxHeartbeats 8000000 in
set_option maxRecDepth 100000 in
theorem laws_FnExactHandleComp.calls (k : Nat) (a0_0 : Int) (A0_1 : Option Addr) (c0_1 : Nat) (l0_1 : List (S126)) (A1 : Option Addr) (c1 : Nat) (l1 : List (S97)) (r_ : Bool) (w : World) (hr0_1 : Kd.C k126 w A0_1 l0_1.length l0_1) (hc0_1 : l0_1.length ≤ c0_1) (hr1 : Kd.C k97 w A1 l1.length l1) (hc1 : l1.length ≤ c1) (h : laws_FnExactHandleComp.f k a0_0 l0_1 l1 = some true) :
    Calls Try.prog 12 #[.agg #[.int .i64 a0_0, .slice A0_1 l0_1.length c0_1], .slice A1 l1.length c1] w fun e w' => e = .returned (.bool true) ∧ Below w.heap.size w w' := by
  have hu24 := Try.underlying24
  have hu29 := Try.underlying29
  have HR0_1 := ab_ hr0_1
  have HC0_1 := ab_ hc0_1
  clear hr0_1 hc0_1
  have HR1 := ab_ hr1
  have HC1 := ab_ hc1
  clear hr1 hc1
  have HB := ab_ (av_ w.heap.size w)
  have H : ((laws_szHandler.f a0_0 l0_1 1048576).bind fun t993 => (if t993 < 0 then (some true) else ((laws_szCompS.f l1 t993).bind fun t994 => (if t994 < 0 then (some true) else ((laws_toHandler.f k a0_0 l0_1).bind fun bt995 => ((laws_toCompS.f k l1).bind fun t999 => ((spec_HandleComp.f k bt995.1 bt995.2 t999).bind fun bt1002 => ((laws_toHandler.f k a0_0 l0_1).bind fun bt1006 => ((laws_toCompS.f k l1).bind fun t1011 => ((impl_HandleComp.f bt1006.1 bt1006.2 t1011).bind fun bt1014 => ((laws_eqCompS.f k bt1014.1 bt1002.1).bind fun t1018 => (if t1018 = true then (laws_FnExactHandleComp.j0 k l1 bt1002.1 bt1002.2 t1011 bt1014.1 bt1014.2 (bt1014.2 != bt1002.2) a0_0 l0_1 bt1006.1 bt1006.2) else (laws_FnExactHandleComp.j0 k l1 bt1002.1 bt1002.2 t1011 bt1014.1 bt1014.2 true a0_0 l0_1 bt1006.1 bt1006.2))))))))))))) = some true := h
  clear h
  replace H := Option.bind_eq_some_iff.mp H
  obtain ⟨t993, A30, H⟩ := H
  replace H : (if t993 < 0 then (some true) else ((laws_szCompS.f l1 t993).bind fun t994 => (if t994 < 0 then (some true) else ((laws_toHandler.f k a0_0 l0_1).bind fun bt995 => ((laws_toCompS.f k l1).bind fun t999 => ((spec_HandleComp.f k bt995.1 bt995.2 t999).bind fun bt1002 => ((laws_toHandler.f k a0_0 l0_1).bind fun bt1006 => ((laws_toCompS.f k l1).bind fun t1011 => ((impl_HandleComp.f bt1006.1 bt1006.2 t1011).bind fun bt1014 => ((laws_eqCompS.f k bt1014.1 bt1002.1).bind fun t1018 => (if t1018 = true then (laws_FnExactHandleComp.j0 k l1 bt1002.1 bt1002.2 t1011 bt1014.1 bt1014.2 (bt1014.2 != bt1002.2) a0_0 l0_1 bt1006.1 bt1006.2) else (laws_FnExactHandleComp.j0 k l1 bt1002.1 bt1002.2 t1011 bt1014.1 bt1014.2 true a0_0 l0_1 bt1006.1 bt1006.2)))))))))))) = some true := H
  have A3 := ab_ A30
  clear A30
  by_cases c4 : t993 < 0
  · rw [if_pos c4] at H
    have c4b0 : decide (t993 < 0) = true := at_ c4
    clear c4
    clear H
    go_enter Try.func12, Try.ntmps12
    go_wp2_with (first | ((with_reducible refine gate_dst (N := 2) rfl ?_); refine box_event ?hg (N := 2) ?hd (cs := #[.int .i64 a0_0, .slice A0_1 l0_1.length c0_1]) (t := 24) ?hr ?_; (case hd => rfl); (case hg => rfl); (case hr => first | (go_simp; done) | (go_simp; rfl)); intro gb992 hg w5 hbox hb; have n0_ := ab_ (au_ (by repeat (first | (with_reducible first | exact HB.out | apply ai_ | apply ag_ | apply ah_) | exact HB.out)) hb); have n1_ := ab_ (hbox); have n2_ := ab_ ((by rw [hg]; exact (below_size (by repeat (first | (with_reducible first | exact HB.out | apply ai_ | apply ag_ | apply ah_) | exact HB.out))) : w.heap.size ≤ gb992)); have n3_ := ab_ ((by rw [hg]; exact (below_size (by repeat (first | (with_reducible first | exact HB.out | apply ai_ | apply ag_ | apply ah_) | exact HB.out))) : w.heap.size ≤ gb992)); clear HB; have HB := n0_; have BK992 := n1_; have GW992 := n2_; have GE992 := n3_; clear n0_ n1_ n2_ n3_; clear hb hbox hg; have hcz6_0 : w5.cell? ⟨gb992, 0, none⟩ = some (.int .i64 a0_0) := (an_ BK992.out 0).trans rfl; have hcz6_1 : w5.cell? ⟨gb992, 1, none⟩ = some (.slice A0_1 l0_1.length c0_1) := (an_ BK992.out 1).trans rfl; have hfz6_0 := am_ BK992.out 0; have hfz6_1 := am_ BK992.out 1) | ((with_reducible refine gate_callee (f := 13) rfl ?_); refine goesL_ (some 19) rfl rfl Try.func13 (by kernel_rfl) rfl #[.agg #[.int .i64 a0_0, .slice A0_1 l0_1.length c0_1], .int .i64 1048576] rfl (by (try simp only [List.map_toArray, List.map_cons, List.map_nil]); first | done | rfl | (simp only [List.length_drop, List.length_take]; rfl)) ?_; (with_reducible refine (laws_szHandler.calls a0_0 _ _ l0_1 1048576 t993 _ ?side1 ?side2 A3.out).mono ?_); (case side1 => repeat (first | exact (Kd.C_below HR0_1.out HB.out) | (with_reducible refine ar_ ?_ _) | (with_reducible refine as_ ?_ _) | (with_reducible refine Kd.C_drew ?_))); (case side2 => exact HC0_1.out); rintro e w7 ⟨rfl, hb⟩; refine ⟨_, rfl, ?_⟩; have n0_ := ab_ (blk_below (g := gb992) (o := .cells #[.int .i64 a0_0, .slice A0_1 l0_1.length c0_1] 24 (0, 0)) (by (with_reducible repeat (first | refine ac_ ?_ _ | refine ae_ ?_ | refine ad_ ?_ _)); exact BK992.out) hb); have n1_ := ab_ (au_ (by repeat (first | (with_reducible first | exact HB.out | apply ai_ | apply ag_ | apply ah_ | refine af_ ?_ GE992.out) | exact HB.out)) hb); clear BK992; clear HB; have BK992 := n0_; have HB := n1_; clear n0_ n1_; (try clear hb); (try clear hb2); (try clear hk); (try clear hi)))
    go_ret
    exact ⟨by first | rfl | (simp [errW_none, errW_some] <;> rfl) | (simp [*, errW_none, errW_some] <;> rfl), by repeat (first | (with_reducible first | exact HB.out | apply ai_ | apply ag_ | apply ah_ | refine af_ ?_ GE992.out) | exact HB.out)⟩
  · rw [if_neg c4] at H
    have c4b0 : decide (t993 < 0) = false := decide_eq_false c4
    clear c4
    replace H := Option.bind_eq_some_iff.mp H
    obtain ⟨t994, A80, H⟩ := H
    replace H : (if t994 < 0 then (some true) else ((laws_toHandler.f k a0_0 l0_1).bind fun bt995 => ((laws_toCompS.f k l1).bind fun t999 => ((spec_HandleComp.f k bt995.1 bt995.2 t999).bind fun bt1002 => ((laws_toHandler.f k a0_0 l0_1).bind fun bt1006 => ((laws_toCompS.f k l1).bind fun t1011 => ((impl_HandleComp.f bt1006.1 bt1006.2 t1011).bind fun bt1014 => ((laws_eqCompS.f k bt1014.1 bt1002.1).bind fun t1018 => (if t1018 = true then (laws_FnExactHandleComp.j0 k l1 bt1002.1 bt1002.2 t1011 bt1014.1 bt1014.2 (bt1014.2 != bt1002.2) a0_0 l0_1 bt1006.1 bt1006.2) else (laws_FnExactHandleComp.j0 k l1 bt1002.1 bt1002.2 t1011 bt1014.1 bt1014.2 true a0_0 l0_1 bt1006.1 bt1006.2)))))))))) = some true := H
    have A8 := ab_ A80
    clear A80
    by_cases c9 : t994 < 0
    · rw [if_pos c9] at H
      have c9b0 : decide (t994 < 0) = true := at_ c9
      clear c9
      clear H
      go_enter Try.func12, Try.ntmps12
      go_wp2_with (first | ((with_reducible refine gate_dst (N := 2) rfl ?_); refine box_event ?hg (N := 2) ?hd (cs := #[.int .i64 a0_0, .slice A0_1 l0_1.length c0_1]) (t := 24) ?hr ?_; (case hd => rfl); (case hg => rfl); (case hr => first | (go_simp; done) | (go_simp; rfl)); intro gb992 hg w10 hbox hb; have n0_ := ab_ (au_ (by repeat (first | (with_reducible first | exact HB.out | apply ai_ | apply ag_ | apply ah_) | exact HB.out)) hb); have n1_ := ab_ (hbox); have n2_ := ab_ ((by rw [hg]; exact (below_size (by repeat (first | (with_reducible first | exact HB.out | apply ai_ | apply ag_ | apply ah_) | exact HB.out))) : w.heap.size ≤ gb992)); have n3_ := ab_ ((by rw [hg]; exact (below_size (by repeat (first | (with_reducible first | exact HB.out | apply ai_ | apply ag_ | apply ah_) | exact HB.out))) : w.heap.size ≤ gb992)); clear HB; have HB := n0_; have BK992 := n1_; have GW992 := n2_; have GE992 := n3_; clear n0_ n1_ n2_ n3_; clear hb hbox hg; have hcz11_0 : w10.cell? ⟨gb992, 0, none⟩ = some (.int .i64 a0_0) := (an_ BK992.out 0).trans rfl; have hcz11_1 : w10.cell? ⟨gb992, 1, none⟩ = some (.slice A0_1 l0_1.length c0_1) := (an_ BK992.out 1).trans rfl; have hfz11_0 := am_ BK992.out 0; have hfz11_1 := am_ BK992.out 1) | ((with_reducible refine gate_callee (f := 13) rfl ?_); refine goesL_ (some 19) rfl rfl Try.func13 (by kernel_rfl) rfl #[.agg #[.int .i64 a0_0, .slice A0_1 l0_1.length c0_1], .int .i64 1048576] rfl (by (try simp only [List.map_toArray, List.map_cons, List.map_nil]); first | done | rfl | (simp only [List.length_drop, List.length_take]; rfl)) ?_; (with_reducible refine (laws_szHandler.calls a0_0 _ _ l0_1 1048576 t993 _ ?side1 ?side2 A3.out).mono ?_); (case side1 => repeat (first | exact (Kd.C_below HR0_1.out HB.out) | (with_reducible refine ar_ ?_ _) | (with_reducible refine as_ ?_ _) | (with_reducible refine Kd.C_drew ?_))); (case side2 => exact HC0_1.out); rintro e w12 ⟨rfl, hb⟩; refine ⟨_, rfl, ?_⟩; have n0_ := ab_ (blk_below (g := gb992) (o := .cells #[.int .i64 a0_0, .slice A0_1 l0_1.length c0_1] 24 (0, 0)) (by (with_reducible repeat (first | refine ac_ ?_ _ | refine ae_ ?_ | refine ad_ ?_ _)); exact BK992.out) hb); have n1_ := ab_ (au_ (by repeat (first | (with_reducible first | exact HB.out | apply ai_ | apply ag_ | apply ah_ | refine af_ ?_ GE992.out) | exact HB.out)) hb); clear BK992; clear HB; have BK992 := n0_; have HB := n1_; clear n0_ n1_; (try clear hb); (try clear hb2); (try clear hk); (try clear hi)) | ((with_reducible refine gate_callee (f := 18) rfl ?_); refine goesL_ (some 24) rfl rfl Try.func18 (by kernel_rfl) rfl #[.slice A1 l1.length c1, .int .i64 t993] rfl (by (try simp only [List.map_toArray, List.map_cons, List.map_nil]); first | done | rfl | (simp only [List.length_drop, List.length_take]; rfl)) ?_; (with_reducible refine (laws_szCompS.calls _ _ l1 t993 t994 _ ?side1 ?side2 A8.out).mono ?_); (case side1 => repeat (first | exact (Kd.C_below HR1.out HB.out) | (with_reducible refine ar_ ?_ _) | (with_reducible refine as_ ?_ _) | (with_reducible refine Kd.C_drew ?_))); (case side2 => exact HC1.out); rintro e w' ⟨rfl, ⟨nd, rfl⟩⟩; refine ⟨_, rfl, ?_⟩))
      go_ret
      exact ⟨by first | rfl | (simp [errW_none, errW_some] <;> rfl) | (simp [*, errW_none, errW_some] <;> rfl), by repeat (first | (with_reducible first | exact HB.out | apply ai_ | apply ag_ | apply ah_ | refine af_ ?_ GE992.out) | exact HB.out)⟩
    · rw [if_neg c9] at H
      have c9b0 : decide (t994 < 0) = false := decide_eq_false c9
      clear c9
      replace H := Option.bind_eq_some_iff.mp H
      obtain ⟨⟨t995, t996⟩, A130, H⟩ := H
      replace H : ((laws_toCompS.f k l1).bind fun t999 => ((spec_HandleComp.f k t995 t996 t999).bind fun bt1002 => ((laws_toHandler.f k a0_0 l0_1).bind fun bt1006 => ((laws_toCompS.f k l1).bind fun t1011 => ((impl_HandleComp.f bt1006.1 bt1006.2 t1011).bind fun bt1014 => ((laws_eqCompS.f k bt1014.1 bt1002.1).bind fun t1018 => (if t1018 = true then (laws_FnExactHandleComp.j0 k l1 bt1002.1 bt1002.2 t1011 bt1014.1 bt1014.2 (bt1014.2 != bt1002.2) a0_0 l0_1 bt1006.1 bt1006.2) else (laws_FnExactHandleComp.j0 k l1 bt1002.1 bt1002.2 t1011 bt1014.1 bt1014.2 true a0_0 l0_1 bt1006.1 bt1006.2)))))))) = some true := H
      have A13 := ab_ A130
      clear A130
      replace H := Option.bind_eq_some_iff.mp H
      obtain ⟨t999, A140, H⟩ := H
      replace H : ((spec_HandleComp.f k t995 t996 t999).bind fun bt1002 => ((laws_toHandler.f k a0_0 l0_1).bind fun bt1006 => ((laws_toCompS.f k l1).bind fun t1011 => ((impl_HandleComp.f bt1006.1 bt1006.2 t1011).bind fun bt1014 => ((laws_eqCompS.f k bt1014.1 bt1002.1).bind fun t1018 => (if t1018 = true then (laws_FnExactHandleComp.j0 k l1 bt1002.1 bt1002.2 t1011 bt1014.1 bt1014.2 (bt1014.2 != bt1002.2) a0_0 l0_1 bt1006.1 bt1006.2) else (laws_FnExactHandleComp.j0 k l1 bt1002.1 bt1002.2 t1011 bt1014.1 bt1014.2 true a0_0 l0_1 bt1006.1 bt1006.2))))))) = some true := H
      have A14 := ab_ A140
      clear A140
      replace H := Option.bind_eq_some_iff.mp H
      obtain ⟨⟨t1002, t1005⟩, A150, H⟩ := H
      replace H : ((laws_toHandler.f k a0_0 l0_1).bind fun bt1006 => ((laws_toCompS.f k l1).bind fun t1011 => ((impl_HandleComp.f bt1006.1 bt1006.2 t1011).bind fun bt1014 => ((laws_eqCompS.f k bt1014.1 t1002).bind fun t1018 => (if t1018 = true then (laws_FnExactHandleComp.j0 k l1 t1002 t1005 t1011 bt1014.1 bt1014.2 (bt1014.2 != t1005) a0_0 l0_1 bt1006.1 bt1006.2) else (laws_FnExactHandleComp.j0 k l1 t1002 t1005 t1011 bt1014.1 bt1014.2 true a0_0 l0_1 bt1006.1 bt1006.2)))))) = some true := H
      have A15 := ab_ A150
      clear A150
      replace H := Option.bind_eq_some_iff.mp H
      obtain ⟨⟨t1006, t1007⟩, A160, H⟩ := H
      replace H : ((laws_toCompS.f k l1).bind fun t1011 => ((impl_HandleComp.f t1006 t1007 t1011).bind fun bt1014 => ((laws_eqCompS.f k bt1014.1 t1002).bind fun t1018 => (if t1018 = true then (laws_FnExactHandleComp.j0 k l1 t1002 t1005 t1011 bt1014.1 bt1014.2 (bt1014.2 != t1005) a0_0 l0_1 t1006 t1007) else (laws_FnExactHandleComp.j0 k l1 t1002 t1005 t1011 bt1014.1 bt1014.2 true a0_0 l0_1 t1006 t1007))))) = some true := H
      have A16 := ab_ A160
      clear A160
      replace H := Option.bind_eq_some_iff.mp H
      obtain ⟨t1011, A170, H⟩ := H
      replace H : ((impl_HandleComp.f t1006 t1007 t1011).bind fun bt1014 => ((laws_eqCompS.f k bt1014.1 t1002).bind fun t1018 => (if t1018 = true then (laws_FnExactHandleComp.j0 k l1 t1002 t1005 t1011 bt1014.1 bt1014.2 (bt1014.2 != t1005) a0_0 l0_1 t1006 t1007) else (laws_FnExactHandleComp.j0 k l1 t1002 t1005 t1011 bt1014.1 bt1014.2 true a0_0 l0_1 t1006 t1007)))) = some true := H
      have A17 := ab_ A170
      clear A170
      replace H := Option.bind_eq_some_iff.mp H
      obtain ⟨⟨t1014, t1017⟩, A180, H⟩ := H
      replace H : ((laws_eqCompS.f k t1014 t1002).bind fun t1018 => (if t1018 = true then (laws_FnExactHandleComp.j0 k l1 t1002 t1005 t1011 t1014 t1017 (t1017 != t1005) a0_0 l0_1 t1006 t1007) else (laws_FnExactHandleComp.j0 k l1 t1002 t1005 t1011 t1014 t1017 true a0_0 l0_1 t1006 t1007))) = some true := H
      have A18 := ab_ A180
      clear A180
      have HC19 := ab_ H
      clear H
      go_enter Try.func12, Try.ntmps12
      go_upto_region 12 with (first | ((with_reducible refine gate_dst (N := 2) rfl ?_); refine box_event ?hg (N := 2) ?hd (cs := #[.int .i64 a0_0, .slice A0_1 l0_1.length c0_1]) (t := 24) ?hr ?_; (case hd => rfl); (case hg => rfl); (case hr => first | (go_simp; done) | (go_simp; rfl)); intro gb992 hg w20 hbox hb; have n0_ := ab_ (au_ (by repeat (first | (with_reducible first | exact HB.out | apply ai_ | apply ag_ | apply ah_) | exact HB.out)) hb); have n1_ := ab_ (hbox); have n2_ := ab_ ((by rw [hg]; exact (below_size (by repeat (first | (with_reducible first | exact HB.out | apply ai_ | apply ag_ | apply ah_) | exact HB.out))) : w.heap.size ≤ gb992)); have n3_ := ab_ ((by rw [hg]; exact (below_size (by repeat (first | (with_reducible first | exact HB.out | apply ai_ | apply ag_ | apply ah_) | exact HB.out))) : w.heap.size ≤ gb992)); clear HB; have HB := n0_; have BK992 := n1_; have GW992 := n2_; have GE992 := n3_; clear n0_ n1_ n2_ n3_; clear hb hbox hg; have hcz21_0 : w20.cell? ⟨gb992, 0, none⟩ = some (.int .i64 a0_0) := (an_ BK992.out 0).trans rfl; have hcz21_1 : w20.cell? ⟨gb992, 1, none⟩ = some (.slice A0_1 l0_1.length c0_1) := (an_ BK992.out 1).trans rfl; have hfz21_0 := am_ BK992.out 0; have hfz21_1 := am_ BK992.out 1) | ((with_reducible refine gate_callee (f := 13) rfl ?_); refine goesL_ (some 19) rfl rfl Try.func13 (by kernel_rfl) rfl #[.agg #[.int .i64 a0_0, .slice A0_1 l0_1.length c0_1], .int .i64 1048576] rfl (by (try simp only [List.map_toArray, List.map_cons, List.map_nil]); first | done | rfl | (simp only [List.length_drop, List.length_take]; rfl)) ?_; (with_reducible refine (laws_szHandler.calls a0_0 _ _ l0_1 1048576 t993 _ ?side1 ?side2 A3.out).mono ?_); (case side1 => repeat (first | exact (Kd.C_below HR0_1.out HB.out) | (with_reducible refine ar_ ?_ _) | (with_reducible refine as_ ?_ _) | (with_reducible refine Kd.C_drew ?_))); (case side2 => exact HC0_1.out); rintro e w22 ⟨rfl, hb⟩; refine ⟨_, rfl, ?_⟩; have n0_ := ab_ (blk_below (g := gb992) (o := .cells #[.int .i64 a0_0, .slice A0_1 l0_1.length c0_1] 24 (0, 0)) (by (with_reducible repeat (first | refine ac_ ?_ _ | refine ae_ ?_ | refine ad_ ?_ _)); exact BK992.out) hb); have n1_ := ab_ (au_ (by repeat (first | (with_reducible first | exact HB.out | apply ai_ | apply ag_ | apply ah_ | refine af_ ?_ GE992.out) | exact HB.out)) hb); clear BK992; clear HB; have BK992 := n0_; have HB := n1_; clear n0_ n1_; (try clear hb); (try clear hb2); (try clear hk); (try clear hi)) | ((with_reducible refine gate_callee (f := 18) rfl ?_); refine goesL_ (some 24) rfl rfl Try.func18 (by kernel_rfl) rfl #[.slice A1 l1.length c1, .int .i64 t993] rfl (by (try simp only [List.map_toArray, List.map_cons, List.map_nil]); first | done | rfl | (simp only [List.length_drop, List.length_take]; rfl)) ?_; (with_reducible refine (laws_szCompS.calls _ _ l1 t993 t994 _ ?side1 ?side2 A8.out).mono ?_); (case side1 => repeat (first | exact (Kd.C_below HR1.out HB.out) | (with_reducible refine ar_ ?_ _) | (with_reducible refine as_ ?_ _) | (with_reducible refine Kd.C_drew ?_))); (case side2 => exact HC1.out); rintro e w' ⟨rfl, ⟨nd, rfl⟩⟩; refine ⟨_, rfl, ?_⟩; (try (rw [drewN_self w22]; generalize hq_ : World.drewN w22 _ = w22; have n0_ : Aside0 (w22.heap[gb992]? = some (.cells #[.int .i64 a0_0, .slice A0_1 l0_1.length c0_1] 24 (0, 0))) := ⟨by rw [← hq_]; exact (by (with_reducible repeat (first | refine ac_ ?_ _ | refine ae_ ?_ | refine ad_ ?_ _)); exact BK992.out)⟩; have n1_ : Aside0 (Below w.heap.size w w22) := ⟨by rw [← hq_]; exact (by repeat (first | (with_reducible first | exact HB.out | apply ai_ | apply ag_ | apply ah_ | refine af_ ?_ GE992.out) | exact HB.out))⟩; clear BK992 HB hq_; have BK992 := n0_; have HB := n1_; clear n0_ n1_)); have hcz23_0 : w22.cell? ⟨gb992, 0, none⟩ = some (.int .i64 a0_0) := (an_ BK992.out 0).trans rfl; have hcz23_1 : w22.cell? ⟨gb992, 1, none⟩ = some (.slice A0_1 l0_1.length c0_1) := (an_ BK992.out 1).trans rfl; have hfz23_0 := am_ BK992.out 0; have hfz23_1 := am_ BK992.out 1) | ((with_reducible refine gate_callee (f := 15) rfl ?_); refine goesL_ (some 29) rfl rfl Try.func15 (by kernel_rfl) rfl #[.agg #[.int .i64 a0_0, .slice A0_1 l0_1.length c0_1]] rfl (by (try simp only [List.map_toArray, List.map_cons, List.map_nil]); first | done | rfl | (simp only [List.length_drop, List.length_take]; rfl)) ?_; (with_reducible refine (laws_toHandler.calls k a0_0 _ _ l0_1 t995 t996 _ ?side1 ?side2 A13.out).mono ?_); (case side1 => repeat (first | exact (Kd.C_below HR0_1.out HB.out) | (with_reducible refine ar_ ?_ _) | (with_reducible refine as_ ?_ _) | (with_reducible refine Kd.C_drew ?_))); (case side2 => exact HC0_1.out); rintro e w24 ⟨v997, rfl, ho0, hb⟩; refine ⟨_, rfl, ?_⟩; have n0_ := ab_ (Kd.R_lower ho0 (below_size (by repeat (first | (with_reducible first | exact HB.out | apply ai_ | apply ag_ | apply ah_ | refine af_ ?_ GE992.out) | exact HB.out)))); have n1_ := ab_ (blk_below (g := gb992) (o := .cells #[.int .i64 a0_0, .slice A0_1 l0_1.length c0_1] 24 (0, 0)) (by (with_reducible repeat (first | refine ac_ ?_ _ | refine ae_ ?_ | refine ad_ ?_ _)); exact BK992.out) hb); have n2_ := ab_ (au_ (by repeat (first | (with_reducible first | exact HB.out | apply ai_ | apply ag_ | apply ah_ | refine af_ ?_ GE992.out) | exact HB.out)) hb); clear BK992; clear HB; have HO998 := n0_; have BK992 := n1_; have HB := n2_; clear n0_ n1_ n2_; (try clear hb); (try clear hb2); (try clear hk); (try clear hi); (try clear ho0)) | ((with_reducible refine gate_callee (f := 20) rfl ?_); refine goesL_ (some 31) rfl rfl Try.func20 (by kernel_rfl) rfl #[.slice A1 l1.length c1] rfl (by (try simp only [List.map_toArray, List.map_cons, List.map_nil]); first | done | rfl | (simp only [List.length_drop, List.length_take]; rfl)) ?_; (with_reducible refine (laws_toCompS.calls k _ _ l1 t999 _ ?side1 ?side2 A14.out).mono ?_); (case side1 => repeat (first | exact (Kd.C_below HR1.out HB.out) | (with_reducible refine ar_ ?_ _) | (with_reducible refine as_ ?_ _) | (with_reducible refine Kd.C_drew ?_))); (case side2 => exact HC1.out); rintro e w25 ⟨v1000, rfl, ho0, hb⟩; refine ⟨_, rfl, ?_⟩; have n0_ := ab_ (Kd.R_below (by (with_reducible repeat (first | apply ao_ | apply ap_ | apply aq_)); exact HO998.out) hb); have n1_ := ab_ (Kd.R_lower ho0 (below_size (by repeat (first | (with_reducible first | exact HB.out | apply ai_ | apply ag_ | apply ah_ | refine af_ ?_ GE992.out) | exact HB.out)))); have n2_ := ab_ (blk_below (g := gb992) (o := .cells #[.int .i64 a0_0, .slice A0_1 l0_1.length c0_1] 24 (0, 0)) (by (with_reducible repeat (first | refine ac_ ?_ _ | refine ae_ ?_ | refine ad_ ?_ _)); exact BK992.out) hb); have n3_ := ab_ (au_ (by repeat (first | (with_reducible first | exact HB.out | apply ai_ | apply ag_ | apply ah_ | refine af_ ?_ GE992.out) | exact HB.out)) hb); clear HO998; clear BK992; clear HB; have HO998 := n0_; have HO1001 := n1_; have BK992 := n2_; have HB := n3_; clear n0_ n1_ n2_ n3_; (try clear hb); (try clear hb2); (try clear hk); (try clear hi); (try clear ho0); obtain ⟨Ao26, co26, eo26⟩ := Kd.R_slice HO998.out; subst eo26; obtain ⟨Ao27, co27, eo27⟩ := Kd.R_slice HO1001.out; subst eo27) | ((with_reducible refine gate_callee (f := 54) rfl ?_); refine goesL_ (some 32) rfl rfl Try.func54 (by kernel_rfl) rfl #[.agg #[.int .i64 t995, .slice Ao26 t996.length co26], .slice Ao27 t999.length co27] rfl (by (try simp only [List.map_toArray, List.map_cons, List.map_nil]); first | done | rfl | (simp only [List.length_drop, List.length_take]; rfl)) ?_; (with_reducible refine (spec_HandleComp.calls k t995 _ _ t996 _ _ t999 t1002 t1005 _ ?side1 ?side2 ?side3 ?side4 A15.out).mono ?_); (case side1 => repeat (first | exact (Kd.R_reads' HO998.out).2.2 | (with_reducible refine ar_ ?_ _) | (with_reducible refine as_ ?_ _) | (with_reducible refine Kd.C_drew ?_))); (case side2 => exact (Kd.R_reads' HO998.out).2.1); (case side3 => repeat (first | exact (Kd.R_reads' HO1001.out).2.2 | (with_reducible refine ar_ ?_ _) | (with_reducible refine as_ ?_ _) | (with_reducible refine Kd.C_drew ?_))); (case side4 => exact (Kd.R_reads' HO1001.out).2.1); rintro e w28 ⟨v1003, rfl, ho0, hb⟩; refine ⟨_, rfl, ?_⟩; have n0_ := ab_ (Kd.R_below (by (with_reducible repeat (first | apply ao_ | apply ap_ | apply aq_)); exact HO998.out) hb); have n1_ := ab_ (Kd.R_elder' (by (with_reducible repeat (first | apply ao_ | apply ap_ | apply aq_)); exact HO1001.out) (Kd.R_base ho0) hb); have n2_ := ab_ (Kd.R_lower (Kd.R_new' ho0 (Kd.R_lt (by (with_reducible repeat (first | apply ao_ | apply ap_ | apply aq_)); exact HO1001.out))) (below_size (by repeat (first | (with_reducible first | exact HB.out | apply ai_ | apply ag_ | apply ah_ | refine af_ ?_ GE992.out) | exact HB.out)))); have n3_ := ab_ (blk_below (g := gb992) (o := .cells #[.int .i64 a0_0, .slice A0_1 l0_1.length c0_1] 24 (0, 0)) (by (with_reducible repeat (first | refine ac_ ?_ _ | refine ae_ ?_ | refine ad_ ?_ _)); exact BK992.out) hb); have n4_ := ab_ (au_ (by repeat (first | (with_reducible first | exact HB.out | apply ai_ | apply ag_ | apply ah_ | refine af_ ?_ GE992.out) | exact HB.out)) hb); clear HO998; clear HO1001; clear BK992; clear HB; have HO998 := n0_; have HO1001 := n1_; have HO1004 := n2_; have BK992 := n3_; have HB := n4_; clear n0_ n1_ n2_ n3_ n4_; (try clear hb); (try clear hb2); (try clear hk); (try clear hi); (try clear ho0); have hcz29_0 : w28.cell? ⟨gb992, 0, none⟩ = some (.int .i64 a0_0) := (an_ BK992.out 0).trans rfl; have hcz29_1 : w28.cell? ⟨gb992, 1, none⟩ = some (.slice A0_1 l0_1.length c0_1) := (an_ BK992.out 1).trans rfl; have hfz29_0 := am_ BK992.out 0; have hfz29_1 := am_ BK992.out 1) | ((with_reducible refine gate_callee (f := 15) rfl ?_); refine goesL_ (some 36) rfl rfl Try.func15 (by kernel_rfl) rfl #[.agg #[.int .i64 a0_0, .slice A0_1 l0_1.length c0_1]] rfl (by (try simp only [List.map_toArray, List.map_cons, List.map_nil]); first | done | rfl | (simp only [List.length_drop, List.length_take]; rfl)) ?_; (with_reducible refine (laws_toHandler.calls k a0_0 _ _ l0_1 t1006 t1007 _ ?side1 ?side2 A16.out).mono ?_); (case side1 => repeat (first | exact (Kd.C_below HR0_1.out HB.out) | (with_reducible refine ar_ ?_ _) | (with_reducible refine as_ ?_ _) | (with_reducible refine Kd.C_drew ?_))); (case side2 => exact HC0_1.out); rintro e w30 ⟨v1008, rfl, ho0, hb⟩; refine ⟨_, rfl, ?_⟩; have n0_ := ab_ (Kd.R_elder' (by (with_reducible repeat (first | apply ao_ | apply ap_ | apply aq_)); exact HO998.out) (Kd.R_base ho0) hb); have n1_ := ab_ (Kd.R_below (by (with_reducible repeat (first | apply ao_ | apply ap_ | apply aq_)); exact HO1001.out) hb); have n2_ := ab_ (Kd.R_below (by (with_reducible repeat (first | apply ao_ | apply ap_ | apply aq_)); exact HO1004.out) hb); have n3_ := ab_ (Kd.R_lower (Kd.R_new' ho0 (Kd.R_lt (by (with_reducible repeat (first | apply ao_ | apply ap_ | apply aq_)); exact HO998.out))) (below_size (by repeat (first | (with_reducible first | exact HB.out | apply ai_ | apply ag_ | apply ah_ | refine af_ ?_ GE992.out) | exact HB.out)))); have n4_ := ab_ (blk_below (g := gb992) (o := .cells #[.int .i64 a0_0, .slice A0_1 l0_1.length c0_1] 24 (0, 0)) (by (with_reducible repeat (first | refine ac_ ?_ _ | refine ae_ ?_ | refine ad_ ?_ _)); exact BK992.out) hb); have n5_ := ab_ (au_ (by repeat (first | (with_reducible first | exact HB.out | apply ai_ | apply ag_ | apply ah_ | refine af_ ?_ GE992.out) | exact HB.out)) hb); clear HO998; clear HO1001; clear HO1004; clear BK992; clear HB; have HO998 := n0_; have HO1001 := n1_; have HO1004 := n2_; have HO1009 := n3_; have BK992 := n4_; have HB := n5_; clear n0_ n1_ n2_ n3_ n4_ n5_; (try clear hb); (try clear hb2); (try clear hk); (try clear hi); (try clear ho0)) | ((with_reducible refine gate_dst (N := 8) rfl ?_); refine box_event ?hg (N := 8) ?hd (cs := #[.int .i64 0, .slice none 0 0]) (t := 29) ?hr ?_; (case hd => rfl); (case hg => rfl); (case hr => first | (go_simp; done) | (go_simp; rfl)); intro gb1010 hg w31 hbox hb; have n0_ := ab_ (Kd.R_below (by (with_reducible repeat (first | apply ao_ | apply ap_ | apply aq_)); exact HO998.out) hb); have n1_ := ab_ (Kd.R_below (by (with_reducible repeat (first | apply ao_ | apply ap_ | apply aq_)); exact HO1001.out) hb); have n2_ := ab_ (Kd.R_below (by (with_reducible repeat (first | apply ao_ | apply ap_ | apply aq_)); exact HO1004.out) hb); have n3_ := ab_ (Kd.R_below (by (with_reducible repeat (first | apply ao_ | apply ap_ | apply aq_)); exact HO1009.out) hb); have n4_ := ab_ (blk_below (g := gb992) (o := .cells #[.int .i64 a0_0, .slice A0_1 l0_1.length c0_1] 24 (0, 0)) (by (with_reducible repeat (first | refine ac_ ?_ _ | refine ae_ ?_ | refine ad_ ?_ _)); exact BK992.out) hb); have n5_ := ab_ (au_ (by repeat (first | (with_reducible first | exact HB.out | apply ai_ | apply ag_ | apply ah_ | refine af_ ?_ GE992.out) | exact HB.out)) hb); have n6_ := ab_ (hbox); have n7_ := ab_ ((by rw [hg]; exact (below_size (by repeat (first | (with_reducible first | exact HB.out | apply ai_ | apply ag_ | apply ah_ | refine af_ ?_ GE992.out) | exact HB.out))) : w.heap.size ≤ gb1010)); have n8_ := ab_ ((by rw [hg]; exact (below_size (by repeat (first | (with_reducible first | exact HB.out | apply ai_ | apply ag_ | apply ah_ | refine af_ ?_ GE992.out) | exact HB.out))) : w.heap.size ≤ gb1010)); have n9_ := ab_ ((by rw [hg]; exact ak_ (blk_lt (g := gb992) (o := .cells #[.int .i64 a0_0, .slice A0_1 l0_1.length c0_1] 24 (0, 0)) (by (with_reducible repeat (first | refine ac_ ?_ _ | refine ae_ ?_ | refine ad_ ?_ _)); exact BK992.out)) : gb992 ≠ gb1010)); have n10_ := ab_ ((by rw [hg]; exact Nat.ne_of_gt (blk_lt (g := gb992) (o := .cells #[.int .i64 a0_0, .slice A0_1 l0_1.length c0_1] 24 (0, 0)) (by (with_reducible repeat (first | refine ac_ ?_ _ | refine ae_ ?_ | refine ad_ ?_ _)); exact BK992.out)) : gb1010 ≠ gb992)); clear HO998; clear HO1001; clear HO1004; clear HO1009; clear BK992; clear HB; have HO998 := n0_; have HO1001 := n1_; have HO1004 := n2_; have HO1009 := n3_; have BK992 := n4_; have HB := n5_; have BK1010 := n6_; have GW1010 := n7_; have GE1010 := n8_; have NB992_1010 := n9_; have NB1010_992 := n10_; clear n0_ n1_ n2_ n3_ n4_ n5_ n6_ n7_ n8_ n9_ n10_; clear hb hbox hg; have hnb32 := NB1010_992.out; have hnc32 := NB992_1010.out; have hcz33_0 : w31.cell? ⟨gb1010, 0, none⟩ = some (.int .i64 0) := (an_ BK1010.out 0).trans rfl; have hcz33_1 : w31.cell? ⟨gb1010, 1, none⟩ = some (.slice none 0 0) := (an_ BK1010.out 1).trans rfl; have hfz33_0 := am_ BK1010.out 0; have hfz33_1 := am_ BK1010.out 1; obtain ⟨Ao34, co34, eo34⟩ := Kd.R_slice HO1009.out; subst eo34) | ((with_reducible refine gate_callee (f := 20) rfl ?_); refine goesL_ (some 38) rfl rfl Try.func20 (by kernel_rfl) rfl #[.slice A1 l1.length c1] rfl (by (try simp only [List.map_toArray, List.map_cons, List.map_nil]); first | done | rfl | (simp only [List.length_drop, List.length_take]; rfl)) ?_; (with_reducible refine (laws_toCompS.calls k _ _ l1 t1011 _ ?side1 ?side2 A17.out).mono ?_); (case side1 => exact Kd.C_below HR1.out (by repeat (first | (with_reducible first | exact HB.out | apply ai_ | apply ag_ | apply ah_ | refine af_ ?_ GE992.out | refine af_ ?_ GE1010.out) | exact HB.out))); (case side2 => exact HC1.out); rintro e w35 ⟨v1012, rfl, ho0, hb⟩; refine ⟨_, rfl, ?_⟩; have n0_ := ab_ (Kd.R_below (by (with_reducible repeat (first | apply ao_ | apply ap_ | apply aq_)); exact (Kd.R_mono (Kd.R_far (p := ⟨gb1010, 1, none⟩) (Kd.R_far (p := ⟨gb1010, 0, none⟩) (Kd.R_types HO998.out BK1010.out (by decide)) (fun _ hk => hk.2) (.int .i64 t1006)) (fun _ hk => hk.2) (.slice Ao34 t1007.length co34)) (fun _ h_ => h_.1))) hb); have n1_ := ab_ (Kd.R_elder' (by (with_reducible repeat (first | apply ao_ | apply ap_ | apply aq_)); exact (Kd.R_mono (Kd.R_far (p := ⟨gb1010, 1, none⟩) (Kd.R_far (p := ⟨gb1010, 0, none⟩) (Kd.R_types HO1001.out BK1010.out (by decide)) (fun _ hk => hk.2) (.int .i64 t1006)) (fun _ hk => hk.2) (.slice Ao34 t1007.length co34)) (fun _ h_ => h_.1))) (Kd.R_base ho0) hb); have n2_ := ab_ (Kd.R_elder' (by (with_reducible repeat (first | apply ao_ | apply ap_ | apply aq_)); exact (Kd.R_mono (Kd.R_far (p := ⟨gb1010, 1, none⟩) (Kd.R_far (p := ⟨gb1010, 0, none⟩) (Kd.R_types HO1004.out BK1010.out (by decide)) (fun _ hk => hk.2) (.int .i64 t1006)) (fun _ hk => hk.2) (.slice Ao34 t1007.length co34)) (fun _ h_ => h_.1))) (Kd.R_base ho0) hb); have n3_ := ab_ (Kd.R_below (by (with_reducible repeat (first | apply ao_ | apply ap_ | apply aq_)); exact (Kd.R_mono (Kd.R_far (p := ⟨gb1010, 1, none⟩) (Kd.R_far (p := ⟨gb1010, 0, none⟩) (Kd.R_types HO1009.out BK1010.out (by decide)) (fun _ hk => hk.2) (.int .i64 t1006)) (fun _ hk => hk.2) (.slice Ao34 t1007.length co34)) (fun _ h_ => h_.1))) hb); have n4_ := ab_ (Kd.R_lower (Kd.R_new' (Kd.R_new' ho0 (Kd.R_lt (by (with_reducible repeat (first | apply ao_ | apply ap_ | apply aq_)); exact (Kd.R_mono (Kd.R_far (p := ⟨gb1010, 1, none⟩) (Kd.R_far (p := ⟨gb1010, 0, none⟩) (Kd.R_types HO1001.out BK1010.out (by decide)) (fun _ hk => hk.2) (.int .i64 t1006)) (fun _ hk => hk.2) (.slice Ao34 t1007.length co34)) (fun _ h_ => h_.1))))) (Kd.R_lt (by (with_reducible repeat (first | apply ao_ | apply ap_ | apply aq_)); exact (Kd.R_mono (Kd.R_far (p := ⟨gb1010, 1, none⟩) (Kd.R_far (p := ⟨gb1010, 0, none⟩) (Kd.R_types HO1004.out BK1010.out (by decide)) (fun _ hk => hk.2) (.int .i64 t1006)) (fun _ hk => hk.2) (.slice Ao34 t1007.length co34)) (fun _ h_ => h_.1))))) (below_size (by repeat (first | (with_reducible first | exact HB.out | apply ai_ | apply ag_ | apply ah_ | refine af_ ?_ GE992.out | refine af_ ?_ GE1010.out) | exact HB.out)))); have n5_ := ab_ (blk_below (g := gb992) (o := .cells #[.int .i64 a0_0, .slice A0_1 l0_1.length c0_1] 24 (0, 0)) (by (with_reducible repeat (first | refine ac_ ?_ _ | refine ae_ ?_ | refine ad_ ?_ _)); refine blk_far ?_ NB992_1010.out _; (with_reducible repeat (first | refine ac_ ?_ _ | refine ae_ ?_ | refine ad_ ?_ _)); refine blk_far ?_ NB992_1010.out _; (with_reducible repeat (first | refine ac_ ?_ _ | refine ae_ ?_ | refine ad_ ?_ _)); exact BK992.out) hb); have n6_ := ab_ (blk_below (g := gb1010) (o := .cells #[.int .i64 t1006, .slice Ao34 t1007.length co34] 29 (0, 0)) (by (with_reducible repeat (first | refine ac_ ?_ _ | refine ae_ ?_ | refine ad_ ?_ _)); refine blk_put (cs := #[.int .i64 t1006, .slice none 0 0]) ?_ 1 _ rfl; (with_reducible repeat (first | refine ac_ ?_ _ | refine ae_ ?_ | refine ad_ ?_ _)); refine blk_put (cs := #[.int .i64 0, .slice none 0 0]) ?_ 0 _ rfl; (with_reducible repeat (first | refine ac_ ?_ _ | refine ae_ ?_ | refine ad_ ?_ _)); exact BK1010.out) hb); have n7_ := ab_ (au_ (by repeat (first | (with_reducible first | exact HB.out | apply ai_ | apply ag_ | apply ah_ | refine af_ ?_ GE992.out | refine af_ ?_ GE1010.out) | exact HB.out)) hb); clear HO998; clear HO1001; clear HO1004; clear HO1009; clear BK992; clear BK1010; clear HB; have HO998 := n0_; have HO1001 := n1_; have HO1004 := n2_; have HO1009 := n3_; have HO1013 := n4_; have BK992 := n5_; have BK1010 := n6_; have HB := n7_; clear n0_ n1_ n2_ n3_ n4_ n5_ n6_ n7_; (try clear hb); (try clear hb2); (try clear hk); (try clear hi); (try clear ho0); have hcz36_0 : w35.cell? ⟨gb1010, 0, none⟩ = some (.int .i64 t1006) := (an_ BK1010.out 0).trans rfl; have hcz36_1 : w35.cell? ⟨gb1010, 1, none⟩ = some (.slice Ao34 t1007.length co34) := (an_ BK1010.out 1).trans rfl; have hfz36_0 := am_ BK1010.out 0; have hfz36_1 := am_ BK1010.out 1; obtain ⟨Ao37, co37, eo37⟩ := Kd.R_slice HO1013.out; subst eo37) | ((with_reducible refine gate_callee (f := 53) rfl ?_); refine goesL_ (some 42) rfl rfl Try.func53 (by kernel_rfl) rfl #[.agg #[.int .i64 t1006, .slice Ao34 t1007.length co34], .slice Ao37 t1011.length co37] rfl (by (try simp only [List.map_toArray, List.map_cons, List.map_nil]); first | done | rfl | (simp only [List.length_drop, List.length_take]; rfl)) ?_; (with_reducible refine (impl_HandleComp.calls t1006 _ _ t1007 _ _ t1011 t1014 t1017 _ ?side1 ?side2 ?side3 ?side4 A18.out).mono ?_); (case side1 => repeat (first | exact (Kd.R_reads' HO1009.out).2.2 | (with_reducible refine ar_ ?_ _) | (with_reducible refine as_ ?_ _) | (with_reducible refine Kd.C_drew ?_))); (case side2 => exact (Kd.R_reads' HO1009.out).2.1); (case side3 => repeat (first | exact (Kd.R_reads' HO1013.out).2.2 | (with_reducible refine ar_ ?_ _) | (with_reducible refine as_ ?_ _) | (with_reducible refine Kd.C_drew ?_))); (case side4 => exact (Kd.R_reads' HO1013.out).2.1); rintro e w38 ⟨v1015, rfl, ho0, hb⟩; refine ⟨_, rfl, ?_⟩; have n0_ := ab_ (Kd.R_below (by (with_reducible repeat (first | apply ao_ | apply ap_ | apply aq_)); exact HO998.out) hb); have n1_ := ab_ (Kd.R_elder' (by (with_reducible repeat (first | apply ao_ | apply ap_ | apply aq_)); exact HO1001.out) (Kd.R_base ho0) hb); have n2_ := ab_ (Kd.R_elder' (by (with_reducible repeat (first | apply ao_ | apply ap_ | apply aq_)); exact HO1004.out) (Kd.R_base ho0) hb); have n3_ := ab_ (Kd.R_below (by (with_reducible repeat (first | apply ao_ | apply ap_ | apply aq_)); exact HO1009.out) hb); have n4_ := ab_ (Kd.R_elder' (by (with_reducible repeat (first | apply ao_ | apply ap_ | apply aq_)); exact HO1013.out) (Kd.R_base ho0) hb); have n5_ := ab_ (Kd.R_lower (Kd.R_new' (Kd.R_new' (Kd.R_new' ho0 (Kd.R_lt (by (with_reducible repeat (first | apply ao_ | apply ap_ | apply aq_)); exact HO1001.out))) (Kd.R_lt (by (with_reducible repeat (first | apply ao_ | apply ap_ | apply aq_)); exact HO1004.out))) (Kd.R_lt (by (with_reducible repeat (first | apply ao_ | apply ap_ | apply aq_)); exact HO1013.out))) (below_size (by repeat (first | (with_reducible first | exact HB.out | apply ai_ | apply ag_ | apply ah_ | refine af_ ?_ GE992.out | refine af_ ?_ GE1010.out) | exact HB.out)))); have n6_ := ab_ (blk_below (g := gb992) (o := .cells #[.int .i64 a0_0, .slice A0_1 l0_1.length c0_1] 24 (0, 0)) (by (with_reducible repeat (first | refine ac_ ?_ _ | refine ae_ ?_ | refine ad_ ?_ _)); exact BK992.out) hb); have n7_ := ab_ (blk_below (g := gb1010) (o := .cells #[.int .i64 t1006, .slice Ao34 t1007.length co34] 29 (0, 0)) (by (with_reducible repeat (first | refine ac_ ?_ _ | refine ae_ ?_ | refine ad_ ?_ _)); exact BK1010.out) hb); have n8_ := ab_ (au_ (by repeat (first | (with_reducible first | exact HB.out | apply ai_ | apply ag_ | apply ah_ | refine af_ ?_ GE992.out | refine af_ ?_ GE1010.out) | exact HB.out)) hb); clear HO998; clear HO1001; clear HO1004; clear HO1009; clear HO1013; clear BK992; clear BK1010; clear HB; have HO998 := n0_; have HO1001 := n1_; have HO1004 := n2_; have HO1009 := n3_; have HO1013 := n4_; have HO1016 := n5_; have BK992 := n6_; have BK1010 := n7_; have HB := n8_; clear n0_ n1_ n2_ n3_ n4_ n5_ n6_ n7_ n8_; (try clear hb); (try clear hb2); (try clear hk); (try clear hi); (try clear ho0)))
      (try simp only [Act.put, List.setIfInBounds_toArray, List.set_cons_zero, List.set_cons_succ])
      go_cut [53] (fun v53 wc => ∃ (kq : Nat) (x53_18 : Bool), v53 = .bool x53_18 ∧ Aside0 (laws_FnExactHandleComp.j0 kq l1 t1002 t1005 t1011 t1014 t1017 x53_18 a0_0 l0_1 t1006 t1007 = some true) ∧ Aside0 (kq ≤ k) ∧ Aside0 (Kd.R k83 83 wc w.heap.size (fun k_ => some k_ ≠ ((.slice Ao37 t1011.length co37) : Value).ownBlock ∧ some k_ ≠ (v1015 : Value).ownBlock) v1003 t1002) ∧ Aside0 (Kd.R k83 83 wc w.heap.size (fun k_ => some k_ ≠ (v1003 : Value).ownBlock ∧ some k_ ≠ (v1015 : Value).ownBlock) (.slice Ao37 t1011.length co37) t1011) ∧ Aside0 (Kd.R k83 83 wc w.heap.size (fun k_ => some k_ ≠ (v1003 : Value).ownBlock ∧ some k_ ≠ ((.slice Ao37 t1011.length co37) : Value).ownBlock) v1015 t1014) ∧ Aside0 (Kd.R k82 82 wc w.heap.size (fun _ => True) (.slice Ao34 t1007.length co34) t1007) ∧ Aside0 (wc.heap[gb992]? = some (.cells #[.int .i64 a0_0, (.slice A0_1 l0_1.length c0_1)] 24 (0, 0))) ∧ Aside0 (wc.heap[gb1010]? = some (.cells #[.int .i64 t1006, (.slice Ao34 t1007.length co34)] 29 (0, 0))) ∧ Aside0 (Below w.heap.size w wc))
      case first =>
        have H := HC19.out
        clear HC19
        replace H := Option.bind_eq_some_iff.mp H
        obtain ⟨t1018, A390, H⟩ := H
        replace H : (if t1018 = true then (laws_FnExactHandleComp.j0 k l1 t1002 t1005 t1011 t1014 t1017 (t1017 != t1005) a0_0 l0_1 t1006 t1007) else (laws_FnExactHandleComp.j0 k l1 t1002 t1005 t1011 t1014 t1017 true a0_0 l0_1 t1006 t1007)) = some true := H
        have A39 := ab_ A390
        clear A390
        by_cases c40 : t1018 = true
        · subst c40
          have H1 : (laws_FnExactHandleComp.j0 k l1 t1002 t1005 t1011 t1014 t1017 (t1017 != t1005) a0_0 l0_1 t1006 t1007) = some true := by rw [if_pos rfl] at H; first | done | exact H
          clear H
          have H := H1
          clear H1
          have H' := ab_ H
          clear H
          obtain ⟨Ao41, co41, eo41⟩ := Kd.R_slice HO1016.out
          subst eo41
          obtain ⟨Ao42, co42, eo42⟩ := Kd.R_slice HO1004.out
          subst eo42
          go_wp2_with (first | ((with_reducible refine gate_callee (f := 22) rfl ?_); refine goesL_ (some 47) rfl rfl Try.func22 (by kernel_rfl) rfl #[.slice Ao41 t1014.length co41, .slice Ao42 t1002.length co42] rfl (by (try simp only [List.map_toArray, List.map_cons, List.map_nil]); first | done | rfl | (simp only [List.length_drop, List.length_take]; rfl)) ?_; (with_reducible refine (laws_eqCompS.calls k _ _ t1014 _ _ t1002 true _ ?side1 ?side2 ?side3 ?side4 A39.out).mono ?_); (case side1 => repeat (first | exact (Kd.R_reads' HO1016.out).2.2 | (with_reducible refine ar_ ?_ _) | (with_reducible refine as_ ?_ _) | (with_reducible refine Kd.C_drew ?_))); (case side2 => exact (Kd.R_reads' HO1016.out).2.1); (case side3 => repeat (first | exact (Kd.R_reads' HO1004.out).2.2 | (with_reducible refine ar_ ?_ _) | (with_reducible refine as_ ?_ _) | (with_reducible refine Kd.C_drew ?_))); (case side4 => exact (Kd.R_reads' HO1004.out).2.1); rintro e w43 ⟨rfl, hb⟩; refine ⟨_, rfl, ?_⟩; have n0_ := ab_ (Kd.R_below (by (with_reducible repeat (first | apply ao_ | apply ap_ | apply aq_)); exact HO998.out) hb); have n1_ := ab_ (Kd.R_below (by (with_reducible repeat (first | apply ao_ | apply ap_ | apply aq_)); exact HO1001.out) hb); have n2_ := ab_ (Kd.R_below (by (with_reducible repeat (first | apply ao_ | apply ap_ | apply aq_)); exact HO1004.out) hb); have n3_ := ab_ (Kd.R_below (by (with_reducible repeat (first | apply ao_ | apply ap_ | apply aq_)); exact HO1009.out) hb); have n4_ := ab_ (Kd.R_below (by (with_reducible repeat (first | apply ao_ | apply ap_ | apply aq_)); exact HO1013.out) hb); have n5_ := ab_ (Kd.R_below (by (with_reducible repeat (first | apply ao_ | apply ap_ | apply aq_)); exact HO1016.out) hb); have n6_ := ab_ (blk_below (g := gb992) (o := .cells #[.int .i64 a0_0, .slice A0_1 l0_1.length c0_1] 24 (0, 0)) (by (with_reducible repeat (first | refine ac_ ?_ _ | refine ae_ ?_ | refine ad_ ?_ _)); exact BK992.out) hb); have n7_ := ab_ (blk_below (g := gb1010) (o := .cells #[.int .i64 t1006, .slice Ao34 t1007.length co34] 29 (0, 0)) (by (with_reducible repeat (first | refine ac_ ?_ _ | refine ae_ ?_ | refine ad_ ?_ _)); exact BK1010.out) hb); have n8_ := ab_ (au_ (by repeat (first | (with_reducible first | exact HB.out | apply ai_ | apply ag_ | apply ah_ | refine af_ ?_ GE992.out | refine af_ ?_ GE1010.out) | exact HB.out)) hb); clear HO998; clear HO1001; clear HO1004; clear HO1009; clear HO1013; clear HO1016; clear BK992; clear BK1010; clear HB; have HO998 := n0_; have HO1001 := n1_; have HO1004 := n2_; have HO1009 := n3_; have HO1013 := n4_; have HO1016 := n5_; have BK992 := n6_; have BK1010 := n7_; have HB := n8_; clear n0_ n1_ n2_ n3_ n4_ n5_ n6_ n7_ n8_; (try clear hb); (try clear hb2); (try clear hk); (try clear hi)))
          go_meet
          case rel => exact ⟨_, ((t1017 != t1005)), (by first | rfl | (simp; done) | (simp [*]; done)), H', ⟨by first | omega | exact Nat.le_refl _⟩, ⟨by (with_reducible repeat (first | apply ao_ | apply ap_ | apply aq_)); exact Kd.R_mono HO1004.out (fun _ hk => ⟨hk.1.2, hk.2⟩)⟩, ⟨by (with_reducible repeat (first | apply ao_ | apply ap_ | apply aq_)); exact Kd.R_mono HO1013.out (fun _ hk => ⟨hk.1.2, hk.2⟩)⟩, ⟨by (with_reducible repeat (first | apply ao_ | apply ap_ | apply aq_)); exact Kd.R_mono HO1016.out (fun _ hk => ⟨hk.1.2, hk.2⟩)⟩, ⟨by (with_reducible repeat (first | apply ao_ | apply ap_ | apply aq_)); exact Kd.R_mono HO1009.out (fun _ hk => trivial)⟩, ⟨by (with_reducible repeat (first | refine ac_ ?_ _ | refine ae_ ?_ | refine ad_ ?_ _)); exact BK992.out⟩, ⟨by (with_reducible repeat (first | refine ac_ ?_ _ | refine ae_ ?_ | refine ad_ ?_ _)); exact BK1010.out⟩, ⟨by repeat (first | (with_reducible first | exact HB.out | apply ai_ | apply ag_ | apply ah_ | refine af_ ?_ GE992.out | refine af_ ?_ GE1010.out) | exact HB.out)⟩⟩
        · replace c40 := Bool.eq_false_iff.mpr c40
          subst c40
          have H1 : (laws_FnExactHandleComp.j0 k l1 t1002 t1005 t1011 t1014 t1017 true a0_0 l0_1 t1006 t1007) = some true := by rw [if_neg (show ¬ (false = true) by decide)] at H; first | done | exact H
          clear H
          have H := H1
          clear H1
          have H' := ab_ H
          clear H
          obtain ⟨Ao44, co44, eo44⟩ := Kd.R_slice HO1016.out
          subst eo44
          obtain ⟨Ao45, co45, eo45⟩ := Kd.R_slice HO1004.out
          subst eo45
          go_wp2_with (first | ((with_reducible refine gate_callee (f := 22) rfl ?_); refine goesL_ (some 47) rfl rfl Try.func22 (by kernel_rfl) rfl #[.slice Ao44 t1014.length co44, .slice Ao45 t1002.length co45] rfl (by (try simp only [List.map_toArray, List.map_cons, List.map_nil]); first | done | rfl | (simp only [List.length_drop, List.length_take]; rfl)) ?_; (with_reducible refine (laws_eqCompS.calls k _ _ t1014 _ _ t1002 false _ ?side1 ?side2 ?side3 ?side4 A39.out).mono ?_); (case side1 => repeat (first | exact (Kd.R_reads' HO1016.out).2.2 | (with_reducible refine ar_ ?_ _) | (with_reducible refine as_ ?_ _) | (with_reducible refine Kd.C_drew ?_))); (case side2 => exact (Kd.R_reads' HO1016.out).2.1); (case side3 => repeat (first | exact (Kd.R_reads' HO1004.out).2.2 | (with_reducible refine ar_ ?_ _) | (with_reducible refine as_ ?_ _) | (with_reducible refine Kd.C_drew ?_))); (case side4 => exact (Kd.R_reads' HO1004.out).2.1); rintro e w46 ⟨rfl, hb⟩; refine ⟨_, rfl, ?_⟩; have n0_ := ab_ (Kd.R_below (by (with_reducible repeat (first | apply ao_ | apply ap_ | apply aq_)); exact HO998.out) hb); have n1_ := ab_ (Kd.R_below (by (with_reducible repeat (first | apply ao_ | apply ap_ | apply aq_)); exact HO1001.out) hb); have n2_ := ab_ (Kd.R_below (by (with_reducible repeat (first | apply ao_ | apply ap_ | apply aq_)); exact HO1004.out) hb); have n3_ := ab_ (Kd.R_below (by (with_reducible repeat (first | apply ao_ | apply ap_ | apply aq_)); exact HO1009.out) hb); have n4_ := ab_ (Kd.R_below (by (with_reducible repeat (first | apply ao_ | apply ap_ | apply aq_)); exact HO1013.out) hb); have n5_ := ab_ (Kd.R_below (by (with_reducible repeat (first | apply ao_ | apply ap_ | apply aq_)); exact HO1016.out) hb); have n6_ := ab_ (blk_below (g := gb992) (o := .cells #[.int .i64 a0_0, .slice A0_1 l0_1.length c0_1] 24 (0, 0)) (by (with_reducible repeat (first | refine ac_ ?_ _ | refine ae_ ?_ | refine ad_ ?_ _)); exact BK992.out) hb); have n7_ := ab_ (blk_below (g := gb1010) (o := .cells #[.int .i64 t1006, .slice Ao34 t1007.length co34] 29 (0, 0)) (by (with_reducible repeat (first | refine ac_ ?_ _ | refine ae_ ?_ | refine ad_ ?_ _)); exact BK1010.out) hb); have n8_ := ab_ (au_ (by repeat (first | (with_reducible first | exact HB.out | apply ai_ | apply ag_ | apply ah_ | refine af_ ?_ GE992.out | refine af_ ?_ GE1010.out) | exact HB.out)) hb); clear HO998; clear HO1001; clear HO1004; clear HO1009; clear HO1013; clear HO1016; clear BK992; clear BK1010; clear HB; have HO998 := n0_; have HO1001 := n1_; have HO1004 := n2_; have HO1009 := n3_; have HO1013 := n4_; have HO1016 := n5_; have BK992 := n6_; have BK1010 := n7_; have HB := n8_; clear n0_ n1_ n2_ n3_ n4_ n5_ n6_ n7_ n8_; (try clear hb); (try clear hb2); (try clear hk); (try clear hi)))
          go_meet
          case rel => exact ⟨_, (true), (by first | rfl | (simp; done) | (simp [*]; done)), H', ⟨by first | omega | exact Nat.le_refl _⟩, ⟨by (with_reducible repeat (first | apply ao_ | apply ap_ | apply aq_)); exact Kd.R_mono HO1004.out (fun _ hk => ⟨hk.1.2, hk.2⟩)⟩, ⟨by (with_reducible repeat (first | apply ao_ | apply ap_ | apply aq_)); exact Kd.R_mono HO1013.out (fun _ hk => ⟨hk.1.2, hk.2⟩)⟩, ⟨by (with_reducible repeat (first | apply ao_ | apply ap_ | apply aq_)); exact Kd.R_mono HO1016.out (fun _ hk => ⟨hk.1.2, hk.2⟩)⟩, ⟨by (with_reducible repeat (first | apply ao_ | apply ap_ | apply aq_)); exact Kd.R_mono HO1009.out (fun _ hk => trivial)⟩, ⟨by (with_reducible repeat (first | refine ac_ ?_ _ | refine ae_ ?_ | refine ad_ ?_ _)); exact BK992.out⟩, ⟨by (with_reducible repeat (first | refine ac_ ?_ _ | refine ae_ ?_ | refine ad_ ?_ _)); exact BK1010.out⟩, ⟨by repeat (first | (with_reducible first | exact HB.out | apply ai_ | apply ag_ | apply ah_ | refine af_ ?_ GE992.out | refine af_ ?_ GE1010.out) | exact HB.out)⟩⟩
      case rest =>
        clear HC19
        try clear c1
        try clear c2
        try clear p2
        try clear c3
        try clear c4
        try clear c4b0
        try clear c5
        try clear c9
        try clear c9b0
        try clear c12
        try clear c13
        try clear c15
        try clear c18
        try clear c20
        try clear c22
        try clear c32
        try clear c40
        try clear hcz11_0
        try clear hcz11_1
        try clear hcz21_0
        try clear hcz21_1
        try clear hcz23_0
        try clear hcz23_1
        try clear hcz29_0
        try clear hcz29_1
        try clear hcz33_0
        try clear hcz33_1
        try clear hcz36_0
        try clear hcz36_1
        try clear hcz6_0
        try clear hcz6_1
        try clear hfz11_0
        try clear hfz11_1
        try clear hfz21_0
        try clear hfz21_1
        try clear hfz23_0
        try clear hfz23_1
        try clear hfz29_0
        try clear hfz29_1
        try clear hfz33_0
        try clear hfz33_1
        try clear hfz36_0
        try clear hfz36_1
        try clear hfz6_0
        try clear hfz6_1
        obtain ⟨kq, x53_18, rfl, HA, HJ18, HO_6, HO_9, HO_10, HO_1011001, BK992, BK1010, HB⟩ := hcut
        cases kq with
        | zero => exact absurd HA.out (by simp [laws_FnExactHandleComp.j0])
        | succ kj18 =>
          have H := HA.out
          clear HA
          simp only [laws_FnExactHandleComp.j0] at H
          by_cases c47 : x53_18 = true
          · subst c47
            have H1 : (some false) = some true := by rw [if_pos rfl] at H; first | done | exact H
            clear H
            have H := H1
            clear H1
            exact absurd H (by simp)
          · replace c47 := Bool.eq_false_iff.mpr c47
            subst c47
            have H1 : ((laws_toHandler.f kj18 a0_0 l0_1).bind fun bt1019 => ((laws_eqHandler.f kj18 t1006 t1007 bt1019.1 bt1019.2).bind fun t1023 => (if t1023 = true then ((laws_toCompS.f kj18 l1).bind fun t1024 => ((laws_eqCompS.f kj18 t1011 t1024).bind fun t1027 => (if t1027 = true then ((laws_markHandler.f kj18 t1006 t1007 1).bind fun bt1028 => ((laws_markCompS.f kj18 t1011 bt1028.1).bind fun bt1030 => (if bt1030.1 < 0 then (laws_FnExactHandleComp.j1 kj18 l1 t1002 t1005 t1014 true a0_0 l0_1) else ((laws_eqCompS.f kj18 t1014 t1002).bind fun t1032 => (if t1032 = true then (laws_FnExactHandleComp.j1 kj18 l1 t1002 t1005 t1014 (t1017 != t1005) a0_0 l0_1) else (laws_FnExactHandleComp.j1 kj18 l1 t1002 t1005 t1014 true a0_0 l0_1)))))) else (some false)))) else (some false)))) = some true := by rw [if_neg (show ¬ (false = true) by decide)] at H; first | done | exact H
            clear H
            have H := H1
            clear H1
            replace H := Option.bind_eq_some_iff.mp H
            obtain ⟨⟨t1019, t1020⟩, A480, H⟩ := H
            replace H : ((laws_eqHandler.f kj18 t1006 t1007 t1019 t1020).bind fun t1023 => (if t1023 = true then ((laws_toCompS.f kj18 l1).bind fun t1024 => ((laws_eqCompS.f kj18 t1011 t1024).bind fun t1027 => (if t1027 = true then ((laws_markHandler.f kj18 t1006 t1007 1).bind fun bt1028 => ((laws_markCompS.f kj18 t1011 bt1028.1).bind fun bt1030 => (if bt1030.1 < 0 then (laws_FnExactHandleComp.j1 kj18 l1 t1002 t1005 t1014 true a0_0 l0_1) else ((laws_eqCompS.f kj18 t1014 t1002).bind fun t1032 => (if t1032 = true then (laws_FnExactHandleComp.j1 kj18 l1 t1002 t1005 t1014 (t1017 != t1005) a0_0 l0_1) else (laws_FnExactHandleComp.j1 kj18 l1 t1002 t1005 t1014 true a0_0 l0_1)))))) else (some false)))) else (some false))) = some true := H
            have A48 := ab_ A480
            clear A480
            replace H := Option.bind_eq_some_iff.mp H
            obtain ⟨t1023, A490, H⟩ := H
            replace H : (if t1023 = true then ((laws_toCompS.f kj18 l1).bind fun t1024 => ((laws_eqCompS.f kj18 t1011 t1024).bind fun t1027 => (if t1027 = true then ((laws_markHandler.f kj18 t1006 t1007 1).bind fun bt1028 => ((laws_markCompS.f kj18 t1011 bt1028.1).bind fun bt1030 => (if bt1030.1 < 0 then (laws_FnExactHandleComp.j1 kj18 l1 t1002 t1005 t1014 true a0_0 l0_1) else ((laws_eqCompS.f kj18 t1014 t1002).bind fun t1032 => (if t1032 = true then (laws_FnExactHandleComp.j1 kj18 l1 t1002 t1005 t1014 (t1017 != t1005) a0_0 l0_1) else (laws_FnExactHandleComp.j1 kj18 l1 t1002 t1005 t1014 true a0_0 l0_1)))))) else (some false)))) else (some false)) = some true := H
            have A49 := ab_ A490
            clear A490
            by_cases c50 : t1023 = true
            · subst c50
              have H1 : ((laws_toCompS.f kj18 l1).bind fun t1024 => ((laws_eqCompS.f kj18 t1011 t1024).bind fun t1027 => (if t1027 = true then ((laws_markHandler.f kj18 t1006 t1007 1).bind fun bt1028 => ((laws_markCompS.f kj18 t1011 bt1028.1).bind fun bt1030 => (if bt1030.1 < 0 then (laws_FnExactHandleComp.j1 kj18 l1 t1002 t1005 t1014 true a0_0 l0_1) else ((laws_eqCompS.f kj18 t1014 t1002).bind fun t1032 => (if t1032 = true then (laws_FnExactHandleComp.j1 kj18 l1 t1002 t1005 t1014 (t1017 != t1005) a0_0 l0_1) else (laws_FnExactHandleComp.j1 kj18 l1 t1002 t1005 t1014 true a0_0 l0_1)))))) else (some false)))) = some true := by rw [if_pos rfl] at H; first | done | exact H
              clear H
              have H := H1
              clear H1
              replace H := Option.bind_eq_some_iff.mp H
              obtain ⟨t1024, A510, H⟩ := H
              replace H : ((laws_eqCompS.f kj18 t1011 t1024).bind fun t1027 => (if t1027 = true then ((laws_markHandler.f kj18 t1006 t1007 1).bind fun bt1028 => ((laws_markCompS.f kj18 t1011 bt1028.1).bind fun bt1030 => (if bt1030.1 < 0 then (laws_FnExactHandleComp.j1 kj18 l1 t1002 t1005 t1014 true a0_0 l0_1) else ((laws_eqCompS.f kj18 t1014 t1002).bind fun t1032 => (if t1032 = true then (laws_FnExactHandleComp.j1 kj18 l1 t1002 t1005 t1014 (t1017 != t1005) a0_0 l0_1) else (laws_FnExactHandleComp.j1 kj18 l1 t1002 t1005 t1014 true a0_0 l0_1)))))) else (some false))) = some true := H
              have A51 := ab_ A510
              clear A510
              replace H := Option.bind_eq_some_iff.mp H
              obtain ⟨t1027, A520, H⟩ := H
              replace H : (if t1027 = true then ((laws_markHandler.f kj18 t1006 t1007 1).bind fun bt1028 => ((laws_markCompS.f kj18 t1011 bt1028.1).bind fun bt1030 => (if bt1030.1 < 0 then (laws_FnExactHandleComp.j1 kj18 l1 t1002 t1005 t1014 true a0_0 l0_1) else ((laws_eqCompS.f kj18 t1014 t1002).bind fun t1032 => (if t1032 = true then (laws_FnExactHandleComp.j1 kj18 l1 t1002 t1005 t1014 (t1017 != t1005) a0_0 l0_1) else (laws_FnExactHandleComp.j1 kj18 l1 t1002 t1005 t1014 true a0_0 l0_1)))))) else (some false)) = some true := H
              have A52 := ab_ A520
              clear A520
              by_cases c53 : t1027 = true
              · subst c53
                have H1 : ((laws_markHandler.f kj18 t1006 t1007 1).bind fun bt1028 => ((laws_markCompS.f kj18 t1011 bt1028.1).bind fun bt1030 => (if bt1030.1 < 0 then (laws_FnExactHandleComp.j1 kj18 l1 t1002 t1005 t1014 true a0_0 l0_1) else ((laws_eqCompS.f kj18 t1014 t1002).bind fun t1032 => (if t1032 = true then (laws_FnExactHandleComp.j1 kj18 l1 t1002 t1005 t1014 (t1017 != t1005) a0_0 l0_1) else (laws_FnExactHandleComp.j1 kj18 l1 t1002 t1005 t1014 true a0_0 l0_1)))))) = some true := by rw [if_pos rfl] at H; first | done | exact H
                clear H
                have H := H1
                clear H1
                replace H := Option.bind_eq_some_iff.mp H
                obtain ⟨⟨t1028, t1029⟩, A540, H⟩ := H
                replace H : ((laws_markCompS.f kj18 t1011 t1028).bind fun bt1030 => (if bt1030.1 < 0 then (laws_FnExactHandleComp.j1 kj18 l1 t1002 t1005 t1014 true a0_0 l0_1) else ((laws_eqCompS.f kj18 t1014 t1002).bind fun t1032 => (if t1032 = true then (laws_FnExactHandleComp.j1 kj18 l1 t1002 t1005 t1014 (t1017 != t1005) a0_0 l0_1) else (laws_FnExactHandleComp.j1 kj18 l1 t1002 t1005 t1014 true a0_0 l0_1))))) = some true := H
                have A54 := ab_ A540
                clear A540
                replace H := Option.bind_eq_some_iff.mp H
                obtain ⟨⟨t1030, t1031⟩, A550, H⟩ := H
                replace H : (if t1030 < 0 then (laws_FnExactHandleComp.j1 kj18 l1 t1002 t1005 t1014 true a0_0 l0_1) else ((laws_eqCompS.f kj18 t1014 t1002).bind fun t1032 => (if t1032 = true then (laws_FnExactHandleComp.j1 kj18 l1 t1002 t1005 t1014 (t1017 != t1005) a0_0 l0_1) else (laws_FnExactHandleComp.j1 kj18 l1 t1002 t1005 t1014 true a0_0 l0_1)))) = some true := H
                have A55 := ab_ A550
                clear A550
                have HC56 := ab_ H
                clear H
                try go_wp2
                have n0_ := ab_ (aq_ HO_6.out)
                have n1_ := ab_ (aq_ HO_9.out)
                have n2_ := ab_ (aq_ HO_10.out)
                have n3_ := ab_ (aq_ HO_1011001.out)
                have n4_ := ab_ (ae_ BK992.out)
                have n5_ := ab_ (ae_ BK1010.out)
                have n6_ := ab_ (ah_ HB.out)
                clear HO_6
                clear HO_9
                clear HO_10
                clear HO_1011001
                clear BK992
                clear BK1010
                clear HB
                have HO_6 := n0_
                have HO_9 := n1_
                have HO_10 := n2_
                have HO_1011001 := n3_
                have BK992 := n4_
                have BK1010 := n5_
                have HB := n6_
                clear n0_ n1_ n2_ n3_ n4_ n5_ n6_
                refine start_ (n := 5) (S := fun w' => w'.cell? ⟨gb1010, 0, none⟩ = some (.int .i64 t1006) ∧ w'.cell? ⟨gb1010, 1, none⟩ = some (.slice Ao34 t1007.length co34) ∧ w'.cell? ⟨gb992, 0, none⟩ = some (.int .i64 a0_0) ∧ w'.cell? ⟨gb992, 1, none⟩ = some (.slice A0_1 l0_1.length c0_1)) (ds := []) #[false, false, false, false, false] (by kernel_rfl) rfl rfl ⟨(an_ BK1010.out 0).trans rfl, (an_ BK1010.out 1).trans rfl, (an_ BK992.out 0).trans rfl, (an_ BK992.out 1).trans rfl⟩ (fun hHeld => ?_)
                generalize wc.drew = w57 at HO_6 HO_9 HO_10 HO_1011001 BK992 BK1010 HB hHeld ⊢
                refine take_ (i := 0) (N := some 54) (v := ?_) (a' := ?_) #[true, false, false, false, false] rfl rfl (by kernel_rfl) (fun _ _ _ h => h) (Or.inl ⟨by rfl, ?_⟩) hHeld ?_ ?_
                rotate_left
                · rintro w' ⟨s0, s1, s2, s3⟩
                  go_simp
                  with_reducible rfl
                rotate_left
                · simp only [Act.put, List.setIfInBounds_toArray, List.set_cons_zero, List.set_cons_succ, i64_w, i32_w]
                  rfl
                refine take_ (i := 1) (N := some 55) (v := ?_) (a' := ?_) #[true, true, false, false, false] rfl rfl (by kernel_rfl) (fun _ _ _ h => h) (Or.inl ⟨by rfl, ?_⟩) hHeld ?_ ?_
                rotate_left
                · rintro w' ⟨s0, s1, s2, s3⟩
                  go_simp
                  with_reducible rfl
                rotate_left
                · simp only [Act.put, List.setIfInBounds_toArray, List.set_cons_zero, List.set_cons_succ, i64_w, i32_w]
                  rfl
                refine one_ (i := 2) (N := some 56) #[true, true, true, false, false] rfl rfl (by kernel_rfl) (by decide) (fun K hK => ?_)
                refine goes_ Try.func15 (by kernel_rfl) rfl #[.agg #[.int .i64 a0_0, .slice A0_1 l0_1.length c0_1]] (by rfl) rfl rfl (by (try simp only [List.map_toArray, List.map_cons, List.map_nil]); first | done | rfl | (simp only [List.length_drop, List.length_take]; rfl)) ?_
                with_reducible refine (laws_toHandler.calls kj18 a0_0 _ _ l0_1 t1019 t1020 _ ?side1 ?side2 A48.out).mono ?_
                (case side1 => repeat (first | exact (Kd.C_below HR0_1.out HB.out) | (with_reducible refine ar_ ?_ _) | (with_reducible refine as_ ?_ _) | (with_reducible refine Kd.C_drew ?_)))
                (case side2 => exact HC0_1.out)
                rintro e w58 ⟨v1021, rfl, ho0, hb⟩
                refine ⟨_, rfl, ?_⟩
                have n0_ := ab_ (Kd.R_below (by (with_reducible repeat (first | apply ao_ | apply ap_ | apply aq_)); exact HO_6.out) hb)
                have n1_ := ab_ (Kd.R_below (by (with_reducible repeat (first | apply ao_ | apply ap_ | apply aq_)); exact HO_9.out) hb)
                have n2_ := ab_ (Kd.R_below (by (with_reducible repeat (first | apply ao_ | apply ap_ | apply aq_)); exact HO_10.out) hb)
                have n3_ := ab_ (Kd.R_elder' (by (with_reducible repeat (first | apply ao_ | apply ap_ | apply aq_)); exact HO_1011001.out) (Kd.R_base ho0) hb)
                have n4_ := ab_ (Kd.R_lower (Kd.R_new' ho0 (Kd.R_lt (by (with_reducible repeat (first | apply ao_ | apply ap_ | apply aq_)); exact HO_1011001.out))) (below_size (by repeat (first | (with_reducible first | exact HB.out | apply ai_ | apply ag_ | apply ah_ | refine af_ ?_ GE992.out | refine af_ ?_ GE1010.out) | exact HB.out))))
                have n5_ := ab_ (blk_below (g := gb992) (o := .cells #[.int .i64 a0_0, .slice A0_1 l0_1.length c0_1] 24 (0, 0)) (by (with_reducible repeat (first | refine ac_ ?_ _ | refine ae_ ?_ | refine ad_ ?_ _)); exact BK992.out) hb)
                have n6_ := ab_ (blk_below (g := gb1010) (o := .cells #[.int .i64 t1006, .slice Ao34 t1007.length co34] 29 (0, 0)) (by (with_reducible repeat (first | refine ac_ ?_ _ | refine ae_ ?_ | refine ad_ ?_ _)); exact BK1010.out) hb)
                have n7_ := ab_ (au_ (by repeat (first | (with_reducible first | exact HB.out | apply ai_ | apply ag_ | apply ah_ | refine af_ ?_ GE992.out | refine af_ ?_ GE1010.out) | exact HB.out)) hb)
                clear HO_6
                clear HO_9
                clear HO_10
                clear HO_1011001
                clear BK992
                clear BK1010
                clear HB
                have HO_6 := n0_
                have HO_9 := n1_
                have HO_10 := n2_
                have HO_1011001 := n3_
                have HO1022 := n4_
                have BK992 := n5_
                have BK1010 := n6_
                have HB := n7_
                clear n0_ n1_ n2_ n3_ n4_ n5_ n6_ n7_
                (try clear hb)
                (try clear hb2)
                (try clear hk)
                (try clear hi)
                (try clear ho0)
                obtain ⟨Ao59, co59, eo59⟩ := Kd.R_slice HO1022.out
                (first | subst eo59 | (injection eo59 with f1_ f2_ f3_; have f4_ := f1_.symm; have f5_ := f3_.symm; clear f1_ f2_ f3_; subst f4_; subst f5_))
                refine hK.out _ _ ⟨(an_ BK1010.out 0).trans rfl, (an_ BK1010.out 1).trans rfl, (an_ BK992.out 0).trans rfl, (an_ BK992.out 1).trans rfl⟩ (fun hHeld => ?_)
                clear hK K
                refine norm_ (a' := ?_) ?_ ?_
                rotate_left
                · show Act.put _ (some 56) _ = _
                  simp only [Act.put, List.setIfInBounds_toArray, List.set_cons_zero, List.set_cons_succ, i64_w, i32_w]
                  rfl
                refine one_ (i := 3) (N := some 57) #[true, true, true, true, false] rfl rfl (by kernel_rfl) (by decide) (fun K hK => ?_)
                refine goes_ Try.func17 (by kernel_rfl) rfl #[.agg #[.int .i64 t1006, .slice Ao34 t1007.length co34], .agg #[.int .i64 t1019, .slice Ao59 t1020.length co59]] (by rfl) rfl rfl (by (try simp only [List.map_toArray, List.map_cons, List.map_nil]); first | done | rfl | (simp only [List.length_drop, List.length_take]; rfl)) ?_
                with_reducible refine (laws_eqHandler.calls kj18 t1006 _ _ t1007 t1019 _ _ t1020 true _ ?side1 ?side2 ?side3 ?side4 A49.out).mono ?_
                (case side1 => repeat (first | exact (Kd.R_reads' HO_1011001.out).2.2 | (with_reducible refine ar_ ?_ _) | (with_reducible refine as_ ?_ _) | (with_reducible refine Kd.C_drew ?_)))
                (case side2 => exact (Kd.R_reads' HO_1011001.out).2.1)
                (case side3 => repeat (first | exact (Kd.R_reads' HO1022.out).2.2 | (with_reducible refine ar_ ?_ _) | (with_reducible refine as_ ?_ _) | (with_reducible refine Kd.C_drew ?_)))
                (case side4 => exact (Kd.R_reads' HO1022.out).2.1)
                rintro e w60 ⟨rfl, hb⟩
                refine ⟨_, rfl, ?_⟩
                have n0_ := ab_ (Kd.R_below (by (with_reducible repeat (first | apply ao_ | apply ap_ | apply aq_)); exact HO_6.out) hb)
                have n1_ := ab_ (Kd.R_below (by (with_reducible repeat (first | apply ao_ | apply ap_ | apply aq_)); exact HO_9.out) hb)
                have n2_ := ab_ (Kd.R_below (by (with_reducible repeat (first | apply ao_ | apply ap_ | apply aq_)); exact HO_10.out) hb)
                have n3_ := ab_ (Kd.R_below (by (with_reducible repeat (first | apply ao_ | apply ap_ | apply aq_)); exact HO_1011001.out) hb)
                have n4_ := ab_ (Kd.R_below (by (with_reducible repeat (first | apply ao_ | apply ap_ | apply aq_)); exact HO1022.out) hb)
                have n5_ := ab_ (blk_below (g := gb992) (o := .cells #[.int .i64 a0_0, .slice A0_1 l0_1.length c0_1] 24 (0, 0)) (by (with_reducible repeat (first | refine ac_ ?_ _ | refine ae_ ?_ | refine ad_ ?_ _)); exact BK992.out) hb)
                have n6_ := ab_ (blk_below (g := gb1010) (o := .cells #[.int .i64 t1006, .slice Ao34 t1007.length co34] 29 (0, 0)) (by (with_reducible repeat (first | refine ac_ ?_ _ | refine ae_ ?_ | refine ad_ ?_ _)); exact BK1010.out) hb)
                have n7_ := ab_ (au_ (by repeat (first | (with_reducible first | exact HB.out | apply ai_ | apply ag_ | apply ah_ | refine af_ ?_ GE992.out | refine af_ ?_ GE1010.out) | exact HB.out)) hb)
                clear HO_6
                clear HO_9
                clear HO_10
                clear HO_1011001
                clear HO1022
                clear BK992
                clear BK1010
                clear HB
                have HO_6 := n0_
                have HO_9 := n1_
                have HO_10 := n2_
                have HO_1011001 := n3_
                have HO1022 := n4_
                have BK992 := n5_
                have BK1010 := n6_
                have HB := n7_
                clear n0_ n1_ n2_ n3_ n4_ n5_ n6_ n7_
                (try clear hb)
                (try clear hb2)
                (try clear hk)
                (try clear hi)
                refine hK.out _ _ ⟨(an_ BK1010.out 0).trans rfl, (an_ BK1010.out 1).trans rfl, (an_ BK992.out 0).trans rfl, (an_ BK992.out 1).trans rfl⟩ (fun hHeld => ?_)
                clear hK K
                refine norm_ (a' := ?_) ?_ ?_
                rotate_left
                · show Act.put _ (some 57) _ = _
                  simp only [Act.put, List.setIfInBounds_toArray, List.set_cons_zero, List.set_cons_succ, i64_w, i32_w]
                  rfl
                refine pure_ (i := 4) (N := some 58) (v := ?_) (a' := ?_) #[true, true, true, true, true] rfl rfl (by kernel_rfl) (fun _ _ _ h => h) (Or.inl ⟨by rfl, ?_⟩) ?_ ?_
                rotate_left
                · intro w'
                  go_simp
                  with_reducible rfl
                rotate_left
                · simp only [Act.put, List.setIfInBounds_toArray, List.set_cons_zero, List.set_cons_succ, i64_w, i32_w]
                  rfl
                refine done_ (by kernel_rfl) ?_
                go_upto_region 21 with (first | ((with_reducible refine gate_callee (f := 20) rfl ?_); refine goesL_ (some 61) rfl rfl Try.func20 (by kernel_rfl) rfl #[.slice A1 l1.length c1] rfl (by (try simp only [List.map_toArray, List.map_cons, List.map_nil]); first | done | rfl | (simp only [List.length_drop, List.length_take]; rfl)) ?_; (with_reducible refine (laws_toCompS.calls kj18 _ _ l1 t1024 _ ?side1 ?side2 A51.out).mono ?_); (case side1 => repeat (first | exact (Kd.C_below HR1.out HB.out) | (with_reducible refine ar_ ?_ _) | (with_reducible refine as_ ?_ _) | (with_reducible refine Kd.C_drew ?_))); (case side2 => exact HC1.out); rintro e w61 ⟨v1025, rfl, ho0, hb⟩; refine ⟨_, rfl, ?_⟩; have n0_ := ab_ (Kd.R_elder' (by (with_reducible repeat (first | apply ao_ | apply ap_ | apply aq_)); exact HO_6.out) (Kd.R_base ho0) hb); have n1_ := ab_ (Kd.R_elder' (by (with_reducible repeat (first | apply ao_ | apply ap_ | apply aq_)); exact HO_9.out) (Kd.R_base ho0) hb); have n2_ := ab_ (Kd.R_elder' (by (with_reducible repeat (first | apply ao_ | apply ap_ | apply aq_)); exact HO_10.out) (Kd.R_base ho0) hb); have n3_ := ab_ (Kd.R_below (by (with_reducible repeat (first | apply ao_ | apply ap_ | apply aq_)); exact HO_1011001.out) hb); have n4_ := ab_ (Kd.R_below (by (with_reducible repeat (first | apply ao_ | apply ap_ | apply aq_)); exact HO1022.out) hb); have n5_ := ab_ (Kd.R_lower (Kd.R_new' (Kd.R_new' (Kd.R_new' ho0 (Kd.R_lt (by (with_reducible repeat (first | apply ao_ | apply ap_ | apply aq_)); exact HO_6.out))) (Kd.R_lt (by (with_reducible repeat (first | apply ao_ | apply ap_ | apply aq_)); exact HO_9.out))) (Kd.R_lt (by (with_reducible repeat (first | apply ao_ | apply ap_ | apply aq_)); exact HO_10.out))) (below_size (by repeat (first | (with_reducible first | exact HB.out | apply ai_ | apply ag_ | apply ah_ | refine af_ ?_ GE992.out | refine af_ ?_ GE1010.out) | exact HB.out)))); have n6_ := ab_ (blk_below (g := gb992) (o := .cells #[.int .i64 a0_0, .slice A0_1 l0_1.length c0_1] 24 (0, 0)) (by (with_reducible repeat (first | refine ac_ ?_ _ | refine ae_ ?_ | refine ad_ ?_ _)); exact BK992.out) hb); have n7_ := ab_ (blk_below (g := gb1010) (o := .cells #[.int .i64 t1006, .slice Ao34 t1007.length co34] 29 (0, 0)) (by (with_reducible repeat (first | refine ac_ ?_ _ | refine ae_ ?_ | refine ad_ ?_ _)); exact BK1010.out) hb); have n8_ := ab_ (au_ (by repeat (first | (with_reducible first | exact HB.out | apply ai_ | apply ag_ | apply ah_ | refine af_ ?_ GE992.out | refine af_ ?_ GE1010.out) | exact HB.out)) hb); clear HO_6; clear HO_9; clear HO_10; clear HO_1011001; clear HO1022; clear BK992; clear BK1010; clear HB; have HO_6 := n0_; have HO_9 := n1_; have HO_10 := n2_; have HO_1011001 := n3_; have HO1022 := n4_; have HO1026 := n5_; have BK992 := n6_; have BK1010 := n7_; have HB := n8_; clear n0_ n1_ n2_ n3_ n4_ n5_ n6_ n7_ n8_; (try clear hb); (try clear hb2); (try clear hk); (try clear hi); (try clear ho0); obtain ⟨Ao62, co62, eo62⟩ := Kd.R_slice HO1026.out; subst eo62) | ((with_reducible refine gate_callee (f := 22) rfl ?_); refine goesL_ (some 62) rfl rfl Try.func22 (by kernel_rfl) rfl #[.slice Ao37 t1011.length co37, .slice Ao62 t1024.length co62] rfl (by (try simp only [List.map_toArray, List.map_cons, List.map_nil]); first | done | rfl | (simp only [List.length_drop, List.length_take]; rfl)) ?_; (with_reducible refine (laws_eqCompS.calls kj18 _ _ t1011 _ _ t1024 true _ ?side1 ?side2 ?side3 ?side4 A52.out).mono ?_); (case side1 => repeat (first | exact (Kd.R_reads' HO_9.out).2.2 | (with_reducible refine ar_ ?_ _) | (with_reducible refine as_ ?_ _) | (with_reducible refine Kd.C_drew ?_))); (case side2 => exact (Kd.R_reads' HO_9.out).2.1); (case side3 => repeat (first | exact (Kd.R_reads' HO1026.out).2.2 | (with_reducible refine ar_ ?_ _) | (with_reducible refine as_ ?_ _) | (with_reducible refine Kd.C_drew ?_))); (case side4 => exact (Kd.R_reads' HO1026.out).2.1); rintro e w63 ⟨rfl, hb⟩; refine ⟨_, rfl, ?_⟩; have n0_ := ab_ (Kd.R_below (by (with_reducible repeat (first | apply ao_ | apply ap_ | apply aq_)); exact HO_6.out) hb); have n1_ := ab_ (Kd.R_below (by (with_reducible repeat (first | apply ao_ | apply ap_ | apply aq_)); exact HO_9.out) hb); have n2_ := ab_ (Kd.R_below (by (with_reducible repeat (first | apply ao_ | apply ap_ | apply aq_)); exact HO_10.out) hb); have n3_ := ab_ (Kd.R_below (by (with_reducible repeat (first | apply ao_ | apply ap_ | apply aq_)); exact HO_1011001.out) hb); have n4_ := ab_ (Kd.R_below (by (with_reducible repeat (first | apply ao_ | apply ap_ | apply aq_)); exact HO1022.out) hb); have n5_ := ab_ (Kd.R_below (by (with_reducible repeat (first | apply ao_ | apply ap_ | apply aq_)); exact HO1026.out) hb); have n6_ := ab_ (blk_below (g := gb992) (o := .cells #[.int .i64 a0_0, .slice A0_1 l0_1.length c0_1] 24 (0, 0)) (by (with_reducible repeat (first | refine ac_ ?_ _ | refine ae_ ?_ | refine ad_ ?_ _)); exact BK992.out) hb); have n7_ := ab_ (blk_below (g := gb1010) (o := .cells #[.int .i64 t1006, .slice Ao34 t1007.length co34] 29 (0, 0)) (by (with_reducible repeat (first | refine ac_ ?_ _ | refine ae_ ?_ | refine ad_ ?_ _)); exact BK1010.out) hb); have n8_ := ab_ (au_ (by repeat (first | (with_reducible first | exact HB.out | apply ai_ | apply ag_ | apply ah_ | refine af_ ?_ GE992.out | refine af_ ?_ GE1010.out) | exact HB.out)) hb); clear HO_6; clear HO_9; clear HO_10; clear HO_1011001; clear HO1022; clear HO1026; clear BK992; clear BK1010; clear HB; have HO_6 := n0_; have HO_9 := n1_; have HO_10 := n2_; have HO_1011001 := n3_; have HO1022 := n4_; have HO1026 := n5_; have BK992 := n6_; have BK1010 := n7_; have HB := n8_; clear n0_ n1_ n2_ n3_ n4_ n5_ n6_ n7_ n8_; (try clear hb); (try clear hb2); (try clear hk); (try clear hi); have hnb64 := NB1010_992.out; have hnc64 := NB992_1010.out; have hcz65_0 : w63.cell? ⟨gb1010, 0, none⟩ = some (.int .i64 t1006) := (an_ BK1010.out 0).trans rfl; have hcz65_1 : w63.cell? ⟨gb1010, 1, none⟩ = some (.slice Ao34 t1007.length co34) := (an_ BK1010.out 1).trans rfl; have hfz65_0 := am_ BK1010.out 0; have hfz65_1 := am_ BK1010.out 1) | ((with_reducible refine gate_callee (f := 25) rfl ?_); refine goesL_ (some 66) rfl rfl Try.func25 (by kernel_rfl) rfl #[.agg #[.int .i64 t1006, .slice Ao34 t1007.length co34], .int .i64 1] rfl (by (try simp only [List.map_toArray, List.map_cons, List.map_nil]); first | done | rfl | (simp only [List.length_drop, List.length_take]; rfl)) ?_; (with_reducible refine (laws_markHandler.calls kj18 t1006 (fun k_ => some k_ = (.slice Ao34 t1007.length co34 : Value).ownBlock) (.slice Ao34 t1007.length co34) t1007 1 t1028 t1029 w _ ?side1 ?side2 A54.out).mono ?_); (case side1 => repeat (first | (with_reducible first | exact HB.out | apply ai_ | apply ag_ | apply ah_ | refine af_ ?_ GE992.out | refine af_ ?_ GE1010.out) | exact HB.out)); (case side2 => exact Kd.R_tight rfl HO_1011001.out); rintro e w66 ⟨rfl, hy0, hb, hkp⟩; refine ⟨_, rfl, ?_⟩; have n0_ := ab_ (Kd.R_mono (ok' := fun k_ => some k_ ≠ (.slice Ao37 t1011.length co37 : Value).ownBlock ∧ some k_ ≠ (v1015 : Value).ownBlock ∧ some k_ ≠ (.slice Ao62 t1024.length co62 : Value).ownBlock) (Kd.R_keptB ((Kd.R_apart' HO_6.out (Kd.R_typed HO_1011001.out) (by decide))) hkp (fun k_ hk_ hs_ => (hk_.2) hs_)) (fun k_ hk_ => ⟨hk_.1.1.1.1, hk_.1.1.1.2, hk_.1.1.2⟩)); have n1_ := ab_ (Kd.R_mono (ok' := fun k_ => some k_ ≠ (v1003 : Value).ownBlock ∧ some k_ ≠ (v1015 : Value).ownBlock ∧ some k_ ≠ (.slice Ao62 t1024.length co62 : Value).ownBlock) (Kd.R_keptB ((Kd.R_apart' HO_9.out (Kd.R_typed HO_1011001.out) (by decide))) hkp (fun k_ hk_ hs_ => (hk_.2) hs_)) (fun k_ hk_ => ⟨hk_.1.1.1.1, hk_.1.1.1.2, hk_.1.1.2⟩)); have n2_ := ab_ (Kd.R_mono (ok' := fun k_ => some k_ ≠ (v1003 : Value).ownBlock ∧ some k_ ≠ (.slice Ao37 t1011.length co37 : Value).ownBlock ∧ some k_ ≠ (.slice Ao62 t1024.length co62 : Value).ownBlock) (Kd.R_keptB ((Kd.R_apart' HO_10.out (Kd.R_typed HO_1011001.out) (by decide))) hkp (fun k_ hk_ hs_ => (hk_.2) hs_)) (fun k_ hk_ => ⟨hk_.1.1.1.1, hk_.1.1.1.2, hk_.1.1.2⟩)); have n3_ := ab_ (Kd.R_reok rfl hy0 (fun k_ e_ => HO_1011001.out.1 k_ e_)); have n4_ := ab_ (blk_kept (by (with_reducible repeat (first | refine ac_ ?_ _ | refine ae_ ?_ | refine ad_ ?_ _)); exact BK992.out) hkp (fun hs_ => (fun e_ => (Kd.R_ne HO_1011001.out BK992.out (by decide)) e_) hs_)); have n5_ := ab_ (blk_kept (by (with_reducible repeat (first | refine ac_ ?_ _ | refine ae_ ?_ | refine ad_ ?_ _)); exact BK1010.out) hkp (fun hs_ => (fun e_ => (Kd.R_ne HO_1011001.out BK1010.out (by decide)) e_) hs_)); have n6_ := ab_ (Kd.R_mono (ok' := fun k_ => some k_ ≠ (.slice Ao34 t1007.length co34 : Value).ownBlock) (Kd.R_keptB (HO1022.out) hkp (fun k_ hk_ hs_ => (hk_.2) hs_)) (fun k_ hk_ => hk_.1.2)); have n7_ := ab_ (Kd.R_mono (ok' := fun k_ => some k_ ≠ (v1003 : Value).ownBlock ∧ some k_ ≠ (.slice Ao37 t1011.length co37 : Value).ownBlock ∧ some k_ ≠ (v1015 : Value).ownBlock) (Kd.R_keptB ((Kd.R_apart' HO1026.out (Kd.R_typed HO_1011001.out) (by decide))) hkp (fun k_ hk_ hs_ => (hk_.2) hs_)) (fun k_ hk_ => ⟨hk_.1.1.1.1.2, hk_.1.1.1.2, hk_.1.1.2⟩)); have n8_ := ab_ (hb); clear HO_6; clear HO_9; clear HO_10; clear HO_1011001; clear BK992; clear BK1010; clear HO1022; clear HO1026; clear HB; have HO_6 := n0_; have HO_9 := n1_; have HO_10 := n2_; have HO_1011001 := n3_; have BK992 := n4_; have BK1010 := n5_; have HO1022 := n6_; have HO1026 := n7_; have HB := n8_; clear n0_ n1_ n2_ n3_ n4_ n5_ n6_ n7_ n8_; (try clear hb); (try clear hkp); (try clear hy0)) | ((with_reducible refine gate_callee (f := 34) rfl ?_); refine goesL_ (some 69) rfl rfl Try.func34 (by kernel_rfl) rfl #[.slice Ao37 t1011.length co37, .int .i64 t1028] rfl (by (try simp only [List.map_toArray, List.map_cons, List.map_nil]); first | done | rfl | (simp only [List.length_drop, List.length_take]; rfl)) ?_; (with_reducible refine (laws_markCompS.calls kj18 (fun k_ => some k_ = (.slice Ao37 t1011.length co37 : Value).ownBlock) (.slice Ao37 t1011.length co37) t1011 t1028 t1030 t1031 w _ ?side1 ?side2 A55.out).mono ?_); (case side1 => repeat (first | (with_reducible first | exact HB.out | apply ai_ | apply ag_ | apply ah_ | refine af_ ?_ GE992.out | refine af_ ?_ GE1010.out) | exact HB.out)); (case side2 => exact Kd.R_tight rfl HO_9.out); rintro e w67 ⟨rfl, hy0, hb, hkp⟩; refine ⟨_, rfl, ?_⟩; have n0_ := ab_ (Kd.R_mono (ok' := fun k_ => some k_ ≠ (.slice Ao37 t1011.length co37 : Value).ownBlock ∧ some k_ ≠ (v1015 : Value).ownBlock ∧ some k_ ≠ (.slice Ao62 t1024.length co62 : Value).ownBlock) (Kd.R_keptB (HO_6.out) hkp (fun k_ hk_ hs_ => (hk_.1) hs_)) (fun k_ hk_ => ⟨hk_.1.1, hk_.1.2.1, hk_.1.2.2⟩)); have n1_ := ab_ (Kd.R_reok rfl hy0 (fun k_ e_ => HO_9.out.1 k_ e_)); have n2_ := ab_ (Kd.R_mono (ok' := fun k_ => some k_ ≠ (v1003 : Value).ownBlock ∧ some k_ ≠ (.slice Ao37 t1011.length co37 : Value).ownBlock ∧ some k_ ≠ (.slice Ao62 t1024.length co62 : Value).ownBlock) (Kd.R_keptB (HO_10.out) hkp (fun k_ hk_ hs_ => (hk_.2.1) hs_)) (fun k_ hk_ => ⟨hk_.1.1, hk_.1.2.1, hk_.1.2.2⟩)); have n3_ := ab_ (Kd.R_mono (ok' := fun k_ => some k_ ≠ (.slice Ao59 t1020.length co59 : Value).ownBlock) (Kd.R_keptB ((Kd.R_apart' HO_1011001.out (Kd.R_typed HO_9.out) (by decide))) hkp (fun k_ hk_ hs_ => (hk_.2) hs_)) (fun k_ hk_ => hk_.1.1.2)); have n4_ := ab_ (blk_kept (by (with_reducible repeat (first | refine ac_ ?_ _ | refine ae_ ?_ | refine ad_ ?_ _)); exact BK992.out) hkp (fun hs_ => (fun e_ => (Kd.R_ne HO_9.out BK992.out (by decide)) e_) hs_)); have n5_ := ab_ (blk_kept (by (with_reducible repeat (first | refine ac_ ?_ _ | refine ae_ ?_ | refine ad_ ?_ _)); exact BK1010.out) hkp (fun hs_ => (fun e_ => (Kd.R_ne HO_9.out BK1010.out (by decide)) e_) hs_)); have n6_ := ab_ (Kd.R_mono (ok' := fun k_ => some k_ ≠ (.slice Ao34 t1007.length co34 : Value).ownBlock) (Kd.R_keptB ((Kd.R_apart' HO1022.out (Kd.R_typed HO_9.out) (by decide))) hkp (fun k_ hk_ hs_ => (hk_.2) hs_)) (fun k_ hk_ => hk_.1.1)); have n7_ := ab_ (Kd.R_mono (ok' := fun k_ => some k_ ≠ (v1003 : Value).ownBlock ∧ some k_ ≠ (.slice Ao37 t1011.length co37 : Value).ownBlock ∧ some k_ ≠ (v1015 : Value).ownBlock) (Kd.R_keptB (HO1026.out) hkp (fun k_ hk_ hs_ => (hk_.2.1) hs_)) (fun k_ hk_ => ⟨hk_.1.1, hk_.1.2.1, hk_.1.2.2⟩)); have n8_ := ab_ (hb); clear HO_6; clear HO_9; clear HO_10; clear HO_1011001; clear BK992; clear BK1010; clear HO1022; clear HO1026; clear HB; have HO_6 := n0_; have HO_9 := n1_; have HO_10 := n2_; have HO_1011001 := n3_; have BK992 := n4_; have BK1010 := n5_; have HO1022 := n6_; have HO1026 := n7_; have HB := n8_; clear n0_ n1_ n2_ n3_ n4_ n5_ n6_ n7_ n8_; (try clear hb); (try clear hkp); (try clear hy0)))
                (try simp only [Act.put, List.setIfInBounds_toArray, List.set_cons_zero, List.set_cons_succ])
                go_cut [82] (fun v82 wc => ∃ (kq : Nat) (x82_55 : Bool), v82 = .bool x82_55 ∧ Aside0 (laws_FnExactHandleComp.j1 kq l1 t1002 t1005 t1014 x82_55 a0_0 l0_1 = some true) ∧ Aside0 (kq ≤ kj18) ∧ Aside0 (Kd.R k83 83 wc w.heap.size (fun k_ => some k_ ≠ (v1015 : Value).ownBlock) v1003 t1002) ∧ Aside0 (Kd.R k83 83 wc w.heap.size (fun k_ => some k_ ≠ (v1003 : Value).ownBlock) v1015 t1014) ∧ Aside0 (Kd.R k82 82 wc w.heap.size (fun _ => True) (.slice Ao34 t1007.length co34) t1029) ∧ Aside0 (wc.heap[gb992]? = some (.cells #[.int .i64 a0_0, (.slice A0_1 l0_1.length c0_1)] 24 (0, 0))) ∧ Aside0 (wc.heap[gb1010]? = some (.cells #[.int .i64 t1006, (.slice Ao34 t1007.length co34)] 29 (0, 0))) ∧ Aside0 (Below w.heap.size w wc))
                case first =>
                  have H := HC56.out
                  clear HC56
                  by_cases c68 : t1030 < 0
                  · rw [if_pos c68] at H
                    have c68b0 : decide (t1030 < 0) = true := at_ c68
                    clear c68
                    (first | rw [c68b0] | (simp only [i64_w, i32_w]; rw [c68b0]) | skip)
                    have H' := ab_ H
                    clear H
                    go_wp2
                    go_meet
                    case rel => exact ⟨_, (true), (by first | rfl | (simp; done) | (simp [*]; done)), H', ⟨by have := HJ18.out; first | omega | exact Nat.le_refl _⟩, ⟨by (with_reducible repeat (first | apply ao_ | apply ap_ | apply aq_)); exact Kd.R_mono HO_6.out (fun _ hk => hk.2.1)⟩, ⟨by (with_reducible repeat (first | apply ao_ | apply ap_ | apply aq_)); exact Kd.R_mono HO_10.out (fun _ hk => hk.1)⟩, ⟨by (with_reducible repeat (first | apply ao_ | apply ap_ | apply aq_)); exact Kd.R_mono HO_1011001.out (fun _ hk => trivial)⟩, ⟨by (with_reducible repeat (first | refine ac_ ?_ _ | refine ae_ ?_ | refine ad_ ?_ _)); exact BK992.out⟩, ⟨by (with_reducible repeat (first | refine ac_ ?_ _ | refine ae_ ?_ | refine ad_ ?_ _)); exact BK1010.out⟩, ⟨by repeat (first | (with_reducible first | exact HB.out | apply ai_ | apply ag_ | apply ah_ | refine af_ ?_ GE992.out | refine af_ ?_ GE1010.out) | exact HB.out)⟩⟩
                  · rw [if_neg c68] at H
                    have c68b0 : decide (t1030 < 0) = false := decide_eq_false c68
                    clear c68
                    (first | rw [c68b0] | (simp only [i64_w, i32_w]; rw [c68b0]) | skip)
                    replace H := Option.bind_eq_some_iff.mp H
                    obtain ⟨t1032, A690, H⟩ := H
                    replace H : (if t1032 = true then (laws_FnExactHandleComp.j1 kj18 l1 t1002 t1005 t1014 (t1017 != t1005) a0_0 l0_1) else (laws_FnExactHandleComp.j1 kj18 l1 t1002 t1005 t1014 true a0_0 l0_1)) = some true := H
                    have A69 := ab_ A690
                    clear A690
                    by_cases c70 : t1032 = true
                    · subst c70
                      have H1 : (laws_FnExactHandleComp.j1 kj18 l1 t1002 t1005 t1014 (t1017 != t1005) a0_0 l0_1) = some true := by rw [if_pos rfl] at H; first | done | exact H
                      clear H
                      have H := H1
                      clear H1
                      have H' := ab_ H
                      clear H
                      obtain ⟨Ao71, co71, eo71⟩ := Kd.R_slice HO_10.out
                      subst eo71
                      obtain ⟨Ao72, co72, eo72⟩ := Kd.R_slice HO_6.out
                      subst eo72
                      go_wp2_with (first | (go_at_call 22; (with_reducible refine (laws_eqCompS.calls kj18 _ _ t1014 _ _ t1002 true _ ?side1 ?side2 ?side3 ?side4 A69.out).mono ?_); (case side1 => repeat (first | exact (Kd.R_reads' HO_10.out).2.2 | (with_reducible refine ar_ ?_ _) | (with_reducible refine as_ ?_ _) | (with_reducible refine Kd.C_drew ?_))); (case side2 => exact (Kd.R_reads' HO_10.out).2.1); (case side3 => repeat (first | exact (Kd.R_reads' HO_6.out).2.2 | (with_reducible refine ar_ ?_ _) | (with_reducible refine as_ ?_ _) | (with_reducible refine Kd.C_drew ?_))); (case side4 => exact (Kd.R_reads' HO_6.out).2.1); rintro e w73 ⟨rfl, hb⟩; have n0_ := ab_ (Kd.R_below (by (with_reducible repeat (first | apply ao_ | apply ap_ | apply aq_)); exact HO_6.out) hb); have n1_ := ab_ (Kd.R_below (by (with_reducible repeat (first | apply ao_ | apply ap_ | apply aq_)); exact HO_9.out) hb); have n2_ := ab_ (Kd.R_below (by (with_reducible repeat (first | apply ao_ | apply ap_ | apply aq_)); exact HO_10.out) hb); have n3_ := ab_ (Kd.R_below (by (with_reducible repeat (first | apply ao_ | apply ap_ | apply aq_)); exact HO_1011001.out) hb); have n4_ := ab_ (Kd.R_below (by (with_reducible repeat (first | apply ao_ | apply ap_ | apply aq_)); exact HO1022.out) hb); have n5_ := ab_ (Kd.R_below (by (with_reducible repeat (first | apply ao_ | apply ap_ | apply aq_)); exact HO1026.out) hb); have n6_ := ab_ (blk_below (g := gb992) (o := .cells #[.int .i64 a0_0, .slice A0_1 l0_1.length c0_1] 24 (0, 0)) (by (with_reducible repeat (first | refine ac_ ?_ _ | refine ae_ ?_ | refine ad_ ?_ _)); exact BK992.out) hb); have n7_ := ab_ (blk_below (g := gb1010) (o := .cells #[.int .i64 t1006, .slice Ao34 t1007.length co34] 29 (0, 0)) (by (with_reducible repeat (first | refine ac_ ?_ _ | refine ae_ ?_ | refine ad_ ?_ _)); exact BK1010.out) hb); have n8_ := ab_ (au_ (by repeat (first | (with_reducible first | exact HB.out | apply ai_ | apply ag_ | apply ah_ | refine af_ ?_ GE992.out | refine af_ ?_ GE1010.out) | exact HB.out)) hb); clear HO_6; clear HO_9; clear HO_10; clear HO_1011001; clear HO1022; clear HO1026; clear BK992; clear BK1010; clear HB; have HO_6 := n0_; have HO_9 := n1_; have HO_10 := n2_; have HO_1011001 := n3_; have HO1022 := n4_; have HO1026 := n5_; have BK992 := n6_; have BK1010 := n7_; have HB := n8_; clear n0_ n1_ n2_ n3_ n4_ n5_ n6_ n7_ n8_; (try clear hb); (try clear hb2); (try clear hk); (try clear hi)))
                      go_meet
                      case rel => exact ⟨_, ((t1017 != t1005)), (by first | rfl | (simp; done) | (simp [*]; done)), H', ⟨by have := HJ18.out; first | omega | exact Nat.le_refl _⟩, ⟨by (with_reducible repeat (first | apply ao_ | apply ap_ | apply aq_)); exact Kd.R_mono HO_6.out (fun _ hk => hk.2.1)⟩, ⟨by (with_reducible repeat (first | apply ao_ | apply ap_ | apply aq_)); exact Kd.R_mono HO_10.out (fun _ hk => hk.1)⟩, ⟨by (with_reducible repeat (first | apply ao_ | apply ap_ | apply aq_)); exact Kd.R_mono HO_1011001.out (fun _ hk => trivial)⟩, ⟨by (with_reducible repeat (first | refine ac_ ?_ _ | refine ae_ ?_ | refine ad_ ?_ _)); exact BK992.out⟩, ⟨by (with_reducible repeat (first | refine ac_ ?_ _ | refine ae_ ?_ | refine ad_ ?_ _)); exact BK1010.out⟩, ⟨by repeat (first | (with_reducible first | exact HB.out | apply ai_ | apply ag_ | apply ah_ | refine af_ ?_ GE992.out | refine af_ ?_ GE1010.out) | exact HB.out)⟩⟩
                    · replace c70 := Bool.eq_false_iff.mpr c70
                      subst c70
                      have H1 : (laws_FnExactHandleComp.j1 kj18 l1 t1002 t1005 t1014 true a0_0 l0_1) = some true := by rw [if_neg (show ¬ (false = true) by decide)] at H; first | done | exact H
                      clear H
                      have H := H1
                      clear H1
                      have H' := ab_ H
                      clear H
                      obtain ⟨Ao74, co74, eo74⟩ := Kd.R_slice HO_10.out
                      subst eo74
                      obtain ⟨Ao75, co75, eo75⟩ := Kd.R_slice HO_6.out
                      subst eo75
                      go_wp2_with (first | (go_at_call 22; (with_reducible refine (laws_eqCompS.calls kj18 _ _ t1014 _ _ t1002 false _ ?side1 ?side2 ?side3 ?side4 A69.out).mono ?_); (case side1 => repeat (first | exact (Kd.R_reads' HO_10.out).2.2 | (with_reducible refine ar_ ?_ _) | (with_reducible refine as_ ?_ _) | (with_reducible refine Kd.C_drew ?_))); (case side2 => exact (Kd.R_reads' HO_10.out).2.1); (case side3 => repeat (first | exact (Kd.R_reads' HO_6.out).2.2 | (with_reducible refine ar_ ?_ _) | (with_reducible refine as_ ?_ _) | (with_reducible refine Kd.C_drew ?_))); (case side4 => exact (Kd.R_reads' HO_6.out).2.1); rintro e w76 ⟨rfl, hb⟩; have n0_ := ab_ (Kd.R_below (by (with_reducible repeat (first | apply ao_ | apply ap_ | apply aq_)); exact HO_6.out) hb); have n1_ := ab_ (Kd.R_below (by (with_reducible repeat (first | apply ao_ | apply ap_ | apply aq_)); exact HO_9.out) hb); have n2_ := ab_ (Kd.R_below (by (with_reducible repeat (first | apply ao_ | apply ap_ | apply aq_)); exact HO_10.out) hb); have n3_ := ab_ (Kd.R_below (by (with_reducible repeat (first | apply ao_ | apply ap_ | apply aq_)); exact HO_1011001.out) hb); have n4_ := ab_ (Kd.R_below (by (with_reducible repeat (first | apply ao_ | apply ap_ | apply aq_)); exact HO1022.out) hb); have n5_ := ab_ (Kd.R_below (by (with_reducible repeat (first | apply ao_ | apply ap_ | apply aq_)); exact HO1026.out) hb); have n6_ := ab_ (blk_below (g := gb992) (o := .cells #[.int .i64 a0_0, .slice A0_1 l0_1.length c0_1] 24 (0, 0)) (by (with_reducible repeat (first | refine ac_ ?_ _ | refine ae_ ?_ | refine ad_ ?_ _)); exact BK992.out) hb); have n7_ := ab_ (blk_below (g := gb1010) (o := .cells #[.int .i64 t1006, .slice Ao34 t1007.length co34] 29 (0, 0)) (by (with_reducible repeat (first | refine ac_ ?_ _ | refine ae_ ?_ | refine ad_ ?_ _)); exact BK1010.out) hb); have n8_ := ab_ (au_ (by repeat (first | (with_reducible first | exact HB.out | apply ai_ | apply ag_ | apply ah_ | refine af_ ?_ GE992.out | refine af_ ?_ GE1010.out) | exact HB.out)) hb); clear HO_6; clear HO_9; clear HO_10; clear HO_1011001; clear HO1022; clear HO1026; clear BK992; clear BK1010; clear HB; have HO_6 := n0_; have HO_9 := n1_; have HO_10 := n2_; have HO_1011001 := n3_; have HO1022 := n4_; have HO1026 := n5_; have BK992 := n6_; have BK1010 := n7_; have HB := n8_; clear n0_ n1_ n2_ n3_ n4_ n5_ n6_ n7_ n8_; (try clear hb); (try clear hb2); (try clear hk); (try clear hi)))
                      go_meet
                      case rel => exact ⟨_, (true), (by first | rfl | (simp; done) | (simp [*]; done)), H', ⟨by have := HJ18.out; first | omega | exact Nat.le_refl _⟩, ⟨by (with_reducible repeat (first | apply ao_ | apply ap_ | apply aq_)); exact Kd.R_mono HO_6.out (fun _ hk => hk.2.1)⟩, ⟨by (with_reducible repeat (first | apply ao_ | apply ap_ | apply aq_)); exact Kd.R_mono HO_10.out (fun _ hk => hk.1)⟩, ⟨by (with_reducible repeat (first | apply ao_ | apply ap_ | apply aq_)); exact Kd.R_mono HO_1011001.out (fun _ hk => trivial)⟩, ⟨by (with_reducible repeat (first | refine ac_ ?_ _ | refine ae_ ?_ | refine ad_ ?_ _)); exact BK992.out⟩, ⟨by (with_reducible repeat (first | refine ac_ ?_ _ | refine ae_ ?_ | refine ad_ ?_ _)); exact BK1010.out⟩, ⟨by repeat (first | (with_reducible first | exact HB.out | apply ai_ | apply ag_ | apply ah_ | refine af_ ?_ GE992.out | refine af_ ?_ GE1010.out) | exact HB.out)⟩⟩
                case rest =>
                  clear HC56
                  try clear c1
                  try clear c2
                  try clear p2
                  try clear c3
                  try clear c4
                  try clear c4b0
                  try clear c5
                  try clear c6
                  try clear c7
                  try clear c9
                  try clear c9b0
                  try clear c12
                  try clear c13
                  try clear c15
                  try clear c17
                  try clear c18
                  try clear c20
                  try clear c22
                  try clear c25
                  try clear c32
                  try clear c34
                  try clear c40
                  try clear c47
                  try clear c50
                  try clear c53
                  try clear c54
                  try clear c64
                  try clear c68
                  try clear c68b0
                  try clear c70
                  try clear hcz11_0
                  try clear hcz11_1
                  try clear hcz21_0
                  try clear hcz21_1
                  try clear hcz23_0
                  try clear hcz23_1
                  try clear hcz29_0
                  try clear hcz29_1
                  try clear hcz33_0
                  try clear hcz33_1
                  try clear hcz36_0
                  try clear hcz36_1
                  try clear hcz65_0
                  try clear hcz65_1
                  try clear hcz6_0
                  try clear hcz6_1
                  try clear hfz11_0
                  try clear hfz11_1
                  try clear hfz21_0
                  try clear hfz21_1
                  try clear hfz23_0
                  try clear hfz23_1
                  try clear hfz29_0
                  try clear hfz29_1
                  try clear hfz33_0
                  try clear hfz33_1
                  try clear hfz36_0
                  try clear hfz36_1
                  try clear hfz65_0
                  try clear hfz65_1
                  try clear hfz6_0
                  try clear hfz6_1
                  try clear p2
                  obtain ⟨kq, x82_55, rfl, HA, HJ55, HO_6, HO_10, HO_1011001, BK992, BK1010, HB⟩ := hcut
                  have hl1011001_55 := (Kd.R_reads' HO_1011001.out).1
                  rw [hl1011001_55] at HO_1011001
                  (try simp only [hl1011001_55])
                  (try simp only [hl1011001_55] at BK992)
                  (try simp only [hl1011001_55] at BK1010)
                  (try simp only [hl1011001_55] at HO_6)
                  (try simp only [hl1011001_55] at HO_10)
                  cases kq with
                  | zero => exact absurd HA.out (by simp [laws_FnExactHandleComp.j1])
                  | succ kj55 =>
                    have H := HA.out
                    clear HA
                    simp only [laws_FnExactHandleComp.j1] at H
                    by_cases c77 : x82_55 = true
                    · subst c77
                      have H1 : (some false) = some true := by rw [if_pos rfl] at H; first | done | exact H
                      clear H
                      have H := H1
                      clear H1
                      exact absurd H (by simp)
                    · replace c77 := Bool.eq_false_iff.mpr c77
                      subst c77
                      have H1 : ((laws_markCompS.f kj55 t1014 1).bind fun bt1033 => ((laws_heldCompS.f kj55 bt1033.2 1).bind fun t1035 => (if t1035 < 0 then (some false) else (if t1035 = bt1033.1 then ((laws_toHandler.f kj55 a0_0 l0_1).bind fun bt1036 => ((laws_toCompS.f kj55 l1).bind fun t1040 => ((impl_HandleComp.f bt1036.1 bt1036.2 t1040).bind fun bt1043 => ((laws_eqCompS.f kj55 bt1043.1 t1002).bind fun t1047 => (if t1047 = true then (laws_FnExactHandleComp.j2 kj55 bt1033.2 bt1033.1 (bt1043.2 != t1005)) else (laws_FnExactHandleComp.j2 kj55 bt1033.2 bt1033.1 true)))))) else (some false))))) = some true := by rw [if_neg (show ¬ (false = true) by decide)] at H; first | done | exact H
                      clear H
                      have H := H1
                      clear H1
                      replace H := Option.bind_eq_some_iff.mp H
                      obtain ⟨⟨t1033, t1034⟩, A780, H⟩ := H
                      replace H : ((laws_heldCompS.f kj55 t1034 1).bind fun t1035 => (if t1035 < 0 then (some false) else (if t1035 = t1033 then ((laws_toHandler.f kj55 a0_0 l0_1).bind fun bt1036 => ((laws_toCompS.f kj55 l1).bind fun t1040 => ((impl_HandleComp.f bt1036.1 bt1036.2 t1040).bind fun bt1043 => ((laws_eqCompS.f kj55 bt1043.1 t1002).bind fun t1047 => (if t1047 = true then (laws_FnExactHandleComp.j2 kj55 t1034 t1033 (bt1043.2 != t1005)) else (laws_FnExactHandleComp.j2 kj55 t1034 t1033 true)))))) else (some false)))) = some true := H
                      have A78 := ab_ A780
                      clear A780
                      replace H := Option.bind_eq_some_iff.mp H
                      obtain ⟨t1035, A790, H⟩ := H
                      replace H : (if t1035 < 0 then (some false) else (if t1035 = t1033 then ((laws_toHandler.f kj55 a0_0 l0_1).bind fun bt1036 => ((laws_toCompS.f kj55 l1).bind fun t1040 => ((impl_HandleComp.f bt1036.1 bt1036.2 t1040).bind fun bt1043 => ((laws_eqCompS.f kj55 bt1043.1 t1002).bind fun t1047 => (if t1047 = true then (laws_FnExactHandleComp.j2 kj55 t1034 t1033 (bt1043.2 != t1005)) else (laws_FnExactHandleComp.j2 kj55 t1034 t1033 true)))))) else (some false))) = some true := H
                      have A79 := ab_ A790
                      clear A790
                      by_cases c80 : t1035 < 0
                      · rw [if_pos c80] at H
                        have c80b0 : decide (t1035 < 0) = true := at_ c80
                        clear c80
                        exact absurd H (by simp)
                      · rw [if_neg c80] at H
                        have c80b0 : decide (t1035 < 0) = false := decide_eq_false c80
                        clear c80
                        by_cases c81 : t1035 = t1033
                        · rw [if_pos c81] at H
                          have c81b0 : (t1035 == t1033) = true := beq_iff_eq.mpr c81
                          have c81b1 : (t1035 != t1033) = false := bne_eq_false_iff_eq.mpr c81
                          clear c81
                          replace H := Option.bind_eq_some_iff.mp H
                          obtain ⟨⟨t1036, t1037⟩, A820, H⟩ := H
                          replace H : ((laws_toCompS.f kj55 l1).bind fun t1040 => ((impl_HandleComp.f t1036 t1037 t1040).bind fun bt1043 => ((laws_eqCompS.f kj55 bt1043.1 t1002).bind fun t1047 => (if t1047 = true then (laws_FnExactHandleComp.j2 kj55 t1034 t1033 (bt1043.2 != t1005)) else (laws_FnExactHandleComp.j2 kj55 t1034 t1033 true))))) = some true := H
                          have A82 := ab_ A820
                          clear A820
                          replace H := Option.bind_eq_some_iff.mp H
                          obtain ⟨t1040, A830, H⟩ := H
                          replace H : ((impl_HandleComp.f t1036 t1037 t1040).bind fun bt1043 => ((laws_eqCompS.f kj55 bt1043.1 t1002).bind fun t1047 => (if t1047 = true then (laws_FnExactHandleComp.j2 kj55 t1034 t1033 (bt1043.2 != t1005)) else (laws_FnExactHandleComp.j2 kj55 t1034 t1033 true)))) = some true := H
                          have A83 := ab_ A830
                          clear A830
                          replace H := Option.bind_eq_some_iff.mp H
                          obtain ⟨⟨t1043, t1046⟩, A840, H⟩ := H
                          replace H : ((laws_eqCompS.f kj55 t1043 t1002).bind fun t1047 => (if t1047 = true then (laws_FnExactHandleComp.j2 kj55 t1034 t1033 (t1046 != t1005)) else (laws_FnExactHandleComp.j2 kj55 t1034 t1033 true))) = some true := H
                          have A84 := ab_ A840
                          clear A840
                          have HC85 := ab_ H
                          clear H
                          obtain ⟨Ao86, co86, eo86⟩ := Kd.R_slice HO_10.out
                          subst eo86
                          go_upto_region 32 with (first | ((with_reducible refine gate_callee (f := 34) rfl ?_); refine goesL_ (some 85) rfl rfl Try.func34 (by kernel_rfl) rfl #[.slice Ao86 t1014.length co86, .int .i64 1] rfl (by (try simp only [List.map_toArray, List.map_cons, List.map_nil]); first | done | rfl | (simp only [List.length_drop, List.length_take]; rfl)) ?_; (with_reducible refine (laws_markCompS.calls kj55 (fun k_ => some k_ = (.slice Ao86 t1014.length co86 : Value).ownBlock) (.slice Ao86 t1014.length co86) t1014 1 t1033 t1034 w _ ?side1 ?side2 A78.out).mono ?_); (case side1 => repeat (first | (with_reducible first | exact HB.out | apply ai_ | apply ag_ | apply ah_ | refine af_ ?_ GE992.out | refine af_ ?_ GE1010.out) | exact HB.out)); (case side2 => exact Kd.R_tight rfl HO_10.out); rintro e w87 ⟨rfl, hy0, hb, hkp⟩; refine ⟨_, rfl, ?_⟩; have n0_ := ab_ (Kd.R_mono (ok' := fun k_ => some k_ ≠ (.slice Ao86 t1014.length co86 : Value).ownBlock) (Kd.R_keptB (HO_6.out) hkp (fun k_ hk_ hs_ => (hk_) hs_)) (fun k_ hk_ => hk_.1)); have n1_ := ab_ (Kd.R_reok rfl hy0 (fun k_ e_ => HO_10.out.1 k_ e_)); have n2_ := ab_ (Kd.R_mono (ok' := fun k_ => True) (Kd.R_keptB ((Kd.R_apart' HO_1011001.out (Kd.R_typed HO_10.out) (by decide))) hkp (fun k_ hk_ hs_ => (hk_.2) hs_)) (fun k_ hk_ => trivial)); have n3_ := ab_ (blk_kept (by (with_reducible repeat (first | refine ac_ ?_ _ | refine ae_ ?_ | refine ad_ ?_ _)); exact BK992.out) hkp (fun hs_ => (fun e_ => (Kd.R_ne HO_10.out BK992.out (by decide)) e_) hs_)); have n4_ := ab_ (blk_kept (by (with_reducible repeat (first | refine ac_ ?_ _ | refine ae_ ?_ | refine ad_ ?_ _)); exact BK1010.out) hkp (fun hs_ => (fun e_ => (Kd.R_ne HO_10.out BK1010.out (by decide)) e_) hs_)); have n5_ := ab_ (hb); clear HO_6; clear HO_10; clear HO_1011001; clear BK992; clear BK1010; clear HB; have HO_6 := n0_; have HO_10 := n1_; have HO_1011001 := n2_; have BK992 := n3_; have BK1010 := n4_; have HB := n5_; clear n0_ n1_ n2_ n3_ n4_ n5_; (try clear hb); (try clear hkp); (try clear hy0)) | ((with_reducible refine gate_callee (f := 39) rfl ?_); refine goesL_ (some 88) rfl rfl Try.func39 (by kernel_rfl) rfl #[.slice Ao86 t1034.length co86, .int .i64 1] rfl (by (try simp only [List.map_toArray, List.map_cons, List.map_nil]); first | done | (rw [show t1034.length = t1014.length from (Kd.R_reads' HO_10.out).1.symm] <;> rfl) | rfl | (simp only [List.length_drop, List.length_take]; rfl)) ?_; (with_reducible refine (laws_heldCompS.calls kj55 _ _ t1034 1 t1035 _ ?side1 ?side2 A79.out).mono ?_); (case side1 => repeat (first | exact (Kd.R_reads' HO_10.out).2.2 | (with_reducible refine ar_ ?_ _) | (with_reducible refine as_ ?_ _) | (with_reducible refine Kd.C_drew ?_))); (case side2 => rw [show t1034.length = t1014.length from (Kd.R_reads' HO_10.out).1.symm]; exact (Kd.R_reads' HO_10.out).2.1); rintro e w' ⟨rfl, ⟨nd, rfl⟩⟩; refine ⟨_, rfl, ?_⟩; have hnb88 := NB992_1010.out; have hnc88 := NB1010_992.out; have hcz89_0 : w87.cell? ⟨gb992, 0, none⟩ = some (.int .i64 a0_0) := (an_ BK992.out 0).trans rfl; have hcz89_1 : w87.cell? ⟨gb992, 1, none⟩ = some (.slice A0_1 l0_1.length c0_1) := (an_ BK992.out 1).trans rfl; have hfz89_0 := am_ BK992.out 0; have hfz89_1 := am_ BK992.out 1) | ((with_reducible refine gate_callee (f := 15) rfl ?_); refine goesL_ (some 96) rfl rfl Try.func15 (by kernel_rfl) rfl #[.agg #[.int .i64 a0_0, .slice A0_1 l0_1.length c0_1]] rfl (by (try simp only [List.map_toArray, List.map_cons, List.map_nil]); first | done | rfl | (simp only [List.length_drop, List.length_take]; rfl)) ?_; (with_reducible refine (laws_toHandler.calls kj55 a0_0 _ _ l0_1 t1036 t1037 _ ?side1 ?side2 A82.out).mono ?_); (case side1 => repeat (first | exact (Kd.C_below HR0_1.out (by repeat (first | (with_reducible first | exact HB.out | apply ai_ | apply ag_ | apply ah_ | refine af_ ?_ GE992.out | refine af_ ?_ GE1010.out) | exact HB.out))) | (with_reducible refine ar_ ?_ _) | (with_reducible refine as_ ?_ _) | (with_reducible refine Kd.C_drew ?_))); (case side2 => exact HC0_1.out); rintro e w90 ⟨v1038, rfl, ho0, hb⟩; refine ⟨_, rfl, ?_⟩; have n0_ := ab_ (Kd.R_below (by (with_reducible repeat (first | apply ao_ | apply ap_ | apply aq_)); exact HO_6.out) hb); have n1_ := ab_ (Kd.R_below (by (with_reducible repeat (first | apply ao_ | apply ap_ | apply aq_)); exact HO_10.out) hb); have n2_ := ab_ (Kd.R_elder' (by (with_reducible repeat (first | apply ao_ | apply ap_ | apply aq_)); exact HO_1011001.out) (Kd.R_base ho0) hb); have n3_ := ab_ (Kd.R_lower (Kd.R_new' ho0 (Kd.R_lt (by (with_reducible repeat (first | apply ao_ | apply ap_ | apply aq_)); exact HO_1011001.out))) (below_size (by repeat (first | (with_reducible first | exact HB.out | apply ai_ | apply ag_ | apply ah_ | refine af_ ?_ GE992.out | refine af_ ?_ GE1010.out) | exact HB.out)))); have n4_ := ab_ (blk_below (g := gb992) (o := .cells #[.int .i64 a0_0, .slice A0_1 l0_1.length c0_1] 24 (0, 0)) (by (with_reducible repeat (first | refine ac_ ?_ _ | refine ae_ ?_ | refine ad_ ?_ _)); exact BK992.out) hb); have n5_ := ab_ (blk_below (g := gb1010) (o := .cells #[.int .i64 t1006, .slice Ao34 t1029.length co34] 29 (0, 0)) (by (with_reducible repeat (first | refine ac_ ?_ _ | refine ae_ ?_ | refine ad_ ?_ _)); exact BK1010.out) hb); have n6_ := ab_ (au_ (by repeat (first | (with_reducible first | exact HB.out | apply ai_ | apply ag_ | apply ah_ | refine af_ ?_ GE992.out | refine af_ ?_ GE1010.out) | exact HB.out)) hb); clear HO_6; clear HO_10; clear HO_1011001; clear BK992; clear BK1010; clear HB; have HO_6 := n0_; have HO_10 := n1_; have HO_1011001 := n2_; have HO1039 := n3_; have BK992 := n4_; have BK1010 := n5_; have HB := n6_; clear n0_ n1_ n2_ n3_ n4_ n5_ n6_; (try clear hb); (try clear hb2); (try clear hk); (try clear hi); (try clear ho0)) | ((with_reducible refine gate_callee (f := 20) rfl ?_); refine goesL_ (some 98) rfl rfl Try.func20 (by kernel_rfl) rfl #[.slice A1 l1.length c1] rfl (by (try simp only [List.map_toArray, List.map_cons, List.map_nil]); first | done | rfl | (simp only [List.length_drop, List.length_take]; rfl)) ?_; (with_reducible refine (laws_toCompS.calls kj55 _ _ l1 t1040 _ ?side1 ?side2 A83.out).mono ?_); (case side1 => repeat (first | exact (Kd.C_below HR1.out HB.out) | (with_reducible refine ar_ ?_ _) | (with_reducible refine as_ ?_ _) | (with_reducible refine Kd.C_drew ?_))); (case side2 => exact HC1.out); rintro e w91 ⟨v1041, rfl, ho0, hb⟩; refine ⟨_, rfl, ?_⟩; have n0_ := ab_ (Kd.R_elder' (by (with_reducible repeat (first | apply ao_ | apply ap_ | apply aq_)); exact HO_6.out) (Kd.R_base ho0) hb); have n1_ := ab_ (Kd.R_elder' (by (with_reducible repeat (first | apply ao_ | apply ap_ | apply aq_)); exact HO_10.out) (Kd.R_base ho0) hb); have n2_ := ab_ (Kd.R_below (by (with_reducible repeat (first | apply ao_ | apply ap_ | apply aq_)); exact HO_1011001.out) hb); have n3_ := ab_ (Kd.R_below (by (with_reducible repeat (first | apply ao_ | apply ap_ | apply aq_)); exact HO1039.out) hb); have n4_ := ab_ (Kd.R_lower (Kd.R_new' (Kd.R_new' ho0 (Kd.R_lt (by (with_reducible repeat (first | apply ao_ | apply ap_ | apply aq_)); exact HO_6.out))) (Kd.R_lt (by (with_reducible repeat (first | apply ao_ | apply ap_ | apply aq_)); exact HO_10.out))) (below_size (by repeat (first | (with_reducible first | exact HB.out | apply ai_ | apply ag_ | apply ah_ | refine af_ ?_ GE992.out | refine af_ ?_ GE1010.out) | exact HB.out)))); have n5_ := ab_ (blk_below (g := gb992) (o := .cells #[.int .i64 a0_0, .slice A0_1 l0_1.length c0_1] 24 (0, 0)) (by (with_reducible repeat (first | refine ac_ ?_ _ | refine ae_ ?_ | refine ad_ ?_ _)); exact BK992.out) hb); have n6_ := ab_ (blk_below (g := gb1010) (o := .cells #[.int .i64 t1006, .slice Ao34 t1029.length co34] 29 (0, 0)) (by (with_reducible repeat (first | refine ac_ ?_ _ | refine ae_ ?_ | refine ad_ ?_ _)); exact BK1010.out) hb); have n7_ := ab_ (au_ (by repeat (first | (with_reducible first | exact HB.out | apply ai_ | apply ag_ | apply ah_ | refine af_ ?_ GE992.out | refine af_ ?_ GE1010.out) | exact HB.out)) hb); clear HO_6; clear HO_10; clear HO_1011001; clear HO1039; clear BK992; clear BK1010; clear HB; have HO_6 := n0_; have HO_10 := n1_; have HO_1011001 := n2_; have HO1039 := n3_; have HO1042 := n4_; have BK992 := n5_; have BK1010 := n6_; have HB := n7_; clear n0_ n1_ n2_ n3_ n4_ n5_ n6_ n7_; (try clear hb); (try clear hb2); (try clear hk); (try clear hi); (try clear ho0); obtain ⟨Ao92, co92, eo92⟩ := Kd.R_slice HO1039.out; subst eo92; obtain ⟨Ao93, co93, eo93⟩ := Kd.R_slice HO1042.out; subst eo93) | ((with_reducible refine gate_callee (f := 53) rfl ?_); refine goesL_ (some 99) rfl rfl Try.func53 (by kernel_rfl) rfl #[.agg #[.int .i64 t1036, .slice Ao92 t1037.length co92], .slice Ao93 t1040.length co93] rfl (by (try simp only [List.map_toArray, List.map_cons, List.map_nil]); first | done | rfl | (simp only [List.length_drop, List.length_take]; rfl)) ?_; (with_reducible refine (impl_HandleComp.calls t1036 _ _ t1037 _ _ t1040 t1043 t1046 _ ?side1 ?side2 ?side3 ?side4 A84.out).mono ?_); (case side1 => repeat (first | exact (Kd.R_reads' HO1039.out).2.2 | (with_reducible refine ar_ ?_ _) | (with_reducible refine as_ ?_ _) | (with_reducible refine Kd.C_drew ?_))); (case side2 => exact (Kd.R_reads' HO1039.out).2.1); (case side3 => repeat (first | exact (Kd.R_reads' HO1042.out).2.2 | (with_reducible refine ar_ ?_ _) | (with_reducible refine as_ ?_ _) | (with_reducible refine Kd.C_drew ?_))); (case side4 => exact (Kd.R_reads' HO1042.out).2.1); rintro e w94 ⟨v1044, rfl, ho0, hb⟩; refine ⟨_, rfl, ?_⟩; have n0_ := ab_ (Kd.R_elder' (by (with_reducible repeat (first | apply ao_ | apply ap_ | apply aq_)); exact HO_6.out) (Kd.R_base ho0) hb); have n1_ := ab_ (Kd.R_elder' (by (with_reducible repeat (first | apply ao_ | apply ap_ | apply aq_)); exact HO_10.out) (Kd.R_base ho0) hb); have n2_ := ab_ (Kd.R_below (by (with_reducible repeat (first | apply ao_ | apply ap_ | apply aq_)); exact HO_1011001.out) hb); have n3_ := ab_ (Kd.R_below (by (with_reducible repeat (first | apply ao_ | apply ap_ | apply aq_)); exact HO1039.out) hb); have n4_ := ab_ (Kd.R_elder' (by (with_reducible repeat (first | apply ao_ | apply ap_ | apply aq_)); exact HO1042.out) (Kd.R_base ho0) hb); have n5_ := ab_ (Kd.R_lower (Kd.R_new' (Kd.R_new' (Kd.R_new' ho0 (Kd.R_lt (by (with_reducible repeat (first | apply ao_ | apply ap_ | apply aq_)); exact HO_6.out))) (Kd.R_lt (by (with_reducible repeat (first | apply ao_ | apply ap_ | apply aq_)); exact HO_10.out))) (Kd.R_lt (by (with_reducible repeat (first | apply ao_ | apply ap_ | apply aq_)); exact HO1042.out))) (below_size (by repeat (first | (with_reducible first | exact HB.out | apply ai_ | apply ag_ | apply ah_ | refine af_ ?_ GE992.out | refine af_ ?_ GE1010.out) | exact HB.out)))); have n6_ := ab_ (blk_below (g := gb992) (o := .cells #[.int .i64 a0_0, .slice A0_1 l0_1.length c0_1] 24 (0, 0)) (by (with_reducible repeat (first | refine ac_ ?_ _ | refine ae_ ?_ | refine ad_ ?_ _)); exact BK992.out) hb); have n7_ := ab_ (blk_below (g := gb1010) (o := .cells #[.int .i64 t1006, .slice Ao34 t1029.length co34] 29 (0, 0)) (by (with_reducible repeat (first | refine ac_ ?_ _ | refine ae_ ?_ | refine ad_ ?_ _)); exact BK1010.out) hb); have n8_ := ab_ (au_ (by repeat (first | (with_reducible first | exact HB.out | apply ai_ | apply ag_ | apply ah_ | refine af_ ?_ GE992.out | refine af_ ?_ GE1010.out) | exact HB.out)) hb); clear HO_6; clear HO_10; clear HO_1011001; clear HO1039; clear HO1042; clear BK992; clear BK1010; clear HB; have HO_6 := n0_; have HO_10 := n1_; have HO_1011001 := n2_; have HO1039 := n3_; have HO1042 := n4_; have HO1045 := n5_; have BK992 := n6_; have BK1010 := n7_; have HB := n8_; clear n0_ n1_ n2_ n3_ n4_ n5_ n6_ n7_ n8_; (try clear hb); (try clear hb2); (try clear hk); (try clear hi); (try clear ho0)))
                          (try simp only [Act.put, List.setIfInBounds_toArray, List.set_cons_zero, List.set_cons_succ])
                          go_cut [110] (fun v110 wc => ∃ (kq : Nat) (x110_84 : Bool), v110 = .bool x110_84 ∧ Aside0 (laws_FnExactHandleComp.j2 kq t1034 t1033 x110_84 = some true) ∧ Aside0 (kq ≤ kj55) ∧ Aside0 (Kd.R k83 83 wc w.heap.size (fun _ => True) (.slice Ao86 t1014.length co86) t1034) ∧ Aside0 (Kd.R k82 82 wc w.heap.size (fun _ => True) (.slice Ao34 t1029.length co34) t1029) ∧ Aside0 (wc.heap[gb992]? = some (.cells #[.int .i64 a0_0, (.slice A0_1 l0_1.length c0_1)] 24 (0, 0))) ∧ Aside0 (wc.heap[gb1010]? = some (.cells #[.int .i64 t1006, (.slice Ao34 t1029.length co34)] 29 (0, 0))) ∧ Aside0 (Below w.heap.size w wc))
                          case first =>
                            have H := HC85.out
                            clear HC85
                            replace H := Option.bind_eq_some_iff.mp H
                            obtain ⟨t1047, A950, H⟩ := H
                            replace H : (if t1047 = true then (laws_FnExactHandleComp.j2 kj55 t1034 t1033 (t1046 != t1005)) else (laws_FnExactHandleComp.j2 kj55 t1034 t1033 true)) = some true := H
                            have A95 := ab_ A950
                            clear A950
                            by_cases c96 : t1047 = true
                            · subst c96
                              have H1 : (laws_FnExactHandleComp.j2 kj55 t1034 t1033 (t1046 != t1005)) = some true := by rw [if_pos rfl] at H; first | done | exact H
                              clear H
                              have H := H1
                              clear H1
                              have H' := ab_ H
                              clear H
                              obtain ⟨Ao97, co97, eo97⟩ := Kd.R_slice HO1045.out
                              subst eo97
                              obtain ⟨Ao98, co98, eo98⟩ := Kd.R_slice HO_6.out
                              subst eo98
                              go_wp2_with (first | ((with_reducible refine gate_callee (f := 22) rfl ?_); refine goesL_ (some 104) rfl rfl Try.func22 (by kernel_rfl) rfl #[.slice Ao97 t1043.length co97, .slice Ao98 t1002.length co98] rfl (by (try simp only [List.map_toArray, List.map_cons, List.map_nil]); first | done | rfl | (simp only [List.length_drop, List.length_take]; rfl)) ?_; (with_reducible refine (laws_eqCompS.calls kj55 _ _ t1043 _ _ t1002 true _ ?side1 ?side2 ?side3 ?side4 A95.out).mono ?_); (case side1 => repeat (first | exact (Kd.R_reads' HO1045.out).2.2 | (with_reducible refine ar_ ?_ _) | (with_reducible refine as_ ?_ _) | (with_reducible refine Kd.C_drew ?_))); (case side2 => exact (Kd.R_reads' HO1045.out).2.1); (case side3 => repeat (first | exact (Kd.R_reads' HO_6.out).2.2 | (with_reducible refine ar_ ?_ _) | (with_reducible refine as_ ?_ _) | (with_reducible refine Kd.C_drew ?_))); (case side4 => exact (Kd.R_reads' HO_6.out).2.1); rintro e w99 ⟨rfl, hb⟩; refine ⟨_, rfl, ?_⟩; have n0_ := ab_ (Kd.R_below (by (with_reducible repeat (first | apply ao_ | apply ap_ | apply aq_)); exact HO_6.out) hb); have n1_ := ab_ (Kd.R_below (by (with_reducible repeat (first | apply ao_ | apply ap_ | apply aq_)); exact HO_10.out) hb); have n2_ := ab_ (Kd.R_below (by (with_reducible repeat (first | apply ao_ | apply ap_ | apply aq_)); exact HO_1011001.out) hb); have n3_ := ab_ (Kd.R_below (by (with_reducible repeat (first | apply ao_ | apply ap_ | apply aq_)); exact HO1039.out) hb); have n4_ := ab_ (Kd.R_below (by (with_reducible repeat (first | apply ao_ | apply ap_ | apply aq_)); exact HO1042.out) hb); have n5_ := ab_ (Kd.R_below (by (with_reducible repeat (first | apply ao_ | apply ap_ | apply aq_)); exact HO1045.out) hb); have n6_ := ab_ (blk_below (g := gb992) (o := .cells #[.int .i64 a0_0, .slice A0_1 l0_1.length c0_1] 24 (0, 0)) (by (with_reducible repeat (first | refine ac_ ?_ _ | refine ae_ ?_ | refine ad_ ?_ _)); exact BK992.out) hb); have n7_ := ab_ (blk_below (g := gb1010) (o := .cells #[.int .i64 t1006, .slice Ao34 t1029.length co34] 29 (0, 0)) (by (with_reducible repeat (first | refine ac_ ?_ _ | refine ae_ ?_ | refine ad_ ?_ _)); exact BK1010.out) hb); have n8_ := ab_ (au_ (by repeat (first | (with_reducible first | exact HB.out | apply ai_ | apply ag_ | apply ah_ | refine af_ ?_ GE992.out | refine af_ ?_ GE1010.out) | exact HB.out)) hb); clear HO_6; clear HO_10; clear HO_1011001; clear HO1039; clear HO1042; clear HO1045; clear BK992; clear BK1010; clear HB; have HO_6 := n0_; have HO_10 := n1_; have HO_1011001 := n2_; have HO1039 := n3_; have HO1042 := n4_; have HO1045 := n5_; have BK992 := n6_; have BK1010 := n7_; have HB := n8_; clear n0_ n1_ n2_ n3_ n4_ n5_ n6_ n7_ n8_; (try clear hb); (try clear hb2); (try clear hk); (try clear hi)))
                              go_meet
                              case rel => exact ⟨_, ((t1046 != t1005)), (by first | rfl | (simp; done) | (simp [*]; done)), H', ⟨by have := HJ18.out; have := HJ55.out; first | omega | exact Nat.le_refl _⟩, ⟨by (try simp only [hl1011001_55]); (with_reducible repeat (first | apply ao_ | apply ap_ | apply aq_)); exact Kd.R_mono HO_10.out (fun _ hk => trivial)⟩, ⟨by (try simp only [hl1011001_55]); (with_reducible repeat (first | apply ao_ | apply ap_ | apply aq_)); exact Kd.R_mono HO_1011001.out (fun _ hk => trivial)⟩, ⟨by (try simp only [hl1011001_55]); (with_reducible repeat (first | refine ac_ ?_ _ | refine ae_ ?_ | refine ad_ ?_ _)); exact BK992.out⟩, ⟨by (try simp only [hl1011001_55]); (with_reducible repeat (first | refine ac_ ?_ _ | refine ae_ ?_ | refine ad_ ?_ _)); exact BK1010.out⟩, ⟨by repeat (first | (with_reducible first | exact HB.out | apply ai_ | apply ag_ | apply ah_ | refine af_ ?_ GE992.out | refine af_ ?_ GE1010.out) | exact HB.out)⟩⟩
                            · replace c96 := Bool.eq_false_iff.mpr c96
                              subst c96
                              have H1 : (laws_FnExactHandleComp.j2 kj55 t1034 t1033 true) = some true := by rw [if_neg (show ¬ (false = true) by decide)] at H; first | done | exact H
                              clear H
                              have H := H1
                              clear H1
                              have H' := ab_ H
                              clear H
                              obtain ⟨Ao100, co100, eo100⟩ := Kd.R_slice HO1045.out
                              subst eo100
                              obtain ⟨Ao101, co101, eo101⟩ := Kd.R_slice HO_6.out
                              subst eo101
                              go_wp2_with (first | ((with_reducible refine gate_callee (f := 22) rfl ?_); refine goesL_ (some 104) rfl rfl Try.func22 (by kernel_rfl) rfl #[.slice Ao100 t1043.length co100, .slice Ao101 t1002.length co101] rfl (by (try simp only [List.map_toArray, List.map_cons, List.map_nil]); first | done | rfl | (simp only [List.length_drop, List.length_take]; rfl)) ?_; (with_reducible refine (laws_eqCompS.calls kj55 _ _ t1043 _ _ t1002 false _ ?side1 ?side2 ?side3 ?side4 A95.out).mono ?_); (case side1 => repeat (first | exact (Kd.R_reads' HO1045.out).2.2 | (with_reducible refine ar_ ?_ _) | (with_reducible refine as_ ?_ _) | (with_reducible refine Kd.C_drew ?_))); (case side2 => exact (Kd.R_reads' HO1045.out).2.1); (case side3 => repeat (first | exact (Kd.R_reads' HO_6.out).2.2 | (with_reducible refine ar_ ?_ _) | (with_reducible refine as_ ?_ _) | (with_reducible refine Kd.C_drew ?_))); (case side4 => exact (Kd.R_reads' HO_6.out).2.1); rintro e w102 ⟨rfl, hb⟩; refine ⟨_, rfl, ?_⟩; have n0_ := ab_ (Kd.R_below (by (with_reducible repeat (first | apply ao_ | apply ap_ | apply aq_)); exact HO_6.out) hb); have n1_ := ab_ (Kd.R_below (by (with_reducible repeat (first | apply ao_ | apply ap_ | apply aq_)); exact HO_10.out) hb); have n2_ := ab_ (Kd.R_below (by (with_reducible repeat (first | apply ao_ | apply ap_ | apply aq_)); exact HO_1011001.out) hb); have n3_ := ab_ (Kd.R_below (by (with_reducible repeat (first | apply ao_ | apply ap_ | apply aq_)); exact HO1039.out) hb); have n4_ := ab_ (Kd.R_below (by (with_reducible repeat (first | apply ao_ | apply ap_ | apply aq_)); exact HO1042.out) hb); have n5_ := ab_ (Kd.R_below (by (with_reducible repeat (first | apply ao_ | apply ap_ | apply aq_)); exact HO1045.out) hb); have n6_ := ab_ (blk_below (g := gb992) (o := .cells #[.int .i64 a0_0, .slice A0_1 l0_1.length c0_1] 24 (0, 0)) (by (with_reducible repeat (first | refine ac_ ?_ _ | refine ae_ ?_ | refine ad_ ?_ _)); exact BK992.out) hb); have n7_ := ab_ (blk_below (g := gb1010) (o := .cells #[.int .i64 t1006, .slice Ao34 t1029.length co34] 29 (0, 0)) (by (with_reducible repeat (first | refine ac_ ?_ _ | refine ae_ ?_ | refine ad_ ?_ _)); exact BK1010.out) hb); have n8_ := ab_ (au_ (by repeat (first | (with_reducible first | exact HB.out | apply ai_ | apply ag_ | apply ah_ | refine af_ ?_ GE992.out | refine af_ ?_ GE1010.out) | exact HB.out)) hb); clear HO_6; clear HO_10; clear HO_1011001; clear HO1039; clear HO1042; clear HO1045; clear BK992; clear BK1010; clear HB; have HO_6 := n0_; have HO_10 := n1_; have HO_1011001 := n2_; have HO1039 := n3_; have HO1042 := n4_; have HO1045 := n5_; have BK992 := n6_; have BK1010 := n7_; have HB := n8_; clear n0_ n1_ n2_ n3_ n4_ n5_ n6_ n7_ n8_; (try clear hb); (try clear hb2); (try clear hk); (try clear hi)))
                              go_meet
                              case rel => exact ⟨_, (true), (by first | rfl | (simp; done) | (simp [*]; done)), H', ⟨by have := HJ18.out; have := HJ55.out; first | omega | exact Nat.le_refl _⟩, ⟨by (try simp only [hl1011001_55]); (with_reducible repeat (first | apply ao_ | apply ap_ | apply aq_)); exact Kd.R_mono HO_10.out (fun _ hk => trivial)⟩, ⟨by (try simp only [hl1011001_55]); (with_reducible repeat (first | apply ao_ | apply ap_ | apply aq_)); exact Kd.R_mono HO_1011001.out (fun _ hk => trivial)⟩, ⟨by (try simp only [hl1011001_55]); (with_reducible repeat (first | refine ac_ ?_ _ | refine ae_ ?_ | refine ad_ ?_ _)); exact BK992.out⟩, ⟨by (try simp only [hl1011001_55]); (with_reducible repeat (first | refine ac_ ?_ _ | refine ae_ ?_ | refine ad_ ?_ _)); exact BK1010.out⟩, ⟨by repeat (first | (with_reducible first | exact HB.out | apply ai_ | apply ag_ | apply ah_ | refine af_ ?_ GE992.out | refine af_ ?_ GE1010.out) | exact HB.out)⟩⟩
                          case rest =>
                            clear HC85
                            try clear c1
                            try clear c2
                            try clear p2
                            try clear c3
                            try clear c4
                            try clear c4b0
                            try clear c5
                            try clear c6
                            try clear c7
                            try clear c8
                            try clear c9
                            try clear c9b0
                            try clear c12
                            try clear c13
                            try clear c15
                            try clear c17
                            try clear c18
                            try clear c20
                            try clear c22
                            try clear c25
                            try clear c32
                            try clear c34
                            try clear c39
                            try clear c40
                            try clear c47
                            try clear c50
                            try clear c53
                            try clear c54
                            try clear c64
                            try clear c68
                            try clear c68b0
                            try clear c70
                            try clear c77
                            try clear c80
                            try clear c80b0
                            try clear c81
                            try clear c81b0
                            try clear c81b1
                            try clear c88
                            try clear c96
                            try clear hcz11_0
                            try clear hcz11_1
                            try clear hcz21_0
                            try clear hcz21_1
                            try clear hcz23_0
                            try clear hcz23_1
                            try clear hcz29_0
                            try clear hcz29_1
                            try clear hcz33_0
                            try clear hcz33_1
                            try clear hcz36_0
                            try clear hcz36_1
                            try clear hcz65_0
                            try clear hcz65_1
                            try clear hcz6_0
                            try clear hcz6_1
                            try clear hcz89_0
                            try clear hcz89_1
                            try clear hfz11_0
                            try clear hfz11_1
                            try clear hfz21_0
                            try clear hfz21_1
                            try clear hfz23_0
                            try clear hfz23_1
                            try clear hfz29_0
                            try clear hfz29_1
                            try clear hfz33_0
                            try clear hfz33_1
                            try clear hfz36_0
                            try clear hfz36_1
                            try clear hfz65_0
                            try clear hfz65_1
                            try clear hfz6_0
                            try clear hfz6_1
                            try clear hfz89_0
                            try clear hfz89_1
                            try clear p2
                            obtain ⟨kq, x110_84, rfl, HA, HJ84, HO_10, HO_1011001, BK992, BK1010, HB⟩ := hcut
                            have hl10_84 := (Kd.R_reads' HO_10.out).1
                            rw [hl10_84] at HO_10
                            (try simp only [hl10_84])
                            (try simp only [hl10_84] at BK992)
                            (try simp only [hl10_84] at BK1010)
                            (try simp only [hl10_84] at HO_1011001)
                            cases kq with
                            | zero => exact absurd HA.out (by simp [laws_FnExactHandleComp.j2])
                            | succ kj84 =>
                              have H := HA.out
                              clear HA
                              simp only [laws_FnExactHandleComp.j2] at H
                              by_cases c103 : x110_84 = true
                              · subst c103
                                have H1 : (some false) = some true := by rw [if_pos rfl] at H; first | done | exact H
                                clear H
                                have H := H1
                                clear H1
                                exact absurd H (by simp)
                              · replace c103 := Bool.eq_false_iff.mpr c103
                                subst c103
                                have H1 : ((laws_heldCompS.f kj84 t1034 1).bind fun t1048 => (if t1048 < 0 then (some false) else (if t1048 = t1033 then (some true) else (some false)))) = some true := by rw [if_neg (show ¬ (false = true) by decide)] at H; first | done | exact H
                                clear H
                                have H := H1
                                clear H1
                                replace H := Option.bind_eq_some_iff.mp H
                                obtain ⟨t1048, A1040, H⟩ := H
                                replace H : (if t1048 < 0 then (some false) else (if t1048 = t1033 then (some true) else (some false))) = some true := H
                                have A104 := ab_ A1040
                                clear A1040
                                by_cases c105 : t1048 < 0
                                · rw [if_pos c105] at H
                                  have c105b0 : decide (t1048 < 0) = true := at_ c105
                                  clear c105
                                  exact absurd H (by simp)
                                · rw [if_neg c105] at H
                                  have c105b0 : decide (t1048 < 0) = false := decide_eq_false c105
                                  clear c105
                                  by_cases c106 : t1048 = t1033
                                  · rw [if_pos c106] at H
                                    have c106b0 : (t1048 == t1033) = true := beq_iff_eq.mpr c106
                                    have c106b1 : (t1048 != t1033) = false := bne_eq_false_iff_eq.mpr c106
                                    clear c106
                                    clear H
                                    go_wp2_with (first | ((with_reducible refine gate_callee (f := 39) rfl ?_); refine goesL_ (some 113) rfl rfl Try.func39 (by kernel_rfl) rfl #[.slice Ao86 t1034.length co86, .int .i64 1] rfl (by (try simp only [List.map_toArray, List.map_cons, List.map_nil]); first | done | rfl | (simp only [List.length_drop, List.length_take]; rfl)) ?_; (with_reducible refine (laws_heldCompS.calls kj84 _ _ t1034 1 t1048 _ ?side1 ?side2 A104.out).mono ?_); (case side1 => repeat (first | exact (Kd.R_reads' HO_10.out).2.2 | (with_reducible refine ar_ ?_ _) | (with_reducible refine as_ ?_ _) | (with_reducible refine Kd.C_drew ?_))); (case side2 => exact (Kd.R_reads' HO_10.out).2.1); rintro e w' ⟨rfl, ⟨nd, rfl⟩⟩; refine ⟨_, rfl, ?_⟩))
                                    go_ret
                                    exact ⟨by first | rfl | (simp [errW_none, errW_some] <;> rfl) | (simp [*, errW_none, errW_some] <;> rfl), by repeat (first | (with_reducible first | exact HB.out | apply ai_ | apply ag_ | apply ah_ | refine af_ ?_ GE992.out | refine af_ ?_ GE1010.out) | exact HB.out)⟩
                                  · rw [if_neg c106] at H
                                    have c106b0 : (t1048 == t1033) = false := beq_eq_false_iff_ne.mpr c106
                                    have c106b1 : (t1048 != t1033) = true := bne_iff_ne.mpr c106
                                    exact absurd H (by simp)
                        · rw [if_neg c81] at H
                          have c81b0 : (t1035 == t1033) = false := beq_eq_false_iff_ne.mpr c81
                          have c81b1 : (t1035 != t1033) = true := bne_iff_ne.mpr c81
                          exact absurd H (by simp)
              · replace c53 := Bool.eq_false_iff.mpr c53
                subst c53
                have H1 : (some false) = some true := by rw [if_neg (show ¬ (false = true) by decide)] at H; first | done | exact H
                clear H
                have H := H1
                clear H1
                exact absurd H (by simp)
            · replace c50 := Bool.eq_false_iff.mpr c50
              subst c50
              have H1 : (some false) = some true := by rw [if_neg (show ¬ (false = true) by decide)] at H; first | done | exact H
              clear H
              have H := H1
              clear H1
              exact absurd H (by simp)
end Go.Proofs.Ytjnaokdncemggaa.PAll

end

section
namespace Go.Proofs.Ytjnaokdncemggaa.PAll
open Go.RowKit Go.Proofs.YtjnaokdncemggaaW.PrintWords Go.Proofs.YtjnaokdncemggaaW.PrintLast Go.Proofs.YtjnaokdncemggaaW.PrintMore
def laws_FnExactHandleComp.Pure : Prop := ∀ (a0_0 : Int) (l0_1 : List (S126)) (l1 : List (S97)), (Lit.int .i64 a0_0).wf = true → (l0_1.length ≤ 9223372036854775807 ∧ ∀ xl01_ ∈ l0_1, ((Lit.int .i64 xl01_.f0).wf = true ∧ (Lit.int .i64 xl01_.f1).wf = true)) → (l1.length ≤ 9223372036854775807 ∧ ∀ xl1_ ∈ l1, ((Lit.int .i64 xl1_.f0).wf = true ∧ (Lit.int .i64 xl1_.f1).wf = true)) → ∃ k, laws_FnExactHandleComp.f k a0_0 l0_1 l1 = some true
end Go.Proofs.Ytjnaokdncemggaa.PAll

end

section
namespace Go.Proofs.Ytjnaokdncemggaa.PAll
open Go.RowKit Go.Proofs.YtjnaokdncemggaaW.PrintWords Go.Proofs.YtjnaokdncemggaaW.PrintLast Go.Proofs.YtjnaokdncemggaaW.PrintMore
theorem toHandler_eq (a : Int) (l : List S126) (hl : l.length ≤ 1048576) (k : Nat) (hk : 1048577 ≤ k) : laws_toHandler.f k a l = some (a, l.map cvR) := by
  unfold laws_toHandler.f
  rw [toRuleS_eq l (by omega) _ (by omega), Option.bind_some]
theorem eqHandler_self (a : Int) (l : List S82) (hl : l.length ≤ 1048576) (k : Nat) (hk : 1048577 ≤ k) : laws_eqHandler.f k a l a l = some true := by
  unfold laws_eqHandler.f
  rw [if_pos rfl, eqRuleS_self _ (by omega) _ (by omega), Option.bind_some, if_pos rfl]
theorem markHandler_eq (a : Int) (l : List S82) (hl : l.length ≤ 1048576) (k : Nat) (hk : 1048577 ≤ k) : ∃ ys, laws_markHandler.f k a l 1 = some (1 + 2 * (l.length : Int), ys) := by
  unfold laws_markHandler.f laws_markRuleS.f
  obtain ⟨ys, h⟩ := markRule_gen l.length (by omega) 1 (by omega) (by omega) l.length k 0 l rfl (by omega) (by omega)
  refine ⟨ys, ?_⟩
  simp only [Int.cast_ofNat_Int, Int.mul_zero, Int.add_zero] at h
  rw [h, Option.bind_some]
theorem markComp_from (a : Int) (h0 : 0 ≤ a) (h1 : a ≤ 1000000000000) (l : List S83) (hl : l.length ≤ 1048576) (k : Nat) (hk : 1048577 ≤ k) : ∃ ys, laws_markCompS.f k l a = some (a + 2 * (l.length : Int), ys) := by
  unfold laws_markCompS.f
  obtain ⟨ys, h⟩ := markComp_gen l.length (by omega) a h0 h1 l.length k 0 l rfl (by omega) (by omega)
  simp only [Int.cast_ofNat_Int, Int.mul_zero, Int.add_zero] at h
  exact ⟨ys, h⟩
theorem FnExactHandleComp_pure : laws_FnExactHandleComp.Pure := by
  intro a0 l0 l1 _ g0 g1
  refine ⟨3000000, ?_⟩
  unfold laws_FnExactHandleComp.f laws_szHandler.f laws_szRuleS.f laws_szCompS.f
  by_cases h : wrap64 (1048576 - (l0.length : Int)) < 0
  · rw [if_pos h]; simp
  · have hl0 : l0.length ≤ 1048576 := by have := g0.1; unfold wrap64 at h; omega
    have hw : wrap64 (1048576 - (l0.length : Int)) = 1048576 - (l0.length : Int) := wrap_id (by omega) (by omega)
    rw [if_neg h]
    simp only [Option.bind_some]
    rw [if_neg h]
    simp only [Option.bind_some]
    rw [if_neg h, hw]
    by_cases h2 : wrap64 (1048576 - (l0.length : Int) - (l1.length : Int)) < 0
    · rw [if_pos h2]; simp
    · have hl1 : l1.length ≤ 1048576 := by have := g1.1; unfold wrap64 at h2; omega
      rw [if_neg h2]
      simp only [Option.bind_some]
      rw [if_neg h2]
      have T0 := fun k hk => toHandler_eq a0 l0 hl0 k hk
      have T1 := fun k hk => toCompS_eq l1 (by omega) k hk
      rw [T0 _ (by omega), Option.bind_some, T1 _ (by omega), Option.bind_some]
      simp only
      rw [specHandle_eq a0 (l0.map cvR) (l1.map cvC) (by simp; omega) _ (by omega), Option.bind_some, Option.bind_some, Option.bind_some]
      simp only [impl_HandleComp.f, Option.bind_some]
      have hrs := handleOf_len a0 (l0.map cvR) (l1.map cvC)
      obtain ⟨ys, hm, hh⟩ := markHeldC_eq (handleOf a0 (l0.map cvR) (l1.map cvC)).1 (by omega) 2999998 (by omega)
      obtain ⟨zs, hz⟩ := markHandler_eq a0 (l0.map cvR) (by simp; omega) 2999999 (by omega)
      obtain ⟨us, hu⟩ := markComp_from (1 + 2 * ((l0.map cvR).length : Int)) (by omega) (by simp; omega) (l1.map cvC) (by simp; omega) 2999999 (by omega)
      rw [eqCompS_self _ (by omega) _ (by omega), Option.bind_some, if_pos rfl]
      simp only [laws_FnExactHandleComp.j0, bne_self_eq_false]
      rw [if_neg (by simp), T0 _ (by omega), Option.bind_some]
      simp only
      rw [eqHandler_self _ _ (by simp; omega) _ (by omega), Option.bind_some, if_pos rfl, T1 _ (by omega), Option.bind_some, eqCompS_self _ (by simp; omega) _ (by simp; omega), Option.bind_some, if_pos rfl, hz, Option.bind_some]
      simp only
      rw [hu, Option.bind_some, if_neg (by omega), eqCompS_self _ (by omega) _ (by omega), Option.bind_some, if_pos rfl]
      simp only [laws_FnExactHandleComp.j1, impl_HandleComp.f]
      rw [if_neg (by simp), hm, Option.bind_some]
      simp only
      rw [hh _ (by omega), Option.bind_some, if_neg (by omega), if_pos rfl, T0 _ (by omega), Option.bind_some, T1 _ (by omega), Option.bind_some, Option.bind_some]
      simp only
      rw [eqCompS_self _ (by omega) _ (by omega), Option.bind_some, if_pos rfl]
      simp only [laws_FnExactHandleComp.j2, bne_self_eq_false]
      rw [if_neg (by simp), hh _ (by omega), Option.bind_some, if_neg (by omega), if_pos rfl]
end Go.Proofs.Ytjnaokdncemggaa.PAll

end
