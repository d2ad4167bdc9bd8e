/- Marks in a row of cells are read back; both sides' MapComp answer as mapOf. -/
import Derived.Test.YtjnaokdncemggaaQresults
import Derived.Test.YtjnaokdncemggaaHcompA
import Derived.Test.YtjnaokdncemggaaHcompC
import Derived.Test.YtjnaokdncemggaaHcompD
import Derived.Test.YtjnaokdncemggaaHflat
import Derived.Test.YtjnaokdncemggaaHthen
import Derived.Test.YtjnaokdncemggaaHthenG
import Derived.Test.YtjnaokdncemggaaPAllx28
import Derived.Test.YtjnaokdncemggaaPAllx31
import Derived.Test.YtjnaokdncemggaaPAllx32
import Derived.Test.YtjnaokdncemggaaPAllx33
import Derived.Test.YtjnaokdncemggaaPAllx35
namespace Go.Proofs.Ytjnaokdncemggaa.PAll
open Go.RowKit Go.Proofs.YtjnaokdncemggaaW.PrintWords Go.Proofs.YtjnaokdncemggaaW.PrintLast Go.Proofs.YtjnaokdncemggaaW.PrintMore
set_option linter.unusedVariables false
set_option linter.unusedSimpArgs false

def mkC (j : Nat) : S83 := ⟨((1 + 2 * j : Nat) : Int), ((2 + 2 * j : Nat) : Int)⟩

theorem markC_loop (n : Nat) (hn : n ≤ 17592186044416) : ∀ (d k i : Nat) (xs : List S83), xs.length = n → (∀ j, j < i → xs[j]? = some (mkC j)) → i + d = n → d < k → ∃ ys, laws_markCompS.l0 k xs ((1 + 2 * i : Nat) : Int) (i : Int) = some (((1 + 2 * n : Nat) : Int), ys) ∧ ys.length = n ∧ ∀ j, j < n → ys[j]? = some (mkC j) := by
  intro d
  induction d with
  | zero =>
    intro k i xs hx hj hi hk
    obtain ⟨k, rfl⟩ : ∃ m, k = m + 1 := ⟨k - 1, by omega⟩
    simp only [laws_markCompS.l0]
    rw [if_neg (by omega)]
    obtain rfl : i = n := by omega
    exact ⟨xs, rfl, hx, hj⟩
  | succ d ih =>
    intro k i xs hx hj hi hk
    obtain ⟨k, rfl⟩ : ∃ m, k = m + 1 := ⟨k - 1, by omega⟩
    simp only [laws_markCompS.l0]
    rw [if_pos (by omega), if_pos (by omega), Option.bind_some, wrap_id (x := ((1 + 2 * i : Nat) : Int) + 1) (by omega) (by omega), wrap_id (x := (i : Int) + 1) (by omega) (by omega), wrap_id (by omega) (by omega)]
    have e1 : ((1 + 2 * i : Nat) : Int) + 1 + 1 = ((1 + 2 * (i + 1) : Nat) : Int) := by omega
    have e2 : (i : Int) + 1 = ((i + 1 : Nat) : Int) := by omega
    have e3 : ((1 + 2 * i : Nat) : Int) + 1 = ((2 + 2 * i : Nat) : Int) := by omega
    have hrd : (rd_T83 (xs.set (i : Int).toNat ⟨((1 + 2 * i : Nat) : Int), (rd_T83 xs (i : Int)).f1⟩) (i : Int)).f0 = ((1 + 2 * i : Nat) : Int) := by
      simp [rd_T83, List.getD_eq_getElem?_getD, List.getElem?_set_self (show i < xs.length by omega)]
    rw [hrd, e1, e2, e3]
    refine ih k (i + 1) _ (by simp [hx]) (fun j hj' => ?_) (by omega) (by omega)
    rw [Int.toNat_natCast]
    by_cases hji : j = i
    · subst hji
      rw [List.getElem?_set_self (by simp; omega)]
      rfl
    · rw [List.getElem?_set_ne (by omega), List.getElem?_set_ne (by omega)]
      exact hj j (by omega)
theorem heldC_loop (n : Nat) (hn : n ≤ 17592186044416) (ys : List S83) (hy : ys.length = n) (hj : ∀ j, j < n → ys[j]? = some (mkC j)) : ∀ (d k i : Nat), i + d = n → d < k → laws_heldCompS.l0 k ys ((1 + 2 * i : Nat) : Int) (i : Int) = some ((1 + 2 * n : Nat) : Int) := by
  intro d
  induction d with
  | zero =>
    intro k i hi hk
    obtain ⟨k, rfl⟩ : ∃ m, k = m + 1 := ⟨k - 1, by omega⟩
    simp only [laws_heldCompS.l0]
    rw [if_neg (by omega)]
    obtain rfl : i = n := by omega
    rfl
  | succ d ih =>
    intro k i hi hk
    obtain ⟨k, rfl⟩ : ∃ m, k = m + 1 := ⟨k - 1, by omega⟩
    have hr : rd_T83 ys (i : Int) = mkC i := by simp only [rd_T83, Int.toNat_natCast, List.getD_eq_getElem?_getD]; rw [hj i (by omega)]; rfl
    simp only [laws_heldCompS.l0, hr, mkC]
    rw [if_pos (by omega), if_pos (by omega), if_pos trivial, wrap_id (x := ((1 + 2 * i : Nat) : Int) + 1) (by omega) (by omega), if_pos (by omega), wrap_id (x := (i : Int) + 1) (by omega) (by omega), wrap_id (by omega) (by omega)]
    have e1 : ((1 + 2 * i : Nat) : Int) + 1 + 1 = ((1 + 2 * (i + 1) : Nat) : Int) := by omega
    have e2 : (i : Int) + 1 = ((i + 1 : Nat) : Int) := by omega
    rw [e1, e2]
    exact ih k (i + 1) (by omega) (by omega)
theorem markHeldC_eq (xs : List S83) (hn : xs.length ≤ 17592186044416) (k : Nat) (hk : xs.length < k) : ∃ ys, laws_markCompS.f k xs 1 = some (((1 + 2 * xs.length : Nat) : Int), ys) ∧ ∀ q, xs.length < q → laws_heldCompS.f q ys 1 = some ((1 + 2 * xs.length : Nat) : Int) := by
  unfold laws_markCompS.f laws_heldCompS.f
  obtain ⟨ys, h, hy, hj⟩ := markC_loop xs.length hn xs.length k 0 xs rfl (fun j h => by omega) (by omega) hk
  exact ⟨ys, h, fun q hq => heldC_loop xs.length hn ys hy hj xs.length q 0 (by omega) hq⟩

theorem size_dep (t : CT) : t.dep ≤ 1000000 → t.size = t.dep := by
  induction t with
  | ret n => intro _; rfl
  | ask n a b iha ihb =>
    intro h
    simp only [CT.dep] at h
    simp only [CT.size, CT.dep]
    rw [iha (by omega), ihb (by omega), if_neg (by omega)]
    omega
theorem dep_of_size (t : CT) : t.size < 1000000 → (t.dep : Int) = t.size := by
  induction t with
  | ret n => intro _; rfl
  | ask n a b iha ihb =>
    intro h
    have ha := a.size_bd
    have hb := b.size_bd
    simp only [CT.size] at h ⊢
    split at h
    · omega
    · rename_i h1
      rw [if_neg h1]
      simp only [CT.dep]
      have := iha (by omega)
      have := ihb (by omega)
      omega
theorem dep_pos (t : CT) : 1 ≤ t.dep := by cases t <;> simp [CT.dep]; omega
theorem cells_dep (t : CT) : (ccells t).length = t.dep := by
  induction t with
  | ret n => simp [ccells, CT.dep]
  | ask n a b iha ihb => simp [ccells, CT.dep, iha, ihb]; omega

/-- How deep a tree is. -/
def CT.tall : CT → Nat
  | .ret _ => 1
  | .ask _ a b => 1 + max a.tall b.tall
theorem tall_dep (t : CT) : t.tall ≤ t.dep := by
  induction t with
  | ret n => simp [CT.tall, CT.dep]
  | ask n a b iha ihb => simp only [CT.tall, CT.dep]; omega

theorem flat_eq (t : CT) : ∀ (k : Nat) (out : List S83), t.tall < k → out.length + t.dep ≤ 1000000 → l9flat k (cv t).f0 (cv t).f1 (cv t).f2 out = some (out ++ ccells t) := by
  induction t with
  | ret n =>
    intro k out hk ho
    obtain ⟨k, rfl⟩ : ∃ m, k = m + 1 := ⟨k - 1, by omega⟩
    simp only [CT.dep] at ho
    show l9flat (k + 1) false n [] out = some (out ++ [⟨1, n⟩])
    simp only [l9flat]
    rw [if_pos (by omega), if_neg (by simp)]
  | ask n a b iha ihb =>
    intro k out hk ho
    obtain ⟨k, rfl⟩ : ∃ m, k = m + 1 := ⟨k - 1, by omega⟩
    simp only [CT.dep] at ho
    simp only [CT.tall] at hk
    have ha := cells_dep a
    show l9flat (k + 1) true n [cv a, cv b] out = some (out ++ (⟨2, n⟩ :: (ccells a ++ ccells b)))
    simp only [l9flat, l9fl]
    rw [if_pos (by omega), if_pos trivial, if_pos (by simp), iha k _ (by omega) (by simp; omega), Option.bind_some, ihb k _ (by omega) (by simp; omega), Option.bind_some]
    simp

theorem cof_dep {l : List S83} {t : CT} (h : cof l = some t) : t.dep ≤ 60 := (cof_res h).2.1

theorem sub_add_dep (by_ : Int) (t : CT) : (t.sub (addF by_)).dep = t.dep := by
  induction t with
  | ret n => rfl
  | ask n a b iha ihb => simp only [CT.sub, CT.dep, iha, ihb]
theorem sub_add_tall (by_ : Int) (t : CT) : (t.sub (addF by_)).tall = t.tall := by
  induction t with
  | ret n => rfl
  | ask n a b iha ihb => simp only [CT.sub, CT.tall, iha, ihb]

theorem l9Add_eq (by_ : Int) (b0 : 0 ≤ by_) (b1 : by_ ≤ 99) (t : CT) : ∀ k, t.tall < k → t.ok → spec_l9Add.f k (cv t).f0 (cv t).f1 (cv t).f2 by_ = some ((cv (t.sub (addF by_))).f0, (cv (t.sub (addF by_))).f1, (cv (t.sub (addF by_))).f2) := by
  induction t with
  | ret n =>
    intro k hk ho
    obtain ⟨k, rfl⟩ : ∃ m, k = m + 1 := ⟨k - 1, by omega⟩
    obtain ⟨h0, h1⟩ := ho
    show spec_l9Add.f (k + 1) false n [] by_ = some (false, (n + by_) % 100, [])
    simp only [spec_l9Add.f]
    rw [if_neg (by simp), wrap_id (by omega) (by omega), Int.tmod_eq_emod_of_nonneg (by omega)]
  | ask n a b iha ihb =>
    intro k hk ho
    obtain ⟨k, rfl⟩ : ∃ m, k = m + 1 := ⟨k - 1, by omega⟩
    simp only [CT.tall] at hk
    have ea : rd_T93 [cv a, cv b] 0 = cv a := by simp [rd_T93]
    have eb : rd_T93 [cv a, cv b] 1 = cv b := by simp [rd_T93]
    show spec_l9Add.f (k + 1) true n [cv a, cv b] by_ = some (true, n, [cv (a.sub (addF by_)), cv (b.sub (addF by_))])
    simp only [spec_l9Add.f, ea, eb]
    rw [if_pos trivial, if_pos (by simp), iha k (by omega) ho.1, Option.bind_some, if_pos (by simp), ihb k (by omega) ho.2, Option.bind_some]
    cases cv (a.sub (addF by_))
    cases cv (b.sub (addF by_))
    rfl

theorem specMap_eq (l : List S83) (by_ : Int) (k : Nat) (hk : 300 ≤ k) : spec_MapComp.f k l by_ = some (mapOf l by_) := by
  have h := l9Tree_eq l k (by omega)
  obtain ⟨q, rfl⟩ : ∃ q, k = q + 1 := ⟨k - 1, by omega⟩
  unfold spec_MapComp.f mapOf
  cases hq : cof l with
  | none => rw [hq] at h; obtain ⟨b, n, ks, h⟩ := h; rw [h]; simp [spec_MapComp.j0]
  | some t =>
    rw [hq] at h
    simp only at h
    have hd := cof_dep hq
    have ho := cof_ok hq
    have ht := tall_dep t
    rw [h, Option.bind_some, if_pos rfl, l1In_eq, Option.bind_some]
    simp only [spec_MapComp.j0]
    by_cases hb : 0 ≤ by_ ∧ by_ ≤ 99
    · rw [if_neg (by simp [hb]), if_pos hb, l9Add_eq by_ hb.1 hb.2 t q (by omega) ho, Option.bind_some]
      simp only [spec_l9Flat.f]
      rw [flat_eq _ 1000 [] (by rw [sub_add_tall]; omega) (by rw [sub_add_dep]; simp; omega), Option.bind_some]
      unfold goodOf
      rw [if_pos (by rw [size_dep _ (by rw [sub_add_dep]; omega), sub_add_dep]; omega)]
      rfl
    · rw [if_pos (by rw [decide_eq_false hb]; rfl), if_neg hb]

theorem goodOf_len (t : CT) : (goodOf t).1.length ≤ 60 := by
  unfold goodOf
  split
  · rename_i h; rw [cells_dep]; have := dep_of_size t (by omega); omega
  · simp
theorem mapOf_len (l : List S83) (by_ : Int) : (mapOf l by_).1.length ≤ 60 := by
  unfold mapOf
  split
  · simp
  · split
    · exact goodOf_len _
    · simp
end Go.Proofs.Ytjnaokdncemggaa.PAll
