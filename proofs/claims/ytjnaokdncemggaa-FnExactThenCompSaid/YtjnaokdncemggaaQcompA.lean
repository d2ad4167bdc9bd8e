/- Plain laws of the printed helpers over computations' cells: toCompS copies, eqCompS compares. -/
import Derived.Test.YtjnaokdncemggaaPAllx12
import Derived.Test.YtjnaokdncemggaaPAllx14
import Derived.Test.YtjnaokdncemggaaPAllx15
namespace Go.Proofs.Ytjnaokdncemggaa.PAll
open Go.RowKit Go.Proofs.YtjnaokdncemggaaW.PrintWords Go.Proofs.YtjnaokdncemggaaW.PrintLast Go.Proofs.YtjnaokdncemggaaW.PrintMore

theorem wrap_id {x : Int} (h0 : -9223372036854775808 ≤ x) (h1 : x < 9223372036854775808) : wrap64 x = x := by unfold wrap64; omega

def cvC (x : S97) : S83 := ⟨x.f0, x.f1⟩

theorem toCompS_loop (l : List S97) (hl : l.length ≤ 17592186044416) : ∀ (d k i : Nat) (x3 : List S83), i + d = l.length → x3.length = l.length → (∀ j, j < i → x3[j]? = (l.map cvC)[j]?) → d < k → laws_toCompS.l0 k l x3 (i : Int) = some (l.map cvC) := by
  intro d
  induction d with
  | zero =>
    intro k i x3 hi hx ht hk
    obtain ⟨k, rfl⟩ : ∃ m, k = m + 1 := ⟨k - 1, by omega⟩
    simp only [laws_toCompS.l0]
    rw [if_neg (by omega)]
    congr 1
    apply List.ext_getElem?
    intro j
    by_cases hj : j < i
    · exact ht j hj
    · rw [List.getElem?_eq_none (by omega), List.getElem?_eq_none (by simp; omega)]
  | succ d ih =>
    intro k i x3 hi hx ht hk
    obtain ⟨k, rfl⟩ : ∃ m, k = m + 1 := ⟨k - 1, by omega⟩
    have hlt : i < l.length := by omega
    have hr : rd_T97 l (i : Int) = l[i] := by simp [rd_T97, List.getD_eq_getElem?_getD, List.getElem?_eq_getElem hlt]
    simp only [laws_toCompS.l0]
    rw [if_pos (by omega), if_pos (by omega), hr]
    simp only [laws_toComp.f, Option.bind_some]
    rw [if_pos (by omega), wrap_id (by omega) (by omega)]
    have := ih k (i + 1) (x3.set i (cvC l[i])) (by omega) (by simp [hx]) (fun j hj => ?_) (by omega)
    · simpa [cvC] using this
    · by_cases hji : j = i
      · subst hji
        rw [List.getElem?_set_self (by omega)]
        simp [hlt]
      · rw [List.getElem?_set_ne (by omega)]
        exact ht j (by omega)

theorem toCompS_eq (l : List S97) (hl : l.length ≤ 17592186044416) (k : Nat) (hk : l.length < k) : laws_toCompS.f k l = some (l.map cvC) := by
  unfold laws_toCompS.f
  rw [if_pos (by omega), if_pos (by omega)]
  exact toCompS_loop l hl l.length k 0 _ (by omega) (by simp) (fun j hj => by omega) hk

theorem eqCompS_loop (a : List S83) (hm : a.length ≤ 17592186044416) : ∀ (d k i : Nat), i + d = a.length → d < k → laws_eqCompS.l0 k a a (i : Int) = some true := by
  intro d
  induction d with
  | zero =>
    intro k i hi hk
    obtain ⟨k, rfl⟩ : ∃ m, k = m + 1 := ⟨k - 1, by omega⟩
    simp only [laws_eqCompS.l0]
    rw [if_neg (by omega)]
  | succ d ih =>
    intro k i hi hk
    obtain ⟨k, rfl⟩ : ∃ m, k = m + 1 := ⟨k - 1, by omega⟩
    simp only [laws_eqCompS.l0]
    rw [if_pos (by omega), if_pos (by omega), if_pos (by omega), wrap_id (by omega) (by omega)]
    simp only [laws_eqComp.f, if_true, Option.bind_some]
    exact ih k (i + 1) (by omega) (by omega)

theorem eqCompS_self (a : List S83) (hm : a.length ≤ 17592186044416) (k : Nat) (hk : a.length < k) : laws_eqCompS.f k a a = some true := by
  unfold laws_eqCompS.f
  rw [if_pos rfl]
  exact eqCompS_loop a hm a.length k 0 (by omega) hk
end Go.Proofs.Ytjnaokdncemggaa.PAll
