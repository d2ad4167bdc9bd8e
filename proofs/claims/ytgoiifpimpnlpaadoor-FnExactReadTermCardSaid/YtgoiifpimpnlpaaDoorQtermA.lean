/- Plain laws of the printed helpers over terms' cells: toCellS copies, eqCellS compares. -/
import Derived.Test.YtgoiifpimpnlpaaDoorPAllx15
import Derived.Test.YtgoiifpimpnlpaaDoorPAllx16
import Derived.Test.YtgoiifpimpnlpaaDoorPAllx26
namespace Go.Proofs.YtgoiifpimpnlpaaDoor.PAll
open Go.RowKit Go.Proofs.YtgoiifpimpnlpaaDoorW.PrintWords Go.Proofs.YtgoiifpimpnlpaaDoorW.PrintLast Go.Proofs.YtgoiifpimpnlpaaDoorW.PrintMore
set_option linter.unusedVariables false
set_option linter.unusedSimpArgs false

theorem wrap_id {x : Int} (h0 : -9223372036854775808 ≤ x) (h1 : x < 9223372036854775808) : wrap64 x = x := by unfold wrap64; omega

def cvM (x : S58) : S41 := ⟨x.f0, x.f1⟩

theorem toCellS_loop (l : List S58) (hl : l.length ≤ 17592186044416) : ∀ (d k i : Nat) (x3 : List S41), i + d = l.length → x3.length = l.length → (∀ j, j < i → x3[j]? = (l.map cvM)[j]?) → d < k → laws_toCellS.l0 k l x3 (i : Int) = some (l.map cvM) := by
  intro d
  induction d with
  | zero =>
    intro k i x3 hi hx ht hk
    obtain ⟨k, rfl⟩ : ∃ m, k = m + 1 := ⟨k - 1, by omega⟩
    simp only [laws_toCellS.l0]
    rw [if_neg (by omega)]
    congr 1
    apply List.ext_getElem?
    intro j
    by_cases hj : j < i
    · exact ht j hj
    · rw [List.getElem?_eq_none (by omega), List.getElem?_eq_none (by simp; omega)]
  | succ d ih =>
    intro k i x3 hi hx ht hk
    obtain ⟨k, rfl⟩ : ∃ m, k = m + 1 := ⟨k - 1, by omega⟩
    have hlt : i < l.length := by omega
    have hr : rd_T58 l (i : Int) = l[i] := by simp [rd_T58, List.getD_eq_getElem?_getD, List.getElem?_eq_getElem hlt]
    simp only [laws_toCellS.l0]
    rw [if_pos (by omega), if_pos (by omega), hr]
    simp only [laws_toCell.f, Option.bind_some]
    rw [if_pos (by omega), wrap_id (by omega) (by omega)]
    have := ih k (i + 1) (x3.set i (cvM l[i])) (by omega) (by simp [hx]) (fun j hj => ?_) (by omega)
    · simpa [cvM] using this
    · by_cases hji : j = i
      · subst hji
        rw [List.getElem?_set_self (by omega)]
        simp [hlt]
      · rw [List.getElem?_set_ne (by omega)]
        exact ht j (by omega)

theorem toCellS_eq (l : List S58) (hl : l.length ≤ 17592186044416) (k : Nat) (hk : l.length < k) : laws_toCellS.f k l = some (l.map cvM) := by
  unfold laws_toCellS.f
  rw [if_pos (by omega), if_pos (by omega)]
  exact toCellS_loop l hl l.length k 0 _ (by omega) (by simp) (fun j hj => by omega) hk

theorem eqCellS_loop (a : List S41) (hm : a.length ≤ 17592186044416) : ∀ (d k i : Nat), i + d = a.length → d < k → laws_eqCellS.l0 k a a (i : Int) = some true := by
  intro d
  induction d with
  | zero =>
    intro k i hi hk
    obtain ⟨k, rfl⟩ : ∃ m, k = m + 1 := ⟨k - 1, by omega⟩
    simp only [laws_eqCellS.l0]
    rw [if_neg (by omega)]
  | succ d ih =>
    intro k i hi hk
    obtain ⟨k, rfl⟩ : ∃ m, k = m + 1 := ⟨k - 1, by omega⟩
    simp only [laws_eqCellS.l0]
    rw [if_pos (by omega), if_pos (by omega), if_pos (by omega), wrap_id (by omega) (by omega)]
    simp only [laws_eqCell.f, if_true, Option.bind_some]
    exact ih k (i + 1) (by omega) (by omega)

theorem eqCellS_self (a : List S41) (hm : a.length ≤ 17592186044416) (k : Nat) (hk : a.length < k) : laws_eqCellS.f k a a = some true := by
  unfold laws_eqCellS.f
  rw [if_pos rfl]
  exact eqCellS_loop a hm a.length k 0 (by omega) hk
end Go.Proofs.YtgoiifpimpnlpaaDoor.PAll
