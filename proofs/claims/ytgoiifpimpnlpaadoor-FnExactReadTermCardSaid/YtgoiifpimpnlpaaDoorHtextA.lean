/- cellText by its contract. -/
import Derived.Test.YtgoiifpimpnlpaaDoorHtermC
import Derived.Test.YtgoiifpimpnlpaaDoorHshelfA
import Derived.Lib.LaidTab
import Derived.Lib.ItoaLen
namespace Go.Proofs.YtgoiifpimpnlpaaDoor.PAll
open Go.RowKit Go.Proofs.YtgoiifpimpnlpaaDoorW.PrintWords Go.Proofs.YtgoiifpimpnlpaaDoorW.PrintLast Go.Proofs.YtgoiifpimpnlpaaDoorW.PrintMore
set_option linter.unusedVariables false
set_option linter.unusedSimpArgs false

/-- The table that Itoa reads. -/
abbrev Tab (w : World) : Prop := Lib.TabIs Tryd.prog w "internal/strconv.uint64pow10" .u64 Lib.pow10Tab
/-- It stands in the first blocks, which nothing changes. -/
def TabB (B : Nat) (w : World) : Prop := ∀ w', Below B w w' → Tab w'
theorem TabB.now {B : Nat} {w : World} (h : TabB B w) : Tab w := h w (Below.refl _ _)
theorem TabB.below {B : Nat} {w w1 : World} (h : TabB B w) (hB : B ≤ w.heap.size) (hb : Below w.heap.size w w1) : TabB B w1 := fun w' hw' => h w' ((hb.mono hB).trans hw')

/-- The text of a cell. -/
def cellT (x : S41) : List UInt8 := if x.f0 = 1 then 118 :: Lib.itoa x.f1 else if x.f0 = 2 then Lib.itoa x.f1 else if x.f0 = 3 then [92] else if x.f0 = 4 then [64] else if x.f0 = 5 then [43] else if x.f0 = 6 then [63] else [61]

theorem grow_below {w : World} (k : Nat) (os : Array Obj) : Below w.heap.size w (Go.Sort.grow (w.drewN k) os) := by
  refine ⟨rfl, rfl, rfl, by simp [Go.Sort.grow], fun i hi => ?_⟩
  simp [Go.Sort.grow, Array.getElem?_append, hi]

theorem cell_kinds {x : S41} (h : cellB x = true) : (x.f0 = 1 ∧ 0 ≤ x.f1 ∧ x.f1 ≤ 99) ∨ (x.f0 = 2 ∧ -1000000 ≤ x.f1 ∧ x.f1 ≤ 1000000) ∨ x.f0 = 3 ∨ x.f0 = 4 ∨ x.f0 = 5 ∨ x.f0 = 6 ∨ x.f0 = 7 := by
  unfold cellB at h
  split at h
  · rename_i h1; exact .inl ⟨h1, by simpa using h⟩
  · split at h
    · rename_i h2; exact .inr (.inl ⟨h2, by simpa using h⟩)
    · rw [Bool.and_eq_true, decide_eq_true_eq] at h
      have := h.1
      unfold arI at this
      repeat' split at this
      all_goals first | omega | (simp_all)

set_option maxRecDepth 100000 in
set_option maxHeartbeats 1000000 in
theorem cellText_calls (B : Nat) (x : S41) (hx : cellB x = true) (w : World) (hB : B ≤ w.heap.size) (ht : TabB B w) : Calls Tryd.prog 26 #[.agg #[.int .i64 x.f0, .int .i64 x.f1]] w fun e w' => e = .returned (.string ⟨(cellT x).toArray⟩) ∧ Below w.heap.size w w' := by
  obtain ⟨k, n⟩ := x
  have hk := cell_kinds hx
  clear hx
  simp only at hk ⊢
  have HT := Lib.hid (fun (W : World) (hb : Below w.heap.size w W) => (ht.below hB hb).now)
  clear ht
  rcases hk with ⟨rfl, h0, h1⟩ | ⟨rfl, h0, h1⟩ | rfl | rfl | rfl | rfl | rfl
  · have C := Lib.hid (fun (W : World) (hb : Below w.heap.size w W) => strconv_Itoa n (by omega) (by omega) W (HT.out W hb))
    have hil := Lib.itoa_length_le n (by omega) (by omega)
    have e : cellT ⟨1, n⟩ = 118 :: Lib.itoa n := rfl
    rw [e]
    clear e
    go_enter Tryd.func26, Tryd.ntmps26
    go_wp2_with fail
    refine (C.out _ (below_alloc (Below.refl _ _) _)).mono ?_
    rintro e w1 ⟨rfl, k, os, hw1⟩
    have HB := Lib.hid (show Below w.heap.size w w1 by rw [hw1]; exact below_step (below_alloc (Below.refl _ _) _) (grow_below _ _))
    clear hw1
    go_wp2
    go_ret
    exact ⟨congrArg (fun s => Ending.returned (Value.string s)) (ByteArray.ext (Array.ext' (by simp))), HB.out⟩
  · have C := Lib.hid (fun (W : World) (hb : Below w.heap.size w W) => strconv_Itoa n (by omega) (by omega) W (HT.out W hb))
    have e : cellT ⟨2, n⟩ = Lib.itoa n := rfl
    rw [e]
    clear e
    go_enter Tryd.func26, Tryd.ntmps26
    go_wp2_with fail
    refine (C.out _ (below_alloc (Below.refl _ _) _)).mono ?_
    rintro e w1 ⟨rfl, k, os, hw1⟩
    have HB := Lib.hid (show Below w.heap.size w w1 by rw [hw1]; exact below_step (below_alloc (Below.refl _ _) _) (grow_below _ _))
    clear hw1
    go_wp2
    go_ret
    exact ⟨rfl, HB.out⟩
  · rw [show cellT ⟨3, n⟩ = [92] from rfl]
    go_enter Tryd.func26, Tryd.ntmps26
    go_wp2
    go_ret
    exact ⟨congrArg (fun s => Ending.returned (Value.string s)) (by kernel_rfl), below_alloc (Below.refl _ _) _⟩
  · rw [show cellT ⟨4, n⟩ = [64] from rfl]
    go_enter Tryd.func26, Tryd.ntmps26
    go_wp2
    go_ret
    exact ⟨congrArg (fun s => Ending.returned (Value.string s)) (by kernel_rfl), below_alloc (Below.refl _ _) _⟩
  · rw [show cellT ⟨5, n⟩ = [43] from rfl]
    go_enter Tryd.func26, Tryd.ntmps26
    go_wp2
    go_ret
    exact ⟨congrArg (fun s => Ending.returned (Value.string s)) (by kernel_rfl), below_alloc (Below.refl _ _) _⟩
  · rw [show cellT ⟨6, n⟩ = [63] from rfl]
    go_enter Tryd.func26, Tryd.ntmps26
    go_wp2
    go_ret
    exact ⟨congrArg (fun s => Ending.returned (Value.string s)) (by kernel_rfl), below_alloc (Below.refl _ _) _⟩
  · rw [show cellT ⟨7, n⟩ = [61] from rfl]
    go_enter Tryd.func26, Tryd.ntmps26
    go_wp2
    go_ret
    exact ⟨congrArg (fun s => Ending.returned (Value.string s)) (by kernel_rfl), below_alloc (Below.refl _ _) _⟩
end Go.Proofs.YtgoiifpimpnlpaaDoor.PAll
