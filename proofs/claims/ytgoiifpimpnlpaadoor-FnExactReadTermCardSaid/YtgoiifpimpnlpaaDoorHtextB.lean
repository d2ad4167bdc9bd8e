/- TermText by its contract. -/
import Derived.Test.YtgoiifpimpnlpaaDoorHtextA
namespace Go.Proofs.YtgoiifpimpnlpaaDoor.PAll
open Go.RowKit Go.Proofs.YtgoiifpimpnlpaaDoorW.PrintWords Go.Proofs.YtgoiifpimpnlpaaDoorW.PrintLast Go.Proofs.YtgoiifpimpnlpaaDoorW.PrintMore
set_option linter.unusedVariables false
set_option linter.unusedSimpArgs false

theorem mkids_cellB {f : List S41 → Option (Tm × List S41)} (hf : ∀ l t r, f l = some (t, r) → ∃ p, l = p ++ r ∧ ∀ x ∈ p, cellB x = true) : ∀ m l ts r, mkids f m l = some (ts, r) → ∃ p, l = p ++ r ∧ ∀ x ∈ p, cellB x = true := by
  intro m
  induction m with
  | zero => intro l ts r h; simp [mkids] at h; obtain ⟨rfl, rfl⟩ := h; exact ⟨[], rfl, by simp⟩
  | succ m ih =>
    intro l ts r h
    simp only [mkids] at h
    cases h1 : f l with
    | none => rw [h1] at h; simp at h
    | some p =>
      obtain ⟨t, r1⟩ := p
      rw [h1] at h
      simp only at h
      cases h2 : mkids f m r1 with
      | none => rw [h2] at h; simp at h
      | some q =>
        obtain ⟨ts', r2⟩ := q
        rw [h2] at h
        simp at h
        obtain ⟨rfl, rfl⟩ := h
        obtain ⟨p1, e1, c1⟩ := hf _ _ _ h1
        obtain ⟨p2, e2, c2⟩ := ih _ _ _ h2
        refine ⟨p1 ++ p2, by rw [e1, e2, List.append_assoc], ?_⟩
        intro x hx
        rcases List.mem_append.1 hx with hx | hx
        · exact c1 x hx
        · exact c2 x hx
theorem mparse_cellB : ∀ (k : Nat) (l : List S41) (t : Tm) (r : List S41), mparse k l = some (t, r) → ∃ p, l = p ++ r ∧ ∀ x ∈ p, cellB x = true := by
  intro k
  induction k with
  | zero => intro l t r h; simp [mparse] at h
  | succ k ih =>
    intro l t r h
    cases l with
    | nil => simp [mparse] at h
    | cons x l =>
      simp only [mparse] at h
      split at h
      · rename_i hx
        cases h1 : mkids (mparse k) (arI x.f0).toNat l with
        | none => rw [h1] at h; simp at h
        | some p =>
          obtain ⟨ts, r1⟩ := p
          rw [h1] at h
          simp at h
          obtain ⟨rfl, rfl⟩ := h
          obtain ⟨p, e, c⟩ := mkids_cellB ih _ _ _ _ h1
          refine ⟨x :: p, by rw [e]; rfl, ?_⟩
          intro y hy
          rcases List.mem_cons.1 hy with rfl | hy
          · exact hx
          · exact c y hy
      · simp at h
theorem tmof_cellB {l : List S41} (h : (tmof l).isSome = true) : l.length ≤ 600 ∧ ∀ x ∈ l, cellB x = true := by
  cases hq : tmof l with
  | none => rw [hq] at h; cases h
  | some t =>
    unfold tmof at hq
    split at hq
    · rename_i hl
      split at hq
      · rename_i h1
        obtain ⟨p, e, c⟩ := mparse_cellB _ _ _ _ h1
        rw [List.append_nil] at e
        exact ⟨hl, by rw [e]; exact c⟩
      · cases hq
    · cases hq

def strB (l : List UInt8) : ByteArray := ⟨l.toArray⟩
/-- The text of a term's cells. -/
def termT (l : List S41) : List UInt8 := Lib.join (l.map cellT) [32]
/-- What TermText answers. -/
def textOf (l : List S41) : List UInt8 × Bool := if (tmof l).isSome = true then (if (termT l).length ≤ 2000 then (termT l, true) else ([], false)) else ([], false)

theorem info9s : (Tryd.prog.info? 9).map (fun i => (i.zero, i.size, i.bytes)) = some (some (.string ⟨#[]⟩), 1, 16) := by kernel_rfl
theorem cellT_len (x : S41) (h : cellB x = true) : (cellT x).length ≤ 22 := by
  rcases cell_kinds h with ⟨h1, h2, h3⟩ | ⟨h1, h2, h3⟩ | h1 | h1 | h1 | h1 | h1
  · have := Lib.itoa_length_le x.f1 (by omega) (by omega)
    simp [cellT, h1]; omega
  · have := Lib.itoa_length_le x.f1 (by omega) (by omega)
    simp [cellT, h1]; omega
  all_goals simp [cellT, h1]
theorem join_len (m : Nat) : ∀ (ls : List (List UInt8)), (∀ x ∈ ls, x.length ≤ m) → (Lib.join ls [32]).length ≤ (m + 1) * ls.length := by
  have ht : ∀ (r : List (List UInt8)), (∀ x ∈ r, x.length ≤ m) → (Lib.joinTail [32] r).length ≤ (m + 1) * r.length := by
    intro r
    induction r with
    | nil => intro _; simp [Lib.joinTail]
    | cons x r ih =>
      intro h
      have h1 := h x (by simp)
      have h2 := ih (fun y hy => h y (by simp [hy]))
      have e : Lib.joinTail [32] (x :: r) = ([32] ++ x) ++ Lib.joinTail [32] r := by simp [Lib.joinTail]
      rw [e, List.length_append, List.length_append, show (x :: r).length = r.length + 1 from rfl, Nat.mul_succ, show ([32] : List UInt8).length = 1 from rfl]
      omega
  intro ls h
  cases ls with
  | nil => simp [Lib.join_nil]
  | cons x r =>
    have h1 := h x (by simp)
    have h2 := ht r (fun y hy => h y (by simp [hy]))
    rw [Lib.join_cons, List.length_append, show (x :: r).length = r.length + 1 from rfl, Nat.mul_succ]
    omega
/-- Where the loop stands. -/
def TxSt (l : List S41) (b : Nat) (w wr : World) (j : Nat) : Prop := Below w.heap.size w wr ∧ ∃ arr : Array Value, wr.heap[b]? = some (.cells arr 9 (0, 0)) ∧ arr.size = l.length ∧ ∀ (i : Nat) x, i < j → l[i]? = some x → arr[i]? = some (.string (strB (cellT x)))

set_option maxRecDepth 100000 in
set_option maxHeartbeats 2000000 in
theorem TermText_calls (B : Nat) (l : List S41) (A : Option Addr) (c : Nat) (w : World) (hr : Kd.C k41 w A l.length l) (hc : l.length ≤ c) (hB : B ≤ w.heap.size) (ht : TabB B w) :
    Calls Tryd.prog 12 #[.slice A l.length c] w fun e w' => e = .returned (.tuple #[.string (strB (textOf l).1), .bool (textOf l).2]) ∧ Below w.heap.size w w' := by
  have HR := Lib.hid hr
  have G := Lib.hid (GoodTerm_calls l A c w hr hc)
  have HT := Lib.hid (fun (W : World) (hb : Below w.heap.size w W) => ht.below hB hb)
  clear hr ht
  unfold textOf
  by_cases hg : (tmof l).isSome = true
  · rw [if_pos hg]
    rw [hg] at G
    obtain ⟨hl6, hcb⟩ := tmof_cellB hg
    have hl0 : 0 < l.length := by
      rcases Nat.eq_zero_or_pos l.length with h | h
      · obtain rfl := List.length_eq_zero_iff.1 h
        simp [tmof, mparse] at hg
      · exact h
    have HCB := Lib.hid hcb
    clear hg hcb
    have hmk : ∀ W, (Instr.makeSlice 38 (.int .i64 (l.length : Int)) (.int .i64 (l.length : Int))).run Tryd.prog W = .ok (.slice (some ⟨W.heap.size, 0, none⟩) l.length l.length) (W.alloc (.cells (madeCells #[.string ⟨#[]⟩] l.length) 9)) := run_make_row' 38 9 (.string ⟨#[]⟩) 16 Tryd.underlying38 info9s rfl .i64 .i64 l.length (by omega) (by omega)
    have hjl : (termT l).length ≤ 23 * 600 := by
      have h1 := join_len 22 (l.map cellT) (fun x hx => by obtain ⟨y, hy, rfl⟩ := List.mem_map.1 hx; exact cellT_len y (HCB.out y hy))
      rw [List.length_map] at h1
      unfold termT
      have : 23 * l.length ≤ 23 * 600 := Nat.mul_le_mul_left _ hl6
      omega
    have hsz2 : (strB (termT l)).size = (termT l).length := by simp [strB, ByteArray.size]
    by_cases h2 : (termT l).length ≤ 2000
    · rw [if_pos h2]
      have d2 : decide ((2000 : Int) < ((strB (termT l)).size : Int)) = false := by rw [hsz2]; exact decide_eq_false (by omega)
      clear hsz2
      go_enter Tryd.func12, Tryd.ntmps12
      go_wp2_with fail
      refine G.out.mono ?_
      rintro e w1 ⟨rfl, hb1⟩
      have HB1 := Lib.hid hb1
      clear hb1
      go_wp2
      obtain ⟨b, hbb⟩ : ∃ b, b = w1.heap.size := ⟨_, rfl⟩
      rw [← hbb]
      have HST := Lib.hid (show TxSt l b w (w1.alloc (.cells (madeCells #[.string ⟨#[]⟩] l.length) 9)) 0 from ⟨below_step HB1.out (below_alloc (Below.refl _ _) _), _, by rw [hbb]; exact blk_new _ _, size_madeCells _ _, fun i x hi => absurd hi (Nat.not_lt_zero _)⟩)
      have hwb : w.heap.size ≤ b := by rw [hbb]; exact HB1.out.size
      clear hbb hmk
      go_loopw [5, 6, 16] (fun v5 v6 v16 wr => ∃ j : Nat, j ≤ l.length ∧ v16 = .int .i64 j ∧ TxSt l b w wr j) (fun _ _ v16 _ => l.length - (intOf v16).toNat)
      case atStart => exact ⟨0, Nat.zero_le _, rfl, HST.out⟩
      case round =>
        obtain ⟨j, hj, rfl, hB', arr, hblk, hsz, harr⟩ := hrel
        clear HST
        by_cases hlt : j < l.length
        · have hx : l[j]? = some l[j] := by simp [hlt]
          obtain ⟨x, hxe⟩ : ∃ x, x = l[j] := ⟨_, rfl⟩
          rw [← hxe] at hx
          obtain ⟨ad, rfl, f0, f1⟩ := at_T41 (Kd.C_below HR.out hB') (j : Int) (by omega) (by omega)
          rw [show rd_T41 l (j : Int) = x by simp [rd_T41, List.getD_eq_getElem?_getD, hx], Int.toNat_natCast] at f0 f1
          have C := Lib.hid (fun (W : World) (hb : Below wr.heap.size wr W) => cellText_calls B x (HCB.out x (List.mem_of_getElem? hx)) W (Nat.le_trans hB (below_step hB' hb).size) (HT.out W (below_step hB' hb)))
          have HX := Lib.hid hx
          have HB' := Lib.hid hB'
          have HBLK := Lib.hid hblk
          have HSZ := Lib.hid hsz
          have HARR := Lib.hid harr
          obtain ⟨old, hold⟩ : ∃ old, arr[j]? = some old := ⟨arr[j]'(by omega), by simp⟩
          have HOLD := Lib.hid hold
          have hblt := blk_lt hblk
          clear hx hxe hB' hblk hsz harr hold
          go_wp2_with fail
          refine (C.out _ (below_alloc (Below.refl _ _) _)).mono ?_
          rintro e w2 ⟨rfl, hb2⟩
          have HB2 := Lib.hid (show Below wr.heap.size wr w2 from below_step (below_alloc (Below.refl _ _) _) hb2)
          have k2 : w2.cell? ⟨b, j, none⟩ = some old := (blk_cell (blk_below HBLK.out HB2.out) j).trans HOLD.out
          have f2 : w2.frozen? ⟨b, j, none⟩ = false := blk_frozen (blk_below HBLK.out HB2.out) j
          clear hb2
          go_wp2
          go_roundw
          case rel => exact ⟨j + 1, by omega, by go_num, below_set (below_step HB'.out HB2.out) hwb, _, blk_set (blk_below HBLK.out HB2.out) j _, by simpa using HSZ.out, fun i y hi hy => by
            rcases Nat.lt_or_ge i j with h | h
            · rw [Array.getElem?_setIfInBounds_ne (by omega)]; exact HARR.out i y h hy
            · obtain rfl : i = j := by omega
              rw [HX.out] at hy
              obtain rfl := Option.some.inj hy
              rw [Array.getElem?_setIfInBounds_self_of_lt (by rw [HSZ.out]; omega)]; rfl⟩
          case measure => simp [intOf]; omega
        · obtain rfl : j = l.length := by omega
          have J := strings_Join b 0 l.length (l.map fun x => strB (cellT x)) ⟨#[32]⟩ wr (fun i y hy => by
            rw [List.getElem?_map] at hy
            obtain ⟨x, hx, rfl⟩ := Option.map_eq_some_iff.1 hy
            have hi : i < l.length := by
              rcases Nat.lt_or_ge i l.length with h | h
              · exact h
              · rw [List.getElem?_eq_none h] at hx; cases hx
            rw [Nat.zero_add]
            exact (blk_cell hblk i).trans (harr i x hi hx)) (blk_lt hblk) (by simp; omega) (by simp) (by
            have : (l.map fun x => strB (cellT x)).map (·.data.toList) = l.map cellT := by rw [List.map_map]; apply List.map_congr_left; intro x _; simp [strB]
            rw [this]
            show (termT l).length ≤ _
            omega)
          have ej : (l.map fun x => strB (cellT x)).map (·.data.toList) = l.map cellT := by rw [List.map_map]; apply List.map_congr_left; intro x _; simp [strB]
          rw [ej, List.length_map] at J
          have J := Lib.hid (show Calls Tryd.prog 27 #[.slice (some ⟨b, 0, none⟩) l.length l.length, .string ⟨#[32]⟩] wr fun e w' => e = .returned (.string (strB (termT l))) ∧ Below wr.heap.size wr w' from J)
          have HB' := Lib.hid hB'
          clear hblk hsz harr hB' ej
          go_wp2_with fail
          refine J.out.mono ?_
          rintro e w2 ⟨rfl, hb2⟩
          have HB2 := Lib.hid (below_step HB'.out hb2)
          clear hb2
          go_wp2
          go_ret2
          exact ⟨rfl, HB2.out⟩
    · rw [if_neg h2]
      have d2 : decide ((2000 : Int) < ((strB (termT l)).size : Int)) = true := by rw [hsz2]; exact decide_eq_true (by omega)
      clear hsz2
      go_enter Tryd.func12, Tryd.ntmps12
      go_wp2_with fail
      refine G.out.mono ?_
      rintro e w1 ⟨rfl, hb1⟩
      have HB1 := Lib.hid hb1
      clear hb1
      go_wp2
      obtain ⟨b, hbb⟩ : ∃ b, b = w1.heap.size := ⟨_, rfl⟩
      rw [← hbb]
      have HST := Lib.hid (show TxSt l b w (w1.alloc (.cells (madeCells #[.string ⟨#[]⟩] l.length) 9)) 0 from ⟨below_step HB1.out (below_alloc (Below.refl _ _) _), _, by rw [hbb]; exact blk_new _ _, size_madeCells _ _, fun i x hi => absurd hi (Nat.not_lt_zero _)⟩)
      have hwb : w.heap.size ≤ b := by rw [hbb]; exact HB1.out.size
      clear hbb hmk
      go_loopw [5, 6, 16] (fun v5 v6 v16 wr => ∃ j : Nat, j ≤ l.length ∧ v16 = .int .i64 j ∧ TxSt l b w wr j) (fun _ _ v16 _ => l.length - (intOf v16).toNat)
      case atStart => exact ⟨0, Nat.zero_le _, rfl, HST.out⟩
      case round =>
        obtain ⟨j, hj, rfl, hB', arr, hblk, hsz, harr⟩ := hrel
        clear HST
        by_cases hlt : j < l.length
        · have hx : l[j]? = some l[j] := by simp [hlt]
          obtain ⟨x, hxe⟩ : ∃ x, x = l[j] := ⟨_, rfl⟩
          rw [← hxe] at hx
          obtain ⟨ad, rfl, f0, f1⟩ := at_T41 (Kd.C_below HR.out hB') (j : Int) (by omega) (by omega)
          rw [show rd_T41 l (j : Int) = x by simp [rd_T41, List.getD_eq_getElem?_getD, hx], Int.toNat_natCast] at f0 f1
          have C := Lib.hid (fun (W : World) (hb : Below wr.heap.size wr W) => cellText_calls B x (HCB.out x (List.mem_of_getElem? hx)) W (Nat.le_trans hB (below_step hB' hb).size) (HT.out W (below_step hB' hb)))
          have HX := Lib.hid hx
          have HB' := Lib.hid hB'
          have HBLK := Lib.hid hblk
          have HSZ := Lib.hid hsz
          have HARR := Lib.hid harr
          obtain ⟨old, hold⟩ : ∃ old, arr[j]? = some old := ⟨arr[j]'(by omega), by simp⟩
          have HOLD := Lib.hid hold
          have hblt := blk_lt hblk
          clear hx hxe hB' hblk hsz harr hold
          go_wp2_with fail
          refine (C.out _ (below_alloc (Below.refl _ _) _)).mono ?_
          rintro e w2 ⟨rfl, hb2⟩
          have HB2 := Lib.hid (show Below wr.heap.size wr w2 from below_step (below_alloc (Below.refl _ _) _) hb2)
          have k2 : w2.cell? ⟨b, j, none⟩ = some old := (blk_cell (blk_below HBLK.out HB2.out) j).trans HOLD.out
          have f2 : w2.frozen? ⟨b, j, none⟩ = false := blk_frozen (blk_below HBLK.out HB2.out) j
          clear hb2
          go_wp2
          go_roundw
          case rel => exact ⟨j + 1, by omega, by go_num, below_set (below_step HB'.out HB2.out) hwb, _, blk_set (blk_below HBLK.out HB2.out) j _, by simpa using HSZ.out, fun i y hi hy => by
            rcases Nat.lt_or_ge i j with h | h
            · rw [Array.getElem?_setIfInBounds_ne (by omega)]; exact HARR.out i y h hy
            · obtain rfl : i = j := by omega
              rw [HX.out] at hy
              obtain rfl := Option.some.inj hy
              rw [Array.getElem?_setIfInBounds_self_of_lt (by rw [HSZ.out]; omega)]; rfl⟩
          case measure => simp [intOf]; omega
        · obtain rfl : j = l.length := by omega
          have J := strings_Join b 0 l.length (l.map fun x => strB (cellT x)) ⟨#[32]⟩ wr (fun i y hy => by
            rw [List.getElem?_map] at hy
            obtain ⟨x, hx, rfl⟩ := Option.map_eq_some_iff.1 hy
            have hi : i < l.length := by
              rcases Nat.lt_or_ge i l.length with h | h
              · exact h
              · rw [List.getElem?_eq_none h] at hx; cases hx
            rw [Nat.zero_add]
            exact (blk_cell hblk i).trans (harr i x hi hx)) (blk_lt hblk) (by simp; omega) (by simp) (by
            have : (l.map fun x => strB (cellT x)).map (·.data.toList) = l.map cellT := by rw [List.map_map]; apply List.map_congr_left; intro x _; simp [strB]
            rw [this]
            show (termT l).length ≤ _
            omega)
          have ej : (l.map fun x => strB (cellT x)).map (·.data.toList) = l.map cellT := by rw [List.map_map]; apply List.map_congr_left; intro x _; simp [strB]
          rw [ej, List.length_map] at J
          have J := Lib.hid (show Calls Tryd.prog 27 #[.slice (some ⟨b, 0, none⟩) l.length l.length, .string ⟨#[32]⟩] wr fun e w' => e = .returned (.string (strB (termT l))) ∧ Below wr.heap.size wr w' from J)
          have HB' := Lib.hid hB'
          clear hblk hsz harr hB' ej
          go_wp2_with fail
          refine J.out.mono ?_
          rintro e w2 ⟨rfl, hb2⟩
          have HB2 := Lib.hid (below_step HB'.out hb2)
          clear hb2
          go_wp2
          go_ret2
          exact ⟨rfl, HB2.out⟩
  · have hg' : (tmof l).isSome = false := by simpa using hg
    rw [if_neg hg]
    rw [hg'] at G
    clear hg hg'
    go_enter Tryd.func12, Tryd.ntmps12
    go_wp2_with fail
    refine G.out.mono ?_
    rintro e w1 ⟨rfl, hb1⟩
    go_wp2
    go_ret2
    exact ⟨rfl, hb1⟩
end Go.Proofs.YtgoiifpimpnlpaaDoor.PAll
