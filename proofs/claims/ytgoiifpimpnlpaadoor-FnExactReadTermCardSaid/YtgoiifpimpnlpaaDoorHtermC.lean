/- termFrom makes the tree that mparse tells; termOf; GoodTerm. -/
import Derived.Test.YtgoiifpimpnlpaaDoorHtermB
import Derived.Deep.OwnRows
import Derived.Deep.RegionWith
import Derived.Outline
namespace Go.Proofs.YtgoiifpimpnlpaaDoor.PAll
open Go.RowKit Go.Proofs.YtgoiifpimpnlpaaDoorW.PrintWords Go.Proofs.YtgoiifpimpnlpaaDoorW.PrintLast Go.Proofs.YtgoiifpimpnlpaaDoorW.PrintMore
set_option linter.unusedVariables false
set_option linter.unusedSimpArgs false

theorem info41' : (Tryd.prog.info? 41).map (fun i => (i.zero, i.size, i.bytes)) = some (some (.agg #[(.int .i64 0), (.int .i64 0)]), 2, 16) := by kernel_rfl
theorem info74 : (Tryd.prog.info? 74).map (fun i => (i.zero, i.size, i.bytes)) = some (some (.pointer none), 1, 8) := by kernel_rfl

def mkids (f : List S41 → Option (Tm × List S41)) : Nat → List S41 → Option (List Tm × List S41)
  | 0, r => some ([], r)
  | m + 1, r => match f r with
    | none => none
    | some (t, r1) => match mkids f m r1 with
      | none => none
      | some (ts, r2) => some (t :: ts, r2)

def mparse : Nat → List S41 → Option (Tm × List S41)
  | 0, _ => none
  | _ + 1, [] => none
  | k + 1, x :: r => if cellB x = true then match mkids (mparse k) (arI x.f0).toNat r with
      | none => none
      | some (ts, r') => some (.mk x.f0 x.f1 ts, r')
    else none

theorem mkids_len {f : List S41 → Option (Tm × List S41)} (hf : ∀ l t r, f l = some (t, r) → r.length < l.length) : ∀ m l ts r, mkids f m l = some (ts, r) → r.length ≤ l.length ∧ ts.length = m := by
  intro m
  induction m with
  | zero => intro l ts r h; simp [mkids] at h; obtain ⟨rfl, rfl⟩ := h; simp
  | succ m ih =>
    intro l ts r h
    simp only [mkids] at h
    cases h1 : f l with
    | none => rw [h1] at h; simp at h
    | some p =>
      obtain ⟨t, r1⟩ := p
      rw [h1] at h
      simp only at h
      cases h2 : mkids f m r1 with
      | none => rw [h2] at h; simp at h
      | some q =>
        obtain ⟨ts', r2⟩ := q
        rw [h2] at h
        simp at h
        obtain ⟨rfl, rfl⟩ := h
        have := hf _ _ _ h1
        have := ih _ _ _ h2
        simp; omega

theorem mparse_len : ∀ (k : Nat) (l : List S41) (t : Tm) (r : List S41), mparse k l = some (t, r) → r.length < l.length := by
  intro k
  induction k with
  | zero => intro l t r h; simp [mparse] at h
  | succ k ih =>
    intro l t r h
    cases l with
    | nil => simp [mparse] at h
    | cons x l =>
      simp only [mparse] at h
      split at h
      · cases h1 : mkids (mparse k) (arI x.f0).toNat l with
        | none => rw [h1] at h; simp at h
        | some p =>
          obtain ⟨ts, r1⟩ := p
          rw [h1] at h
          simp at h
          obtain ⟨_, rfl⟩ := h
          have := mkids_len ih _ _ _ _ h1
          simp; omega
      · simp at h

/-- What termFrom answers: a tree of new blocks; the rest is read where the argument was. -/
def TFrom (r : Option (Tm × List S41)) (w0 w : World) (e : Ending) (w' : World) : Prop :=
  Below w.heap.size w w' ∧ match r with
  | none => e = .returned (.tuple #[.pointer none, .slice none 0 0])
  | some (t, rest) => ∃ g A c, e = .returned (.tuple #[ptr g, .slice A rest.length c]) ∧ TAt (fun k => w.heap.size ≤ k) w' g t ∧ Kd.C k41 w0 A rest.length rest ∧ rest.length ≤ c

/-- Where the loop over the parts stands: j of them are made, in the row at block b. -/
def Mid (k a : Nat) (r0 : List S41) (b : Nat) (w0 w wr : World) (j : Nat) (v5 : Value) : Prop :=
  ∃ (ts : List Tm) (gs : List Nat) (arr : Array Value) (rj : List S41) (A5 : Option Addr) (c5 : Nat),
    ts.length = j ∧ v5 = .slice A5 rj.length c5 ∧ Kd.C k41 w0 A5 rj.length rj ∧ rj.length ≤ c5 ∧ rj.length ≤ r0.length ∧
    wr.heap[b]? = some (.cells arr 74 (0, 0)) ∧ arr.size = a ∧ (∀ i p : Nat, gs[i]? = some p → arr[i]? = some (ptr p)) ∧ LAt (fun q => b < q) wr gs ts ∧ Below w.heap.size w wr ∧
    mkids (mparse k) a r0 = match mkids (mparse k) (a - j) rj with
      | none => none
      | some (ts', r') => some (ts ++ ts', r')

theorem Mid_step {k a : Nat} {r0 : List S41} {b : Nat} {w0 w wr w2 : World} {j : Nat} {ts : List Tm} {gs : List Nat} {arr : Array Value} {rj r1 : List S41} {t : Tm} {g : Nat} {A6 : Option Addr} {c6 : Nat}
    (hts : ts.length = j) (hlt : j < a) (hrl : rj.length ≤ r0.length) (hblk : wr.heap[b]? = some (.cells arr 74 (0, 0))) (hsz : arr.size = a) (harr : ∀ i p : Nat, gs[i]? = some p → arr[i]? = some (ptr p)) (hL : LAt (fun q => b < q) wr gs ts) (hBw : Below w.heap.size w wr) (hwb : w.heap.size ≤ b)
    (hpar : mkids (mparse k) a r0 = match mkids (mparse k) (a - j) rj with
      | none => none
      | some (ts', r') => some (ts ++ ts', r')) (hq : mparse k rj = some (t, r1)) (hb2 : Below wr.heap.size wr w2) (hT : TAt (fun q => wr.heap.size ≤ q) w2 g t) (hC6 : Kd.C k41 w0 A6 r1.length r1) (hc6 : r1.length ≤ c6) :
    Mid k a r0 b w0 w (w2.setCell ⟨b, j, none⟩ (ptr g)) (j + 1) (.slice A6 r1.length c6) := by
  have hblt := blk_lt hblk
  have hgl := hL.length
  have hl1 := mparse_len _ _ _ _ hq
  have hset : ∀ q, b < q → (w2.setCell ⟨b, j, none⟩ (ptr g)).heap[q]? = w2.heap[q]? := fun q h => Below.heap_setCell w2 ⟨b, j, none⟩ _ q (by simp; omega)
  refine ⟨ts ++ [t], gs ++ [g], arr.setIfInBounds j (ptr g), r1, A6, c6, by simp [hts], rfl, hC6, hc6, by omega, blk_set ((hb2.block b hblt).trans hblk) j _, by simpa using hsz, ?_, ?_, below_set (below_then hBw hBw.size hb2) hwb, ?_⟩
  · intro i p hp
    by_cases hi : i < gs.length
    · rw [List.getElem?_append_left hi] at hp
      rw [Array.getElem?_setIfInBounds_ne (by omega)]
      exact harr i p hp
    · rw [List.getElem?_append_right (by omega)] at hp
      have e : i - gs.length = 0 := by
        rcases Nat.eq_zero_or_pos (i - gs.length) with h | h
        · exact h
        · rw [List.getElem?_eq_none (by simp; omega)] at hp; cases hp
      rw [e] at hp
      simp at hp
      subst hp
      obtain rfl : i = j := by omega
      rw [Array.getElem?_setIfInBounds_self_of_lt (by omega)]
  · refine LAt.snoc (LAt.step (fun q h _ => hset q h) (fun _ h _ => h) (hL.below hb2)) (TAt.step (fun q h _ => hset q (by omega)) (fun q h _ => ?_) hT)
    show b < q
    omega
  · rw [hpar, show a - j = (a - (j + 1)) + 1 by omega]
    simp only [mkids]
    rw [hq]
    simp only
    cases mkids (mparse k) (a - (j + 1)) r1 with
    | none => rfl
    | some p => simp

set_option maxRecDepth 100000 in
set_option maxHeartbeats 2000000 in
theorem termFrom_calls (k : Nat) : ∀ (l : List S41) (A : Option Addr) (c : Nat) (w0 w : World), l.length < k → Below w0.heap.size w0 w → Kd.C k41 w0 A l.length l → l.length ≤ c →
    Calls Tryd.prog 58 #[.slice A l.length c] w (TFrom (mparse k l) w0 w) := by
  induction k with
  | zero => intro l A c w0 w h; omega
  | succ k ih =>
    intro l A c w0 w hk hW hr hc
    cases l with
    | nil =>
      go_enter Tryd.func58, Tryd.ntmps58
      go_wp2
      go_ret2
      exact ⟨Below.refl _ _, rfl⟩
    | cons x l =>
      simp only [List.length_cons] at hk hc hr ⊢
      obtain ⟨ad, rfl, hc0, hc1⟩ := at_T41 (Kd.C_below hr hW) 0 (by omega) (by omega)
      have e0 : ad.add (Int.toNat 0 * 2) = ad := by simp [Addr.add]
      rw [e0, show rd_T41 (x :: l) 0 = x from rfl] at hc0 hc1
      clear e0
      obtain ⟨A1, hd, hcut⟩ : ∃ A1, Kd.C k41 w0 A1 l.length l ∧ ∀ W : World, (Instr.slice 22 (.slice (some ad) (l.length + 1) c) (some (.int .i64 1)) none none).run Tryd.prog W = .ok (.slice A1 l.length (c - 1)) W := by
        obtain ⟨i0, hi0, _, hsz, _⟩ := info_parts info41'
        refine ⟨_, Kd.C_drop (k := k41) (m := 1) hr (by simp) hc, fun W => ?_⟩
        rw [cut_from (P := Tryd.prog) 22 41 .i64 Tryd.underlying22 hi0 2 hsz (some ad) (l.length + 1) c 1 (by omega) (by omega)]
        rfl
      have HD := Lib.hid hd
      have HR := Lib.hid hr
      have IH := Lib.hid ih
      clear hd hr ih
      cases hb : cellB x with
      | false =>
        have e : mparse (k + 1) (x :: l) = none := by simp only [mparse]; rw [if_neg (by simp [hb])]
        rw [e]
        have HB := Lib.hid hb
        clear e hb
        go_enter Tryd.func58, Tryd.ntmps58
        go_wp2_with (go_at_call 77; refine (cellOk_calls x _).mono ?_; rw [HB.out]; rintro e w' ⟨rfl, hb1⟩)
        go_ret2
        exact ⟨hb1, rfl⟩
      | true =>
        have ha : 0 ≤ arI x.f0 := by
          unfold cellB at hb
          split at hb
          · simp [arI, *]
          · split at hb
            · simp [arI, *]
            · simp at hb; omega
        obtain ⟨a, haa⟩ : ∃ a : Nat, arI x.f0 = (a : Int) := ⟨(arI x.f0).toNat, by omega⟩
        have ha3 : a ≤ 3 := by have := arI_bd x.f0; omega
        have hp : mparse (k + 1) (x :: l) = match mkids (mparse k) a l with
            | none => none
            | some (ts, r') => some (.mk x.f0 x.f1 ts, r') := by simp only [mparse]; rw [if_pos hb, haa]; rfl
        have hmk : ∀ W, (Instr.makeSlice 107 (.int .i64 (a : Int)) (.int .i64 (a : Int))).run Tryd.prog W = .ok (.slice (some ⟨W.heap.size, 0, none⟩) a a) (W.alloc (.cells (madeCells #[.pointer none] a) 74)) := run_make_row' 107 74 (.pointer none) 8 Tryd.underlying107 info74 rfl .i64 .i64 a (by omega) (by omega)
        have HB := Lib.hid hb
        have HA := Lib.hid haa
        have HP := Lib.hid hp
        clear hb haa hp ha
        go_enter Tryd.func58, Tryd.ntmps58
        go_wp2_with (go_at_call 77; refine (cellOk_calls x _).mono ?_; rw [HB.out]; rintro e w1 ⟨rfl, hb1⟩)
        have hc01 : w1.cell? ad = some (.int .i64 x.f0) := (hb1.cell (World.block_lt_of_cell? w _ hc0)).trans hc0
        have hc11 : w1.cell? ⟨ad.block, ad.off + 1, none⟩ = some (.int .i64 x.f1) := (hb1.cell (World.block_lt_of_cell? w _ hc1)).trans hc1
        have hd01 : ∀ o, (w1.alloc o).cell? ad = some (.int .i64 x.f0) := fun o => (World.cell?_alloc_lt _ _ _ (World.block_lt_of_cell? w1 _ hc01)).trans hc01
        go_region_with (go_at_call 78; refine (kidsOf_calls _ _).mono ?_; rw [HA.out]; rintro e w' ⟨rfl, rfl⟩)
        go_wp2
        obtain ⟨b, hbb⟩ : ∃ b, b = w1.heap.size := ⟨_, rfl⟩
        rw [← hbb]
        have hwb : w.heap.size ≤ b := by rw [hbb]; exact hb1.size
        have hB0 : Below w.heap.size w (w1.alloc (.cells (madeCells #[.pointer none] a) 74)).drew := below_drew (below_alloc hb1 _)
        have hM : Mid k a l b w0 w (w1.alloc (.cells (madeCells #[.pointer none] a) 74)).drew 0 (.slice A1 l.length (c - 1)) := by
          refine ⟨[], [], madeCells #[.pointer none] a, l, A1, c - 1, rfl, rfl, HD.out, by omega, Nat.le_refl _, by rw [hbb]; exact blk_drew (blk_new w1 _), size_madeCells _ _, by simp, by simp [LAt], hB0, ?_⟩
          rw [Nat.sub_zero]
          cases mkids (mparse k) a l with
          | none => rfl
          | some p => rfl
        have HM := Lib.hid hM
        clear hM hB0 hd01
        have HBB := Lib.hid hbb
        clear hbb
        go_loopw [5, 6, 27] (fun v5 v6 v27 wr => ∃ j : Nat, j ≤ a ∧ v27 = .int .i64 j ∧ Mid k a l b w0 w wr j v5) (fun _ _ v27 _ => a - (intOf v27).toNat)
        case atStart => exact ⟨0, Nat.zero_le _, rfl, HM.out⟩
        case round =>
          obtain ⟨j, hj, rfl, ts, gs, arr, rj, A5, c5, hts, rfl, hC, hc5, hrl, hblk, hsz, harr, hL, hBw, hpar⟩ := hrel
          have hblt := blk_lt hblk
          by_cases hlt : j < a
          · have HC := Lib.hid hC
            have HL := Lib.hid hL
            have HPAR := Lib.hid hpar
            have HARR := Lib.hid harr
            have HBLK := Lib.hid hblk
            have HTS := Lib.hid hts
            have HSZ := Lib.hid hsz
            clear hC hL hpar harr hblk hts hsz HM
            obtain ⟨old, hold⟩ : ∃ old, arr[j]? = some old := ⟨arr[j]'(by have := HSZ.out; omega), by have := HSZ.out; simp⟩
            have HOLD := Lib.hid hold
            clear hold
            cases hq : mparse k rj with
            | none =>
              have HQ := Lib.hid hq
              clear hq
              go_wp2_with fail
              refine (IH.out rj A5 c5 w0 _ (by omega) (below_step hW hBw) HC.out hc5).mono ?_
              rw [HQ.out]
              rintro e w2 ⟨hb2, rfl⟩
              have hk2 : w2.cell? ⟨b, j, none⟩ = some old := (blk_cell ((hb2.block b hblt).trans HBLK.out) j).trans HOLD.out
              have hf2 : w2.frozen? ⟨b, j, none⟩ = false := blk_frozen ((hb2.block b hblt).trans HBLK.out) j
              go_wp2
              go_ret2
              have hbw2 : Below w.heap.size w w2 := below_then hBw hBw.size hb2
              refine ⟨below_set hbw2 hwb, ?_⟩
              rw [HP.out, HPAR.out, show a - j = (a - j - 1) + 1 by omega]
              simp only [mkids]
              rw [HQ.out]
              rfl
            | some q =>
              obtain ⟨t, r1⟩ := q
              have hl1 := mparse_len _ _ _ _ hq
              have HQ := Lib.hid hq
              clear hq
              go_wp2_with fail
              refine (IH.out rj A5 c5 w0 _ (by omega) (below_step hW hBw) HC.out hc5).mono ?_
              rw [HQ.out]
              rintro e w2 ⟨hb2, g, A6, c6, rfl, hT, hC6, hc6⟩
              have hk2 : w2.cell? ⟨b, j, none⟩ = some old := (blk_cell ((hb2.block b hblt).trans HBLK.out) j).trans HOLD.out
              have hf2 : w2.frozen? ⟨b, j, none⟩ = false := blk_frozen ((hb2.block b hblt).trans HBLK.out) j
              unfold ptr
              have HT := Lib.hid hT
              have HC6 := Lib.hid hC6
              clear hT hC6
              go_wp2
              go_roundw
              case rel => exact ⟨j + 1, by omega, by go_num, Mid_step HTS.out hlt hrl HBLK.out HSZ.out HARR.out HL.out hBw hwb HPAR.out HQ.out hb2 HT.out HC6.out hc6⟩
              case measure => simp [intOf]; omega
          · obtain rfl : j = a := by omega
            subst hts
            rw [Nat.sub_self] at hpar
            simp only [mkids, List.append_nil] at hpar
            have hrow : PtrRow (fun q => w.heap.size ≤ q) wr (some ⟨b, 0, none⟩) gs := fun i p hp => ⟨⟨b, 0, none⟩, rfl, hwb, by rw [add_plain]; exact (blk_cell hblk i).trans (harr i p hp)⟩
            have hL2 : LAt (fun q => w.heap.size ≤ q) wr gs ts := LAt.step (fun _ _ _ => rfl) (fun q h _ => Nat.le_trans hwb (Nat.le_of_lt h)) hL
            have hcr0 : wr.cell? ad = some (.int .i64 x.f0) := (hBw.cell (World.block_lt_of_cell? w _ hc0)).trans hc0
            have hcr1 : wr.cell? ⟨ad.block, ad.off + 1, none⟩ = some (.int .i64 x.f1) := (hBw.cell (World.block_lt_of_cell? w _ hc1)).trans hc1
            have HC := Lib.hid hC
            have HL := Lib.hid hL2
            have HROW := Lib.hid hrow
            have HPAR := Lib.hid hpar
            clear hC hL hL2 hrow hpar harr hblk hsz HM hmk
            go_wp2
            go_region_with (go_at_call 79; refine (newTerm_calls (fun q => w.heap.size ≤ q) x.f0 x.f1 ts (some ⟨b, 0, none⟩) ts.length gs _ (by omega) (Nat.le_refl _) (HROW.out.below (below_drew (Below.refl _ _))) (HL.out.below (below_drew (Below.refl _ _))) (fun q h => Nat.le_trans hBw.size h)).mono ?_; rintro e w3 ⟨g, rfl, hg, hT, hb3⟩)
            all_goals
              (go_wp2)
              (unfold ptr)
              (go_ret2)
              (refine ⟨below_step (below_drew hBw) hb3, ?_⟩)
              (rw [HP.out, HPAR.out])
              (exact ⟨g, A5, c5, rfl, hT, HC.out, hc5⟩)

/-- The tree of a good term. -/
def tmof (l : List S41) : Option Tm := if l.length ≤ 600 then match mparse 601 l with
  | some (t, []) => some t
  | _ => none
  else none

def TOf (r : Option Tm) (w : World) (e : Ending) (w' : World) : Prop :=
  Below w.heap.size w w' ∧ match r with
  | none => e = .returned (.pointer none)
  | some t => ∃ g, e = .returned (ptr g) ∧ TAt (fun k => w.heap.size ≤ k) w' g t

set_option maxRecDepth 100000 in
theorem termOf_calls (l : List S41) (A : Option Addr) (c : Nat) (w : World) (hr : Kd.C k41 w A l.length l) (hc : l.length ≤ c) :
    Calls Tryd.prog 41 #[.slice A l.length c] w (TOf (tmof l) w) := by
  by_cases h60 : l.length ≤ 600
  · cases hq : mparse 601 l with
    | none =>
      have e : tmof l = none := by simp [tmof, h60, hq]
      rw [e]
      have HQ := Lib.hid hq
      clear hq e
      go_enter Tryd.func41, Tryd.ntmps41
      go_wp2_with (go_at_call 58; refine (termFrom_calls 601 l A c w _ (by omega) (Below.refl _ _) hr hc).mono ?_; rw [HQ.out]; rintro e w1 ⟨hb, rfl⟩)
      go_ret
      exact ⟨hb, rfl⟩
    | some p =>
      obtain ⟨t, r⟩ := p
      cases r with
      | nil =>
        have e : tmof l = some t := by simp [tmof, h60, hq]
        rw [e]
        have HQ := Lib.hid hq
        clear hq e
        go_enter Tryd.func41, Tryd.ntmps41
        go_wp2_with (go_at_call 58; refine (termFrom_calls 601 l A c w _ (by omega) (Below.refl _ _) hr hc).mono ?_; rw [HQ.out]; rintro e w1 ⟨hb, g, A1, c1, rfl, ha, hr1, hc1⟩; simp only [List.length_nil]; unfold ptr)
        go_ret
        exact ⟨hb, g, rfl, ha⟩
      | cons x r =>
        have e : tmof l = none := by simp [tmof, h60, hq]
        rw [e]
        have HQ := Lib.hid hq
        clear hq e
        go_enter Tryd.func41, Tryd.ntmps41
        go_wp2_with (go_at_call 58; refine (termFrom_calls 601 l A c w _ (by omega) (Below.refl _ _) hr hc).mono ?_; rw [HQ.out]; rintro e w1 ⟨hb, g, A1, c1, rfl, ha, hr1, hc1⟩; simp only [List.length_cons]; unfold ptr)
        go_ret
        exact ⟨hb, rfl⟩
  · have e : tmof l = none := by simp [tmof, h60]
    rw [e]
    clear e
    have h61 : 600 < l.length := by omega
    clear h60
    go_enter Tryd.func41, Tryd.ntmps41
    go_wp2
    go_ret
    exact ⟨Below.refl _ _, rfl⟩

theorem GoodTerm_calls (l : List S41) (A : Option Addr) (c : Nat) (w : World) (hr : Kd.C k41 w A l.length l) (hc : l.length ≤ c) :
    Calls Tryd.prog 25 #[.slice A l.length c] w fun e w' => e = .returned (.bool (tmof l).isSome) ∧ Below w.heap.size w w' := by
  cases hq : tmof l with
  | none =>
    have HQ := Lib.hid hq
    clear hq
    go_enter Tryd.func25, Tryd.ntmps25
    go_wp2_with (go_at_call 41; refine (termOf_calls l A c _ hr hc).mono ?_; rw [HQ.out]; rintro e w1 ⟨hb, rfl⟩)
    go_ret
    exact ⟨rfl, hb⟩
  | some t =>
    have HQ := Lib.hid hq
    clear hq
    go_enter Tryd.func25, Tryd.ntmps25
    go_wp2_with (go_at_call 41; refine (termOf_calls l A c _ hr hc).mono ?_; rw [HQ.out]; rintro e w1 ⟨hb, g, rfl, ha⟩; unfold ptr)
    go_ret
    exact ⟨rfl, hb⟩
end Go.Proofs.YtgoiifpimpnlpaaDoor.PAll
