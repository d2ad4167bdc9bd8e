-- Made by pack.py of the texts that the law reaches.
import Derived.BigQuiet
import Derived.Deep.OwnRows
import Derived.Deep.RegionHeld3
import Derived.Deep.RegionLaw
import Derived.Deep.RegionWith
import Derived.Lib.Hide
import Derived.Outline
import Derived.Test.YtgoiifpimpnlpaaV1
section
namespace Go.Proofs.Ytgoiifpimpnlpaa.PAll
open Go.RowKit Go.Proofs.YtgoiifpimpnlpaaW.PrintWords Go.Proofs.YtgoiifpimpnlpaaW.PrintLast Go.Proofs.YtgoiifpimpnlpaaW.PrintMore
set_option linter.unusedVariables false
set_option linter.unusedSimpArgs false
theorem within_yes (n lo hi : Int) (w : World) (h0 : lo ≤ n) (h1 : n ≤ hi) : Calls Try.prog 53 #[.int .i64 n, .int .i64 lo, .int .i64 hi] w fun e w' => e = .returned (.bool true) ∧ w = w' := by
  have c0 : decide (lo ≤ n) = true := ao_ h0
  have c1 : decide (n ≤ hi) = true := ao_ h1
  clear h0 h1
  go_enter Try.func53, Try.ntmps53
  go_wp2
  go_ret
  exact ⟨rfl, rfl⟩
theorem within_no (n lo hi : Int) (w : World) (h : ¬ (lo ≤ n ∧ n ≤ hi)) : Calls Try.prog 53 #[.int .i64 n, .int .i64 lo, .int .i64 hi] w fun e w' => e = .returned (.bool false) ∧ w = w' := by
  by_cases h0 : lo ≤ n
  · have c0 : decide (lo ≤ n) = true := ao_ h0
    have c1 : decide (n ≤ hi) = false := decide_eq_false (fun x => h ⟨h0, x⟩)
    clear h0 h
    go_enter Try.func53, Try.ntmps53
    go_wp2
    go_ret
    exact ⟨rfl, rfl⟩
  · have c0 : decide (lo ≤ n) = false := decide_eq_false h0
    clear h0 h
    go_enter Try.func53, Try.ntmps53
    go_wp2
    go_ret
    exact ⟨rfl, rfl⟩
theorem within_calls (n lo hi : Int) (w : World) : Calls Try.prog 53 #[.int .i64 n, .int .i64 lo, .int .i64 hi] w fun e w' => e = .returned (.bool (decide (lo ≤ n ∧ n ≤ hi))) ∧ w = w' := by
  by_cases h : lo ≤ n ∧ n ≤ hi
  · rw [ao_ h]; exact within_yes n lo hi w h.1 h.2
  · rw [decide_eq_false h]; exact within_no n lo hi w h
def arI (k : Int) : Int := if k = 1 then 0 else if k = 2 then 0 else if k = 3 then 1 else if k = 4 then 2 else if k = 5 then 2 else if k = 7 then 2 else if k = 6 then 3 else -1
set_option maxRecDepth 100000 in
theorem kidsOf_calls (k : Int) (w : World) : Calls Try.prog 92 #[.int .i64 k] w fun e w' => e = .returned (.int .i64 (arI k)) ∧ w = w' := by
  by_cases h1 : k = 1
  · subst h1; go_enter Try.func92, Try.ntmps92; go_wp2; go_ret; exact ⟨rfl, rfl⟩
  by_cases h2 : k = 2
  · subst h2; go_enter Try.func92, Try.ntmps92; go_wp2; go_ret; exact ⟨rfl, rfl⟩
  by_cases h3 : k = 3
  · subst h3; go_enter Try.func92, Try.ntmps92; go_wp2; go_ret; exact ⟨rfl, rfl⟩
  by_cases h4 : k = 4
  · subst h4; go_enter Try.func92, Try.ntmps92; go_wp2; go_ret; exact ⟨rfl, rfl⟩
  by_cases h5 : k = 5
  · subst h5; go_enter Try.func92, Try.ntmps92; go_wp2; go_ret; exact ⟨rfl, rfl⟩
  by_cases h7 : k = 7
  · subst h7; go_enter Try.func92, Try.ntmps92; go_wp2; go_ret; exact ⟨rfl, rfl⟩
  by_cases h6 : k = 6
  · subst h6; go_enter Try.func92, Try.ntmps92; go_wp2; go_ret; exact ⟨rfl, rfl⟩
  have e : arI k = -1 := by simp [arI, h1, h2, h3, h4, h5, h6, h7]
  rw [e]
  have b1 : (k == 1) = false := by simp [h1]
  have b2 : (k == 2) = false := by simp [h2]
  have b3 : (k == 3) = false := by simp [h3]
  have b4 : (k == 4) = false := by simp [h4]
  have b5 : (k == 5) = false := by simp [h5]
  have b6 : (k == 6) = false := by simp [h6]
  have b7 : (k == 7) = false := by simp [h7]
  clear h1 h2 h3 h4 h5 h6 h7 e
  go_enter Try.func92, Try.ntmps92
  go_wp2
  go_ret
  exact ⟨rfl, rfl⟩
theorem arI_bd (k : Int) : -1 ≤ arI k ∧ arI k ≤ 3 := by unfold arI; repeat' split
                                                        all_goals omega
def cellB (x : S66) : Bool := if x.f0 = 1 then decide (0 ≤ x.f1 ∧ x.f1 ≤ 99) else if x.f0 = 2 then decide (-1000000 ≤ x.f1 ∧ x.f1 ≤ 1000000) else decide (0 < arI x.f0) && decide (x.f1 = 0)
set_option maxRecDepth 100000 in
theorem cellOk_calls (x : S66) (w : World) : Calls Try.prog 91 #[.agg #[.int .i64 x.f0, .int .i64 x.f1]] w fun e w' => e = .returned (.bool (cellB x)) ∧ Below w.heap.size w w' := by
  by_cases h1 : x.f0 = 1
  · have e : cellB x = decide (0 ≤ x.f1 ∧ x.f1 ≤ 99) := by simp [cellB, h1]
    have E := Lib.hid e
    have b1 : (x.f0 == 1) = true := by simp [h1]
    clear h1 e
    go_enter Try.func91, Try.ntmps91
    go_wp2_with (go_at_call 53; refine (within_calls _ _ _ _).mono ?_; rintro e w' ⟨rfl, rfl⟩)
    go_ret
    exact ⟨by rw [E.out]; first | rfl | simp, ai_ (aq_ _ _) _⟩
  have b1 : (x.f0 == 1) = false := by simp [h1]
  by_cases h2 : x.f0 = 2
  · have e : cellB x = decide (-1000000 ≤ x.f1 ∧ x.f1 ≤ 1000000) := by simp [cellB, h2]
    have E := Lib.hid e
    have b2 : (x.f0 == 2) = true := by simp [h2]
    clear h1 h2 e
    go_enter Try.func91, Try.ntmps91
    go_wp2_with (go_at_call 53; refine (within_calls _ _ _ _).mono ?_; rintro e w' ⟨rfl, rfl⟩)
    go_ret
    exact ⟨by rw [E.out]; first | rfl | simp, ai_ (aq_ _ _) _⟩
  have b2 : (x.f0 == 2) = false := by simp [h2]
  by_cases h3 : 0 < arI x.f0
  · have e : cellB x = (x.f1 == 0) := by simp only [cellB]; rw [if_neg h1, if_neg h2, ao_ h3]; rfl
    have E := Lib.hid e
    clear h1 h2 e
    go_enter Try.func91, Try.ntmps91
    go_wp2_with (go_at_call 92; refine (kidsOf_calls _ _).mono ?_; rintro e w' ⟨rfl, rfl⟩)
    go_ret
    exact ⟨by rw [E.out]; first | rfl | simp, ai_ (aq_ _ _) _⟩
  · have e : cellB x = false := by simp only [cellB]; rw [if_neg h1, if_neg h2, decide_eq_false h3]; rfl
    rw [e]
    clear h1 h2 e
    go_enter Try.func91, Try.ntmps91
    go_wp2_with (go_at_call 92; refine (kidsOf_calls _ _).mono ?_; rintro e w' ⟨rfl, rfl⟩)
    go_ret
    exact ⟨rfl, ai_ (aq_ _ _) _⟩
end Go.Proofs.Ytgoiifpimpnlpaa.PAll

end

section
namespace Go.Proofs.Ytgoiifpimpnlpaa.PAll
open Go.RowKit Go.Proofs.YtgoiifpimpnlpaaW.PrintWords Go.Proofs.YtgoiifpimpnlpaaW.PrintLast Go.Proofs.YtgoiifpimpnlpaaW.PrintMore
set_option linter.unusedVariables false
set_option linter.unusedSimpArgs false
theorem info66' : (Try.prog.info? 66).map (fun i => (i.zero, i.size, i.bytes)) = some (some (.agg #[(.int .i64 0), (.int .i64 0)]), 2, 16) := by kernel_rfl
theorem info69 : (Try.prog.info? 69).map (fun i => (i.zero, i.size, i.bytes)) = some (some (.pointer none), 1, 8) := by kernel_rfl
def mkids (f : List S66 → Option (Tm × List S66)) : Nat → List S66 → Option (List Tm × List S66)
  | 0, r => some ([], r)
  | m + 1, r => match f r with
    | none => none
    | some (t, r1) => match mkids f m r1 with
      | none => none
      | some (ts, r2) => some (t :: ts, r2)
def mparse : Nat → List S66 → Option (Tm × List S66)
  | 0, _ => none
  | _ + 1, [] => none
  | k + 1, x :: r => if cellB x = true then match mkids (mparse k) (arI x.f0).toNat r with
      | none => none
      | some (ts, r') => some (.mk x.f0 x.f1 ts, r')
    else none
theorem mkids_len {f : List S66 → Option (Tm × List S66)} (hf : ∀ l t r, f l = some (t, r) → r.length < l.length) : ∀ m l ts r, mkids f m l = some (ts, r) → r.length ≤ l.length ∧ ts.length = m := by
  intro m
  induction m with
  | zero => intro l ts r h; simp [mkids] at h; obtain ⟨rfl, rfl⟩ := h; simp
  | succ m ih =>
    intro l ts r h
    simp only [mkids] at h
    cases h1 : f l with
    | none => rw [h1] at h; simp at h
    | some p =>
      obtain ⟨t, r1⟩ := p
      rw [h1] at h
      simp only at h
      cases h2 : mkids f m r1 with
      | none => rw [h2] at h; simp at h
      | some q =>
        obtain ⟨ts', r2⟩ := q
        rw [h2] at h
        simp at h
        obtain ⟨rfl, rfl⟩ := h
        have := hf _ _ _ h1
        have := ih _ _ _ h2
        simp; omega
theorem mparse_len : ∀ (k : Nat) (l : List S66) (t : Tm) (r : List S66), mparse k l = some (t, r) → r.length < l.length := by
  intro k
  induction k with
  | zero => intro l t r h; simp [mparse] at h
  | succ k ih =>
    intro l t r h
    cases l with
    | nil => simp [mparse] at h
    | cons x l =>
      simp only [mparse] at h
      split at h
      · cases h1 : mkids (mparse k) (arI x.f0).toNat l with
        | none => rw [h1] at h; simp at h
        | some p =>
          obtain ⟨ts, r1⟩ := p
          rw [h1] at h
          simp at h
          obtain ⟨_, rfl⟩ := h
          have := mkids_len ih _ _ _ _ h1
          simp; omega
      · simp at h
def TFrom (r : Option (Tm × List S66)) (w0 w : World) (e : Ending) (w' : World) : Prop :=
  Below w.heap.size w w' ∧ match r with
  | none => e = .returned (.tuple #[.pointer none, .slice none 0 0])
  | some (t, rest) => ∃ g A c, e = .returned (.tuple #[ptr g, .slice A rest.length c]) ∧ TAt (fun k => w.heap.size ≤ k) w' g t ∧ Kd.C k66 w0 A rest.length rest ∧ rest.length ≤ c
def Mid (k a : Nat) (r0 : List S66) (b : Nat) (w0 w wr : World) (j : Nat) (v5 : Value) : Prop :=
  ∃ (ts : List Tm) (gs : List Nat) (arr : Array Value) (rj : List S66) (A5 : Option Addr) (c5 : Nat),
    ts.length = j ∧ v5 = .slice A5 rj.length c5 ∧ Kd.C k66 w0 A5 rj.length rj ∧ rj.length ≤ c5 ∧ rj.length ≤ r0.length ∧
    wr.heap[b]? = some (.cells arr 69 (0, 0)) ∧ arr.size = a ∧ (∀ i p : Nat, gs[i]? = some p → arr[i]? = some (ptr p)) ∧ LAt (fun q => b < q) wr gs ts ∧ Below w.heap.size w wr ∧
    mkids (mparse k) a r0 = match mkids (mparse k) (a - j) rj with
      | none => none
      | some (ts', r') => some (ts ++ ts', r')
theorem Mid_step {k a : Nat} {r0 : List S66} {b : Nat} {w0 w wr w2 : World} {j : Nat} {ts : List Tm} {gs : List Nat} {arr : Array Value} {rj r1 : List S66} {t : Tm} {g : Nat} {A6 : Option Addr} {c6 : Nat}
    (hts : ts.length = j) (hlt : j < a) (hrl : rj.length ≤ r0.length) (hblk : wr.heap[b]? = some (.cells arr 69 (0, 0))) (hsz : arr.size = a) (harr : ∀ i p : Nat, gs[i]? = some p → arr[i]? = some (ptr p)) (hL : LAt (fun q => b < q) wr gs ts) (hBw : Below w.heap.size w wr) (hwb : w.heap.size ≤ b)
    (hpar : mkids (mparse k) a r0 = match mkids (mparse k) (a - j) rj with
      | none => none
      | some (ts', r') => some (ts ++ ts', r')) (hq : mparse k rj = some (t, r1)) (hb2 : Below wr.heap.size wr w2) (hT : TAt (fun q => wr.heap.size ≤ q) w2 g t) (hC6 : Kd.C k66 w0 A6 r1.length r1) (hc6 : r1.length ≤ c6) :
    Mid k a r0 b w0 w (w2.setCell ⟨b, j, none⟩ (ptr g)) (j + 1) (.slice A6 r1.length c6) := by
  have hblt := blk_lt hblk
  have hgl := hL.length
  have hl1 := mparse_len _ _ _ _ hq
  have hset : ∀ q, b < q → (w2.setCell ⟨b, j, none⟩ (ptr g)).heap[q]? = w2.heap[q]? := fun q h => Below.heap_setCell w2 ⟨b, j, none⟩ _ q (by simp; omega)
  refine ⟨ts ++ [t], gs ++ [g], arr.setIfInBounds j (ptr g), r1, A6, c6, by simp [hts], rfl, hC6, hc6, by omega, blk_set ((hb2.block b hblt).trans hblk) j _, by simpa using hsz, ?_, ?_, af_ (below_then hBw hBw.size hb2) hwb, ?_⟩
  · intro i p hp
    by_cases hi : i < gs.length
    · rw [List.getElem?_append_left hi] at hp
      rw [Array.getElem?_setIfInBounds_ne (by omega)]
      exact harr i p hp
    · rw [List.getElem?_append_right (by omega)] at hp
      have e : i - gs.length = 0 := by
        rcases Nat.eq_zero_or_pos (i - gs.length) with h | h
        · exact h
        · rw [List.getElem?_eq_none (by simp; omega)] at hp; cases hp
      rw [e] at hp
      simp at hp
      subst hp
      obtain rfl : i = j := by omega
      rw [Array.getElem?_setIfInBounds_self_of_lt (by omega)]
  · refine LAt.snoc (LAt.step (fun q h _ => hset q h) (fun _ h _ => h) (hL.below hb2)) (TAt.step (fun q h _ => hset q (by omega)) (fun q h _ => ?_) hT)
    show b < q
    omega
  · rw [hpar, show a - j = (a - (j + 1)) + 1 by omega]
    simp only [mkids]
    rw [hq]
    simp only
    cases mkids (mparse k) (a - (j + 1)) r1 with
    | none => rfl
    | some p => simp
set_option maxRecDepth 100000 in
set_option maxHeartbeats 2000000 in
theorem termFrom_calls (k : Nat) : ∀ (l : List S66) (A : Option Addr) (c : Nat) (w0 w : World), l.length < k → Below w0.heap.size w0 w → Kd.C k66 w0 A l.length l → l.length ≤ c →
    Calls Try.prog 54 #[.slice A l.length c] w (TFrom (mparse k l) w0 w) := by
  induction k with
  | zero => intro l A c w0 w h; omega
  | succ k ih =>
    intro l A c w0 w hk hW hr hc
    cases l with
    | nil =>
      go_enter Try.func54, Try.ntmps54
      go_wp2
      go_ret2
      exact ⟨aq_ _ _, rfl⟩
    | cons x l =>
      simp only [List.length_cons] at hk hc hr ⊢
      obtain ⟨ad, rfl, hc0, hc1⟩ := at_T66 (Kd.C_below hr hW) 0 (by omega) (by omega)
      have e0 : ad.add (Int.toNat 0 * 2) = ad := by simp [Addr.add]
      rw [e0, show rd_T66 (x :: l) 0 = x from rfl] at hc0 hc1
      clear e0
      obtain ⟨A1, hd, hcut⟩ : ∃ A1, Kd.C k66 w0 A1 l.length l ∧ ∀ W : World, (Instr.slice 25 (.slice (some ad) (l.length + 1) c) (some (.int .i64 1)) none none).run Try.prog W = .ok (.slice A1 l.length (c - 1)) W := by
        obtain ⟨i0, hi0, _, hsz, _⟩ := info_parts info66'
        refine ⟨_, Kd.C_drop (k := k66) (m := 1) hr (by simp) hc, fun W => ?_⟩
        rw [cut_from (P := Try.prog) 25 66 .i64 Try.underlying25 hi0 2 hsz (some ad) (l.length + 1) c 1 (by omega) (by omega)]
        rfl
      have HD := Lib.hid hd
      have HR := Lib.hid hr
      have IH := Lib.hid ih
      clear hd hr ih
      cases hb : cellB x with
      | false =>
        have e : mparse (k + 1) (x :: l) = none := by simp only [mparse]; rw [if_neg (by simp [hb])]
        rw [e]
        have HB := Lib.hid hb
        clear e hb
        go_enter Try.func54, Try.ntmps54
        go_wp2_with (go_at_call 91; refine (cellOk_calls x _).mono ?_; rw [HB.out]; rintro e w' ⟨rfl, hb1⟩)
        go_ret2
        exact ⟨hb1, rfl⟩
      | true =>
        have ha : 0 ≤ arI x.f0 := by
          unfold cellB at hb
          split at hb
          · simp [arI, *]
          · split at hb
            · simp [arI, *]
            · simp at hb; omega
        obtain ⟨a, haa⟩ : ∃ a : Nat, arI x.f0 = (a : Int) := ⟨(arI x.f0).toNat, by omega⟩
        have ha3 : a ≤ 3 := by have := arI_bd x.f0; omega
        have hp : mparse (k + 1) (x :: l) = match mkids (mparse k) a l with
            | none => none
            | some (ts, r') => some (.mk x.f0 x.f1 ts, r') := by simp only [mparse]; rw [if_pos hb, haa]; rfl
        have hmk : ∀ W, (Instr.makeSlice 78 (.int .i64 (a : Int)) (.int .i64 (a : Int))).run Try.prog W = .ok (.slice (some ⟨W.heap.size, 0, none⟩) a a) (W.alloc (.cells (madeCells #[.pointer none] a) 69)) := run_make_row' 78 69 (.pointer none) 8 Try.underlying78 info69 rfl .i64 .i64 a (by omega) (by omega)
        have HB := Lib.hid hb
        have HA := Lib.hid haa
        have HP := Lib.hid hp
        clear hb haa hp ha
        go_enter Try.func54, Try.ntmps54
        go_wp2_with (go_at_call 91; refine (cellOk_calls x _).mono ?_; rw [HB.out]; rintro e w1 ⟨rfl, hb1⟩)
        have hc01 : w1.cell? ad = some (.int .i64 x.f0) := (hb1.cell (aa_ w _ hc0)).trans hc0
        have hc11 : w1.cell? ⟨ad.block, ad.off + 1, none⟩ = some (.int .i64 x.f1) := (hb1.cell (aa_ w _ hc1)).trans hc1
        have hd01 : ∀ o, (w1.alloc o).cell? ad = some (.int .i64 x.f0) := fun o => (World.cell?_alloc_lt _ _ _ (aa_ w1 _ hc01)).trans hc01
        go_region_with (go_at_call 92; refine (kidsOf_calls _ _).mono ?_; rw [HA.out]; rintro e w' ⟨rfl, rfl⟩)
        go_wp2
        obtain ⟨b, hbb⟩ : ∃ b, b = w1.heap.size := ⟨_, rfl⟩
        rw [← hbb]
        have hwb : w.heap.size ≤ b := by rw [hbb]; exact hb1.size
        have hB0 : Below w.heap.size w (w1.alloc (.cells (madeCells #[.pointer none] a) 69)).drew := below_drew (ai_ hb1 _)
        have hM : Mid k a l b w0 w (w1.alloc (.cells (madeCells #[.pointer none] a) 69)).drew 0 (.slice A1 l.length (c - 1)) := by
          refine ⟨[], [], madeCells #[.pointer none] a, l, A1, c - 1, rfl, rfl, HD.out, by omega, Nat.le_refl _, by rw [hbb]; exact ae_ (blk_new w1 _), size_madeCells _ _, by simp, by simp [LAt], hB0, ?_⟩
          rw [Nat.sub_zero]
          cases mkids (mparse k) a l with
          | none => rfl
          | some p => rfl
        have HM := Lib.hid hM
        clear hM hB0 hd01
        have HBB := Lib.hid hbb
        clear hbb
        go_loopw [5, 6, 27] (fun v5 v6 v27 wr => ∃ j : Nat, j ≤ a ∧ v27 = .int .i64 j ∧ Mid k a l b w0 w wr j v5) (fun _ _ v27 _ => a - (intOf v27).toNat)
        case atStart => exact ⟨0, Nat.zero_le _, rfl, HM.out⟩
        case round =>
          obtain ⟨j, hj, rfl, ts, gs, arr, rj, A5, c5, hts, rfl, hC, hc5, hrl, hblk, hsz, harr, hL, hBw, hpar⟩ := hrel
          have hblt := blk_lt hblk
          by_cases hlt : j < a
          · have HC := Lib.hid hC
            have HL := Lib.hid hL
            have HPAR := Lib.hid hpar
            have HARR := Lib.hid harr
            have HBLK := Lib.hid hblk
            have HTS := Lib.hid hts
            have HSZ := Lib.hid hsz
            clear hC hL hpar harr hblk hts hsz HM
            obtain ⟨old, hold⟩ : ∃ old, arr[j]? = some old := ⟨arr[j]'(by have := HSZ.out; omega), by have := HSZ.out; simp⟩
            have HOLD := Lib.hid hold
            clear hold
            cases hq : mparse k rj with
            | none =>
              have HQ := Lib.hid hq
              clear hq
              go_wp2_with fail
              refine (IH.out rj A5 c5 w0 _ (by omega) (ap_ hW hBw) HC.out hc5).mono ?_
              rw [HQ.out]
              rintro e w2 ⟨hb2, rfl⟩
              have hk2 : w2.cell? ⟨b, j, none⟩ = some old := (an_ ((hb2.block b hblt).trans HBLK.out) j).trans HOLD.out
              have hf2 : w2.frozen? ⟨b, j, none⟩ = false := am_ ((hb2.block b hblt).trans HBLK.out) j
              go_wp2
              go_ret2
              have hbw2 : Below w.heap.size w w2 := below_then hBw hBw.size hb2
              refine ⟨af_ hbw2 hwb, ?_⟩
              rw [HP.out, HPAR.out, show a - j = (a - j - 1) + 1 by omega]
              simp only [mkids]
              rw [HQ.out]
              rfl
            | some q =>
              obtain ⟨t, r1⟩ := q
              have hl1 := mparse_len _ _ _ _ hq
              have HQ := Lib.hid hq
              clear hq
              go_wp2_with fail
              refine (IH.out rj A5 c5 w0 _ (by omega) (ap_ hW hBw) HC.out hc5).mono ?_
              rw [HQ.out]
              rintro e w2 ⟨hb2, g, A6, c6, rfl, hT, hC6, hc6⟩
              have hk2 : w2.cell? ⟨b, j, none⟩ = some old := (an_ ((hb2.block b hblt).trans HBLK.out) j).trans HOLD.out
              have hf2 : w2.frozen? ⟨b, j, none⟩ = false := am_ ((hb2.block b hblt).trans HBLK.out) j
              unfold ptr
              have HT := Lib.hid hT
              have HC6 := Lib.hid hC6
              clear hT hC6
              go_wp2
              go_roundw
              case rel => exact ⟨j + 1, by omega, by go_num, Mid_step HTS.out hlt hrl HBLK.out HSZ.out HARR.out HL.out hBw hwb HPAR.out HQ.out hb2 HT.out HC6.out hc6⟩
              case measure => simp [intOf]; omega
          · obtain rfl : j = a := by omega
            subst hts
            rw [Nat.sub_self] at hpar
            simp only [mkids, List.append_nil] at hpar
            have hrow : PtrRow (fun q => w.heap.size ≤ q) wr (some ⟨b, 0, none⟩) gs := fun i p hp => ⟨⟨b, 0, none⟩, rfl, hwb, by rw [add_plain]; exact (an_ hblk i).trans (harr i p hp)⟩
            have hL2 : LAt (fun q => w.heap.size ≤ q) wr gs ts := LAt.step (fun _ _ _ => rfl) (fun q h _ => Nat.le_trans hwb (Nat.le_of_lt h)) hL
            have hcr0 : wr.cell? ad = some (.int .i64 x.f0) := (hBw.cell (aa_ w _ hc0)).trans hc0
            have hcr1 : wr.cell? ⟨ad.block, ad.off + 1, none⟩ = some (.int .i64 x.f1) := (hBw.cell (aa_ w _ hc1)).trans hc1
            have HC := Lib.hid hC
            have HL := Lib.hid hL2
            have HROW := Lib.hid hrow
            have HPAR := Lib.hid hpar
            clear hC hL hL2 hrow hpar harr hblk hsz HM hmk
            go_wp2
            go_region_with (go_at_call 93; refine (newTerm_calls (fun q => w.heap.size ≤ q) x.f0 x.f1 ts (some ⟨b, 0, none⟩) ts.length gs _ (by omega) (Nat.le_refl _) (HROW.out.below (below_drew (aq_ _ _))) (HL.out.below (below_drew (aq_ _ _))) (fun q h => Nat.le_trans hBw.size h)).mono ?_; rintro e w3 ⟨g, rfl, hg, hT, hb3⟩)
            all_goals
              (go_wp2)
              (unfold ptr)
              (go_ret2)
              (refine ⟨ap_ (below_drew hBw) hb3, ?_⟩)
              (rw [HP.out, HPAR.out])
              (exact ⟨g, A5, c5, rfl, hT, HC.out, hc5⟩)
def tmof (l : List S66) : Option Tm := if l.length ≤ 600 then match mparse 601 l with
  | some (t, []) => some t
  | _ => none
  else none
def TOf (r : Option Tm) (w : World) (e : Ending) (w' : World) : Prop :=
  Below w.heap.size w w' ∧ match r with
  | none => e = .returned (.pointer none)
  | some t => ∃ g, e = .returned (ptr g) ∧ TAt (fun k => w.heap.size ≤ k) w' g t
set_option maxRecDepth 100000 in
theorem termOf_calls (l : List S66) (A : Option Addr) (c : Nat) (w : World) (hr : Kd.C k66 w A l.length l) (hc : l.length ≤ c) :
    Calls Try.prog 49 #[.slice A l.length c] w (TOf (tmof l) w) := by
  by_cases h60 : l.length ≤ 600
  · cases hq : mparse 601 l with
    | none =>
      have e : tmof l = none := by simp [tmof, h60, hq]
      rw [e]
      have HQ := Lib.hid hq
      clear hq e
      go_enter Try.func49, Try.ntmps49
      go_wp2_with (go_at_call 54; refine (termFrom_calls 601 l A c w _ (by omega) (aq_ _ _) hr hc).mono ?_; rw [HQ.out]; rintro e w1 ⟨hb, rfl⟩)
      go_ret
      exact ⟨hb, rfl⟩
    | some p =>
      obtain ⟨t, r⟩ := p
      cases r with
      | nil =>
        have e : tmof l = some t := by simp [tmof, h60, hq]
        rw [e]
        have HQ := Lib.hid hq
        clear hq e
        go_enter Try.func49, Try.ntmps49
        go_wp2_with (go_at_call 54; refine (termFrom_calls 601 l A c w _ (by omega) (aq_ _ _) hr hc).mono ?_; rw [HQ.out]; rintro e w1 ⟨hb, g, A1, c1, rfl, ha, hr1, hc1⟩; simp only [List.length_nil]; unfold ptr)
        go_ret
        exact ⟨hb, g, rfl, ha⟩
      | cons x r =>
        have e : tmof l = none := by simp [tmof, h60, hq]
        rw [e]
        have HQ := Lib.hid hq
        clear hq e
        go_enter Try.func49, Try.ntmps49
        go_wp2_with (go_at_call 54; refine (termFrom_calls 601 l A c w _ (by omega) (aq_ _ _) hr hc).mono ?_; rw [HQ.out]; rintro e w1 ⟨hb, g, A1, c1, rfl, ha, hr1, hc1⟩; simp only [List.length_cons]; unfold ptr)
        go_ret
        exact ⟨hb, rfl⟩
  · have e : tmof l = none := by simp [tmof, h60]
    rw [e]
    clear e
    have h61 : 600 < l.length := by omega
    clear h60
    go_enter Try.func49, Try.ntmps49
    go_wp2
    go_ret
    exact ⟨aq_ _ _, rfl⟩
end Go.Proofs.Ytgoiifpimpnlpaa.PAll

end

section
namespace Go.Proofs.Ytgoiifpimpnlpaa.PAll
open Go.RowKit Go.Proofs.YtgoiifpimpnlpaaW.PrintWords Go.Proofs.YtgoiifpimpnlpaaW.PrintLast Go.Proofs.YtgoiifpimpnlpaaW.PrintMore
set_option linter.unusedVariables false
set_option linter.unusedSimpArgs false
mutual
/-- The reference's tree. -/
def tv : Tm → S62
  | .mk k n ks => ⟨k, n, tvs ks⟩
def tvs : List Tm → List S62
  | [] => []
  | t :: ts => tv t :: tvs ts
end
theorem tvs_map (ts : List Tm) : tvs ts = ts.map tv := by
  induction ts with
  | nil => rfl
  | cons t ts ih => simp [tvs, ih]
theorem l1In_eq (n lo hi : Int) : spec_l1In.f n lo hi = some (decide (lo ≤ n ∧ n ≤ hi)) := by
  unfold spec_l1In.f
  by_cases h : lo ≤ n <;> simp [h]
theorem arity_eq (x : Int) (k : Nat) (hk : 2 ≤ k) : spec_l3Arity.f k x = some (arI x) := by
  obtain ⟨k, rfl⟩ : ∃ q, k = q + 2 := ⟨k - 2, by omega⟩
  simp only [spec_l3Arity.f, spec_l3Arity.j0, spec_l3Arity.j1, arI]
  by_cases h1 : x = 1
  · subst h1; rfl
  by_cases h2 : x = 2
  · subst h2; rfl
  by_cases h3 : x = 3
  · subst h3; rfl
  by_cases h4 : x = 4
  · subst h4; rfl
  by_cases h5 : x = 5
  · subst h5; rfl
  by_cases h7 : x = 7
  · subst h7; rfl
  by_cases h6 : x = 6
  · subst h6; rfl
  simp [h1, h2, h3, h4, h5, h6, h7]
theorem cell_eq (x : S66) (k : Nat) (hk : 2 ≤ k) : spec_l3Cell.f k x.f0 x.f1 = some (cellB x) := by
  unfold spec_l3Cell.f cellB
  rw [l1In_eq, l1In_eq, arity_eq _ k hk]
  by_cases h1 : x.f0 = 1
  · simp [h1]
  · by_cases h2 : x.f0 = 2
    · simp [h2]
    · rw [if_neg h1, if_neg h2, if_neg h1, if_neg h2]
      by_cases h3 : x.f1 = 0
      · simp [h3]
      · simp [h3]
theorem rd66_drop (l : List S66) (i : Nat) (x : S66) (r : List S66) (h : l.drop i = x :: r) : rd_T66 l (i : Int) = x := by
  have : l[i]? = some x := by rw [← List.head?_drop, h]; rfl
  simp [rd_T66, List.getD_eq_getElem?_getD, this]
def ReadsAs (l : List S66) (r : Option (Tm × List S66)) (o : Option (Int × Int × List S62 × Int)) : Prop :=
  match r with
  | none => ∃ a b c, o = some (a, b, c, 0)
  | some (t, rest) => o = some ((tv t).f0, (tv t).f1, (tv t).f2, ((l.length - rest.length : Nat) : Int)) ∧ l.drop (l.length - rest.length) = rest
theorem l3Kids_eq (l : List S66) (hm : l.length ≤ 1000) (m : Nat) (ih : ∀ (i : Nat) (r : List S66), l.drop i = r → i ≤ l.length → r.length < m → ∀ k, 6 * m ≤ k → ReadsAs l (mparse m r) (spec_l3Read.f k l (i : Int))) (a0 a1 : Int) :
    ∀ (q i : Nat) (r : List S66) (acc : List S62), l.drop i = r → i ≤ l.length → r.length < m → acc.length + q ≤ 10 → 1 ≤ i → ∀ k, 6 * m + q + 1 ≤ k →
    match mkids (mparse m) q r with
    | none => ∃ a b c, spec_l3Read.l0 k l (i : Int) (q : Int) a0 a1 acc = some (a, b, c, 0)
    | some (ts, rest) => spec_l3Read.l0 k l (i : Int) (q : Int) a0 a1 acc = some (a0, a1, acc ++ tvs ts, ((l.length - rest.length : Nat) : Int)) ∧ l.drop (l.length - rest.length) = rest := by
  intro q
  induction q with
  | zero =>
    intro i r acc hr hi hrm ha h1 k hk
    obtain ⟨k, rfl⟩ : ∃ q, k = q + 1 := ⟨k - 1, by omega⟩
    have hlen : r.length = l.length - i := by rw [← hr]; simp
    simp only [mkids, tvs, List.append_nil]
    have e : l.length - r.length = i := by omega
    rw [e]
    refine ⟨?_, hr⟩
    simp only [spec_l3Read.l0]
    rw [if_neg (by omega)]
  | succ q ihq =>
    intro i r acc hr hi hrm ha h1 k hk
    obtain ⟨k, rfl⟩ : ∃ q, k = q + 1 := ⟨k - 1, by omega⟩
    have hS : spec_l3Read.l0 (k + 1) l (i : Int) ((q + 1 : Nat) : Int) a0 a1 acc = (spec_l3Read.f k l (i : Int)).bind fun bt112 => (if bt112.2.2.2 = 0 then (some (0, 0, ([] : List (S62)), 0)) else (if acc.length < 3518437208883 then (spec_l3Read.l0 k l bt112.2.2.2 (q : Int) a0 a1 (acc ++ [(⟨bt112.1, bt112.2.1, bt112.2.2.1⟩ : S62)])) else (none))) := by
      simp only [spec_l3Read.l0]
      rw [if_pos (by omega), wrap_id (by omega) (by omega), show ((q + 1 : Nat) : Int) - 1 = (q : Int) by omega]
    rw [hS]
    clear hS
    have A := ih i r hr hi hrm k (by omega)
    simp only [mkids]
    cases hq : mparse m r with
    | none =>
      rw [hq] at A
      obtain ⟨a, b, c, A⟩ := A
      simp only [A, Option.bind_some, if_true]
      exact ⟨0, 0, [], rfl⟩
    | some p =>
      obtain ⟨t, r1⟩ := p
      rw [hq] at A
      obtain ⟨A, A'⟩ := A
      have hl1 := mparse_len _ _ _ _ hq
      have hlen : r.length = l.length - i := by rw [← hr]; simp
      simp only [A, Option.bind_some]
      rw [if_neg (by omega), if_pos (by omega)]
      have B := ihq (l.length - r1.length) r1 (acc ++ [(⟨(tv t).f0, (tv t).f1, (tv t).f2⟩ : S62)]) A' (by omega) (by omega) (by simp; omega) (by omega) k (by omega)
      cases hq2 : mkids (mparse m) q r1 with
      | none => rw [hq2] at B; exact B
      | some p2 =>
        obtain ⟨ts, r2⟩ := p2
        rw [hq2] at B
        obtain ⟨B, B'⟩ := B
        refine ⟨?_, B'⟩
        rw [B]
        simp only [tvs, List.append_assoc, List.singleton_append]
        cases tv t
        rfl
theorem l3Read_eq (l : List S66) (hm : l.length ≤ 1000) : ∀ (m : Nat) (i : Nat) (r : List S66), l.drop i = r → i ≤ l.length → r.length < m → ∀ k, 6 * m ≤ k → ReadsAs l (mparse m r) (spec_l3Read.f k l (i : Int)) := by
  intro m
  induction m with
  | zero => intro i r _ _ h; omega
  | succ m ih =>
    intro i r hr hi hrm k hk
    obtain ⟨k, rfl⟩ : ∃ q, k = q + 2 := ⟨k - 2, by omega⟩
    cases r with
    | nil =>
      have : l.length ≤ i := by have := congrArg List.length hr; simp at this; omega
      simp only [mparse, ReadsAs]
      refine ⟨0, 0, [], ?_⟩
      simp only [spec_l3Read.f]
      rw [if_pos (by omega)]
      simp [spec_l3Read.j0]
    | cons x r =>
      have hlen : l.length - i = r.length + 1 := by have := congrArg List.length hr; simp at this; omega
      have hr1 : l.drop (i + 1) = r := by rw [← List.drop_drop, hr]; rfl
      have hx := rd66_drop l i x r hr
      have hm1 : r.length < m := by simp at hrm; omega
      have hS : spec_l3Read.f (k + 2) l (i : Int) = if cellB x = true then spec_l3Read.l0 k l ((i : Int) + 1) (arI x.f0) x.f0 x.f1 [] else some (0, 0, [], 0) := by
        simp only [spec_l3Read.f]
        rw [if_neg (by omega), if_pos (by omega), if_pos (by omega), hx, cell_eq x (k + 1) (by omega)]
        simp only [Option.bind_some, spec_l3Read.j0]
        cases hb : cellB x with
        | false => simp
        | true =>
          simp only [Bool.not_true, Bool.false_eq_true, if_false, if_true]
          rw [if_pos (by omega), if_pos (by omega), hx, arity_eq _ k (by omega), wrap_id (by omega) (by omega)]
          rfl
      rw [hS]
      clear hS
      cases hb : cellB x with
      | false =>
        have hc : mparse (m + 1) (x :: r) = none := by simp only [mparse]; rw [if_neg (by simp [hb])]
        rw [hc, if_neg (by simp)]
        exact ⟨0, 0, [], rfl⟩
      | true =>
        rw [if_pos rfl]
        have ha : 0 ≤ arI x.f0 := by
          unfold cellB at hb
          split at hb
          · simp [arI, *]
          · split at hb
            · simp [arI, *]
            · simp at hb; omega
        have ha3 := arI_bd x.f0
        obtain ⟨a, haa⟩ : ∃ a : Nat, arI x.f0 = (a : Int) := ⟨(arI x.f0).toNat, by omega⟩
        have hp : mparse (m + 1) (x :: r) = match mkids (mparse m) a r with
            | none => none
            | some (ts, r') => some (.mk x.f0 x.f1 ts, r') := by simp only [mparse]; rw [if_pos hb, haa]; rfl
        rw [hp, haa]
        have K := l3Kids_eq l hm m ih x.f0 x.f1 a (i + 1) r [] hr1 (by omega) hm1 (by simp; omega) (by omega) k (by omega)
        simp only [Int.natCast_add, Int.cast_ofNat_Int] at K
        cases hq : mkids (mparse m) a r with
        | none =>
          rw [hq] at K
          exact K
        | some p =>
          obtain ⟨ts, r1⟩ := p
          rw [hq] at K
          obtain ⟨K, K'⟩ := K
          refine ⟨?_, K'⟩
          rw [K]
          simp [tv]
theorem l3Tree_eq (l : List S66) (k : Nat) (hk : 3606 ≤ k) : match tmof l with
    | none => ∃ b n ks, spec_l3Tree.f k l = some (b, n, ks, false)
    | some t => spec_l3Tree.f k l = some ((tv t).f0, (tv t).f1, (tv t).f2, true) := by
  by_cases h : l.length ≤ 600
  · have hS : spec_l3Tree.f k l = (spec_l3Read.f k l 0).bind fun bt164 => (if bt164.2.2.2 > 0 then (some (bt164.1, bt164.2.1, bt164.2.2.1, (bt164.2.2.2 == (l.length : Int)))) else (some (bt164.1, bt164.2.1, bt164.2.2.1, false))) := by
      unfold spec_l3Tree.f
      rw [if_neg (by omega)]
    rw [hS]
    clear hS
    have R := l3Read_eq l (by omega) 601 0 l rfl (by omega) (by omega) k (by omega)
    cases hq : mparse 601 l with
    | none =>
      rw [hq] at R
      obtain ⟨b, n, ks, R⟩ := R
      have hc : tmof l = none := by simp [tmof, h, hq]
      simp only [Int.cast_ofNat_Int] at R
      rw [R, hc]
      exact ⟨b, n, ks, by simp⟩
    | some q =>
      obtain ⟨t, r⟩ := q
      rw [hq] at R
      obtain ⟨R, R'⟩ := R
      have hl := mparse_len _ _ _ _ hq
      simp only [Int.cast_ofNat_Int] at R
      rw [R]
      simp only [Option.bind_some]
      rw [if_pos (by omega)]
      cases r with
      | nil =>
        have hc : tmof l = some t := by simp [tmof, h, hq]
        rw [hc]
        simp
      | cons x r =>
        have hc : tmof l = none := by simp [tmof, h, hq]
        rw [hc]
        refine ⟨(tv t).f0, (tv t).f1, (tv t).f2, ?_⟩
        simp at hl ⊢
        omega
  · have hc : tmof l = none := by simp [tmof, h]
    rw [hc]
    unfold spec_l3Tree.f
    rw [if_pos (by omega)]
    exact ⟨_, _, _, rfl⟩
theorem GoodTerm_eq (l : List S66) (k : Nat) (hk : 3606 ≤ k) : spec_GoodTerm.f k l = some (tmof l).isSome := by
  have h := l3Tree_eq l k hk
  unfold spec_GoodTerm.f
  cases hq : tmof l with
  | none => rw [hq] at h; obtain ⟨b, n, ks, h⟩ := h; rw [h]; rfl
  | some t => rw [hq] at h; simp only at h; rw [h]; rfl
end Go.Proofs.Ytgoiifpimpnlpaa.PAll

end

section
namespace Go.Proofs.Ytgoiifpimpnlpaa.PAll
open Go.RowKit Go.Proofs.YtgoiifpimpnlpaaW.PrintWords Go.Proofs.YtgoiifpimpnlpaaW.PrintLast Go.Proofs.YtgoiifpimpnlpaaW.PrintMore
set_option linter.unusedVariables false
set_option linter.unusedSimpArgs false
mutual
/-- As many parts as the kind asks, everywhere. -/
def Tm.wf : Tm → Prop
  | .mk k n ks => arI k = (ks.length : Int) ∧ wfs ks
def wfs : List Tm → Prop
  | [] => True
  | t :: ts => t.wf ∧ wfs ts
end
theorem wfs_get {ts : List Tm} (h : wfs ts) : ∀ t ∈ ts, t.wf := by
  induction ts with
  | nil => intro t ht; cases ht
  | cons a ts ih =>
    simp only [wfs] at h
    intro t ht
    rcases List.mem_cons.1 ht with rfl | ht
    · exact h.1
    · exact ih h.2 t ht
theorem mkids_wf {f : List S66 → Option (Tm × List S66)} (hf : ∀ l t r, f l = some (t, r) → t.wf) : ∀ m l ts r, mkids f m l = some (ts, r) → wfs ts ∧ ts.length = m := by
  intro m
  induction m with
  | zero => intro l ts r h; simp [mkids] at h; obtain ⟨rfl, rfl⟩ := h; simp [wfs]
  | succ m ih =>
    intro l ts r h
    simp only [mkids] at h
    cases h1 : f l with
    | none => rw [h1] at h; simp at h
    | some p =>
      obtain ⟨t, r1⟩ := p
      rw [h1] at h
      simp only at h
      cases h2 : mkids f m r1 with
      | none => rw [h2] at h; simp at h
      | some q =>
        obtain ⟨ts', r2⟩ := q
        rw [h2] at h
        simp at h
        obtain ⟨rfl, rfl⟩ := h
        have := hf _ _ _ h1
        have := ih _ _ _ h2
        simp only [wfs, List.length_cons]
        exact ⟨⟨by assumption, this.1⟩, by omega⟩
theorem cellB_arI {x : S66} (hb : cellB x = true) : 0 ≤ arI x.f0 := by
  unfold cellB at hb
  split at hb
  · simp [arI, *]
  · split at hb
    · simp [arI, *]
    · simp at hb; omega
theorem mparse_wf : ∀ (k : Nat) (l : List S66) (t : Tm) (r : List S66), mparse k l = some (t, r) → t.wf := by
  intro k
  induction k with
  | zero => intro l t r h; simp [mparse] at h
  | succ k ih =>
    intro l t r h
    cases l with
    | nil => simp [mparse] at h
    | cons x l =>
      simp only [mparse] at h
      split at h
      · rename_i hb
        have ha := cellB_arI hb
        cases h1 : mkids (mparse k) (arI x.f0).toNat l with
        | none => rw [h1] at h; simp at h
        | some p =>
          obtain ⟨ts, r1⟩ := p
          rw [h1] at h
          simp at h
          obtain ⟨rfl, _⟩ := h
          have := mkids_wf ih _ _ _ _ h1
          simp only [Tm.wf]
          exact ⟨by omega, this.1⟩
      · simp at h
theorem tmof_wf {l : List S66} {t : Tm} (h : tmof l = some t) : t.wf := by
  unfold tmof at h
  split at h
  · split at h
    · rename_i h1; injection h with h; subst h; exact mparse_wf _ _ _ _ h1
    · cases h
  · cases h
end Go.Proofs.Ytgoiifpimpnlpaa.PAll

end

section
namespace Go.Proofs.Ytgoiifpimpnlpaa.PAll
open Go.RowKit Go.Proofs.YtgoiifpimpnlpaaW.PrintWords Go.Proofs.YtgoiifpimpnlpaaW.PrintLast Go.Proofs.YtgoiifpimpnlpaaW.PrintMore
set_option linter.unusedVariables false
set_option linter.unusedSimpArgs false
theorem rd62_get (ts : List Tm) (i : Nat) (t : Tm) (h : ts[i]? = some t) : rd_T62 (tvs ts) (i : Int) = tv t := by
  simp [rd_T62, tvs_map, List.getD_eq_getElem?_getD, h]
theorem tvs_length (ts : List Tm) : (tvs ts).length = ts.length := by simp [tvs_map]
theorem tv_f (k n : Int) (ks : List Tm) : tv (.mk k n ks) = ⟨k, n, tvs ks⟩ := by simp [tv]
mutual
def Tm.nodes : Tm → Nat
  | .mk _ _ ks => 1 + nodesAll ks
def nodesAll : List Tm → Nat
  | [] => 0
  | t :: ts => t.nodes + nodesAll ts
end
theorem nodes_mk (k n : Int) (ks : List Tm) : (Tm.mk k n ks).nodes = 1 + nodesAll ks := by simp [Tm.nodes]
theorem nodes_mem {t : Tm} {ts : List Tm} (h : t ∈ ts) : t.nodes ≤ nodesAll ts := by
  induction ts with
  | nil => cases h
  | cons a ts ih =>
    simp only [nodesAll]
    rcases List.mem_cons.1 h with rfl | h
    · omega
    · have := ih h; omega
end Go.Proofs.Ytgoiifpimpnlpaa.PAll

end

section
namespace Go.Proofs.Ytgoiifpimpnlpaa.PAll
open Go.RowKit Go.Proofs.YtgoiifpimpnlpaaW.PrintWords Go.Proofs.YtgoiifpimpnlpaaW.PrintLast Go.Proofs.YtgoiifpimpnlpaaW.PrintMore
attribute [local go_sem] max2_int min2_int max_two min_two max_three min_three max_four min_four   -- for this text's walks alone
set_option linter.unusedVariables false
set_option linter.unusedSimpArgs false
mutual
def spec_l3Size.l0 : Nat → Int → List (S62) → Int → Int → Option (Int)
  | 0, _, _, _, _ => none
  | k + 1, x3, x7, x8, x9 => if x9 < x8 then (if 0 ≤ x9 then (if x9 < (x7.length : Int) then ((spec_l3Size.f k ((rd_T62 x7 x9).f0) ((rd_T62 x7 x9).f1) ((rd_T62 x7 x9).f2)).bind fun t179 => (spec_l3Size.l0 k (wrap64 (x3 + t179)) x7 x8 (wrap64 (x9 + 1)))) else (none)) else (none)) else (some x3)
def spec_l3Size.f : Nat → Int → Int → List (S62) → Option (Int)
  | 0, _, _, _ => none
  | k + 1, a0_0, a0_1, l0_2 => spec_l3Size.l0 k 1 l0_2 (l0_2.length : Int) 0
end
set_option maxHeartbeats 8000000 in
set_option maxRecDepth 100000 in
theorem spec_l3Size.calls (k : Nat) : ∀ (a0_0 : Int) (a0_1 : Int) (A0_2 : Option Addr) (c0_2 : Nat) (l0_2 : List (S62)) (r : Int) (w : World) (hr0_2 : Kd.C k62 w A0_2 l0_2.length l0_2) (hc0_2 : l0_2.length ≤ c0_2) (h : spec_l3Size.f k a0_0 a0_1 l0_2 = some r),
    Calls Try.prog 52 #[.agg #[.int .i64 a0_0, .int .i64 a0_1, .slice A0_2 l0_2.length c0_2]] w fun e w' => e = .returned (.int .i64 r) ∧ Below w.heap.size w w' := by
  induction k using Nat.strongRecOn with
  | _ k ih =>
  intro a0_0 a0_1 A0_2 c0_2 l0_2 r w hr0_2 hc0_2 h
  cases k with
  | zero => exact absurd h (by simp [spec_l3Size.f])
  | succ k =>
  simp only [spec_l3Size.f] at h
  have hu62 := Try.underlying62
  have HR0_2 := ab_ hr0_2
  have HC0_2 := ab_ hc0_2
  clear hr0_2 hc0_2
  have HB := ab_ (aq_ w.heap.size w)
  have H : (spec_l3Size.l0 k 1 l0_2 (l0_2.length : Int) 0) = some r := h
  clear h
  have H' := ab_ H
  clear H
  go_enter Try.func52, Try.ntmps52
  go_wp2_with (first | ((with_reducible refine gate_dst (N := 1) rfl ?_); refine box_event ?hg (N := 1) ?hd (cs := #[.int .i64 a0_0, .int .i64 a0_1, .slice A0_2 l0_2.length c0_2]) (t := 62) ?hr ?_; (case hd => rfl); (case hg => rfl); (case hr => first | (go_simp; done) | (go_simp; rfl)); intro gb176 hg w2 hbox hb; have n0_ := ab_ (ap_ (by repeat (first | (with_reducible first | exact HB.out | apply ai_ | apply ag_ | apply ah_) | exact HB.out)) hb); have n1_ := ab_ (hbox); have n2_ := ab_ ((by rw [hg]; exact (below_size (by repeat (first | (with_reducible first | exact HB.out | apply ai_ | apply ag_ | apply ah_) | exact HB.out))) : w.heap.size ≤ gb176)); have n3_ := ab_ ((by rw [hg]; exact (below_size (by repeat (first | (with_reducible first | exact HB.out | apply ai_ | apply ag_ | apply ah_) | exact HB.out))) : w.heap.size ≤ gb176)); clear HB; have HB := n0_; have BK176 := n1_; have GW176 := n2_; have GE176 := n3_; clear n0_ n1_ n2_ n3_; clear hb hbox hg; have hcz3_0 : w2.cell? ⟨gb176, 0, none⟩ = some (.int .i64 a0_0) := (an_ BK176.out 0).trans rfl; have hcz3_1 : w2.cell? ⟨gb176, 1, none⟩ = some (.int .i64 a0_1) := (an_ BK176.out 1).trans rfl; have hcz3_2 : w2.cell? ⟨gb176, 2, none⟩ = some (.slice A0_2 l0_2.length c0_2) := (an_ BK176.out 2).trans rfl; have hfz3_0 := am_ BK176.out 0; have hfz3_1 := am_ BK176.out 1; have hfz3_2 := am_ BK176.out 2))
  go_loopg [3, 9] k (fun kq v3 v9 w' => ∃ (x3_1 : Int) (x9_1 : Int), v3 = .int .i64 x3_1 ∧ v9 = .int .i64 x9_1 ∧ Aside0 (spec_l3Size.l0 kq x3_1 l0_2 (l0_2.length : Int) x9_1 = some r) ∧ Aside0 (kq ≤ k) ∧ Aside0 (w'.heap[gb176]? = some (.cells #[.int .i64 a0_0, .int .i64 a0_1, (.slice A0_2 l0_2.length c0_2)] 62 (0, 0))) ∧ Aside0 (Below w.heap.size w w'))
  case atStart => exact ⟨(1), (0), (by first | rfl | (simp; done) | (simp [*]; done)), (by first | rfl | (simp; done) | (simp [*]; done)), H', ⟨Nat.le_refl _⟩, ⟨by (with_reducible repeat (first | refine ac_ ?_ _ | refine ae_ ?_ | refine ad_ ?_ _)); exact BK176.out⟩, ⟨by repeat (first | (with_reducible first | exact HB.out | apply ai_ | apply ag_ | apply ah_ | refine af_ ?_ GE176.out) | exact HB.out)⟩⟩
  case round =>
    clear H'
    try clear p2
    try clear hcz3_0
    try clear hcz3_1
    try clear hcz3_2
    try clear hfz3_0
    try clear hfz3_1
    try clear hfz3_2
    obtain ⟨x3_1, x9_1, rfl, rfl, HA, HK1, BK176, HB⟩ := hrel
    cases gk with
    | zero => exact absurd HA.out (by simp [spec_l3Size.l0])
    | succ k1 =>
      have H := HA.out
      clear HA
      simp only [spec_l3Size.l0] at H
      by_cases c4 : x9_1 < (l0_2.length : Int)
      · rw [if_pos c4] at H
        have c4b0 : decide (x9_1 < (l0_2.length : Int)) = true := ao_ c4
        clear c4
        by_cases c5 : 0 ≤ x9_1
        · rw [if_pos c5] at H
          have c5b0 : decide (0 ≤ x9_1) = true := ao_ c5
          clear c5
          by_cases c6 : x9_1 < (l0_2.length : Int)
          · rw [if_pos c6] at H
            have c6b0 : decide (x9_1 < (l0_2.length : Int)) = true := ao_ c6
            clear c6
            replace H := Option.bind_eq_some_iff.mp H
            obtain ⟨t179, A70, H⟩ := H
            replace H : (spec_l3Size.l0 k1 (wrap64 (x3_1 + t179)) l0_2 (l0_2.length : Int) (wrap64 (x9_1 + 1))) = some r := H
            have A7 := ab_ A70
            clear A70
            have H' := ab_ H
            clear H
            have p177 : 0 ≤ (x9_1 : Int) := of_decide_eq_true (by first | (with_reducible assumption) | assumption)
            have q177 : x9_1 < (l0_2.length : Int) := of_decide_eq_true (by first | (with_reducible assumption) | assumption)
            obtain ⟨ad177, A177_2, c177_2, e177, hx177_0, hx177_1, hx177_2, hl177_2, hi177_2⟩ := at_T62 HR0_2.out x9_1 p177 q177
            cases e177
            replace hx177_0 := (HB.out.cell (aa_ w _ hx177_0)).trans hx177_0
            replace hx177_1 := (HB.out.cell (aa_ w _ hx177_1)).trans hx177_1
            replace hx177_2 := (HB.out.cell (aa_ w _ hx177_2)).trans hx177_2
            have HR177_2 := ab_ hi177_2
            have HC177_2 := ab_ hl177_2
            clear hi177_2 hl177_2
            replace p177 := eq_true p177
            replace q177 := eq_true q177
            go_wp2_with (first | ((with_reducible refine gate_dst (N := 5) rfl ?_); refine box_event ?hg (N := 5) ?hd (cs := #[.int .i64 0, .int .i64 0, .slice none 0 0]) (t := 62) ?hr ?_; (case hd => rfl); (case hg => rfl); (case hr => first | (go_simp; done) | (go_simp; rfl)); intro gb178 hg w8 hbox hb; have n0_ := ab_ (blk_below (g := gb176) (o := .cells #[.int .i64 a0_0, .int .i64 a0_1, .slice (some ad177) l0_2.length c0_2] 62 (0, 0)) (by (with_reducible repeat (first | refine ac_ ?_ _ | refine ae_ ?_ | refine ad_ ?_ _)); exact BK176.out) hb); have n1_ := ab_ (ap_ (by repeat (first | (with_reducible first | exact HB.out | apply ai_ | apply ag_ | apply ah_ | refine af_ ?_ GE176.out) | exact HB.out)) hb); have n2_ := ab_ (hbox); have n3_ := ab_ ((by rw [hg]; exact (below_size (by repeat (first | (with_reducible first | exact HB.out | apply ai_ | apply ag_ | apply ah_ | refine af_ ?_ GE176.out) | exact HB.out))) : w.heap.size ≤ gb178)); have n4_ := ab_ ((by rw [hg]; exact (below_size (by repeat (first | (with_reducible first | exact HB.out | apply ai_ | apply ag_ | apply ah_ | refine af_ ?_ GE176.out) | exact HB.out))) : w.heap.size ≤ gb178)); have n5_ := ab_ ((by rw [hg]; exact ak_ (blk_lt (g := gb176) (o := .cells #[.int .i64 a0_0, .int .i64 a0_1, .slice (some ad177) l0_2.length c0_2] 62 (0, 0)) (by (with_reducible repeat (first | refine ac_ ?_ _ | refine ae_ ?_ | refine ad_ ?_ _)); exact BK176.out)) : gb176 ≠ gb178)); have n6_ := ab_ ((by rw [hg]; exact Nat.ne_of_gt (blk_lt (g := gb176) (o := .cells #[.int .i64 a0_0, .int .i64 a0_1, .slice (some ad177) l0_2.length c0_2] 62 (0, 0)) (by (with_reducible repeat (first | refine ac_ ?_ _ | refine ae_ ?_ | refine ad_ ?_ _)); exact BK176.out)) : gb178 ≠ gb176)); clear BK176; clear HB; have BK176 := n0_; have HB := n1_; have BK178 := n2_; have GW178 := n3_; have GE178 := n4_; have NB176_178 := n5_; have NB178_176 := n6_; clear n0_ n1_ n2_ n3_ n4_ n5_ n6_; clear hb hbox hg; have hnb9 := NB178_176.out; have hnc9 := NB176_178.out; have hcz10_0 : w8.cell? ⟨gb178, 0, none⟩ = some (.int .i64 0) := (an_ BK178.out 0).trans rfl; have hcz10_1 : w8.cell? ⟨gb178, 1, none⟩ = some (.int .i64 0) := (an_ BK178.out 1).trans rfl; have hcz10_2 : w8.cell? ⟨gb178, 2, none⟩ = some (.slice none 0 0) := (an_ BK178.out 2).trans rfl; have hfz10_0 := am_ BK178.out 0; have hfz10_1 := am_ BK178.out 1; have hfz10_2 := am_ BK178.out 2) | ((with_reducible refine gate_callee (f := 52) rfl ?_); refine goesL_ (some 15) rfl rfl Try.func52 (by kernel_rfl) rfl #[.agg #[.int .i64 ((rd_T62 l0_2 x9_1).f0), .int .i64 ((rd_T62 l0_2 x9_1).f1), .slice A177_2 ((rd_T62 l0_2 x9_1).f2).length c177_2]] rfl (by (try simp only [List.map_toArray, List.map_cons, List.map_nil]); first | done | rfl | (simp only [List.length_drop, List.length_take]; rfl)) ?_; (with_reducible refine (ih k1 (by have := HK1.out; omega) ((rd_T62 l0_2 x9_1).f0) ((rd_T62 l0_2 x9_1).f1) _ _ ((rd_T62 l0_2 x9_1).f2) t179 _ ?side1 ?side2 A7.out).mono ?_); (case side1 => exact Kd.C_below HR177_2.out (by repeat (first | (with_reducible first | exact HB.out | apply ai_ | apply ag_ | apply ah_ | refine af_ ?_ GE176.out | refine af_ ?_ GE178.out) | exact HB.out))); (case side2 => exact HC177_2.out); rintro e w11 ⟨rfl, hb⟩; refine ⟨_, rfl, ?_⟩; have n0_ := ab_ (blk_below (g := gb176) (o := .cells #[.int .i64 a0_0, .int .i64 a0_1, .slice (some ad177) l0_2.length c0_2] 62 (0, 0)) (by (with_reducible repeat (first | refine ac_ ?_ _ | refine ae_ ?_ | refine ad_ ?_ _)); refine blk_far ?_ NB176_178.out _; (with_reducible repeat (first | refine ac_ ?_ _ | refine ae_ ?_ | refine ad_ ?_ _)); refine blk_far ?_ NB176_178.out _; (with_reducible repeat (first | refine ac_ ?_ _ | refine ae_ ?_ | refine ad_ ?_ _)); refine blk_far ?_ NB176_178.out _; (with_reducible repeat (first | refine ac_ ?_ _ | refine ae_ ?_ | refine ad_ ?_ _)); exact BK176.out) hb); have n1_ := ab_ (blk_below (g := gb178) (o := .cells #[.int .i64 ((rd_T62 l0_2 x9_1).f0), .int .i64 ((rd_T62 l0_2 x9_1).f1), .slice A177_2 ((rd_T62 l0_2 x9_1).f2).length c177_2] 62 (0, 0)) (by (with_reducible repeat (first | refine ac_ ?_ _ | refine ae_ ?_ | refine ad_ ?_ _)); refine blk_put (cs := #[.int .i64 ((rd_T62 l0_2 x9_1).f0), .int .i64 ((rd_T62 l0_2 x9_1).f1), .slice none 0 0]) ?_ 2 _ rfl; (with_reducible repeat (first | refine ac_ ?_ _ | refine ae_ ?_ | refine ad_ ?_ _)); refine blk_put (cs := #[.int .i64 ((rd_T62 l0_2 x9_1).f0), .int .i64 0, .slice none 0 0]) ?_ 1 _ rfl; (with_reducible repeat (first | refine ac_ ?_ _ | refine ae_ ?_ | refine ad_ ?_ _)); refine blk_put (cs := #[.int .i64 0, .int .i64 0, .slice none 0 0]) ?_ 0 _ rfl; (with_reducible repeat (first | refine ac_ ?_ _ | refine ae_ ?_ | refine ad_ ?_ _)); exact BK178.out) hb); have n2_ := ab_ (ap_ (by repeat (first | (with_reducible first | exact HB.out | apply ai_ | apply ag_ | apply ah_ | refine af_ ?_ GE176.out | refine af_ ?_ GE178.out) | exact HB.out)) hb); clear BK176; clear BK178; clear HB; have BK176 := n0_; have BK178 := n1_; have HB := n2_; clear n0_ n1_ n2_; (try clear hb); (try clear hb2); (try clear hk); (try clear hi)))
            go_roundg k1
            case measure => have := HK1.out; omega
            case rel => exact ⟨(wrap64 (x3_1 + t179)), (wrap64 (x9_1 + 1)), (by first | rfl | (simp; done) | (simp [*]; done)), (by first | rfl | (simp; done) | (simp [*]; done)), H', ⟨by have := HK1.out; omega⟩, ⟨by (with_reducible repeat (first | refine ac_ ?_ _ | refine ae_ ?_ | refine ad_ ?_ _)); exact BK176.out⟩, ⟨by repeat (first | (with_reducible first | exact HB.out | apply ai_ | apply ag_ | apply ah_ | refine af_ ?_ GE176.out | refine af_ ?_ GE178.out) | exact HB.out)⟩⟩
          · rw [if_neg c6] at H
            exact absurd H (by simp)
        · rw [if_neg c5] at H
          exact absurd H (by simp)
      · rw [if_neg c4] at H
        have c4b0 : decide (x9_1 < (l0_2.length : Int)) = false := decide_eq_false c4
        clear c4
        obtain rfl := Option.some.inj H
        go_wp2
        go_ret
        exact ⟨by first | rfl | (simp [errW_none, errW_some] <;> rfl) | (simp [*, errW_none, errW_some] <;> rfl), by repeat (first | (with_reducible first | exact HB.out | apply ai_ | apply ag_ | apply ah_ | refine af_ ?_ GE176.out) | exact HB.out)⟩
end Go.Proofs.Ytgoiifpimpnlpaa.PAll

end

section
namespace Go.Proofs.Ytgoiifpimpnlpaa.PAll
open Go.RowKit Go.Proofs.YtgoiifpimpnlpaaW.PrintWords Go.Proofs.YtgoiifpimpnlpaaW.PrintLast Go.Proofs.YtgoiifpimpnlpaaW.PrintMore
set_option linter.unusedVariables false
set_option linter.unusedSimpArgs false
theorem nodesAll_drop (ks : List Tm) (i : Nat) (t : Tm) (h : ks[i]? = some t) : nodesAll (ks.drop i) = t.nodes + nodesAll (ks.drop (i + 1)) := by
  have hlt : i < ks.length := by
    rcases Nat.lt_or_ge i ks.length with h' | h'
    · exact h'
    · rw [List.getElem?_eq_none h'] at h; cases h
  rw [List.drop_eq_getElem_cons hlt]
  have : ks[i] = t := by rw [List.getElem?_eq_getElem hlt] at h; exact Option.some.inj h
  rw [this]
  simp [nodesAll]
theorem sizeLoop_eq (ks : List Tm) (hks : ks.length ≤ 3) (hn6 : nodesAll ks ≤ 1000000) (ih : ∀ t ∈ ks, t.wf → t.nodes ≤ 1000000 → ∀ k, 10 * t.nodes ≤ k → spec_l3Size.f k (tv t).f0 (tv t).f1 (tv t).f2 = some (t.nodes : Int)) (hws : wfs ks) :
    ∀ (d i : Nat) (b : Nat) (k : Nat), i + d = ks.length → b ≤ 1000001 → d + 10 * nodesAll ks + 1 ≤ k → b + nodesAll (ks.drop i) ≤ 1000001 → spec_l3Size.l0 k (b : Int) (tvs ks) (ks.length : Int) (i : Int) = some ((b + nodesAll (ks.drop i) : Nat) : Int) := by
  intro d
  induction d with
  | zero =>
    intro i b k hi hb hk hbn
    obtain ⟨k, rfl⟩ : ∃ m, k = m + 1 := ⟨k - 1, by omega⟩
    simp only [spec_l3Size.l0]
    rw [if_neg (by omega), List.drop_eq_nil_of_le (by omega)]
    simp [nodesAll]
  | succ d ihd =>
    intro i b k hi hb hk hbn
    obtain ⟨k, rfl⟩ : ∃ m, k = m + 1 := ⟨k - 1, by omega⟩
    have hlt : i < ks.length := by omega
    have hg : ks[i]? = some ks[i] := by simp [hlt]
    have hmem : ks[i] ∈ ks := List.getElem_mem hlt
    have hn := nodes_mem hmem
    have hd := nodesAll_drop ks i _ hg
    rw [hd] at hbn
    simp only [spec_l3Size.l0]
    rw [if_pos (by omega), if_pos (by omega), tvs_length, if_pos (by omega), rd62_get ks i _ hg, ih _ hmem (wfs_get hws _ hmem) (by omega) k (by omega), wrap_id (x := (i : Int) + 1) (by omega) (by omega), hd, Option.bind_some, wrap_id (by omega) (by omega)]
    have e : (i : Int) + 1 = ((i + 1 : Nat) : Int) := by omega
    have e2 : (b : Int) + (ks[i].nodes : Int) = ((b + ks[i].nodes : Nat) : Int) := by omega
    rw [e, e2, ihd (i + 1) _ k (by omega) (by omega) (by omega) (by omega)]
    congr 1
    omega
theorem l3Size_eq (t : Tm) : t.wf → t.nodes ≤ 1000000 → ∀ k, 10 * t.nodes ≤ k → spec_l3Size.f k (tv t).f0 (tv t).f1 (tv t).f2 = some (t.nodes : Int) := by
  induction t using Tm.ind with
  | h k n ks ih =>
    intro hwf h6 q hq
    simp only [Tm.wf] at hwf
    have hkl : ks.length ≤ 3 := by have := arI_bd k; omega
    rw [nodes_mk] at hq h6
    obtain ⟨q, rfl⟩ : ∃ m, q = m + 1 := ⟨q - 1, by omega⟩
    rw [tv_f, nodes_mk]
    simp only [spec_l3Size.f]
    have L := sizeLoop_eq ks hkl (by omega) ih hwf.2 ks.length 0 1 q (by omega) (by omega) (by omega) (by simp; omega)
    rw [tvs_length]
    simpa using L
end Go.Proofs.Ytgoiifpimpnlpaa.PAll

end

section
namespace Go.Proofs.Ytgoiifpimpnlpaa.PAll
open Go.RowKit Go.Proofs.YtgoiifpimpnlpaaW.PrintWords Go.Proofs.YtgoiifpimpnlpaaW.PrintLast Go.Proofs.YtgoiifpimpnlpaaW.PrintMore
set_option linter.unusedVariables false
set_option linter.unusedSimpArgs false
mutual
/-- Numbers are within their bounds, everywhere. -/
def Tm.wn : Tm → Prop
  | .mk k n ks => (k = 2 → -1000000 ≤ n ∧ n ≤ 1000000) ∧ wns ks
def wns : List Tm → Prop
  | [] => True
  | t :: ts => t.wn ∧ wns ts
end
theorem wns_get {ts : List Tm} (h : wns ts) : ∀ t ∈ ts, t.wn := by
  induction ts with
  | nil => intro t ht; cases ht
  | cons a ts ih =>
    simp only [wns] at h
    intro t ht
    rcases List.mem_cons.1 ht with rfl | ht
    · exact h.1
    · exact ih h.2 t ht
def Tm.kd : Tm → Int
  | .mk k _ _ => k
def Tm.nu : Tm → Int
  | .mk _ n _ => n
theorem TAt.kd_cell {S : Nat → Prop} {w : World} {g : Nat} {t : Tm} (h : TAt S w g t) : w.cell? ⟨g, 0, none⟩ = some (.int .i64 t.kd) := by
  cases t with | mk k n ks => obtain ⟨A, c, gs, _, h0, _⟩ := h.cells; exact h0
theorem TAt.nu_cell {S : Nat → Prop} {w : World} {g : Nat} {t : Tm} (h : TAt S w g t) : w.cell? ⟨g, 1, none⟩ = some (.int .i64 t.nu) := by
  cases t with | mk k n ks => obtain ⟨A, c, gs, _, _, h1, _⟩ := h.cells; exact h1
theorem Tm.wn_nu {t : Tm} (h : t.wn) (hk : t.kd = 2) : -1000000 ≤ t.nu ∧ t.nu ≤ 1000000 := by
  cases t with | mk k n ks => simp only [Tm.wn] at h; exact h.1 hk
theorem within_q (n lo hi : Int) (w : World) : Calls Try.prog 53 #[.int .i64 n, .int .i64 lo, .int .i64 hi] w fun e w' => e = .returned (.bool (decide (lo ≤ n ∧ n ≤ hi))) ∧ w' = w := (within_calls n lo hi w).mono fun _ _ h => ⟨h.1, h.2.symm⟩
def addB (a b : Tm) : Bool := decide (a.kd = 2) && (decide (b.kd = 2) && decide (-1000000 ≤ a.nu + b.nu ∧ a.nu + b.nu ≤ 1000000))
def redexB (k : Int) (ks : List Tm) : Bool := if k = 7 then true else if k = 4 then (ks[0]?.map (fun a => a.kd == 3)).getD false else if k = 6 then (ks[0]?.map (fun a => a.kd == 2)).getD false else if k = 5 then ((ks[0]?.bind fun a => ks[1]?.map (addB a))).getD false else false
set_option maxRecDepth 100000 in
set_option maxHeartbeats 2000000 in
theorem redex_calls (S : Nat → Prop) (k n : Int) (ks : List Tm) (g : Nat) (w : World) (hwf : (Tm.mk k n ks).wf) (hwn : (Tm.mk k n ks).wn) (hT : TAt S w g (.mk k n ks)) :
    Calls Try.prog 97 #[ptr g] w fun e w' => e = .returned (.bool (redexB k ks)) ∧ Below w.heap.size w w' := by
  simp only [Tm.wf] at hwf
  simp only [Tm.wn] at hwn
  obtain ⟨hk, hws⟩ := hwf
  have hwns := hwn.2
  obtain ⟨A, c, gs, hc, c0, c1, c2, c3, hrow, hl⟩ := hT.cells
  unfold ptr
  clear hT hwn
  by_cases h7 : k = 7
  · subst h7
    have e : redexB 7 ks = true := by simp [redexB]
    rw [e]
    clear hl hrow hk e hws hwns
    go_enter Try.func97, Try.ntmps97
    go_wp2
    go_ret
    exact ⟨rfl, aq_ _ _⟩
  have b7 : (k == 7) = false := by simp [h7]
  by_cases h4 : k = 4
  · subst h4
    have hk2 : ks.length = 2 := by simp [arI] at hk; omega
    obtain ⟨a, ha⟩ : ∃ a, ks[0]? = some a := ⟨ks[0], by simp [hk2]⟩
    obtain ⟨ga, hga, hTa⟩ := LAt.get hl ha
    obtain ⟨ad, rfl, hSa, ca⟩ := hrow 0 ga hga
    have HE := Lib.hid (show redexB 4 ks = (a.kd == 3) by simp [redexB, ha])
    have ck := hTa.kd_cell
    unfold ptr at ca
    rw [show ad.add 0 = ad by simp [Addr.add]] at ca
    clear hl hrow hk ha hga hTa hSa hws hwns
    go_enter Try.func97, Try.ntmps97
    go_wp2
    go_ret
    exact ⟨by rw [HE.out]; first | done | rfl, aq_ _ _⟩
  have b4 : (k == 4) = false := by simp [h4]
  by_cases h6 : k = 6
  · subst h6
    have hk2 : ks.length = 3 := by simp [arI] at hk; omega
    obtain ⟨a, ha⟩ : ∃ a, ks[0]? = some a := ⟨ks[0], by simp [hk2]⟩
    obtain ⟨ga, hga, hTa⟩ := LAt.get hl ha
    obtain ⟨ad, rfl, hSa, ca⟩ := hrow 0 ga hga
    have HE := Lib.hid (show redexB 6 ks = (a.kd == 2) by simp [redexB, ha])
    have ck := hTa.kd_cell
    unfold ptr at ca
    rw [show ad.add 0 = ad by simp [Addr.add]] at ca
    clear hl hrow hk ha hga hTa hSa hws hwns
    go_enter Try.func97, Try.ntmps97
    go_wp2
    go_ret
    exact ⟨by rw [HE.out]; first | done | rfl, aq_ _ _⟩
  have b6 : (k == 6) = false := by simp [h6]
  by_cases h5 : k = 5
  · subst h5
    have hk2 : ks.length = 2 := by simp [arI] at hk; omega
    obtain ⟨a, ha⟩ : ∃ a, ks[0]? = some a := ⟨ks[0], by simp [hk2]⟩
    obtain ⟨b, hb⟩ : ∃ b, ks[1]? = some b := ⟨ks[1], by simp [hk2]⟩
    obtain ⟨ga, hga, hTa⟩ := LAt.get hl ha
    obtain ⟨gb, hgb, hTb⟩ := LAt.get hl hb
    obtain ⟨ad, rfl, hSa, ca⟩ := hrow 0 ga hga
    obtain ⟨ad', e', hSb, cb⟩ := hrow 1 gb hgb
    obtain rfl : ad = ad' := by injection e'
    have HE := Lib.hid (show redexB 5 ks = addB a b by simp [redexB, ha, hb])
    have cka := hTa.kd_cell
    have ckb := hTb.kd_cell
    have cna := hTa.nu_cell
    have cnb := hTb.nu_cell
    have wa := Tm.wn_nu (wns_get hwns a (List.mem_of_getElem? ha))
    have wb := Tm.wn_nu (wns_get hwns b (List.mem_of_getElem? hb))
    unfold ptr at ca cb
    rw [show ad.add 0 = ad by simp [Addr.add]] at ca
    have cb : w.cell? ⟨ad.block, ad.off + 1, none⟩ = some (.pointer (some ⟨gb, 0, none⟩)) := cb
    rw [HE.out]
    clear hl hrow hk ha hb hga hgb hTa hTb hSa hSb hws hwns HE e'
    by_cases ka : a.kd = 2
    · rw [ka] at cka
      by_cases kb : b.kd = 2
      · rw [kb] at ckb
        have wa := wa ka
        have wb := wb kb
        obtain ⟨na, hna⟩ : ∃ x, x = a.nu := ⟨_, rfl⟩
        obtain ⟨nb, hnb⟩ : ∃ x, x = b.nu := ⟨_, rfl⟩
        have HE := Lib.hid (show addB a b = (decide (-1000000 ≤ na + nb) && decide (na + nb ≤ 1000000)) by simp [addB, ka, kb, hna, hnb])
        rw [← hna] at cna wa
        rw [← hnb] at cnb wb
        clear ka kb hna hnb
        go_enter Try.func97, Try.ntmps97
        go_wp2
        go_quiet (fail)
        all_goals go_wp2
        all_goals go_big_quiet (first | (go_at_call 53; exact (within_q _ _ _ _).mono (fun _ _ h => ⟨h.1, _, h.2⟩)))
        all_goals go_wp2
        all_goals go_ret
        all_goals exact ⟨by rw [HE.out]; first | done | rfl, by repeat (first | exact aq_ _ _ | apply ag_ | apply ah_)⟩
      · have HE := Lib.hid (show addB a b = false by simp [addB, kb])
        have kb2 : (b.kd == 2) = false := by simp [kb]
        rw [HE.out]
        clear ka kb wa wb HE
        go_enter Try.func97, Try.ntmps97
        go_wp2
        go_quiet (fail)
        all_goals go_wp2
        all_goals (go_quiet (fail))
        all_goals go_wp2
        all_goals go_ret
        all_goals exact ⟨rfl, by repeat (first | exact aq_ _ _ | apply ag_ | apply ah_)⟩
    · have HE := Lib.hid (show addB a b = false by simp [addB, ka])
      have ka2 : (a.kd == 2) = false := by simp [ka]
      rw [HE.out]
      clear ka wa wb HE
      go_enter Try.func97, Try.ntmps97
      go_wp2
      go_quiet (fail)
      all_goals go_wp2
      all_goals (go_quiet (fail))
      all_goals go_wp2
      all_goals go_ret
      all_goals exact ⟨rfl, by repeat (first | exact aq_ _ _ | apply ag_ | apply ah_)⟩
  have b5 : (k == 5) = false := by simp [h5]
  have e : redexB k ks = false := by simp [redexB, h4, h5, h6, h7]
  rw [e]
  clear hl hrow hk e hws hwns h4 h5 h6 h7
  go_enter Try.func97, Try.ntmps97
  go_wp2
  go_ret
  exact ⟨rfl, aq_ _ _⟩
theorem mkids_wn {f : List S66 → Option (Tm × List S66)} (hf : ∀ l t r, f l = some (t, r) → t.wn) : ∀ m l ts r, mkids f m l = some (ts, r) → wns ts := by
  intro m
  induction m with
  | zero => intro l ts r h; simp [mkids] at h; obtain ⟨rfl, rfl⟩ := h; simp [wns]
  | succ m ih =>
    intro l ts r h
    simp only [mkids] at h
    cases h1 : f l with
    | none => rw [h1] at h; simp at h
    | some p =>
      obtain ⟨t, r1⟩ := p
      rw [h1] at h
      simp only at h
      cases h2 : mkids f m r1 with
      | none => rw [h2] at h; simp at h
      | some q =>
        obtain ⟨ts', r2⟩ := q
        rw [h2] at h
        simp at h
        obtain ⟨rfl, rfl⟩ := h
        simp only [wns]
        exact ⟨hf _ _ _ h1, ih _ _ _ h2⟩
theorem mparse_wn : ∀ (k : Nat) (l : List S66) (t : Tm) (r : List S66), mparse k l = some (t, r) → t.wn := by
  intro k
  induction k with
  | zero => intro l t r h; simp [mparse] at h
  | succ k ih =>
    intro l t r h
    cases l with
    | nil => simp [mparse] at h
    | cons x l =>
      simp only [mparse] at h
      split at h
      · rename_i hb
        cases h1 : mkids (mparse k) (arI x.f0).toNat l with
        | none => rw [h1] at h; simp at h
        | some p =>
          obtain ⟨ts, r1⟩ := p
          rw [h1] at h
          simp at h
          obtain ⟨rfl, _⟩ := h
          simp only [Tm.wn]
          refine ⟨fun h2 => ?_, mkids_wn ih _ _ _ _ h1⟩
          unfold cellB at hb
          rw [if_neg (by omega), if_pos h2] at hb
          simpa using hb
      · simp at h
theorem tmof_wn {l : List S66} {t : Tm} (h : tmof l = some t) : t.wn := by
  unfold tmof at h
  split at h
  · split at h
    · rename_i h1; injection h with h; subst h; exact mparse_wn _ _ _ _ h1
    · cases h
  · cases h
end Go.Proofs.Ytgoiifpimpnlpaa.PAll

end

section
namespace Go.Proofs.Ytgoiifpimpnlpaa.PAll
open Go.RowKit Go.Proofs.YtgoiifpimpnlpaaW.PrintWords Go.Proofs.YtgoiifpimpnlpaaW.PrintLast Go.Proofs.YtgoiifpimpnlpaaW.PrintMore
set_option linter.unusedVariables false
set_option linter.unusedSimpArgs false
mutual
def tcells : Tm → List S66
  | .mk k n ks => ⟨k, n⟩ :: lcells ks
def lcells : List Tm → List S66
  | [] => []
  | t :: ts => tcells t ++ lcells ts
end
mutual
def Tm.cnt : Tm → Nat
  | .mk _ _ ks => 1 + cnts ks
def cnts : List Tm → Nat
  | [] => 0
  | t :: ts => t.cnt + cnts ts
end
theorem cnt_mk (k n : Int) (ks : List Tm) : (Tm.mk k n ks).cnt = 1 + cnts ks := by simp [Tm.cnt]
theorem cnt_pos (t : Tm) : 1 ≤ t.cnt := by cases t; rw [cnt_mk]; omega
theorem cnt_mem {t : Tm} {ts : List Tm} (h : t ∈ ts) : t.cnt ≤ cnts ts := by
  induction ts with
  | nil => cases h
  | cons a ts ih =>
    simp only [cnts]
    rcases List.mem_cons.1 h with rfl | h
    · omega
    · have := ih h; omega
theorem tcells_mk (k n : Int) (ks : List Tm) : tcells (.mk k n ks) = ⟨k, n⟩ :: lcells ks := by simp [tcells]
theorem Tm.ind2 {P : Tm → Prop} {Q : List Tm → Prop} (h : ∀ k n ks, Q ks → P (.mk k n ks)) (h0 : Q []) (h1 : ∀ t ts, P t → Q ts → Q (t :: ts)) : (∀ t, P t) ∧ ∀ ts, Q ts := by
  have hP : ∀ t, P t := fun t => Tm.rec (motive_1 := P) (motive_2 := Q) h h0 h1 t
  exact ⟨hP, fun ts => by
    induction ts with
    | nil => exact h0
    | cons t ts ih => exact h1 t ts (hP t) ih⟩
theorem tcells_len (t : Tm) : (tcells t).length = t.cnt := by
  refine (Tm.ind2 (P := fun t => (tcells t).length = t.cnt) (Q := fun ts => (lcells ts).length = cnts ts) ?_ (by simp [lcells, cnts]) ?_).1 t
  · intro k n ks h; simp [tcells, Tm.cnt, h]; omega
  · intro t ts h1 h2; simp [lcells, cnts, h1, h2]
theorem lcells_len (ts : List Tm) : (lcells ts).length = cnts ts := by
  induction ts with
  | nil => simp [lcells, cnts]
  | cons t ts ih => simp [lcells, cnts, ih, tcells_len]
theorem lcells_append (a b : List Tm) : lcells (a ++ b) = lcells a ++ lcells b := by
  induction a with
  | nil => simp [lcells]
  | cons t ts ih => simp [lcells, ih]
theorem size_cnt (t : Tm) : t.cnt ≤ 1000000 → t.size = (t.cnt : Int) := by
  refine (Tm.ind2 (P := fun t => t.cnt ≤ 1000000 → t.size = (t.cnt : Int)) (Q := fun ts => cnts ts ≤ 1000000 → sizes ts = (cnts ts : Int)) ?_ (by simp [sizes, cnts]) ?_).1 t
  · intro k n ks h hc
    rw [cnt_mk] at hc ⊢
    simp only [Tm.size]
    rw [h (by omega)]
    unfold cap
    rw [if_neg (by omega)]
    omega
  · intro t ts h1 h2 hc
    simp only [cnts] at hc ⊢
    simp only [sizes]
    rw [h1 (by omega), h2 (by omega)]
    omega
theorem size_cnt_le (t : Tm) (n : Nat) (hn : n < 1000000) : t.size ≤ (n : Int) ↔ t.cnt ≤ n := by
  have key : (t.cnt : Int) ≤ t.size ∨ (1000000 : Int) ≤ t.size := by
    refine (Tm.ind2 (P := fun t => (t.cnt : Int) ≤ t.size ∨ (1000000 : Int) ≤ t.size) (Q := fun ts => (cnts ts : Int) ≤ sizes ts ∨ (1000000 : Int) ≤ sizes ts) ?_ (by simp [sizes, cnts]) ?_).1 t
    · intro k m ks h
      rw [cnt_mk]
      simp only [Tm.size, cap]
      split
      · right; omega
      · omega
    · intro t ts h1 h2
      have := t.size_bd
      have := (sizes_bd ts).1
      simp only [cnts, sizes]
      omega
  constructor
  · intro h
    omega
  · intro h
    rw [size_cnt t (by omega)]
    omega
def bindsI (k : Int) (i : Nat) : Int := if k = 3 then 1 else if k = 7 ∧ i = 1 then 1 else 0
theorem bindsI_bd (k : Int) (i : Nat) : 0 ≤ bindsI k i ∧ bindsI k i ≤ 1 := by unfold bindsI; split <;> (try split) <;> omega
mutual
/-- Another term in the place of each variable: f gets its number and how many are bound around it. -/
def chg (f : Int → Int → Tm) : Tm → Int → Tm
  | .mk k n ks, b => if k = 1 then f n b else .mk k n (chgs f k 0 ks b)
def chgs (f : Int → Int → Tm) (k : Int) : Nat → List Tm → Int → List Tm
  | _, [], _ => []
  | i, t :: ts, b => chg f t (b + bindsI k i) :: chgs f k (i + 1) ts b
end
theorem chg_mk (f : Int → Int → Tm) (k n : Int) (ks : List Tm) (b : Int) : chg f (.mk k n ks) b = if k = 1 then f n b else .mk k n (chgs f k 0 ks b) := by simp [chg]
theorem chgs_len (f : Int → Int → Tm) (k : Int) (b : Int) : ∀ (ts : List Tm) (i : Nat), (chgs f k i ts b).length = ts.length
  | [], i => by simp [chgs]
  | t :: ts, i => by simp [chgs, chgs_len f k b ts (i + 1)]
theorem chgs_take_succ (f : Int → Int → Tm) (k : Int) (b : Int) : ∀ (ts : List Tm) (s i : Nat) (t : Tm), ts[i]? = some t → chgs f k s (ts.take (i + 1)) b = chgs f k s (ts.take i) b ++ [chg f t (b + bindsI k (s + i))]
  | [], s, i, t, h => by simp at h
  | a :: ts, s, 0, t, h => by simp at h; subst h; simp [chgs]
  | a :: ts, s, i + 1, t, h => by
    simp only [List.getElem?_cons_succ] at h
    simp only [List.take_succ_cons, chgs, List.cons_append]
    rw [chgs_take_succ f k b ts (s + 1) i t h, show s + 1 + i = s + (i + 1) by omega]
def tvar (n : Int) : Tm := .mk 1 n []
def shF (by_ fr n b : Int) : Tm := if n - b < fr then tvar n else tvar (n + by_)
def tshift (by_ fr : Int) (t : Tm) : Tm := if by_ = 0 then t else chg (shF by_ fr) t 0
def sbF (k : Int) (s : Tm) (n b : Int) : Tm := if n - b = k then tshift b 0 s else if n - b > k then tvar (n - 1) else tvar n
def tsubst (k : Int) (s t : Tm) : Tm := chg (sbF k s) t 0
mutual
/-- Variables are numbers up to B, everywhere. -/
def Tm.vb (B : Int) : Tm → Prop
  | .mk k n ks => (k = 1 → 0 ≤ n ∧ n ≤ B) ∧ vbs B ks
def vbs (B : Int) : List Tm → Prop
  | [] => True
  | t :: ts => t.vb B ∧ vbs B ts
end
theorem vb_mk (B k n : Int) (ks : List Tm) : (Tm.mk k n ks).vb B ↔ (k = 1 → 0 ≤ n ∧ n ≤ B) ∧ vbs B ks := by simp [Tm.vb]
theorem vbs_get {B : Int} {ts : List Tm} (h : vbs B ts) : ∀ t ∈ ts, t.vb B := by
  induction ts with
  | nil => intro t ht; cases ht
  | cons a ts ih =>
    simp only [vbs] at h
    intro t ht
    rcases List.mem_cons.1 ht with rfl | ht
    · exact h.1
    · exact ih h.2 t ht
theorem vb_mono {B C : Int} (hBC : B ≤ C) (t : Tm) : t.vb B → t.vb C := by
  refine (Tm.ind2 (P := fun t => t.vb B → t.vb C) (Q := fun ts => vbs B ts → vbs C ts) ?_ (fun h => h) ?_).1 t
  · intro k n ks h hv
    rw [vb_mk] at hv ⊢
    exact ⟨fun hk => by have := hv.1 hk; omega, h hv.2⟩
  · intro t ts h1 h2 h
    simp only [vbs] at h ⊢
    exact ⟨h1 h.1, h2 h.2⟩
theorem chg_all {f : Int → Int → Tm} {B C D : Int} (hBC : B ≤ C) (hf : ∀ n b, 0 ≤ n → n ≤ B → 0 ≤ b → b ≤ D → (f n b).vb C ∧ (f n b).wf ∧ (f n b).wn) (t : Tm) : ∀ b, 0 ≤ b → b + t.cnt ≤ D → t.vb B → t.wf → t.wn → (chg f t b).vb C ∧ (chg f t b).wf ∧ (chg f t b).wn := by
  refine (Tm.ind2 (P := fun t => ∀ b, 0 ≤ b → b + t.cnt ≤ D → t.vb B → t.wf → t.wn → (chg f t b).vb C ∧ (chg f t b).wf ∧ (chg f t b).wn)
    (Q := fun ts => ∀ k i b, 0 ≤ b → b + cnts ts + 1 ≤ D → vbs B ts → wfs ts → wns ts → vbs C (chgs f k i ts b) ∧ wfs (chgs f k i ts b) ∧ wns (chgs f k i ts b)) ?_ ?_ ?_).1 t
  · intro k n ks h b hb hD hv hw hn
    rw [vb_mk] at hv
    simp only [Tm.wf] at hw
    simp only [Tm.wn] at hn
    rw [cnt_mk] at hD
    rw [chg_mk]
    by_cases h1 : k = 1
    · rw [if_pos h1]
      exact hf n b (hv.1 h1).1 (hv.1 h1).2 hb (by omega)
    · rw [if_neg h1]
      obtain ⟨a1, a2, a3⟩ := h k 0 b hb (by omega) hv.2 hw.2 hn.2
      refine ⟨(vb_mk _ _ _ _).2 ⟨fun e => absurd e h1, a1⟩, ?_, ?_⟩
      · simp only [Tm.wf]; rw [chgs_len]; exact ⟨hw.1, a2⟩
      · simp only [Tm.wn]; exact ⟨hn.1, a3⟩
  · intro k i b _ _ _ _ _; simp [chgs, vbs, wfs, wns]
  · intro t ts h1 h2 k i b hb hD hv hw hn
    simp only [vbs] at hv
    simp only [wfs] at hw
    simp only [wns] at hn
    simp only [cnts] at hD
    have := bindsI_bd k i
    obtain ⟨a1, a2, a3⟩ := h1 (b + bindsI k i) (by omega) (by omega) hv.1 hw.1 hn.1
    obtain ⟨b1, b2, b3⟩ := h2 k (i + 1) b hb (by omega) hv.2 hw.2 hn.2
    simp only [chgs, vbs, wfs, wns]
    exact ⟨⟨a1, b1⟩, ⟨a2, b2⟩, ⟨a3, b3⟩⟩
theorem tvar_all {C n : Int} (h0 : 0 ≤ n) (h1 : n ≤ C) : (tvar n).vb C ∧ (tvar n).wf ∧ (tvar n).wn := by
  simp [tvar, Tm.vb, Tm.wf, Tm.wn, vbs, wfs, wns, arI, h0, h1]
theorem shift_all {B D by_ : Int} (h0 : 0 ≤ by_) (t : Tm) (hB : t.vb B) (hw : t.wf) (hn : t.wn) : (tshift by_ 0 t).vb (B + by_) ∧ (tshift by_ 0 t).wf ∧ (tshift by_ 0 t).wn := by
  unfold tshift
  split
  · exact ⟨vb_mono (by omega) t hB, hw, hn⟩
  · refine chg_all (B := B) (C := B + by_) (D := t.cnt) (by omega) ?_ t 0 (by omega) (by omega) hB hw hn
    intro n b n0 nB b0 bD
    unfold shF
    split
    · exact tvar_all (by omega) (by omega)
    · exact tvar_all (by omega) (by omega)
theorem sbF_all {B C D k : Int} (s : Tm) (hs : s.vb C) (hw : s.wf) (hn : s.wn) (hk : 0 ≤ k) (n b : Int) (n0 : 0 ≤ n) (nB : n ≤ B) (b0 : 0 ≤ b) (bD : b ≤ D) (hBC : B ≤ C) : (sbF k s n b).vb (C + D) ∧ (sbF k s n b).wf ∧ (sbF k s n b).wn := by
  unfold sbF
  split
  · obtain ⟨a1, a2, a3⟩ := shift_all (B := C) (D := D) b0 s hs hw hn
    exact ⟨vb_mono (by omega) _ a1, a2, a3⟩
  · split
    · exact tvar_all (by omega) (by omega)
    · exact tvar_all (by omega) (by omega)
theorem subst_all {C k : Int} (s t : Tm) (hs : s.vb C) (hw : s.wf) (hn : s.wn) (ht : t.vb C) (htw : t.wf) (htn : t.wn) (hk : 0 ≤ k) : (tsubst k s t).vb (C + t.cnt) ∧ (tsubst k s t).wf ∧ (tsubst k s t).wn :=
  chg_all (B := C) (C := C + t.cnt) (D := t.cnt) (by omega) (fun n b n0 nB b0 bD => sbF_all (B := C) s hs hw hn hk n b n0 nB b0 bD (by omega)) t 0 (by omega) (by omega) ht htw htn
theorem chg_cnt {f : Int → Int → Tm} (hf : ∀ n b, (f n b).cnt = 1) (t : Tm) : ∀ b, t.wf → (chg f t b).cnt = t.cnt := by
  refine (Tm.ind2 (P := fun t => ∀ b, t.wf → (chg f t b).cnt = t.cnt) (Q := fun ts => ∀ k i b, wfs ts → cnts (chgs f k i ts b) = cnts ts) ?_ ?_ ?_).1 t
  · intro k n ks h b hw
    simp only [Tm.wf] at hw
    rw [chg_mk]
    by_cases h1 : k = 1
    · rw [if_pos h1, hf, cnt_mk]
      have : ks = [] := by rw [h1] at hw; simp [arI] at hw; exact List.length_eq_zero_iff.1 (by have := hw.1; omega)
      rw [this]; rfl
    · rw [if_neg h1, cnt_mk, cnt_mk, h k 0 b hw.2]
  · intro k i b _; simp [chgs]
  · intro t ts h1 h2 k i b hw
    simp only [wfs] at hw
    simp only [chgs, cnts]
    rw [h1 _ hw.1, h2 _ _ _ hw.2]
theorem shift_cnt (by_ fr : Int) (t : Tm) (hw : t.wf) : (tshift by_ fr t).cnt = t.cnt := by
  unfold tshift
  split
  · rfl
  · refine chg_cnt ?_ t 0 hw
    intro n b; unfold shF tvar; split <;> simp [Tm.cnt, cnts]
mutual
/-- How often a variable is used. -/
def uses : Tm → Int → Nat
  | .mk k n ks, v => if k = 1 then (if n = v then 1 else 0) else usesAll k 0 ks v
def usesAll (k : Int) : Nat → List Tm → Int → Nat
  | _, [], _ => 0
  | i, t :: ts, v => uses t (v + bindsI k i) + usesAll k (i + 1) ts v
end
theorem uses_mk (k n : Int) (ks : List Tm) (v : Int) : uses (.mk k n ks) v = if k = 1 then (if n = v then 1 else 0) else usesAll k 0 ks v := by simp [uses]
theorem subst_cnt (k : Int) (s : Tm) (hs : s.wf) (t : Tm) : ∀ b, t.wf → (chg (sbF k s) t b).cnt = t.cnt + uses t (k + b) * (s.cnt - 1) := by
  refine (Tm.ind2 (P := fun t => ∀ b, t.wf → (chg (sbF k s) t b).cnt = t.cnt + uses t (k + b) * (s.cnt - 1)) (Q := fun ts => ∀ q i b, wfs ts → cnts (chgs (sbF k s) q i ts b) = cnts ts + usesAll q i ts (k + b) * (s.cnt - 1)) ?_ ?_ ?_).1 t
  · intro q n ks h b hw
    simp only [Tm.wf] at hw
    rw [chg_mk, uses_mk]
    by_cases h1 : q = 1
    · have hn : ks = [] := by rw [h1] at hw; simp [arI] at hw; exact List.length_eq_zero_iff.1 (by have := hw.1; omega)
      rw [if_pos h1, if_pos h1, hn, cnt_mk]
      have := cnt_pos s
      unfold sbF
      by_cases e : n - b = k
      · rw [if_pos e, if_pos (by omega), shift_cnt _ _ _ hs]
        simp [cnts]; omega
      · rw [if_neg e, if_neg (show ¬ n = k + b by omega)]
        split <;> simp [tvar, Tm.cnt, cnts]
    · rw [if_neg h1, if_neg h1, cnt_mk, cnt_mk, h q 0 b hw.2]
      omega
  · intro q i b _; simp [chgs, cnts, usesAll]
  · intro t ts h1 h2 q i b hw
    simp only [wfs] at hw
    simp only [chgs, cnts, usesAll]
    rw [h1 _ hw.1, h2 _ _ _ hw.2, Nat.add_mul, show k + (b + bindsI q i) = k + b + bindsI q i by omega]
    omega
theorem uses_le (t : Tm) : ∀ v, uses t v ≤ t.cnt := by
  refine (Tm.ind2 (P := fun t => ∀ v, uses t v ≤ t.cnt) (Q := fun ts => ∀ k i v, usesAll k i ts v ≤ cnts ts) ?_ ?_ ?_).1 t
  · intro k n ks h v
    rw [uses_mk, cnt_mk]
    split
    · split <;> omega
    · have := h k 0 v; omega
  · intro k i v; simp [usesAll]
  · intro t ts h1 h2 k i v
    simp only [usesAll, cnts]
    have := h1 (v + bindsI k i)
    have := h2 k (i + 1) v
    omega
def goodOfT (t : Tm) : List S66 × Bool := if t.cnt ≤ 600 then (if (tcells t).all cellB = true then (tcells t, true) else ([], false)) else ([], false)
theorem mparse_cells (t : Tm) : ∀ (k : Nat) (r : List S66), t.wf → t.cnt ≤ k → mparse k (tcells t ++ r) = if (tcells t).all cellB = true then some (t, r) else none := by
  refine (Tm.ind2 (P := fun t => ∀ (k : Nat) (r : List S66), t.wf → t.cnt ≤ k → mparse k (tcells t ++ r) = if (tcells t).all cellB = true then some (t, r) else none)
    (Q := fun ts => ∀ (k : Nat) (r : List S66), wfs ts → cnts ts ≤ k → mkids (mparse k) ts.length (lcells ts ++ r) = if (lcells ts).all cellB = true then some (ts, r) else none) ?_ ?_ ?_).1 t
  · intro q n ks h k r hw hk
    simp only [Tm.wf] at hw
    rw [cnt_mk] at hk
    obtain ⟨k, rfl⟩ : ∃ m, k = m + 1 := ⟨k - 1, by omega⟩
    rw [tcells_mk, List.cons_append, List.all_cons]
    simp only [mparse]
    by_cases hb : cellB ⟨q, n⟩ = true
    · rw [if_pos hb]
      rw [hw.1, Int.toNat_natCast, h k r hw.2 (by omega), hb, Bool.true_and]
      cases (lcells ks).all cellB <;> simp
    · rw [if_neg hb, if_neg]
      rw [Bool.and_eq_true]
      exact fun x => hb x.1
  · intro k r _ _; simp [lcells, mkids]
  · intro t ts h1 h2 k r hw hk
    simp only [wfs] at hw
    simp only [cnts] at hk
    have := cnt_pos t
    rw [lcells, List.length_cons, List.append_assoc, List.all_append]
    simp only [mkids]
    rw [h1 k _ hw.1 (by omega)]
    cases (tcells t).all cellB with
    | false => simp
    | true =>
      simp only [if_true, Bool.true_and]
      rw [h2 k r hw.2 (by omega)]
      cases (lcells ts).all cellB <;> simp
theorem tmof_cells (t : Tm) (hw : t.wf) : tmof (tcells t) = if t.cnt ≤ 600 ∧ (tcells t).all cellB = true then some t else none := by
  unfold tmof
  rw [tcells_len]
  by_cases h : t.cnt ≤ 600
  · have := mparse_cells t 601 [] hw (by omega)
    rw [List.append_nil] at this
    rw [if_pos h, this]
    cases (tcells t).all cellB <;> simp [h]
  · rw [if_neg h, if_neg (fun x => h x.1)]
theorem goodOfT_tmof (t : Tm) (hw : t.wf) : goodOfT t = if (tmof (tcells t)).isSome = true then (tcells t, true) else ([], false) := by
  rw [tmof_cells t hw]
  unfold goodOfT
  by_cases h : t.cnt ≤ 600
  · rw [if_pos h]
    cases (tcells t).all cellB <;> simp [h]
  · rw [if_neg h, if_neg (fun x : t.cnt ≤ 600 ∧ (tcells t).all cellB = true => h x.1)]; simp
theorem mkids_vb {f : List S66 → Option (Tm × List S66)} (hf : ∀ l t r, f l = some (t, r) → t.vb 99 ∧ t.cnt + r.length = l.length) : ∀ m l ts r, mkids f m l = some (ts, r) → vbs 99 ts ∧ cnts ts + r.length = l.length := by
  intro m
  induction m with
  | zero => intro l ts r h; simp [mkids] at h; obtain ⟨rfl, rfl⟩ := h; simp [vbs, cnts]
  | succ m ih =>
    intro l ts r h
    simp only [mkids] at h
    cases h1 : f l with
    | none => rw [h1] at h; simp at h
    | some p =>
      obtain ⟨t, r1⟩ := p
      rw [h1] at h
      simp only at h
      cases h2 : mkids f m r1 with
      | none => rw [h2] at h; simp at h
      | some q =>
        obtain ⟨ts', r2⟩ := q
        rw [h2] at h
        simp at h
        obtain ⟨rfl, rfl⟩ := h
        have a := hf _ _ _ h1
        have b := ih _ _ _ h2
        simp only [vbs, cnts]
        exact ⟨⟨a.1, b.1⟩, by omega⟩
theorem mparse_vb : ∀ (k : Nat) (l : List S66) (t : Tm) (r : List S66), mparse k l = some (t, r) → t.vb 99 ∧ t.cnt + r.length = l.length := by
  intro k
  induction k with
  | zero => intro l t r h; simp [mparse] at h
  | succ k ih =>
    intro l t r h
    cases l with
    | nil => simp [mparse] at h
    | cons x l =>
      simp only [mparse] at h
      split at h
      · rename_i hb
        cases h1 : mkids (mparse k) (arI x.f0).toNat l with
        | none => rw [h1] at h; simp at h
        | some p =>
          obtain ⟨ts, r1⟩ := p
          rw [h1] at h
          simp at h
          obtain ⟨rfl, rfl⟩ := h
          have a := mkids_vb ih _ _ _ _ h1
          rw [vb_mk, cnt_mk, List.length_cons]
          refine ⟨⟨fun e => ?_, a.1⟩, by omega⟩
          unfold cellB at hb
          rw [if_pos e] at hb
          simpa using hb
      · simp at h
theorem tmof_vb {l : List S66} {t : Tm} (h : tmof l = some t) : t.vb 99 ∧ t.cnt ≤ 600 := by
  unfold tmof at h
  split at h
  · split at h
    · rename_i h0 _ _ h1
      injection h with h
      subst h
      have := mparse_vb _ _ _ _ h1
      exact ⟨this.1, by have := this.2; simp at this; omega⟩
    · cases h
  · cases h
end Go.Proofs.Ytgoiifpimpnlpaa.PAll

end

section
namespace Go.Proofs.Ytgoiifpimpnlpaa.PAll
open Go.RowKit Go.Proofs.YtgoiifpimpnlpaaW.PrintWords Go.Proofs.YtgoiifpimpnlpaaW.PrintLast Go.Proofs.YtgoiifpimpnlpaaW.PrintMore
set_option linter.unusedVariables false
set_option linter.unusedSimpArgs false
theorem kept_cell {w W : World} {S : Nat → Prop} (h : Kept w W S) {p : Addr} (hn : ¬ S p.block) (hlt : p.block < w.heap.size) : W.cell? p = w.cell? p := by
  simp [World.cell?, h.2 _ hlt hn]
theorem kept_get62 {w : World} {S : Nat → Prop} {A : Option Addr} {n : Nat} {xs : List S62} (h : ∀ W, Kept w W S → Kd.C k62 W A n xs) (i : Int) (h0 : 0 ≤ i) (h1 : i < n) :
    ∃ ad A2 c2, A = some ad ∧ (∀ W, Kept w W S → W.cell? (ad.add (i.toNat * 3)) = some (.int .i64 (rd_T62 xs i).f0) ∧ W.cell? ⟨(ad.add (i.toNat * 3)).block, (ad.add (i.toNat * 3)).off + 1, none⟩ = some (.int .i64 (rd_T62 xs i).f1) ∧ W.cell? ⟨(ad.add (i.toNat * 3)).block, (ad.add (i.toNat * 3)).off + 2, none⟩ = some (.slice A2 (rd_T62 xs i).f2.length c2)) ∧ (rd_T62 xs i).f2.length ≤ c2 ∧ ∀ W, Kept w W S → Kd.C k62 W A2 (rd_T62 xs i).f2.length (rd_T62 xs i).f2 := by
  obtain ⟨ad, A2, c2, rfl, p0, p1, p2, l2, g2⟩ := at_T62 (h w (Kept.refl w S)) i h0 h1
  have hn : ¬ S (ad.add (i.toNat * 3)).block := by
    intro hs
    have hk : Kept w (w.setCell ⟨(ad.add (i.toNat * 3)).block, (ad.add (i.toNat * 3)).off + 1, none⟩ (.pointer none)) S := Kept.setCell (p := ⟨(ad.add (i.toNat * 3)).block, (ad.add (i.toNat * 3)).off + 1, none⟩) (Kept.refl w S) (.inl hs) _
    obtain ⟨ad', A2', c2', he, q0, q1, q2, _⟩ := at_T62 (h _ hk) i h0 h1
    injection he with he
    subst he
    have := World.cell?_setCell_same' w ⟨(ad.add (i.toNat * 3)).block, (ad.add (i.toNat * 3)).off + 1, none⟩ (.pointer none) (by rw [p1]; rfl)
    rw [this] at q1
    cases q1
  have hlt := aa_ w _ p0
  refine ⟨ad, A2, c2, rfl, fun W hW => ⟨(kept_cell hW hn hlt).trans p0, (kept_cell hW (p := ⟨(ad.add (i.toNat * 3)).block, (ad.add (i.toNat * 3)).off + 1, none⟩) hn hlt).trans p1, (kept_cell hW (p := ⟨(ad.add (i.toNat * 3)).block, (ad.add (i.toNat * 3)).off + 2, none⟩) hn hlt).trans p2⟩, l2, fun W hW => ?_⟩
  obtain ⟨ad', A2', c2', he, q0, q1, q2, l2', g2'⟩ := at_T62 (h W hW) i h0 h1
  injection he with he
  subst he
  rw [(kept_cell hW (p := ⟨(ad.add (i.toNat * 3)).block, (ad.add (i.toNat * 3)).off + 2, none⟩) hn hlt).trans p2] at q2
  injection q2 with q2
  injection q2 with qa _ _
  rw [qa]
  exact g2'
theorem info66f : (Try.prog.info? 66).map (fun i => (i.zero, i.size, i.bytes)) = some (some (.agg #[(.int .i64 0), (.int .i64 0)]), 2, 16) := by kernel_rfl
def l3fl (f : Int → Int → List S62 → List S66 → Option (List S66)) : List S62 → List S66 → Option (List S66)
  | [], out => some out
  | x :: l, out => (f x.f0 x.f1 x.f2 out).bind (l3fl f l)
def l3flat : Nat → Int → Int → List S62 → List S66 → Option (List S66)
  | 0, _, _, _, _ => none
  | k + 1, a0, n, l, out => if out.length < 8796093022208 then (if l.length ≤ 1000 then l3fl (l3flat k) l (out ++ [⟨a0, n⟩]) else none) else none
def LFPost (w0 w : World) (P1_ : Nat → Prop) (r : List S66) (e : Ending) (w' : World) : Prop := ∃ v0_ : Value, e = .returned (v0_) ∧ Kd.R k66 66 w' w0.heap.size (fun k_ => (P1_ k_ ∨ w.heap.size ≤ k_)) v0_ r ∧ Below w0.heap.size w0 w' ∧ Kept w w' (fun k_ => P1_ k_)
def FlSt (k : Nat) (l : List S62) (r : List S66) (w0 wb : World) (Q : Nat → Prop) (i : Nat) (wr : World) (v : Value) : Prop :=
  ∃ out, Kd.R k66 66 wr w0.heap.size Q v out ∧ Below w0.heap.size w0 wr ∧ Kept wb wr Q ∧ l3fl (l3flat k) (l.drop i) out = some r
theorem rd62_drop (l : List S62) (i : Nat) (h : i < l.length) : l.drop i = rd_T62 l (i : Int) :: l.drop (i + 1) := by
  rw [List.drop_eq_getElem_cons h]; simp [rd_T62, List.getD_eq_getElem?_getD, List.getElem?_eq_getElem h]
def FlIH (k : Nat) : Prop := ∀ (a0_0 : Int) (a0_1 : Int) (A0_2 : Option Addr) (c0_2 : Nat) (l0_2 : List (S62)) (P1_ : Nat → Prop) (u9000_ : Value) (l1 : List S66) (r : List S66) (w0 w : World), Below w0.heap.size w0 w → (∀ W_, Kept w W_ (fun k_ => P1_ k_) → Kd.C k62 W_ A0_2 l0_2.length l0_2) → l0_2.length ≤ c0_2 → Kd.R k66 66 w w0.heap.size P1_ u9000_ l1 → l3flat k a0_0 a0_1 l0_2 l1 = some r →
    Calls Try.prog 101 #[.agg #[.int .i64 a0_0, .int .i64 a0_1, .slice A0_2 l0_2.length c0_2], u9000_] w (LFPost w0 w P1_ r)
theorem fl_call {k : Nat} {l : List S62} {r : List S66} {w0 wb wr W : World} {Q : Nat → Prop} {i : Nat} {v : Value} {X : Option Addr} {cx : Nat} (ih : FlIH k) (hst : FlSt k l r w0 wb Q i wr v) (hi : i < l.length)
    (hQ : ∀ k, wb.heap.size ≤ k → Q k) (lx : (rd_T62 l (i : Int)).f2.length ≤ cx) (gx : ∀ W, Kept wb W Q → Kd.C k62 W X (rd_T62 l (i : Int)).f2.length (rd_T62 l (i : Int)).f2) (hb : Below wr.heap.size wr W) :
    Calls Try.prog 101 #[.agg #[.int .i64 (rd_T62 l (i : Int)).f0, .int .i64 (rd_T62 l (i : Int)).f1, .slice X (rd_T62 l (i : Int)).f2.length cx], v] W fun e w' => ∃ v2, e = .returned v2 ∧ FlSt k l r w0 wb Q (i + 1) w' v2 := by
  obtain ⟨out, hR, hB, hK, h⟩ := hst
  rw [rd62_drop l i hi] at h
  simp only [l3fl] at h
  obtain ⟨t, h1, h2⟩ := Option.bind_eq_some_iff.mp h
  have hKW : Kept wb W Q := hK.below hb
  refine (ih _ _ X cx _ Q v out t w0 W (ap_ hB hb) (fun W' hW' => gx W' (hKW.then_ hW' (fun k hk => .inl hk))) lx (Kd.R_below hR hb) h1).mono ?_
  rintro e w' ⟨v2, rfl, hR2, hB2, hK2⟩
  exact ⟨v2, rfl, t, Kd.R_mono hR2 (fun k hk => hk.elim id (fun hk => hQ k (Nat.le_trans hKW.1 hk))), hB2, hKW.then_ hK2 (fun k hk => .inl hk), h2⟩
set_option maxHeartbeats 8000000 in
set_option maxRecDepth 100000 in
theorem l3flat_calls (k : Nat) : FlIH k := by
  induction k with
  | zero => intro a0_0 a0_1 A0_2 c0_2 l0_2 P1_ u9000_ l1 r w0 w _ _ _ _ h; simp [l3flat] at h
  | succ k ih =>
    intro a0_0 a0_1 A0_2 c0_2 l0_2 P1_ u9000_ l1 r w0 w hB hr0_2 hc0_2 ho1 h
    simp only [l3flat] at h
    by_cases c3 : l1.length < 8796093022208
    · rw [if_pos c3] at h
      have LMc3 := ab_ c3
      clear c3
      have HR0_2 := ab_ hr0_2
      have HC0_2 := hc0_2
      clear hr0_2 hc0_2
      have HO1 := ab_ (show Kd.R k66 66 w w0.heap.size (fun k_ => (P1_ k_ ∧ k_ < w.heap.size)) u9000_ l1 from Kd.R_mono (Kd.R_bound ho1) (fun k_ hk => ⟨hk.1, hk.2.2.1⟩))
      have HB := ab_ hB
      clear hB ho1
      have IH := Lib.hid ih
      clear ih
      unfold LFPost
      have hlen : l0_2.length ≤ 1000 := by
        split at h
        · assumption
        · cases h
      rw [if_pos hlen] at h
      have H := Lib.hid h
      clear h
      go_enter Try.func101, Try.ntmps101
      go_wp2_with (first
        | ((with_reducible refine gate_dst (N := 2) rfl ?_); refine box_event ?hg (N := 2) ?hd (cs := #[.int .i64 a0_0, .int .i64 a0_1, .slice A0_2 l0_2.length c0_2]) (t := 62) ?hr ?_; (case hd => rfl); (case hg => rfl); (case hr => first | (go_simp; done) | (go_simp; rfl)); intro gb hg w4 hbox hb; have K4 := Lib.hid (Kept.of_below hb (fun k_ => P1_ k_)); have B4 := Lib.hid hb; have HG := Lib.hid hg; have HX := Lib.hid hbox; have HB4 := Lib.hid (ap_ HB.out (show Below w.heap.size w w4 from hb)); have c0 : w4.cell? ⟨gb, 0, none⟩ = some (.int .i64 a0_0) := (an_ hbox 0).trans rfl; have c1 : w4.cell? ⟨gb, 1, none⟩ = some (.int .i64 a0_1) := (an_ hbox 1).trans rfl; clear hb hg hbox)
        | ((with_reducible refine gate_builtin (b := .append) (xs := #[.tmp 7, .tmp 13]) rfl ?_); at_builtin; refine Kd.R_append k66 (w0 := w0) w0.heap.size rfl (.tmp 7) (.tmp 13) 25 66 (.agg #[(.int .i64 0), (.int .i64 0)]) 16 rfl Try.underlying25 info66f rfl (by decide) (by omega) u9000_ l1 (⟨a0_0, a0_1⟩ : S66) [.int .i64 a0_0, .int .i64 a0_1] (fun k_ => (P1_ k_ ∧ k_ < w.heap.size) ∨ w4.heap.size ≤ k_) (fun _ => False) rfl rfl ?aP (fun _ hk => hk.elim) ?aF ?aO ?aB ?aS ?aL ?_; (case aP => exact k66_mkM _ _ _ (⟨a0_0, a0_1⟩ : S66)); (case aB => exact HB4.out); (case aF => exact fun k_ hk => .inr hk); (case aO => exact Kd.R_mono (Kd.R_below HO1.out B4.out) (fun k hk => .inl hk)); (case aS => exact HB4.out.size); (case aL => have := LMc3.out; omega); intro v457 w6 ho hb hg hat; have hne : ¬ ((P1_ gb ∧ gb < w.heap.size) ∨ w4.heap.size ≤ gb) := (by have := HG.out; have := blk_lt HX.out; rintro (h | h) <;> omega); have HKK := Lib.hid (Kept.of_grown (S := (fun k_ => (P1_ k_ ∧ k_ < w.heap.size) ∨ w4.heap.size ≤ k_)) hg (Kept.refl w4 _) (fun k_ e_ => .inl (.inl (HO1.out.1 k_ e_)))); have c26 : w6.cell? ⟨gb, 2, none⟩ = some (.slice A0_2 l0_2.length c0_2) := (kept_cell HKK.out (p := ⟨gb, 2, none⟩) hne (blk_lt HX.out)).trans ((an_ HX.out 2).trans rfl); have HST := Lib.hid (show FlSt k l0_2 r w0 w4 (fun k_ => (P1_ k_ ∧ k_ < w.heap.size) ∨ w4.heap.size ≤ k_) 0 w6 v457 from ⟨_, ho, hb, HKK.out, by simpa using H.out⟩); clear ho hb hg hat hne))
      have KB := Lib.hid (show ∀ W, Kept w4 W (fun k_ => (P1_ k_ ∧ k_ < w.heap.size) ∨ w4.heap.size ≤ k_) → Kept w W (fun k_ => P1_ k_) from fun W hW => K4.out.then_ hW (fun k hk => hk.elim (fun h => .inl h.1) (fun h => .inr (Nat.le_trans K4.out.1 h))))
      clear c0 c1
      go_loopw [1, 6, 18] (fun v1 v6 v18 wr => ∃ i : Nat, i ≤ l0_2.length ∧ v18 = .int .i64 i ∧ FlSt k l0_2 r w0 w4 (fun k_ => (P1_ k_ ∧ k_ < w.heap.size) ∨ w4.heap.size ≤ k_) i wr v1) (fun _ _ v18 _ => l0_2.length - (intOf v18).toNat)
      case atStart => exact ⟨0, Nat.zero_le _, rfl, HST.out⟩
      case round =>
        obtain ⟨i, hi, rfl, hst⟩ := hrel
        clear c26 HST
        have HST := Lib.hid hst
        clear hst
        by_cases hlt : i < l0_2.length
        · obtain ⟨ad, X, cx, hA, fx, lx, gx⟩ := kept_get62 HR0_2.out (i : Int) (by omega) (by omega)
          subst hA
          obtain ⟨out, _, _, hK, _⟩ := HST.out
          have fx' := fx _ (KB.out _ hK)
          obtain ⟨f0, f1, f2⟩ := fx'
          have GX := Lib.hid (show ∀ W, Kept w4 W (fun k_ => (P1_ k_ ∧ k_ < w.heap.size) ∨ w4.heap.size ≤ k_) → Kd.C k62 W X (rd_T62 l0_2 (i : Int)).f2.length (rd_T62 l0_2 (i : Int)).f2 from fun W hW => gx W (KB.out W hW))
          rw [Int.toNat_natCast] at f0 f1 f2
          clear fx gx hK
          go_wp2_with fail
          (refine (fl_call IH.out HST.out hlt (fun k hk => .inr hk) lx GX.out (ai_ (aq_ _ _) _)).mono ?_; rintro e w' ⟨v2, rfl, hst⟩; have HST2 := Lib.hid hst; clear hst)
          go_wp2
          go_roundw
          case rel => exact ⟨i + 1, by omega, by go_num, HST2.out⟩
          case measure => simp [intOf]; omega
        · obtain rfl : i = l0_2.length := by omega
          go_wp2
          go_ret
          obtain ⟨out, hR, hB', hK, hh⟩ := HST.out
          rw [List.drop_eq_nil_of_le (Nat.le_refl _)] at hh
          obtain rfl := Option.some.inj hh
          exact ⟨_, rfl, Kd.R_mono hR (fun k hk => hk.elim (fun h => .inl h.1) (fun h => .inr (Nat.le_trans K4.out.1 h))), hB', KB.out _ hK⟩
    · rw [if_neg c3] at h; cases h
end Go.Proofs.Ytgoiifpimpnlpaa.PAll

end

section
namespace Go.Proofs.Ytgoiifpimpnlpaa.PAll
open Go.RowKit Go.Proofs.YtgoiifpimpnlpaaW.PrintWords Go.Proofs.YtgoiifpimpnlpaaW.PrintLast Go.Proofs.YtgoiifpimpnlpaaW.PrintMore
set_option linter.unusedVariables false
set_option linter.unusedSimpArgs false
theorem binds_calls (k : Int) (i : Nat) (w : World) : Calls Try.prog 128 #[.int .i64 k, .int .i64 i] w fun e w' => e = .returned (.int .i64 (bindsI k i)) ∧ Below w.heap.size w w' := by
  by_cases h3 : k = 3
  · subst h3
    have e : bindsI 3 i = 1 := by simp [bindsI]
    rw [e]
    clear e
    go_enter Try.func128, Try.ntmps128
    go_wp2
    go_ret
    exact ⟨rfl, by repeat (first | exact aq_ _ _ | apply ag_ | apply ah_)⟩
  have b3 : (k == 3) = false := by simp [h3]
  by_cases h7 : k = 7
  · subst h7
    by_cases h1 : i = 1
    · subst h1
      have e : bindsI 7 1 = 1 := by simp [bindsI]
      rw [e]
      clear e
      go_enter Try.func128, Try.ntmps128
      go_wp2
      go_ret
      exact ⟨rfl, by repeat (first | exact aq_ _ _ | apply ag_ | apply ah_)⟩
    · have e : bindsI 7 i = 0 := by simp [bindsI, h1]
      have b1 : ((i : Int) == 1) = false := by simp; omega
      rw [e]
      clear e h1
      go_enter Try.func128, Try.ntmps128
      go_wp2
      go_ret
      exact ⟨rfl, by repeat (first | exact aq_ _ _ | apply ag_ | apply ah_)⟩
  have b7 : (k == 7) = false := by simp [h7]
  have e : bindsI k i = 0 := by simp [bindsI, h3, h7]
  rw [e]
  clear e h3 h7
  go_enter Try.func128, Try.ntmps128
  go_wp2
  go_ret
  exact ⟨rfl, by repeat (first | exact aq_ _ _ | apply ag_ | apply ah_)⟩
def PPost (S : Nat → Prop) (t : Tm) (w : World) (e : Ending) (w' : World) : Prop := ∃ r, e = .returned (ptr r) ∧ TAt S w' r t ∧ Below w.heap.size w w'
theorem PPost.lower {S : Nat → Prop} {t : Tm} {w w1 : World} (hb : Below w.heap.size w w1) {e : Ending} {w' : World} (h : PPost S t w1 e w') : PPost S t w e w' := by
  obtain ⟨r, he, ht, hb1⟩ := h
  exact ⟨r, he, ht, ap_ hb hb1⟩
def Clo2 (fn p q : Nat) (f : Int → Int → Tm) (w0 : World) (B D : Int) (T : Nat → Prop) : Prop := ∀ (n b : Int) (S : Nat → Prop) (g : Nat) (W : World), 0 ≤ n → n ≤ B → 0 ≤ b → b ≤ D → Below w0.heap.size w0 W → (∀ k, T k → S k) → (∀ k, W.heap.size ≤ k → S k) → TAt S W g (tvar n) →
  Calls Try.prog fn #[ptr g, .int .i64 b, ptr p, ptr q] W (PPost S (f n b) W)
def MidC (f : Int → Int → Tm) (k bnd : Int) (ks : List Tm) (b : Nat) (S : Nat → Prop) (w wr : World) (j : Nat) : Prop :=
  ∃ (gs : List Nat) (arr : Array Value), wr.heap[b]? = some (.cells arr 69 (0, 0)) ∧ arr.size = ks.length ∧ (∀ i p : Nat, gs[i]? = some p → arr[i]? = some (ptr p)) ∧ LAt (fun q => S q ∧ q ≠ b) wr gs (chgs f k 0 (ks.take j) bnd) ∧ Below w.heap.size w wr
theorem MidC_step {f : Int → Int → Tm} {k bnd : Int} {ks : List Tm} {b : Nat} {S : Nat → Prop} {w wr w2 : World} {j : Nat} {t : Tm} {gs : List Nat} {arr : Array Value} {g : Nat} (ht : ks[j]? = some t) (hblk : wr.heap[b]? = some (.cells arr 69 (0, 0))) (hsz : arr.size = ks.length) (harr : ∀ i p : Nat, gs[i]? = some p → arr[i]? = some (ptr p)) (hL : LAt (fun q => S q ∧ q ≠ b) wr gs (chgs f k 0 (ks.take j) bnd)) (hBw : Below w.heap.size w wr) (hwb : w.heap.size ≤ b) (hb2 : Below wr.heap.size wr w2) (hT : TAt (fun q => S q ∧ q ≠ b) w2 g (chg f t (bnd + bindsI k j))) :
    MidC f k bnd ks b S w (w2.setCell ⟨b, j, none⟩ (ptr g)) (j + 1) := by
  have hblt := blk_lt hblk
  have hgl := hL.length
  have hj : j < ks.length := by
    rcases Nat.lt_or_ge j ks.length with h | h
    · exact h
    · rw [List.getElem?_eq_none h] at ht; cases ht
  rw [chgs_len, List.length_take, Nat.min_eq_left (by omega)] at hgl
  have hset : ∀ q, (S q ∧ q ≠ b) → q < w2.heap.size → (w2.setCell ⟨b, j, none⟩ (ptr g)).heap[q]? = w2.heap[q]? := fun q h _ => Below.heap_setCell w2 ⟨b, j, none⟩ _ q (by simpa using h.2)
  refine ⟨gs ++ [g], arr.setIfInBounds j (ptr g), blk_set ((hb2.block b hblt).trans hblk) j _, by simpa using hsz, ?_, ?_, af_ (below_then hBw hBw.size hb2) hwb⟩
  · intro i p hp
    by_cases hi : i < gs.length
    · rw [List.getElem?_append_left hi] at hp
      rw [Array.getElem?_setIfInBounds_ne (by omega)]
      exact harr i p hp
    · rw [List.getElem?_append_right (by omega)] at hp
      have e : i - gs.length = 0 := by
        rcases Nat.eq_zero_or_pos (i - gs.length) with h | h
        · exact h
        · rw [List.getElem?_eq_none (by simp; omega)] at hp; cases hp
      rw [e] at hp
      simp at hp
      subst hp
      obtain rfl : i = j := by omega
      rw [Array.getElem?_setIfInBounds_self_of_lt (by omega)]
  · rw [chgs_take_succ f k bnd ks 0 j t ht, Nat.zero_add]
    exact LAt.snoc (LAt.step hset (fun _ h _ => h) (hL.below hb2)) (TAt.step hset (fun _ h _ => h) hT)
set_option maxRecDepth 100000 in
set_option maxHeartbeats 2000000 in
theorem change_calls (fn p q : Nat) (f : Int → Int → Tm) (w0 : World) (B D : Int) (hD : D ≤ 1000000000000) (hen : ∀ args W, (callFunc fn args).run Try.prog W = .ok (.enter fn args) W) (T : Nat → Prop) (hTT : ∀ k, T k → k < w0.heap.size) (hf : Clo2 fn p q f w0 B D T) (t : Tm) :
    ∀ (S : Nat → Prop) (g : Nat) (w : World) (bnd : Int), 0 ≤ bnd → bnd + t.cnt ≤ D → t.vb B → t.wf → Below w0.heap.size w0 w → (∀ k, T k → S k) → (∀ k, w.heap.size ≤ k → S k) → TAt S w g t →
    Calls Try.prog 102 #[ptr g, .int .i64 bnd, .func (.func fn) #[] #[ptr p, ptr q]] w (PPost S (chg f t bnd) w) := by
  have HF := Lib.hid hf
  clear hf
  induction t using Tm.ind with
  | h k n ks ih =>
  intro S g w bnd hb0 hbD hv hw hW hS0 hS1 hT
  rw [vb_mk] at hv
  rw [cnt_mk] at hbD
  rw [chg_mk]
  simp only [Tm.wf] at hw
  obtain ⟨hk, hws⟩ := hw
  obtain ⟨A, c, gs, hc, c0, c1, c2, c3, hrow, hl⟩ := hT.cells
  have HTT := Lib.hid hT
  have HS0 := Lib.hid hS0
  have HS1 := Lib.hid hS1
  clear hT hS0 hS1
  by_cases h1 : k = 1
  · rw [if_pos h1]
    have hks : ks = [] := by rw [h1] at hk; simp [arI] at hk; exact List.length_eq_zero_iff.1 (by omega)
    subst h1 hks
    have hv1 := hv.1 rfl
    obtain ⟨n0, nB⟩ := hv1
    have C := Lib.hid (HF.out n bnd S g w n0 nB hb0 (by omega) hW HS0.out HS1.out HTT.out)
    unfold ptr at C ⊢
    clear hv hk hws hrow hl ih HTT HF
    go_enter Try.func102, Try.ntmps102
    go_wp2_with ((with_reducible refine C.out.mono ?_); rintro e w' ⟨r, rfl, hr, hb⟩; have HR := Lib.hid hr; clear hr; unfold ptr)
    go_ret
    exact ⟨r, rfl, HR.out, hb⟩
  rw [if_neg h1]
  have b1 : (k == 1) = false := by simp [h1]
  have hv := hv.2
  clear h1
  rcases Nat.eq_zero_or_pos ks.length with h0 | hpos
  · obtain rfl := List.length_eq_zero_iff.1 h0
    simp only [chgs]
    unfold ptr
    have c2 : w.cell? ⟨g, 2, none⟩ = some (.slice A 0 c) := c2
    clear hk hws hrow hl ih HF hv h0
    go_enter Try.func102, Try.ntmps102
    go_wp2
    go_ret
    exact ⟨g, rfl, HTT.out, aq_ _ _⟩
  ·
    have hk3 : ks.length ≤ 3 := by have := arI_bd k; omega
    have bl : ((ks.length : Int) == 0) = false := by rw [beq_eq_false_iff_ne]; omega
    have hmk : ∀ W, (Instr.makeSlice 78 (.int .i64 (ks.length : Int)) (.int .i64 (ks.length : Int))).run Try.prog W = .ok (.slice (some ⟨W.heap.size, 0, none⟩) ks.length ks.length) (W.alloc (.cells (madeCells #[.pointer none] ks.length) 69)) := run_make_row' 78 69 (.pointer none) 8 Try.underlying78 info69 rfl .i64 .i64 ks.length (by omega) (by omega)
    have k2 : ∀ o, (w.alloc o).cell? ⟨g, 2, none⟩ = some (.slice A ks.length c) := fun o => (World.cell?_alloc_lt _ _ _ (aa_ w _ c2)).trans c2
    have IH := Lib.hid ih
    have HWS := Lib.hid hws
    have HV := Lib.hid hv
    have HROW := Lib.hid hrow
    have HL := Lib.hid hl
    have HW := Lib.hid hW
    clear ih hws hv hrow hl hk hW
    unfold ptr
    go_enter Try.func102, Try.ntmps102
    go_wp2
    obtain ⟨b, hbb⟩ : ∃ b, b = w.heap.size := ⟨_, rfl⟩
    rw [← hbb]
    have hwb : w.heap.size ≤ b := by omega
    have hM : MidC f k bnd ks b S w (w.alloc (.cells (madeCells #[.pointer none] ks.length) 69)) 0 := ⟨[], madeCells #[.pointer none] ks.length, by rw [hbb]; exact blk_new w _, size_madeCells _ _, by simp, by simp [chgs, LAt], ai_ (aq_ _ _) _⟩
    have HM := Lib.hid hM
    have HBB := Lib.hid hbb
    clear hM hbb hmk k2
    go_loopw [8, 9, 37] (fun v8 v9 v37 wr => ∃ j : Nat, j ≤ ks.length ∧ v37 = .int .i64 j ∧ MidC f k bnd ks b S w wr j) (fun _ _ v37 _ => ks.length - (intOf v37).toNat)
    case atStart => exact ⟨0, Nat.zero_le _, rfl, HM.out⟩
    case round =>
      obtain ⟨j, hj, rfl, gs2, arr, hblk, hsz, harr, hL2, hBw⟩ := hrel
      clear HM
      have hblt := blk_lt hblk
      have d0 : wr.cell? ⟨g, 0, none⟩ = some (.int .i64 k) := (hBw.cell (aa_ w _ c0)).trans c0
      have d1 : wr.cell? ⟨g, 1, none⟩ = some (.int .i64 n) := (hBw.cell (aa_ w _ c1)).trans c1
      by_cases hlt : j < ks.length
      · obtain ⟨t, ht⟩ : ∃ t, ks[j]? = some t := ⟨ks[j], by simp [hlt]⟩
        have hmem := List.mem_of_getElem? ht
        obtain ⟨qg, hqg, hTq⟩ := LAt.get HL.out ht
        obtain ⟨ad, rfl, hSa, hcell⟩ := HROW.out j qg hqg
        have hcell := (hBw.cell (aa_ w _ hcell)).trans hcell
        have hcnt := cnt_mem hmem
        have hbi := bindsI_bd k j
        have hTs : TAt (fun x => S x ∧ x ≠ b) wr qg t := TAt.step (fun x _ hx => hBw.block x hx) (fun x hx hlt => ⟨hx, by omega⟩) hTq
        have C := Lib.hid (fun (W : World) (hb2 : Below wr.heap.size wr W) => IH.out t hmem (fun x => S x ∧ x ≠ b) qg W (bnd + bindsI k j) (by omega) (by omega) (vbs_get HV.out t hmem) (wfs_get HWS.out t hmem) (ap_ HW.out (ap_ hBw hb2)) (fun x hx => ⟨HS0.out x hx, by have := HW.out.size; have := hTT x hx; omega⟩) (fun x hx => ⟨HS1.out x (by have := hBw.size; have := hb2.size; omega), by have := hb2.size; omega⟩) (hTs.below hb2))
        have HX := Lib.hid ht
        have HBLK := Lib.hid hblk
        have HSZ := Lib.hid hsz
        have HARR := Lib.hid harr
        have HL2 := Lib.hid hL2
        obtain ⟨old, hold⟩ : ∃ old, arr[j]? = some old := ⟨arr[j]'(by have := HSZ.out; omega), by have := HSZ.out; simp⟩
        have HOLD := Lib.hid hold
        have HBW := Lib.hid hBw
        unfold ptr at hcell C
        clear ht hblk hsz harr hL2 hold hTs hTq hqg hSa hmem hBw
        go_wp2_with fail
        refine (binds_calls k j _).mono ?_
        rintro e w1 ⟨rfl, hb1⟩
        have HB1 := Lib.hid hb1
        clear hb1
        go_wp2_with fail
        refine (C.out w1 HB1.out).mono ?_
        rintro e w2 ⟨r, rfl, hr, hb2⟩
        have HR := Lib.hid hr
        have HB2 := Lib.hid (ap_ HB1.out hb2)
        have hk2 : w2.cell? ⟨b, j, none⟩ = some old := (an_ ((HB2.out.block b hblt).trans HBLK.out) j).trans HOLD.out
        have hf2 : w2.frozen? ⟨b, j, none⟩ = false := am_ ((HB2.out.block b hblt).trans HBLK.out) j
        clear hr hb2
        unfold ptr
        go_wp2
        go_roundw
        case rel => exact ⟨j + 1, by omega, by go_num, MidC_step HX.out HBLK.out HSZ.out HARR.out HL2.out HBW.out hwb HB2.out HR.out⟩
        case measure => simp [intOf]; omega
      · obtain rfl : j = ks.length := by omega
        rw [List.take_length] at hL2
        have hrow2 : PtrRow S wr (some ⟨b, 0, none⟩) gs2 := fun i x hx => ⟨⟨b, 0, none⟩, rfl, HS1.out _ hwb, by rw [add_plain]; exact (an_ hblk i).trans (harr i x hx)⟩
        have hL3 : LAt S wr gs2 (chgs f k 0 ks bnd) := LAt.step (fun _ _ _ => rfl) (fun x hx _ => hx.1) hL2
        have hlen := chgs_len f k bnd ks 0
        have N := Lib.hid (fun (W : World) (hb2 : Below wr.heap.size wr W) => newTerm_calls S k n (chgs f k 0 ks bnd) (some ⟨b, 0, none⟩) ks.length gs2 W (by omega) (by omega) (hrow2.below hb2) (hL3.below hb2) (fun x hx => HS1.out x (by have := hBw.size; have := hb2.size; omega)))
        rw [hlen] at N
        have HBW := Lib.hid hBw
        clear hL2 hL3 hrow2 harr hblk hsz hlen hBw
        go_wp2
        go_region_with (go_at_call 93; (with_reducible refine (N.out _ (by repeat (first | exact aq_ _ _ | apply ag_ | apply ah_))).mono ?_); rintro e w3 ⟨r, rfl, hg, hT, hb3⟩; have HR := Lib.hid hT; have HB3 := Lib.hid (ap_ HBW.out (ap_ (show Below wr.heap.size wr _ from by repeat (first | exact aq_ _ _ | apply ag_ | apply ah_)) hb3)); clear hT hb3 hg; unfold ptr)
        all_goals go_wp2
        all_goals go_ret
        all_goals exact ⟨r, rfl, HR.out, HB3.out⟩
end Go.Proofs.Ytgoiifpimpnlpaa.PAll

end

section
namespace Go.Proofs.Ytgoiifpimpnlpaa.PAll
open Go.RowKit Go.Proofs.YtgoiifpimpnlpaaW.PrintWords Go.Proofs.YtgoiifpimpnlpaaW.PrintLast Go.Proofs.YtgoiifpimpnlpaaW.PrintMore
set_option linter.unusedVariables false
set_option linter.unusedSimpArgs false
theorem newLeaf_calls (S : Nat → Prop) (k n : Int) (w : World) (hS : ∀ k, w.heap.size ≤ k → S k) : Calls Try.prog 93 #[.int .i64 k, .int .i64 n, .slice none 0 0] w (PPost S (.mk k n []) w) := by
  refine (newTerm_calls S k n [] none 0 [] w (by simp) (by simp) (fun i p h => by simp at h) (by simp [LAt]) hS).mono ?_
  rintro e w' ⟨g, rfl, _, hT, hb⟩
  exact ⟨g, rfl, hT, hb⟩
set_option maxRecDepth 100000 in
set_option maxHeartbeats 1000000 in
theorem clo129 (p q : Nat) (by_ fr B D : Int) (w0 : World) (hp : w0.heap[p]? = some (.cells #[.int .i64 fr] 3 (0, 0))) (hq : w0.heap[q]? = some (.cells #[.int .i64 by_] 3 (0, 0))) (h0 : 0 ≤ by_) (h1 : by_ ≤ 1000000000000) (hB : B ≤ 1000000000000) (hD : D ≤ 1000000000000) : Clo2 129 p q (shF by_ fr) w0 B D (fun _ => False) := by
  intro n b S g W n0 nB b0 bD hW hS0 hS1 hT
  have HT := Lib.hid hT
  unfold tvar at hT
  obtain ⟨A, c, gs, hc, c0, c1, c2, c3, hrow, hl⟩ := hT.cells
  have cp : W.cell? ⟨p, 0, none⟩ = some (.int .i64 fr) := (an_ ((hW.block p (blk_lt hp)).trans hp) 0).trans rfl
  have cq : W.cell? ⟨q, 0, none⟩ = some (.int .i64 by_) := (an_ ((hW.block q (blk_lt hq)).trans hq) 0).trans rfl
  unfold shF
  unfold ptr
  clear hT hrow hl hp hq hW
  by_cases hlt : n - b < fr
  · rw [if_pos hlt]
    have d1 : decide (n - b < fr) = true := ao_ hlt
    clear hlt hS1
    go_enter Try.func129, Try.ntmps129
    go_wp2
    go_quiet (fail)
    all_goals go_wp2
    all_goals go_ret
    all_goals exact ⟨g, rfl, by first | exact HT.out | exact HT.out.below (by repeat (first | exact aq_ _ _ | apply ag_ | apply ah_)), by repeat (first | exact aq_ _ _ | apply ag_ | apply ah_)⟩
  · rw [if_neg hlt]
    have d1 : decide (n - b < fr) = false := decide_eq_false hlt
    have N := Lib.hid (fun (W' : World) (hb2 : Below W.heap.size W W') => newLeaf_calls S 1 (n + by_) W' (fun x hx => hS1 x (by have := hb2.size; omega)))
    have hwr : IntKind.i64.wrap (n + by_) = n + by_ := by rw [IntKind.wrap_i64]; omega
    clear hlt hS1
    go_enter Try.func129, Try.ntmps129
    go_wp2
    go_quiet (fail)
    all_goals go_wp2
    all_goals go_region_with (go_at_call 93; (try rw [hwr]); (with_reducible refine (N.out _ (by repeat (first | exact aq_ _ _ | apply ag_ | apply ah_))).mono ?_); rintro e w3 hpost; obtain ⟨r, rfl, hr, hb3⟩ := PPost.lower (show Below W.heap.size W _ from by repeat (first | exact aq_ _ _ | apply ag_ | apply ah_)) hpost; have HR := Lib.hid hr; have HB3 := Lib.hid hb3; clear hpost hr hb3; unfold ptr)
    all_goals go_wp2
    all_goals go_ret
    all_goals exact ⟨r, rfl, HR.out, HB3.out⟩
theorem enters129 : ∀ args W, (callFunc 129 args).run Try.prog W = .ok (.enter 129 args) W := fun args W => enters_ (P := Try.prog) (f := 129) Try.func129 (by kernel_rfl) rfl args W
theorem enters103 : ∀ args W, (callFunc 103 args).run Try.prog W = .ok (.enter 103 args) W := fun args W => enters_ (P := Try.prog) (f := 103) Try.func103 (by kernel_rfl) rfl args W
set_option maxRecDepth 100000 in
set_option maxHeartbeats 1000000 in
theorem shift_calls (S : Nat → Prop) (B by_ : Int) (t : Tm) (g : Nat) (w : World) (h0 : 0 ≤ by_) (h1 : by_ ≤ 1000000000000) (hB : B ≤ 1000000000000) (hD : t.cnt ≤ 1000000000000) (hv : t.vb B) (hw : t.wf) (hS : ∀ k, w.heap.size ≤ k → S k) (hT : TAt S w g t) :
    Calls Try.prog 104 #[ptr g, .int .i64 by_, .int .i64 0] w (PPost S (tshift by_ 0 t) w) := by
  unfold tshift
  have HT := Lib.hid hT
  clear hT
  unfold ptr
  by_cases hz : by_ = 0
  · rw [if_pos hz]
    subst hz
    go_enter Try.func104, Try.ntmps104
    go_wp2
    go_ret
    exact ⟨g, rfl, HT.out.below (by repeat (first | exact aq_ _ _ | apply ag_ | apply ah_ | apply ai_)), by repeat (first | exact aq_ _ _ | apply ag_ | apply ah_ | apply ai_)⟩
  · rw [if_neg hz]
    have bz : (by_ == 0) = false := by rw [beq_eq_false_iff_ne]; exact hz
    have C := Lib.hid (change_calls 129 (w.heap.size + 1) w.heap.size (shF by_ 0) ((w.alloc (.cells #[.int .i64 by_] 3)).alloc (.cells #[.int .i64 0] 3)) B t.cnt (by omega) enters129 (fun _ => False) (fun _ h => h.elim)
      (clo129 _ _ _ _ _ _ _ (by simpa using blk_new (w.alloc (.cells #[.int .i64 by_] 3)) (.cells #[.int .i64 0] 3)) (ad_ (blk_new w _) _) h0 h1 hB (by omega)) t S g ((w.alloc (.cells #[.int .i64 by_] 3)).alloc (.cells #[.int .i64 0] 3)) 0 (by omega) (by omega) hv hw (aq_ _ _) (fun _ h => h.elim) (fun k hk => hS k (by simp at hk; omega)) (HT.out.below (by repeat (first | exact aq_ _ _ | apply ai_))))
    clear hz hS hv hw
    unfold ptr at C
    go_enter Try.func104, Try.ntmps104
    go_wp2_with (go_at_call 102; (with_reducible refine C.out.mono ?_); rintro e w3 hpost; obtain ⟨r, rfl, hr, hb3⟩ := PPost.lower (show Below w.heap.size w _ from by repeat (first | exact aq_ _ _ | apply ai_)) hpost; have HR := Lib.hid hr; have HB3 := Lib.hid hb3; clear hpost hr hb3; unfold ptr)
    go_ret
    exact ⟨r, rfl, HR.out, HB3.out⟩
set_option maxRecDepth 100000 in
set_option maxHeartbeats 1000000 in
theorem clo103 (p q : Nat) (k B D : Int) (s : Tm) (gs : Nat) (T : Nat → Prop) (w0 : World) (hp : w0.heap[p]? = some (.cells #[.int .i64 k] 3 (0, 0))) (hq : w0.heap[q]? = some (.cells #[ptr gs] 69 (0, 0))) (hs : TAt T w0 gs s) (hB : B ≤ 1000000000000) (hD : D ≤ 1000000000000) (hC : s.cnt ≤ 1000000000000) (hsv : s.vb B) (hsw : s.wf) : Clo2 103 p q (sbF k s) w0 B D T := by
  intro n b S g W n0 nB b0 bD hW hS0 hS1 hT
  have HT := Lib.hid hT
  unfold tvar at hT
  obtain ⟨A, c, gs', hc, c0, c1, c2, c3, hrow, hl⟩ := hT.cells
  have cp : W.cell? ⟨p, 0, none⟩ = some (.int .i64 k) := (an_ ((hW.block p (blk_lt hp)).trans hp) 0).trans rfl
  have cq : W.cell? ⟨q, 0, none⟩ = some (.pointer (some ⟨gs, 0, none⟩)) := (an_ ((hW.block q (blk_lt hq)).trans hq) 0).trans rfl
  have hsW : TAt S W gs s := TAt.step (fun x _ hx => hW.block x hx) (fun x hx _ => hS0 x hx) hs
  have C := Lib.hid (fun (W' : World) (hb2 : Below W.heap.size W W') => shift_calls S B b s gs W' b0 (by omega) hB hC hsv hsw (fun x hx => hS1 x (by have := hb2.size; omega)) (hsW.below hb2))
  have N := Lib.hid (fun (W' : World) (hb2 : Below W.heap.size W W') => newLeaf_calls S 1 (n - 1) W' (fun x hx => hS1 x (by have := hb2.size; omega)))
  unfold sbF
  unfold ptr at C ⊢
  clear hT hrow hl hp hq hW hs hsW hS0 hS1 hsv hsw
  by_cases he : n - b = k
  · rw [if_pos he]
    have d1 : (n - b == k) = true := by rw [beq_iff_eq]; exact he
    clear he
    go_enter Try.func103, Try.ntmps103
    go_wp2
    go_quiet (fail)
    all_goals go_wp2_with (go_at_call 104; (with_reducible refine (C.out _ (by repeat (first | exact aq_ _ _ | apply ag_ | apply ah_))).mono ?_); rintro e w3 hpost; obtain ⟨r, rfl, hr, hb3⟩ := PPost.lower (show Below W.heap.size W _ from by repeat (first | exact aq_ _ _ | apply ag_ | apply ah_)) hpost; have HR := Lib.hid hr; have HB3 := Lib.hid hb3; clear hpost hr hb3; unfold ptr)
    all_goals go_ret
    all_goals exact ⟨r, rfl, HR.out, HB3.out⟩
  · rw [if_neg he]
    have d1 : (n - b == k) = false := by rw [beq_eq_false_iff_ne]; exact he
    clear he
    by_cases hg : n - b > k
    · rw [if_pos hg]
      have d2 : decide (k < n - b) = true := ao_ hg
      clear hg
      go_enter Try.func103, Try.ntmps103
      go_wp2
      go_quiet (fail)
      all_goals go_wp2
      all_goals go_quiet (fail)
      all_goals go_wp2_with (go_at_call 93; (with_reducible refine (N.out _ (by repeat (first | exact aq_ _ _ | apply ag_ | apply ah_))).mono ?_); rintro e w3 hpost; obtain ⟨r, rfl, hr, hb3⟩ := PPost.lower (show Below W.heap.size W _ from by repeat (first | exact aq_ _ _ | apply ag_ | apply ah_)) hpost; have HR := Lib.hid hr; have HB3 := Lib.hid hb3; clear hpost hr hb3; unfold ptr)
      all_goals go_ret
      all_goals exact ⟨r, rfl, HR.out, HB3.out⟩
    · rw [if_neg hg]
      have d2 : decide (k < n - b) = false := decide_eq_false hg
      clear hg
      go_enter Try.func103, Try.ntmps103
      go_wp2
      go_quiet (fail)
      all_goals go_wp2
      all_goals go_quiet (fail)
      all_goals go_wp2
      all_goals go_ret
      all_goals exact ⟨g, rfl, by first | exact HT.out | exact HT.out.below (by repeat (first | exact aq_ _ _ | apply ag_ | apply ah_)), by repeat (first | exact aq_ _ _ | apply ag_ | apply ah_)⟩
set_option maxRecDepth 100000 in
set_option maxHeartbeats 1000000 in
theorem subst_calls (S : Nat → Prop) (B k : Int) (t s : Tm) (g gs : Nat) (w : World) (hk : -1 ≤ k) (hk1 : k ≤ 1000) (hB : B ≤ 1000000000000) (hD : t.cnt ≤ 1000000000000) (hv : t.vb B) (hw : t.wf) (hC : s.cnt ≤ 1000000000000) (hsv : s.vb B) (hsw : s.wf) (hS : ∀ k, w.heap.size ≤ k → S k) (hT : TAt S w g t) (hs : TAt S w gs s) :
    Calls Try.prog 62 #[ptr g, .int .i64 k, ptr gs] w (PPost S (tsubst k s t) w) := by
  unfold tsubst
  have hs2 : TAt (fun x => S x ∧ x < w.heap.size) ((w.alloc (.cells #[.int .i64 k] 3)).alloc (.cells #[ptr gs] 69)) gs s := TAt.step (fun x _ hx => (show Below w.heap.size w ((w.alloc (.cells #[.int .i64 k] 3)).alloc (.cells #[ptr gs] 69)) from by repeat (first | exact aq_ _ _ | apply ai_)).block x hx) (fun x h hx => ⟨h, hx⟩) hs
  have C := Lib.hid (change_calls 103 w.heap.size (w.heap.size + 1) (sbF k s) ((w.alloc (.cells #[.int .i64 k] 3)).alloc (.cells #[ptr gs] 69)) B t.cnt (by omega) enters103 (fun x => S x ∧ x < w.heap.size) (fun x h => by simp; omega)
      (clo103 _ _ _ _ _ _ gs _ _ (ad_ (blk_new w _) _) (by simpa using blk_new (w.alloc (.cells #[.int .i64 k] 3)) (.cells #[ptr gs] 69)) hs2 hB (by omega) hC hsv hsw) t S g ((w.alloc (.cells #[.int .i64 k] 3)).alloc (.cells #[ptr gs] 69)) 0 (by omega) (by omega) hv hw (aq_ _ _) (fun x h => h.1) (fun k hk => hS k (by simp at hk; omega)) (hT.below (by repeat (first | exact aq_ _ _ | apply ai_))))
  clear hs2 hs hT hS hv hw hsv hsw
  unfold ptr at C ⊢
  go_enter Try.func62, Try.ntmps62
  go_wp2_with (go_at_call 102; (with_reducible refine C.out.mono ?_); rintro e w3 hpost; obtain ⟨r, rfl, hr, hb3⟩ := PPost.lower (show Below w.heap.size w _ from by repeat (first | exact aq_ _ _ | apply ai_)) hpost; have HR := Lib.hid hr; have HB3 := Lib.hid hb3; clear hpost hr hb3; unfold ptr)
  go_ret
  exact ⟨r, rfl, HR.out, HB3.out⟩
end Go.Proofs.Ytgoiifpimpnlpaa.PAll

end

section
namespace Go.Proofs.Ytgoiifpimpnlpaa.PAll
open Go.RowKit Go.Proofs.YtgoiifpimpnlpaaW.PrintWords Go.Proofs.YtgoiifpimpnlpaaW.PrintLast Go.Proofs.YtgoiifpimpnlpaaW.PrintMore
set_option linter.unusedVariables false
set_option linter.unusedSimpArgs false
theorem TAt.keepB {B : Nat} {w w1 : World} {t : Tm} {g : Nat} (h : TAt (fun x => x < B) w g t) (hb : Below B w w1) : TAt (fun x => x < B) w1 g t := TAt.step (fun x hx _ => hb.block x hx) (fun _ h _ => h) h
theorem LAt.keepB {B : Nat} {w w1 : World} {ts : List Tm} {gs : List Nat} (h : LAt (fun x => x < B) w gs ts) (hb : Below B w w1) : LAt (fun x => x < B) w1 gs ts := LAt.step (fun x hx _ => hb.block x hx) (fun _ h _ => h) h
theorem TAt.belowB {S : Nat → Prop} {w : World} {t : Tm} {g : Nat} (h : TAt S w g t) : TAt (fun x => x < w.heap.size) w g t := TAt.step (fun _ _ _ => rfl) (fun _ _ h => h) h
set_option maxRecDepth 100000 in
set_option maxHeartbeats 2000000 in
theorem cells_calls (B : Nat) (t : Tm) : ∀ (g : Nat) (u : Value) (l : List S66) (w : World), t.wf → TAt (fun x => x < B) w g t → B ≤ w.heap.size → Kd.R k66 66 w B (fun _ => True) u l → (l.length + t.cnt) * 16 ≤ 140737488355328 →
    Calls Try.prog 105 #[ptr g, u] w fun e w' => ∃ v, e = .returned v ∧ Kd.R k66 66 w' B (fun _ => True) v (l ++ tcells t) ∧ Below B w w' := by
  induction t using Tm.ind with
  | h k n ks ih =>
  intro g u l w hw hT hB hu hl
  rw [cnt_mk] at hl
  simp only [Tm.wf] at hw
  obtain ⟨hk, hws⟩ := hw
  have hk3 : ks.length ≤ 3 := by have := arI_bd k; omega
  have hTT := hT
  simp only [TAt] at hTT
  obtain ⟨_, _, _, hlt, _⟩ := hTT
  obtain ⟨A, c, gs, hc, c0, c1, c2, c3, hrow, hl2⟩ := hT.cells
  have HU := Lib.hid hu
  have HL := Lib.hid hl
  have HL0 : Hid ((l.length + 1) * 16 ≤ 140737488355328) := Lib.hid (by omega)
  have HK := Lib.hid hl2
  have HROW := Lib.hid hrow
  have IH := Lib.hid ih
  have HWS := Lib.hid hws
  clear hu hl hl2 hrow ih hws hk hT
  unfold ptr
  go_enter Try.func105, Try.ntmps105
  go_wp2
  go_region_law (refine Kd.R_append_step k66 (w0 := w) (W := w.drew) B (by first | rfl | simp) (.tmp 7) (.tmp 17) 25 66 (.agg #[(.int .i64 0), (.int .i64 0)]) 16 (by rfl) Try.underlying25 info66' rfl (by decide) (by omega) u l (⟨k, n⟩ : S66) [.int .i64 k, .int .i64 n] (fun _ => True) (fun _ => False) (by simp [Act.eval, Act.put]) (by simp [Act.eval, Act.put]) (k66_mkM _ _ _ _) (fun _ h => h.elim) (fun _ _ => trivial) (Kd.R_drew HU.out) (by repeat (first | exact aq_ _ _ | apply ah_)) hB HL0.out ?_; intro v1 w1 hu1 hb1 _ _; have c21 : w1.cell? ⟨g, 2, none⟩ = some (.slice A ks.length c) := (hb1.cell (p := ⟨g, 2, none⟩) hlt).trans c2; have HU1 := Lib.hid hu1; have HB1 := Lib.hid hb1; clear hu1 hb1)
  all_goals go_wp2
  all_goals
    have hs1 : B ≤ w1.heap.size := Nat.le_trans hB HB1.out.size
    go_loopw [1, 6, 24] (fun v1 v6 v24 wr => ∃ i : Nat, i ≤ ks.length ∧ v24 = .int .i64 i ∧ Kd.R k66 66 wr B (fun _ => True) v1 ((l ++ [⟨k, n⟩]) ++ lcells (ks.take i)) ∧ Below B w wr) (fun _ _ v24 _ => ks.length - (intOf v24).toNat)
    case atStart => exact ⟨0, Nat.zero_le _, rfl, by simpa [lcells] using HU1.out, HB1.out⟩
    case round =>
      obtain ⟨i, hi, rfl, hR, hBw⟩ := hrel
      have HR := Lib.hid hR
      have HBW := Lib.hid hBw
      clear hR hBw
      by_cases hlt2 : i < ks.length
      · obtain ⟨t, ht⟩ : ∃ t, ks[i]? = some t := ⟨ks[i], by simp [hlt2]⟩
        have hmem := List.mem_of_getElem? ht
        obtain ⟨qg, hqg, hTq⟩ := LAt.get HK.out ht
        obtain ⟨ad, rfl, hSa, hcell⟩ := HROW.out i qg hqg
        have eb : (ad.add i).block = ad.block := by unfold Addr.add; split <;> simp_all
        have hcell := (HBW.out.cell (p := ad.add i) (by rw [eb]; exact hSa)).trans hcell
        have hcnt : cnts (ks.take i) + t.cnt ≤ cnts ks := by
          have e := lcells_len (ks.take (i + 1))
          have e2 : lcells ks = lcells (ks.take (i + 1)) ++ lcells (ks.drop (i + 1)) := by rw [← lcells_append, List.take_append_drop]
          have e3 := congrArg List.length e2
          rw [List.length_append, lcells_len, lcells_len] at e3
          have e4 : cnts (ks.take (i + 1)) = cnts (ks.take i) + t.cnt := by
            rw [← lcells_len, List.take_add_one, ht, lcells_append, List.length_append, lcells_len]
            simp [lcells, tcells_len]
          omega
        have hsz : B ≤ wr.heap.size := Nat.le_trans hB HBW.out.size
        have C := Lib.hid (IH.out t hmem qg _ _ wr (wfs_get HWS.out t hmem) (hTq.keepB HBW.out) hsz HR.out (by have := HL.out; simp only [List.length_append, lcells_len, List.length_cons, List.length_nil]; omega))
        have HX := Lib.hid ht
        unfold ptr at hcell C
        clear ht hTq hqg hmem hcnt
        go_wp2_with fail
        refine C.out.mono ?_
        rintro e w2 ⟨v2, rfl, hR2, hb2⟩
        have HR2 := Lib.hid hR2
        have HB2 := Lib.hid (HBW.out.trans hb2)
        clear hR2 hb2
        go_wp2
        go_roundw
        case rel => exact ⟨i + 1, by omega, by go_num, by rw [List.take_add_one, HX.out, lcells_append, ← List.append_assoc]; simpa [lcells] using HR2.out, HB2.out⟩
        case measure => simp [intOf]; omega
      · obtain rfl : i = ks.length := by omega
        go_wp2
        go_ret
        refine ⟨_, rfl, ?_, HBW.out⟩
        have := HR.out
        rw [List.take_length] at this
        rw [tcells_mk]
        simpa using this
set_option maxRecDepth 100000 in
theorem bad_calls (x : S66) (w : World) : Calls Try.prog 107 #[.agg #[.int .i64 x.f0, .int .i64 x.f1]] w fun e w' => e = .returned (.bool (!cellB x)) ∧ Below w.heap.size w w' := by
  go_enter Try.func107, Try.ntmps107
  go_wp2_with (go_at_call 91; refine (cellOk_calls x _).mono ?_; rintro e w' ⟨rfl, hb⟩; have HB := Lib.hid (ap_ (show Below w.heap.size w _ from by repeat (first | exact aq_ _ _ | apply ai_)) hb); clear hb)
  go_ret
  exact ⟨rfl, HB.out⟩
theorem rd66_mem (l : List S66) (i : Nat) (h : i < l.length) : l[i]? = some (rd_T66 l (i : Int)) := by
  simp [rd_T66, List.getD_eq_getElem?_getD, h]
set_option maxRecDepth 100000 in
set_option maxHeartbeats 1000000 in
theorem indexCell_calls (l : List S66) (hlen : l.length ≤ 1000) (A : Option Addr) (c : Nat) (w : World) (hc : l.length ≤ c) (hr : Kd.C k66 w A l.length l) :
    Calls Try.prog 130 #[.slice A l.length c, .func (.func 107) #[] #[]] w fun e w' => (∃ n : Int, e = .returned (.int .i64 n) ∧ (0 ≤ n ↔ ¬ l.all cellB = true)) ∧ Below w.heap.size w w' := by
  have HR := Lib.hid hr
  clear hr
  go_enter Try.func130, Try.ntmps130
  go_wp2
  go_loopw [5, 8] (fun v5 v8 wr => ∃ k : Nat, k ≤ l.length ∧ v8 = .int .i64 k ∧ Hid (∀ x ∈ l.take k, cellB x = true) ∧ Below w.heap.size w wr) (fun _ v8 _ => l.length - (intOf v8).toNat)
  case atStart => exact ⟨0, Nat.zero_le _, rfl, Lib.hid (by simp), aq_ _ _⟩
  case round =>
    obtain ⟨i, hi, rfl, HA, hBw⟩ := hrel
    by_cases hlt : i < l.length
    · obtain ⟨ad, rfl, x0, x1⟩ := at_T66 (Kd.C_below HR.out hBw) (i : Int) (by omega) (by omega)
      rw [Int.toNat_natCast] at x0 x1
      have HX := Lib.hid (rd66_mem l i hlt)
      cases hb : cellB (rd_T66 l (i : Int)) with
      | true =>
        have HBX := Lib.hid hb
        clear hb
        go_wp2_with (go_at_call 107; refine (bad_calls _ _).mono ?_; rw [HBX.out]; rintro e w' ⟨rfl, hbw⟩)
        go_roundw
        case rel =>
          refine ⟨i + 1, by omega, by go_num, Lib.hid ?_, ap_ hBw hbw⟩
          intro y hy
          rw [List.take_add_one, HX.out] at hy
          simp at hy
          rcases hy with hy | rfl
          · exact HA.out y hy
          · exact HBX.out
        case measure => simp [intOf]; omega
      | false =>
        have HBX := Lib.hid hb
        clear hb
        go_wp2_with (go_at_call 107; refine (bad_calls _ _).mono ?_; rw [HBX.out]; rintro e w' ⟨rfl, hbw⟩)
        go_ret
        refine ⟨⟨i, rfl, ?_⟩, ap_ hBw hbw⟩
        have hm := List.mem_of_getElem? HX.out
        constructor
        · intro _ h
          rw [List.all_eq_true] at h
          have := h _ hm
          rw [HBX.out] at this
          cases this
        · intro _; omega
    · have : i = l.length := by omega
      subst this
      go_wp2
      go_ret
      refine ⟨⟨-1, rfl, ?_⟩, hBw⟩
      have := HA.out
      rw [List.take_length] at this
      constructor
      · intro h; omega
      · intro h; exact absurd (List.all_eq_true.2 this) h
theorem containsCell_calls (l : List S66) (hlen : l.length ≤ 1000) (A : Option Addr) (c : Nat) (w : World) (hc : l.length ≤ c) (hr : Kd.C k66 w A l.length l) :
    Calls Try.prog 106 #[.slice A l.length c, .func (.func 107) #[] #[]] w fun e w' => e = .returned (.bool (!l.all cellB)) ∧ Below w.heap.size w w' := by
  have HR := Lib.hid hr
  clear hr
  cases hb : l.all cellB with
  | true =>
    have H := Lib.hid hb
    clear hb
    go_enter Try.func106, Try.ntmps106
    go_wp2_with (go_at_call 130; refine (indexCell_calls l hlen A c _ hc HR.out).mono ?_; rw [H.out]; rintro e w' ⟨⟨n, rfl, hn⟩, hbw⟩; have hn0 : ¬ 0 ≤ n := fun z => hn.1 z rfl; clear hn)
    go_ret
    exact ⟨by simp; omega, hbw⟩
  | false =>
    have H := Lib.hid hb
    clear hb
    go_enter Try.func106, Try.ntmps106
    go_wp2_with (go_at_call 130; refine (indexCell_calls l hlen A c _ hc HR.out).mono ?_; rw [H.out]; rintro e w' ⟨⟨n, rfl, hn⟩, hbw⟩; have hn0 : 0 ≤ n := hn.2 (by simp); clear hn)
    go_ret
    exact ⟨by simp [hn0], hbw⟩
def RowPost (r : List S66 × Bool) (w : World) (e : Ending) (w' : World) : Prop := ∃ v, e = .returned (.tuple #[v, .bool r.2]) ∧ Kd.R k66 66 w' w.heap.size (fun _ => True) v r.1 ∧ Below w.heap.size w w'
theorem RowPost.lower {r : List S66 × Bool} {w w1 : World} (hb : Below w.heap.size w w1) {e : Ending} {w' : World} (h : RowPost r w1 e w') : RowPost r w e w' := by
  obtain ⟨v, he, hv, hb1⟩ := h
  exact ⟨v, he, Kd.R_lower hv hb.size, ap_ hb hb1⟩
set_option maxRecDepth 100000 in
theorem good_calls (S : Nat → Prop) (t : Tm) (g : Nat) (w : World) (hw : t.wf) (hT : TAt S w g t) : Calls Try.prog 63 #[ptr g] w (RowPost (goodOfT t) w) := by
  have c3 := hT.size_cell
  have hle := size_cnt_le t 600 (by omega)
  unfold goodOfT
  by_cases h : t.cnt ≤ 600
  · rw [if_pos h]
    have C := Lib.hid (cells_calls w.heap.size t g (.slice none 0 0) [] w hw hT.belowB (Nat.le_refl _) (Kd.R_nil _ _ _ _ _) (by simp; omega))
    have d3 : decide ((600 : Int) < t.size) = false := decide_eq_false (by have := hle.2 h; omega)
    have hcl : (tcells t).length ≤ 1000 := by rw [tcells_len]; omega
    unfold ptr at C ⊢
    clear hT hle h
    cases hb : (tcells t).all cellB with
    | true =>
      have H := Lib.hid hb
      clear hb
      go_enter Try.func63, Try.ntmps63
      go_wp2_with (first
        | (go_at_call 105; refine C.out.mono ?_; rintro e w' ⟨v, rfl, hv, hb⟩; rw [List.nil_append] at hv; obtain ⟨A, c, rfl, hc, hC⟩ := Kd.R_reads hv; have HV := Lib.hid hv; have HB := Lib.hid hb; have HC := Lib.hid hC; clear hv hb hC)
        | (go_at_call 106; refine (containsCell_calls (tcells t) hcl A c _ hc HC.out).mono ?_; rw [H.out]; rintro e w2 ⟨rfl, hb2⟩; have HB2 := Lib.hid hb2; clear hb2))
      go_ret2
      exact ⟨_, rfl, Kd.R_below HV.out HB2.out, ap_ HB.out HB2.out⟩
    | false =>
      have H := Lib.hid hb
      clear hb
      go_enter Try.func63, Try.ntmps63
      go_wp2_with (first
        | (go_at_call 105; refine C.out.mono ?_; rintro e w' ⟨v, rfl, hv, hb⟩; rw [List.nil_append] at hv; obtain ⟨A, c, rfl, hc, hC⟩ := Kd.R_reads hv; have HV := Lib.hid hv; have HB := Lib.hid hb; have HC := Lib.hid hC; clear hv hb hC)
        | (go_at_call 106; refine (containsCell_calls (tcells t) hcl A c _ hc HC.out).mono ?_; rw [H.out]; rintro e w2 ⟨rfl, hb2⟩; have HB2 := Lib.hid hb2; clear hb2))
      go_ret2
      exact ⟨_, rfl, Kd.R_nil _ _ _ _ _, ap_ HB.out HB2.out⟩
  · rw [if_neg h]
    have d3 : decide ((600 : Int) < t.size) = true := ao_ (by have := fun x => h (hle.1 x); omega)
    unfold ptr
    clear hT hle h
    go_enter Try.func63, Try.ntmps63
    go_wp2
    go_ret2
    exact ⟨_, rfl, Kd.R_nil _ _ _ _ _, aq_ _ _⟩
end Go.Proofs.Ytgoiifpimpnlpaa.PAll

end

section
namespace Go.Proofs.Ytgoiifpimpnlpaa.PAll
open Go.RowKit Go.Proofs.YtgoiifpimpnlpaaW.PrintWords Go.Proofs.YtgoiifpimpnlpaaW.PrintLast Go.Proofs.YtgoiifpimpnlpaaW.PrintMore
attribute [local go_sem] max2_int min2_int max_two min_two max_three min_three max_four min_four   -- for this text's walks alone
set_option linter.unusedVariables false
set_option linter.unusedSimpArgs false
def spec_l3Binds.f (a0 : Int) (a1 : Int) : Option (Int) := if a0 = 3 then (some 1) else (if a0 = 7 then (if a1 = 1 then (some 1) else (some 0)) else (some 0))
set_option maxHeartbeats 8000000 in
set_option maxRecDepth 100000 in
theorem spec_l3Binds.calls (a0 : Int) (a1 : Int) (r : Int) (w : World) (h : spec_l3Binds.f a0 a1 = some r) :
    Calls Try.prog 118 #[.int .i64 a0, .int .i64 a1] w fun e w' => e = .returned (.int .i64 r) ∧ Drawn0 w w' := by
  have H : (if a0 = 3 then (some 1) else (if a0 = 7 then (if a1 = 1 then (some 1) else (some 0)) else (some 0))) = some r := h
  clear h
  by_cases c3 : a0 = 3
  · rw [if_pos c3] at H
    have c3b0 : (a0 == 3) = true := beq_iff_eq.mpr c3
    have c3b1 : (a0 != 3) = false := bne_eq_false_iff_eq.mpr c3
    clear c3
    obtain rfl := Option.some.inj H
    go_enter Try.func118, Try.ntmps118
    go_wp2
    go_ret
    exact ⟨by first | rfl | (simp; done) | (simp [*]; done), by repeat (first | exact Drawn0.refl _ | apply Drawn0.step)⟩
  · rw [if_neg c3] at H
    have c3b0 : (a0 == 3) = false := beq_eq_false_iff_ne.mpr c3
    have c3b1 : (a0 != 3) = true := bne_iff_ne.mpr c3
    by_cases c4 : a0 = 7
    · rw [if_pos c4] at H
      have c4b0 : (a0 == 7) = true := beq_iff_eq.mpr c4
      have c4b1 : (a0 != 7) = false := bne_eq_false_iff_eq.mpr c4
      clear c4
      by_cases c5 : a1 = 1
      · rw [if_pos c5] at H
        have c5b0 : (a1 == 1) = true := beq_iff_eq.mpr c5
        have c5b1 : (a1 != 1) = false := bne_eq_false_iff_eq.mpr c5
        clear c5
        obtain rfl := Option.some.inj H
        go_enter Try.func118, Try.ntmps118
        go_wp2
        go_ret
        exact ⟨by first | rfl | (simp; done) | (simp [*]; done), by repeat (first | exact Drawn0.refl _ | apply Drawn0.step)⟩
      · rw [if_neg c5] at H
        have c5b0 : (a1 == 1) = false := beq_eq_false_iff_ne.mpr c5
        have c5b1 : (a1 != 1) = true := bne_iff_ne.mpr c5
        obtain rfl := Option.some.inj H
        go_enter Try.func118, Try.ntmps118
        go_wp2
        go_ret
        exact ⟨by first | rfl | (simp; done) | (simp [*]; done), by repeat (first | exact Drawn0.refl _ | apply Drawn0.step)⟩
    · rw [if_neg c4] at H
      have c4b0 : (a0 == 7) = false := beq_eq_false_iff_ne.mpr c4
      have c4b1 : (a0 != 7) = true := bne_iff_ne.mpr c4
      obtain rfl := Option.some.inj H
      go_enter Try.func118, Try.ntmps118
      go_wp2
      go_ret
      exact ⟨by first | rfl | (simp; done) | (simp [*]; done), by repeat (first | exact Drawn0.refl _ | apply Drawn0.step)⟩
end Go.Proofs.Ytgoiifpimpnlpaa.PAll

end

section
namespace Go.Proofs.Ytgoiifpimpnlpaa.PAll
open Go.RowKit Go.Proofs.YtgoiifpimpnlpaaW.PrintWords Go.Proofs.YtgoiifpimpnlpaaW.PrintLast Go.Proofs.YtgoiifpimpnlpaaW.PrintMore
attribute [local go_sem] max2_int min2_int max_two min_two max_three min_three max_four min_four   -- for this text's walks alone
set_option linter.unusedVariables false
set_option linter.unusedSimpArgs false
mutual
def spec_l3Uses.j0 : Nat → Int → Bool → Int → Int → List (S62) → Option (Int)
  | 0, _, _, _, _, _ => none
  | k + 1, x1, x16, x306000, x306001, x306002 => if x16 = true then (some 1) else (spec_l3Uses.l0 k x1 0 x306002 (x306002.length : Int) 0 x306000 x306001 x306002)
def spec_l3Uses.l0 : Nat → Int → Int → List (S62) → Int → Int → Int → Int → List (S62) → Option (Int)
  | 0, _, _, _, _, _, _, _, _ => none
  | k + 1, x1, x5, x18, x19, x20, x306000, x306001, x306002 => if x20 < x19 then (if 0 ≤ x20 then (if x20 < (x18.length : Int) then ((spec_l3Binds.f x306000 x20).bind fun t308 => ((spec_l3Uses.f k ((rd_T62 x18 x20).f0) ((rd_T62 x18 x20).f1) ((rd_T62 x18 x20).f2) (wrap64 (x1 + t308))).bind fun t309 => (spec_l3Uses.l0 k x1 (wrap64 (x5 + t309)) x18 x19 (wrap64 (x20 + 1)) x306000 x306001 x306002))) else (none)) else (none)) else (some x5)
def spec_l3Uses.f : Nat → Int → Int → List (S62) → Int → Option (Int)
  | 0, _, _, _, _ => none
  | k + 1, a0_0, a0_1, l0_2, a1 => if a0_0 = 1 then (spec_l3Uses.j0 k a1 (a0_1 == a1) a0_0 a0_1 l0_2) else (spec_l3Uses.j0 k a1 false a0_0 a0_1 l0_2)
end
def spec_l3Uses.T7 : Bool × List (List Nat × List Nat) := (true, [([], []), ([], []), ([], []), ([], []), ([3], [3]), ([], []), ([4, 5], [4, 5]), ([2, 6], [2, 6]), ([1, 7, 6], [1, 7]), ([0, 8], [0, 8]), ([9, 8, 0, 1, 2, 3, 4, 5, 6, 7, 8, 9], [0, 9])])
def spec_l3Uses.B7 : List Nat := [0, 0, 0, 0, 8, 0, 56, 124, 254, 511, 1023]
theorem spec_l3Uses.tab7 : rtab .any (opsOf Try.f99 7) = spec_l3Uses.T7 := by kernel_rfl
theorem spec_l3Uses.bits7 : waitsOk spec_l3Uses.T7.2 spec_l3Uses.B7 = true := by kernel_rfl
set_option maxHeartbeats 8000000 in
set_option maxRecDepth 100000 in
theorem spec_l3Uses.calls (k : Nat) : ∀ (a0_0 : Int) (a0_1 : Int) (A0_2 : Option Addr) (c0_2 : Nat) (l0_2 : List (S62)) (a1 : Int) (r : Int) (w : World) (hr0_2 : Kd.C k62 w A0_2 l0_2.length l0_2) (hc0_2 : l0_2.length ≤ c0_2) (h : spec_l3Uses.f k a0_0 a0_1 l0_2 a1 = some r),
    Calls Try.prog 99 #[.agg #[.int .i64 a0_0, .int .i64 a0_1, .slice A0_2 l0_2.length c0_2], .int .i64 a1] w fun e w' => e = .returned (.int .i64 r) ∧ Below w.heap.size w w' := by
  induction k using Nat.strongRecOn with
  | _ k ih =>
  intro a0_0 a0_1 A0_2 c0_2 l0_2 a1 r w hr0_2 hc0_2 h
  cases k with
  | zero => exact absurd h (by simp [spec_l3Uses.f])
  | succ k =>
  simp only [spec_l3Uses.f] at h
  have hu62 := Try.underlying62
  have HR0_2 := ab_ hr0_2
  have HC0_2 := ab_ hc0_2
  clear hr0_2 hc0_2
  have HB := ab_ (aq_ w.heap.size w)
  have H : (if a0_0 = 1 then (spec_l3Uses.j0 k a1 (a0_1 == a1) a0_0 a0_1 l0_2) else (spec_l3Uses.j0 k a1 false a0_0 a0_1 l0_2)) = some r := h
  clear h
  have HC3 := ab_ H
  clear H
  go_enter Try.func99, Try.ntmps99
  go_upto_region 1 with (first | ((with_reducible refine gate_dst (N := 2) rfl ?_); refine box_event ?hg (N := 2) ?hd (cs := #[.int .i64 a0_0, .int .i64 a0_1, .slice A0_2 l0_2.length c0_2]) (t := 62) ?hr ?_; (case hd => rfl); (case hg => rfl); (case hr => first | (go_simp; done) | (go_simp; rfl)); intro gb305 hg w4 hbox hb; have n0_ := ab_ (ap_ (by repeat (first | (with_reducible first | exact HB.out | apply ai_ | apply ag_ | apply ah_) | exact HB.out)) hb); have n1_ := ab_ (hbox); have n2_ := ab_ ((by rw [hg]; exact (below_size (by repeat (first | (with_reducible first | exact HB.out | apply ai_ | apply ag_ | apply ah_) | exact HB.out))) : w.heap.size ≤ gb305)); have n3_ := ab_ ((by rw [hg]; exact (below_size (by repeat (first | (with_reducible first | exact HB.out | apply ai_ | apply ag_ | apply ah_) | exact HB.out))) : w.heap.size ≤ gb305)); clear HB; have HB := n0_; have BK305 := n1_; have GW305 := n2_; have GE305 := n3_; clear n0_ n1_ n2_ n3_; clear hb hbox hg))
  (try simp only [Act.put, List.setIfInBounds_toArray, List.set_cons_zero, List.set_cons_succ])
  go_cut [16] (fun v16 wc => ∃ (kq : Nat) (x16_2 : Bool), v16 = .bool x16_2 ∧ Aside0 (spec_l3Uses.j0 kq a1 x16_2 a0_0 a0_1 l0_2 = some r) ∧ Aside0 (kq ≤ k) ∧ Aside0 (wc.heap[gb305]? = some (.cells #[.int .i64 a0_0, .int .i64 a0_1, (.slice A0_2 l0_2.length c0_2)] 62 (0, 0))) ∧ Aside0 (Below w.heap.size w wc))
  case first =>
    have H := HC3.out
    clear HC3
    by_cases c5 : a0_0 = 1
    · rw [if_pos c5] at H
      have c5b0 : (a0_0 == 1) = true := beq_iff_eq.mpr c5
      have c5b1 : (a0_0 != 1) = false := bne_eq_false_iff_eq.mpr c5
      clear c5
      (first | rw [c5b0] | (simp only [i64_w, i32_w]; rw [c5b0]) | skip)
      have H' := ab_ H
      clear H
      have hcz6_0 : w4.cell? ⟨gb305, 0, none⟩ = some (.int .i64 a0_0) := (an_ BK305.out 0).trans rfl
      have hcz6_1 : w4.cell? ⟨gb305, 1, none⟩ = some (.int .i64 a0_1) := (an_ BK305.out 1).trans rfl
      have hcz6_2 : w4.cell? ⟨gb305, 2, none⟩ = some (.slice A0_2 l0_2.length c0_2) := (an_ BK305.out 2).trans rfl
      have hfz6_0 := am_ BK305.out 0
      have hfz6_1 := am_ BK305.out 1
      have hfz6_2 := am_ BK305.out 2
      go_wp2
      go_meet
      case rel => exact ⟨_, ((a0_1 == a1)), (by first | rfl | (simp; done) | (simp [*]; done)), H', ⟨by first | omega | exact Nat.le_refl _⟩, ⟨by (with_reducible repeat (first | refine ac_ ?_ _ | refine ae_ ?_ | refine ad_ ?_ _)); exact BK305.out⟩, ⟨by repeat (first | (with_reducible first | exact HB.out | apply ai_ | apply ag_ | apply ah_ | refine af_ ?_ GE305.out) | exact HB.out)⟩⟩
    · rw [if_neg c5] at H
      have c5b0 : (a0_0 == 1) = false := beq_eq_false_iff_ne.mpr c5
      have c5b1 : (a0_0 != 1) = true := bne_iff_ne.mpr c5
      (first | rw [c5b0] | (simp only [i64_w, i32_w]; rw [c5b0]) | skip)
      have H' := ab_ H
      clear H
      have hcz7_0 : w4.cell? ⟨gb305, 0, none⟩ = some (.int .i64 a0_0) := (an_ BK305.out 0).trans rfl
      have hcz7_1 : w4.cell? ⟨gb305, 1, none⟩ = some (.int .i64 a0_1) := (an_ BK305.out 1).trans rfl
      have hcz7_2 : w4.cell? ⟨gb305, 2, none⟩ = some (.slice A0_2 l0_2.length c0_2) := (an_ BK305.out 2).trans rfl
      have hfz7_0 := am_ BK305.out 0
      have hfz7_1 := am_ BK305.out 1
      have hfz7_2 := am_ BK305.out 2
      go_wp2
      go_meet
      case rel => exact ⟨_, (false), (by first | rfl | (simp; done) | (simp [*]; done)), H', ⟨by first | omega | exact Nat.le_refl _⟩, ⟨by (with_reducible repeat (first | refine ac_ ?_ _ | refine ae_ ?_ | refine ad_ ?_ _)); exact BK305.out⟩, ⟨by repeat (first | (with_reducible first | exact HB.out | apply ai_ | apply ag_ | apply ah_ | refine af_ ?_ GE305.out) | exact HB.out)⟩⟩
  case rest =>
    clear HC3
    try clear p2
    try clear c5
    try clear c5b0
    try clear c5b1
    try clear hcz6_0
    try clear hcz6_1
    try clear hcz6_2
    try clear hcz7_0
    try clear hcz7_1
    try clear hcz7_2
    try clear hfz6_0
    try clear hfz6_1
    try clear hfz6_2
    try clear hfz7_0
    try clear hfz7_1
    try clear hfz7_2
    obtain ⟨kq, x16_2, rfl, HA, HJ2, BK305, HB⟩ := hcut
    cases kq with
    | zero => exact absurd HA.out (by simp [spec_l3Uses.j0])
    | succ kj2 =>
      have H := HA.out
      clear HA
      simp only [spec_l3Uses.j0] at H
      by_cases c8 : x16_2 = true
      · subst c8
        have H1 : (some 1) = some r := by rw [if_pos rfl] at H; exact H
        clear H
        have H := H1
        clear H1
        obtain rfl := Option.some.inj H
        go_wp2
        go_ret
        exact ⟨by first | rfl | (simp [errW_none, errW_some] <;> rfl) | (simp [*, errW_none, errW_some] <;> rfl), by repeat (first | (with_reducible first | exact HB.out | apply ai_ | apply ag_ | apply ah_ | refine af_ ?_ GE305.out) | exact HB.out)⟩
      · replace c8 := Bool.eq_false_iff.mpr c8
        subst c8
        have H1 : (spec_l3Uses.l0 kj2 a1 0 l0_2 (l0_2.length : Int) 0 a0_0 a0_1 l0_2) = some r := by rw [if_neg (show ¬ (false = true) by decide)] at H; exact H
        clear H
        have H := H1
        clear H1
        have H' := ab_ H
        clear H
        have hcz9_0 : wc.cell? ⟨gb305, 0, none⟩ = some (.int .i64 a0_0) := (an_ BK305.out 0).trans rfl
        have hcz9_1 : wc.cell? ⟨gb305, 1, none⟩ = some (.int .i64 a0_1) := (an_ BK305.out 1).trans rfl
        have hcz9_2 : wc.cell? ⟨gb305, 2, none⟩ = some (.slice A0_2 l0_2.length c0_2) := (an_ BK305.out 2).trans rfl
        have hfz9_0 := am_ BK305.out 0
        have hfz9_1 := am_ BK305.out 1
        have hfz9_2 := am_ BK305.out 2
        go_wp2
        go_loopg [5, 20] kj2 (fun kq v5 v20 w' => ∃ (x5_2 : Int) (x20_2 : Int), v5 = .int .i64 x5_2 ∧ v20 = .int .i64 x20_2 ∧ Aside0 (spec_l3Uses.l0 kq a1 x5_2 l0_2 (l0_2.length : Int) x20_2 a0_0 a0_1 l0_2 = some r) ∧ Aside0 (kq ≤ kj2) ∧ Aside0 (w'.heap[gb305]? = some (.cells #[.int .i64 a0_0, .int .i64 a0_1, (.slice A0_2 l0_2.length c0_2)] 62 (0, 0))) ∧ Aside0 (Below w.heap.size w w'))
        case atStart => exact ⟨(0), (0), (by first | rfl | (simp; done) | (simp [*]; done)), (by first | rfl | (simp; done) | (simp [*]; done)), H', ⟨Nat.le_refl _⟩, ⟨by (with_reducible repeat (first | refine ac_ ?_ _ | refine ae_ ?_ | refine ad_ ?_ _)); exact BK305.out⟩, ⟨by repeat (first | (with_reducible first | exact HB.out | apply ai_ | apply ag_ | apply ah_ | refine af_ ?_ GE305.out) | exact HB.out)⟩⟩
        case round =>
          clear H'
          try clear p2
          try clear c5
          try clear c5b0
          try clear c5b1
          try clear c8
          try clear c9
          try clear hcz6_0
          try clear hcz6_1
          try clear hcz6_2
          try clear hcz7_0
          try clear hcz7_1
          try clear hcz7_2
          try clear hcz9_0
          try clear hcz9_1
          try clear hcz9_2
          try clear hfz6_0
          try clear hfz6_1
          try clear hfz6_2
          try clear hfz7_0
          try clear hfz7_1
          try clear hfz7_2
          try clear hfz9_0
          try clear hfz9_1
          try clear hfz9_2
          try clear p2
          obtain ⟨x5_2, x20_2, rfl, rfl, HA, HK2, BK305, HB⟩ := hrel
          cases gk with
          | zero => exact absurd HA.out (by simp [spec_l3Uses.l0])
          | succ k2 =>
            have H := HA.out
            clear HA
            simp only [spec_l3Uses.l0] at H
            by_cases c10 : x20_2 < (l0_2.length : Int)
            · rw [if_pos c10] at H
              have c10b0 : decide (x20_2 < (l0_2.length : Int)) = true := ao_ c10
              clear c10
              by_cases c11 : 0 ≤ x20_2
              · rw [if_pos c11] at H
                have c11b0 : decide (0 ≤ x20_2) = true := ao_ c11
                clear c11
                by_cases c12 : x20_2 < (l0_2.length : Int)
                · rw [if_pos c12] at H
                  have c12b0 : decide (x20_2 < (l0_2.length : Int)) = true := ao_ c12
                  clear c12
                  replace H := Option.bind_eq_some_iff.mp H
                  obtain ⟨t308, A130, H⟩ := H
                  replace H : ((spec_l3Uses.f k2 ((rd_T62 l0_2 x20_2).f0) ((rd_T62 l0_2 x20_2).f1) ((rd_T62 l0_2 x20_2).f2) (wrap64 (a1 + t308))).bind fun t309 => (spec_l3Uses.l0 k2 a1 (wrap64 (x5_2 + t309)) l0_2 (l0_2.length : Int) (wrap64 (x20_2 + 1)) a0_0 a0_1 l0_2)) = some r := H
                  have A13 := ab_ A130
                  clear A130
                  replace H := Option.bind_eq_some_iff.mp H
                  obtain ⟨t309, A140, H⟩ := H
                  replace H : (spec_l3Uses.l0 k2 a1 (wrap64 (x5_2 + t309)) l0_2 (l0_2.length : Int) (wrap64 (x20_2 + 1)) a0_0 a0_1 l0_2) = some r := H
                  have A14 := ab_ A140
                  clear A140
                  have H' := ab_ H
                  clear H
                  have p306 : 0 ≤ (x20_2 : Int) := of_decide_eq_true (by first | (with_reducible assumption) | assumption)
                  have q306 : x20_2 < (l0_2.length : Int) := of_decide_eq_true (by first | (with_reducible assumption) | assumption)
                  obtain ⟨ad306, A306_2, c306_2, e306, hx306_0, hx306_1, hx306_2, hl306_2, hi306_2⟩ := at_T62 HR0_2.out x20_2 p306 q306
                  cases e306
                  replace hx306_0 := (HB.out.cell (aa_ w _ hx306_0)).trans hx306_0
                  replace hx306_1 := (HB.out.cell (aa_ w _ hx306_1)).trans hx306_1
                  replace hx306_2 := (HB.out.cell (aa_ w _ hx306_2)).trans hx306_2
                  have HR306_2 := ab_ hi306_2
                  have HC306_2 := ab_ hl306_2
                  clear hi306_2 hl306_2
                  replace p306 := eq_true p306
                  replace q306 := eq_true q306
                  try go_wp2_with (first | ((with_reducible refine gate_dst (N := 7) rfl ?_); refine box_event ?hg (N := 7) ?hd (cs := #[.int .i64 0, .int .i64 0, .slice none 0 0]) (t := 62) ?hr ?_; (case hd => rfl); (case hg => rfl); (case hr => first | (go_simp; done) | (go_simp; rfl)); intro gb307 hg w15 hbox hb; have n0_ := ab_ (blk_below (g := gb305) (o := .cells #[.int .i64 a0_0, .int .i64 a0_1, .slice (some ad306) l0_2.length c0_2] 62 (0, 0)) (by (with_reducible repeat (first | refine ac_ ?_ _ | refine ae_ ?_ | refine ad_ ?_ _)); exact BK305.out) hb); have n1_ := ab_ (ap_ (by repeat (first | (with_reducible first | exact HB.out | apply ai_ | apply ag_ | apply ah_ | refine af_ ?_ GE305.out) | exact HB.out)) hb); have n2_ := ab_ (hbox); have n3_ := ab_ ((by rw [hg]; exact (below_size (by repeat (first | (with_reducible first | exact HB.out | apply ai_ | apply ag_ | apply ah_ | refine af_ ?_ GE305.out) | exact HB.out))) : w.heap.size ≤ gb307)); have n4_ := ab_ ((by rw [hg]; exact (below_size (by repeat (first | (with_reducible first | exact HB.out | apply ai_ | apply ag_ | apply ah_ | refine af_ ?_ GE305.out) | exact HB.out))) : w.heap.size ≤ gb307)); have n5_ := ab_ ((by rw [hg]; exact ak_ (blk_lt (g := gb305) (o := .cells #[.int .i64 a0_0, .int .i64 a0_1, .slice (some ad306) l0_2.length c0_2] 62 (0, 0)) (by (with_reducible repeat (first | refine ac_ ?_ _ | refine ae_ ?_ | refine ad_ ?_ _)); exact BK305.out)) : gb305 ≠ gb307)); have n6_ := ab_ ((by rw [hg]; exact Nat.ne_of_gt (blk_lt (g := gb305) (o := .cells #[.int .i64 a0_0, .int .i64 a0_1, .slice (some ad306) l0_2.length c0_2] 62 (0, 0)) (by (with_reducible repeat (first | refine ac_ ?_ _ | refine ae_ ?_ | refine ad_ ?_ _)); exact BK305.out)) : gb307 ≠ gb305)); clear BK305; clear HB; have BK305 := n0_; have HB := n1_; have BK307 := n2_; have GW307 := n3_; have GE307 := n4_; have NB305_307 := n5_; have NB307_305 := n6_; clear n0_ n1_ n2_ n3_ n4_ n5_ n6_; clear hb hbox hg; have hnb16 := NB307_305.out; have hnc16 := NB305_307.out; have hcz17_0 : w15.cell? ⟨gb307, 0, none⟩ = some (.int .i64 0) := (an_ BK307.out 0).trans rfl; have hcz17_1 : w15.cell? ⟨gb307, 1, none⟩ = some (.int .i64 0) := (an_ BK307.out 1).trans rfl; have hcz17_2 : w15.cell? ⟨gb307, 2, none⟩ = some (.slice none 0 0) := (an_ BK307.out 2).trans rfl; have hfz17_0 := am_ BK307.out 0; have hfz17_1 := am_ BK307.out 1; have hfz17_2 := am_ BK307.out 2))
                  have n0_ : Aside0 ((((w15.setCell ⟨gb307, 0, none⟩ (.int .i64 ((rd_T62 l0_2 x20_2).f0))).setCell ⟨gb307, 1, none⟩ (.int .i64 ((rd_T62 l0_2 x20_2).f1))).setCell ⟨gb307, 2, none⟩ (.slice A306_2 ((rd_T62 l0_2 x20_2).f2).length c306_2)).heap[gb305]? = some (.cells #[.int .i64 a0_0, .int .i64 a0_1, .slice (some ad306) l0_2.length c0_2] 62 (0, 0))) := ⟨by (with_reducible repeat (first | refine ac_ ?_ _ | refine ae_ ?_ | refine ad_ ?_ _)); refine blk_far ?_ NB305_307.out _; (with_reducible repeat (first | refine ac_ ?_ _ | refine ae_ ?_ | refine ad_ ?_ _)); refine blk_far ?_ NB305_307.out _; (with_reducible repeat (first | refine ac_ ?_ _ | refine ae_ ?_ | refine ad_ ?_ _)); refine blk_far ?_ NB305_307.out _; (with_reducible repeat (first | refine ac_ ?_ _ | refine ae_ ?_ | refine ad_ ?_ _)); exact BK305.out⟩
                  have n1_ : Aside0 ((((w15.setCell ⟨gb307, 0, none⟩ (.int .i64 ((rd_T62 l0_2 x20_2).f0))).setCell ⟨gb307, 1, none⟩ (.int .i64 ((rd_T62 l0_2 x20_2).f1))).setCell ⟨gb307, 2, none⟩ (.slice A306_2 ((rd_T62 l0_2 x20_2).f2).length c306_2)).heap[gb307]? = some (.cells #[.int .i64 ((rd_T62 l0_2 x20_2).f0), .int .i64 ((rd_T62 l0_2 x20_2).f1), .slice A306_2 ((rd_T62 l0_2 x20_2).f2).length c306_2] 62 (0, 0))) := ⟨by (with_reducible repeat (first | refine ac_ ?_ _ | refine ae_ ?_ | refine ad_ ?_ _)); refine blk_put (cs := #[.int .i64 ((rd_T62 l0_2 x20_2).f0), .int .i64 ((rd_T62 l0_2 x20_2).f1), .slice none 0 0]) ?_ 2 _ rfl; (with_reducible repeat (first | refine ac_ ?_ _ | refine ae_ ?_ | refine ad_ ?_ _)); refine blk_put (cs := #[.int .i64 ((rd_T62 l0_2 x20_2).f0), .int .i64 0, .slice none 0 0]) ?_ 1 _ rfl; (with_reducible repeat (first | refine ac_ ?_ _ | refine ae_ ?_ | refine ad_ ?_ _)); refine blk_put (cs := #[.int .i64 0, .int .i64 0, .slice none 0 0]) ?_ 0 _ rfl; (with_reducible repeat (first | refine ac_ ?_ _ | refine ae_ ?_ | refine ad_ ?_ _)); exact BK307.out⟩
                  have n2_ : Aside0 (Below w.heap.size w (((w15.setCell ⟨gb307, 0, none⟩ (.int .i64 ((rd_T62 l0_2 x20_2).f0))).setCell ⟨gb307, 1, none⟩ (.int .i64 ((rd_T62 l0_2 x20_2).f1))).setCell ⟨gb307, 2, none⟩ (.slice A306_2 ((rd_T62 l0_2 x20_2).f2).length c306_2))) := ⟨by repeat (first | (with_reducible first | exact HB.out | apply ai_ | apply ag_ | apply ah_ | refine af_ ?_ GE305.out | refine af_ ?_ GE307.out) | exact HB.out)⟩
                  (try clear BK305)
                  (try clear BK307)
                  (try clear HB)
                  generalize (((w15.setCell ⟨gb307, 0, none⟩ (.int .i64 ((rd_T62 l0_2 x20_2).f0))).setCell ⟨gb307, 1, none⟩ (.int .i64 ((rd_T62 l0_2 x20_2).f1))).setCell ⟨gb307, 2, none⟩ (.slice A306_2 ((rd_T62 l0_2 x20_2).f2).length c306_2)) = w18 at n0_ n1_ n2_ ⊢
                  have BK305 := n0_
                  have BK307 := n1_
                  have HB := n2_
                  clear n0_ n1_ n2_
                  have n0_ := ab_ (ae_ BK305.out)
                  have n1_ := ab_ (ae_ BK307.out)
                  have n2_ := ab_ (ah_ HB.out)
                  clear BK305
                  clear BK307
                  clear HB
                  have BK305 := n0_
                  have BK307 := n1_
                  have HB := n2_
                  clear n0_ n1_ n2_
                  refine start_ (n := 11) (S := fun w' => w'.cell? ⟨gb307, 0, none⟩ = some (.int .i64 ((rd_T62 l0_2 x20_2).f0)) ∧ w'.cell? ⟨gb307, 1, none⟩ = some (.int .i64 ((rd_T62 l0_2 x20_2).f1)) ∧ w'.cell? ⟨gb307, 2, none⟩ = some (.slice A306_2 ((rd_T62 l0_2 x20_2).f2).length c306_2) ∧ w'.cell? ⟨gb305, 0, none⟩ = some (.int .i64 a0_0) ∧ w'.cell? ⟨gb305, 1, none⟩ = some (.int .i64 a0_1) ∧ w'.cell? ⟨gb305, 2, none⟩ = some (.slice (some ad306) l0_2.length c0_2)) (ds := []) #[false, false, false, false, false, false, false, false, false, false, false] (by kernel_rfl) rfl rfl ⟨(an_ BK307.out 0).trans rfl, (an_ BK307.out 1).trans rfl, (an_ BK307.out 2).trans rfl, (an_ BK305.out 0).trans rfl, (an_ BK305.out 1).trans rfl, (an_ BK305.out 2).trans rfl⟩ (fun hHeld => ?_); refine with_tabW spec_l3Uses.tab7 spec_l3Uses.bits7 (fun HT_ HW_ => ?_)
                  generalize w18.drew = w19 at BK305 BK307 HB hHeld ⊢
                  refine pure_ (i := 0) (N := some 25) (v := ?_) (a' := ?_) #[true, false, false, false, false, false, false, false, false, false, false] rfl rfl (any_of HT_.out (by kernel_rfl)) (fun _ _ _ h => h) (Or.inl ⟨by rfl, ?_⟩) ?_ ?_
                  rotate_left
                  · intro w'
                    go_simp
                    with_reducible rfl
                  rotate_left
                  · simp only [Act.put, List.setIfInBounds_toArray, List.set_cons_zero, List.set_cons_succ, i64_w, i32_w]
                    rfl
                  refine pure_ (i := 2) (N := some 27) (v := ?_) (a' := ?_) #[true, false, true, false, false, false, false, false, false, false, false] rfl rfl (any_of HT_.out (by kernel_rfl)) (fun _ _ _ h => h) (Or.inl ⟨by rfl, ?_⟩) ?_ ?_
                  rotate_left
                  · intro w'
                    go_simp
                    with_reducible rfl
                  rotate_left
                  · simp only [Act.put, List.setIfInBounds_toArray, List.set_cons_zero, List.set_cons_succ, i64_w, i32_w]
                    rfl
                  refine pure_ (i := 3) (N := some 28) (v := ?_) (a' := ?_) #[true, false, true, true, false, false, false, false, false, false, false] rfl rfl (any_of HT_.out (by kernel_rfl)) (fun _ _ _ h => h) (Or.inl ⟨by rfl, ?_⟩) ?_ ?_
                  rotate_left
                  · intro w'
                    go_simp
                    with_reducible rfl
                  rotate_left
                  · simp only [Act.put, List.setIfInBounds_toArray, List.set_cons_zero, List.set_cons_succ, i64_w, i32_w]
                    rfl
                  refine pure_ (i := 5) (N := some 30) (v := ?_) (a' := ?_) #[true, false, true, true, false, true, false, false, false, false, false] rfl rfl (any_of HT_.out (by kernel_rfl)) (fun _ _ _ h => h) (Or.inl ⟨by rfl, ?_⟩) ?_ ?_
                  rotate_left
                  · intro w'
                    go_simp
                    with_reducible rfl
                  rotate_left
                  · simp only [Act.put, List.setIfInBounds_toArray, List.set_cons_zero, List.set_cons_succ, i64_w, i32_w]
                    rfl
                  refine take_ (i := 1) (N := some 26) (v := ?_) (a' := ?_) #[true, true, true, true, false, true, false, false, false, false, false] rfl rfl (take_ofW HT_.out HW_.out (by kernel_rfl)) (fun _ _ _ h => h) (Or.inl ⟨by rfl, ?_⟩) hHeld ?_ ?_
                  rotate_left
                  · rintro w' ⟨s0, s1, s2, s3, s4, s5⟩
                    go_simp
                    with_reducible rfl
                  rotate_left
                  · simp only [Act.put, List.setIfInBounds_toArray, List.set_cons_zero, List.set_cons_succ, i64_w, i32_w]
                    rfl
                  refine take_ (i := 4) (N := some 29) (v := ?_) (a' := ?_) #[true, true, true, true, true, true, false, false, false, false, false] rfl rfl (take_ofW HT_.out HW_.out (by kernel_rfl)) (fun _ _ _ h => h) (Or.inl ⟨by rfl, ?_⟩) hHeld ?_ ?_
                  rotate_left
                  · rintro w' ⟨s0, s1, s2, s3, s4, s5⟩
                    go_simp
                    with_reducible rfl
                  rotate_left
                  · simp only [Act.put, List.setIfInBounds_toArray, List.set_cons_zero, List.set_cons_succ, i64_w, i32_w]
                    rfl
                  refine one_ (i := 6) (N := some 31) #[true, true, true, true, true, true, true, false, false, false, false] rfl rfl (one_of HT_.out (by kernel_rfl)) (by decide) (fun K hK => ?_)
                  refine goes_ Try.func118 (by kernel_rfl) rfl #[.int .i64 a0_0, .int .i64 x20_2] (by rfl) rfl rfl (by (try simp only [List.map_toArray, List.map_cons, List.map_nil]); first | done | rfl | (simp only [List.length_drop, List.length_take]; rfl)) ?_
                  with_reducible refine (spec_l3Binds.calls a0_0 x20_2 t308 _ A13.out).mono ?_
                  rintro e w' ⟨rfl, ⟨nd, rfl⟩⟩
                  refine ⟨_, rfl, ?_⟩
                  refine hK.out _ _ ⟨(an_ BK307.out 0).trans rfl, (an_ BK307.out 1).trans rfl, (an_ BK307.out 2).trans rfl, (an_ BK305.out 0).trans rfl, (an_ BK305.out 1).trans rfl, (an_ BK305.out 2).trans rfl⟩ (fun hHeld => ?_)
                  clear hK K
                  refine norm_ (a' := ?_) ?_ ?_
                  rotate_left
                  · show Act.put _ (some 31) _ = _
                    simp only [Act.put, List.setIfInBounds_toArray, List.set_cons_zero, List.set_cons_succ, i64_w, i32_w]
                    rfl
                  refine pure_ (i := 7) (N := some 32) (v := ?_) (a' := ?_) #[true, true, true, true, true, true, true, true, false, false, false] rfl rfl (any_of HT_.out (by kernel_rfl)) (fun _ _ _ h => h) (Or.inl ⟨by rfl, ?_⟩) ?_ ?_
                  rotate_left
                  · intro w'
                    go_simp
                    with_reducible rfl
                  rotate_left
                  · simp only [Act.put, List.setIfInBounds_toArray, List.set_cons_zero, List.set_cons_succ, i64_w, i32_w]
                    rfl
                  refine one_ (i := 8) (N := some 33) #[true, true, true, true, true, true, true, true, true, false, false] rfl rfl (one_of HT_.out (by kernel_rfl)) (by decide) (fun K hK => ?_)
                  refine goes_ Try.func99 (by kernel_rfl) rfl #[.agg #[.int .i64 ((rd_T62 l0_2 x20_2).f0), .int .i64 ((rd_T62 l0_2 x20_2).f1), .slice A306_2 ((rd_T62 l0_2 x20_2).f2).length c306_2], .int .i64 (wrap64 (a1 + t308))] (by rfl) rfl rfl (by (try simp only [List.map_toArray, List.map_cons, List.map_nil]); first | done | rfl | (simp only [List.length_drop, List.length_take]; rfl)) ?_
                  with_reducible refine (ih k2 (by have := HJ2.out; have := HK2.out; omega) ((rd_T62 l0_2 x20_2).f0) ((rd_T62 l0_2 x20_2).f1) _ _ ((rd_T62 l0_2 x20_2).f2) (wrap64 (a1 + t308)) t309 _ ?side1 ?side2 A14.out).mono ?_
                  (case side1 => repeat (first | exact (Kd.C_below HR306_2.out (by repeat (first | (with_reducible first | exact HB.out | apply ai_ | apply ag_ | apply ah_ | refine af_ ?_ GE305.out | refine af_ ?_ GE307.out) | exact HB.out))) | (with_reducible refine Kd.C_alloc ?_ _) | (with_reducible refine Kd.C_drewN ?_ _) | (with_reducible refine Kd.C_drew ?_)))
                  (case side2 => exact HC306_2.out)
                  rintro e w20 ⟨rfl, hb⟩
                  refine ⟨_, rfl, ?_⟩
                  have n0_ := ab_ (blk_below (g := gb305) (o := .cells #[.int .i64 a0_0, .int .i64 a0_1, .slice (some ad306) l0_2.length c0_2] 62 (0, 0)) (by (with_reducible repeat (first | refine ac_ ?_ _ | refine ae_ ?_ | refine ad_ ?_ _)); exact BK305.out) hb)
                  have n1_ := ab_ (blk_below (g := gb307) (o := .cells #[.int .i64 ((rd_T62 l0_2 x20_2).f0), .int .i64 ((rd_T62 l0_2 x20_2).f1), .slice A306_2 ((rd_T62 l0_2 x20_2).f2).length c306_2] 62 (0, 0)) (by (with_reducible repeat (first | refine ac_ ?_ _ | refine ae_ ?_ | refine ad_ ?_ _)); exact BK307.out) hb)
                  have n2_ := ab_ (ap_ (by repeat (first | (with_reducible first | exact HB.out | apply ai_ | apply ag_ | apply ah_ | refine af_ ?_ GE305.out | refine af_ ?_ GE307.out) | exact HB.out)) hb)
                  clear BK305
                  clear BK307
                  clear HB
                  have BK305 := n0_
                  have BK307 := n1_
                  have HB := n2_
                  clear n0_ n1_ n2_
                  (try clear hb)
                  (try clear hb2)
                  (try clear hk)
                  (try clear hi)
                  refine hK.out _ _ ⟨(an_ BK307.out 0).trans rfl, (an_ BK307.out 1).trans rfl, (an_ BK307.out 2).trans rfl, (an_ BK305.out 0).trans rfl, (an_ BK305.out 1).trans rfl, (an_ BK305.out 2).trans rfl⟩ (fun hHeld => ?_)
                  clear hK K
                  refine norm_ (a' := ?_) ?_ ?_
                  rotate_left
                  · show Act.put _ (some 33) _ = _
                    simp only [Act.put, List.setIfInBounds_toArray, List.set_cons_zero, List.set_cons_succ, i64_w, i32_w]
                    rfl
                  refine pure_ (i := 9) (N := some 34) (v := ?_) (a' := ?_) #[true, true, true, true, true, true, true, true, true, true, false] rfl rfl (any_of HT_.out (by kernel_rfl)) (fun _ _ _ h => h) (Or.inl ⟨by rfl, ?_⟩) ?_ ?_
                  rotate_left
                  · intro w'
                    go_simp
                    with_reducible rfl
                  rotate_left
                  · simp only [Act.put, List.setIfInBounds_toArray, List.set_cons_zero, List.set_cons_succ, i64_w, i32_w]
                    rfl
                  refine pure_ (i := 10) (N := some 5) (v := ?_) (a' := ?_) #[true, true, true, true, true, true, true, true, true, true, true] rfl rfl (any_of HT_.out (by kernel_rfl)) (fun _ _ _ h => h) (Or.inl ⟨by rfl, ?_⟩) ?_ ?_
                  rotate_left
                  · intro w'
                    go_simp
                    with_reducible rfl
                  rotate_left
                  · simp only [Act.put, List.setIfInBounds_toArray, List.set_cons_zero, List.set_cons_succ, i64_w, i32_w]
                    rfl
                  refine done_ (done_of HT_.out (by kernel_rfl)) ?_
                  try go_wp2
                  go_roundg k2
                  case measure => have := HJ2.out; have := HK2.out; omega
                  case rel => exact ⟨(wrap64 (x5_2 + t309)), (wrap64 (x20_2 + 1)), (by first | rfl | (simp; done) | (simp [*]; done)), (by first | rfl | (simp; done) | (simp [*]; done)), H', ⟨by have := HJ2.out; have := HK2.out; omega⟩, ⟨by (with_reducible repeat (first | refine ac_ ?_ _ | refine ae_ ?_ | refine ad_ ?_ _)); exact BK305.out⟩, ⟨by repeat (first | (with_reducible first | exact HB.out | apply ai_ | apply ag_ | apply ah_ | refine af_ ?_ GE305.out | refine af_ ?_ GE307.out) | exact HB.out)⟩⟩
                · rw [if_neg c12] at H
                  exact absurd H (by simp)
              · rw [if_neg c11] at H
                exact absurd H (by simp)
            · rw [if_neg c10] at H
              have c10b0 : decide (x20_2 < (l0_2.length : Int)) = false := decide_eq_false c10
              clear c10
              obtain rfl := Option.some.inj H
              go_wp2
              go_ret
              exact ⟨by first | rfl | (simp [errW_none, errW_some] <;> rfl) | (simp [*, errW_none, errW_some] <;> rfl), by repeat (first | (with_reducible first | exact HB.out | apply ai_ | apply ag_ | apply ah_ | refine af_ ?_ GE305.out) | exact HB.out)⟩
end Go.Proofs.Ytgoiifpimpnlpaa.PAll

end
