/- patFrom makes the tree that pparse tells. -/
import Derived.Test.YtjobjielgiojhaaHpatA
import Derived.Deep.OwnRows
import Derived.Deep.RegionWith
import Derived.Deep.RegionHeld3
import Derived.Outline
namespace Go.Proofs.Ytjobjielgiojhaa.PAll
open Go.RowKit Go.Proofs.YtjobjielgiojhaaW.PrintWords Go.Proofs.YtjobjielgiojhaaW.PrintLast Go.Proofs.YtjobjielgiojhaaW.PrintMore
set_option linter.unusedVariables false
set_option linter.unusedSimpArgs false

theorem info78 : (Try.prog.info? 78).map (fun i => (i.zero, i.size, i.bytes)) = some (some (.pointer none), 1, 8) := by kernel_rfl

def pkids (f : List S139 → Option (Pt × List S139)) : Nat → List S139 → Option (List Pt × List S139)
  | 0, r => some ([], r)
  | m + 1, r => match f r with
    | none => none
    | some (t, r1) => match pkids f m r1 with
      | none => none
      | some (ts, r2) => some (t :: ts, r2)

def pparse (cons : List Int) : Nat → List S139 → Option (Pt × List S139)
  | 0, _ => none
  | _ + 1, [] => none
  | k + 1, x :: r => if x.f0 = 1 ∧ x.f1 = 0 then some (.mk true 0 [], r)
    else if x.f0 = 2 ∧ (0 ≤ x.f1 ∧ x.f1 ≤ (cons.length : Int) - 1) then match pkids (pparse cons k) (cons.getD x.f1.toNat 0).toNat r with
      | none => none
      | some (ts, r') => some (.mk false x.f1 ts, r')
    else none

theorem pkids_len {f : List S139 → Option (Pt × List S139)} (hf : ∀ l t r, f l = some (t, r) → r.length < l.length) : ∀ m l ts r, pkids f m l = some (ts, r) → r.length ≤ l.length ∧ ts.length = m := by
  intro m
  induction m with
  | zero => intro l ts r h; simp [pkids] at h; obtain ⟨rfl, rfl⟩ := h; simp
  | succ m ih =>
    intro l ts r h
    simp only [pkids] at h
    cases h1 : f l with
    | none => rw [h1] at h; simp at h
    | some p =>
      obtain ⟨t, r1⟩ := p
      rw [h1] at h
      simp only at h
      cases h2 : pkids f m r1 with
      | none => rw [h2] at h; simp at h
      | some q =>
        obtain ⟨ts', r2⟩ := q
        rw [h2] at h
        simp at h
        obtain ⟨rfl, rfl⟩ := h
        have := hf _ _ _ h1
        have := ih _ _ _ h2
        simp; omega

theorem pparse_len (cons : List Int) : ∀ (k : Nat) (l : List S139) (t : Pt) (r : List S139), pparse cons k l = some (t, r) → r.length < l.length := by
  intro k
  induction k with
  | zero => intro l t r h; simp [pparse] at h
  | succ k ih =>
    intro l t r h
    cases l with
    | nil => simp [pparse] at h
    | cons x l =>
      simp only [pparse] at h
      split at h
      · simp at h; obtain ⟨_, rfl⟩ := h; simp
      · split at h
        · cases h1 : pkids (pparse cons k) (cons.getD x.f1.toNat 0).toNat l with
          | none => rw [h1] at h; simp at h
          | some p =>
            obtain ⟨ts, r1⟩ := p
            rw [h1] at h
            simp at h
            obtain ⟨_, rfl⟩ := h
            have := pkids_len ih _ _ _ _ h1
            simp; omega
        · simp at h

/-- What patFrom answers: a tree of new blocks; the rest is read where the argument was. -/
def PFrom (r : Option (Pt × List S139)) (w0 w : World) (e : Ending) (w' : World) : Prop :=
  Below w.heap.size w w' ∧ match r with
  | none => e = .returned (.tuple #[.pointer none, .slice none 0 0])
  | some (t, rest) => ∃ g A c, e = .returned (.tuple #[ptr g, .slice A rest.length c]) ∧ PAt (fun k => w.heap.size ≤ k) w' g t ∧ Kd.C k139 w0 A rest.length rest ∧ rest.length ≤ c

/-- Where the loop over the parts stands: j of them are made, in the row at block b + 2; the node is at block b + 3. -/
def Mid (Ad : Option Addr) (cd : Nat) (cons : List Int) (k a : Nat) (r0 : List S139) (n : Int) (b : Nat) (w0 w wr : World) (j : Nat) (v7 : Value) : Prop :=
  ∃ (ts : List Pt) (gs : List Nat) (arr : Array Value) (rj : List S139) (A7 : Option Addr) (c7 : Nat),
    ts.length = j ∧ v7 = .slice A7 rj.length c7 ∧ Kd.C k139 w0 A7 rj.length rj ∧ rj.length ≤ c7 ∧ rj.length ≤ r0.length ∧
    wr.heap[b + 2]? = some (.cells arr 78 (0, 0)) ∧ arr.size = a ∧ (∀ i p : Nat, gs[i]? = some p → arr[i]? = some (ptr p)) ∧ QAt (fun q => b + 3 < q) wr gs ts ∧
    wr.heap[b + 3]? = some (.cells #[.bool false, .int .i64 n, .slice (some ⟨b + 2, 0, none⟩) a a] 147 (0, 0)) ∧ wr.heap[b]? = some (.cells #[.slice Ad cons.length cd] 28 (0, 0)) ∧ Below w.heap.size w wr ∧
    pkids (pparse cons k) a r0 = match pkids (pparse cons k) (a - j) rj with
      | none => none
      | some (ts', r') => some (ts ++ ts', r')

theorem Mid_step {Ad : Option Addr} {cd : Nat} {cons : List Int} {k a : Nat} {r0 : List S139} {n : Int} {b : Nat} {w0 w wr w2 : World} {j : Nat} {ts : List Pt} {gs : List Nat} {arr : Array Value} {rj r1 : List S139} {t : Pt} {g : Nat} {A6 : Option Addr} {c6 : Nat}
    (hts : ts.length = j) (hlt : j < a) (hrl : rj.length ≤ r0.length) (hblk : wr.heap[b + 2]? = some (.cells arr 78 (0, 0))) (hsz : arr.size = a) (harr : ∀ i p : Nat, gs[i]? = some p → arr[i]? = some (ptr p)) (hL : QAt (fun q => b + 3 < q) wr gs ts)
    (hnode : wr.heap[b + 3]? = some (.cells #[.bool false, .int .i64 n, .slice (some ⟨b + 2, 0, none⟩) a a] 147 (0, 0))) (hbox : wr.heap[b]? = some (.cells #[.slice Ad cons.length cd] 28 (0, 0))) (hBw : Below w.heap.size w wr) (hwb : w.heap.size ≤ b)
    (hpar : pkids (pparse cons k) a r0 = match pkids (pparse cons k) (a - j) rj with
      | none => none
      | some (ts', r') => some (ts ++ ts', r')) (hq : pparse cons k rj = some (t, r1)) (hb2 : Below wr.heap.size wr w2) (hT : PAt (fun q => wr.heap.size ≤ q) w2 g t) (hC6 : Kd.C k139 w0 A6 r1.length r1) (hc6 : r1.length ≤ c6) :
    Mid Ad cd cons k a r0 n b w0 w (w2.setCell ⟨b + 2, j, none⟩ (ptr g)) (j + 1) (.slice A6 r1.length c6) := by
  have hblt := blk_lt hblk
  have hnlt := blk_lt hnode
  have hgl := hL.length
  have hl1 := pparse_len _ _ _ _ _ hq
  have hset : ∀ q, q ≠ b + 2 → (w2.setCell ⟨b + 2, j, none⟩ (ptr g)).heap[q]? = w2.heap[q]? := fun q h => Below.heap_setCell w2 ⟨b + 2, j, none⟩ _ q (by simpa using h)
  refine ⟨ts ++ [t], gs ++ [g], arr.setIfInBounds j (ptr g), r1, A6, c6, by simp [hts], rfl, hC6, hc6, by omega, blk_set ((hb2.block _ hblt).trans hblk) j _, by simpa using hsz, ?_, ?_, (hset _ (by omega)).trans ((hb2.block _ hnlt).trans hnode), (hset _ (by omega)).trans ((hb2.block _ (blk_lt hbox)).trans hbox), below_set (below_then hBw hBw.size hb2) (by omega), ?_⟩
  · intro i p hp
    by_cases hi : i < gs.length
    · rw [List.getElem?_append_left hi] at hp
      rw [Array.getElem?_setIfInBounds_ne (by omega)]
      exact harr i p hp
    · rw [List.getElem?_append_right (by omega)] at hp
      have e : i - gs.length = 0 := by
        rcases Nat.eq_zero_or_pos (i - gs.length) with h | h
        · exact h
        · rw [List.getElem?_eq_none (by simp; omega)] at hp; cases hp
      rw [e] at hp
      simp at hp
      subst hp
      obtain rfl : i = j := by omega
      rw [Array.getElem?_setIfInBounds_self_of_lt (by omega)]
  · refine QAt.snoc (QAt.step (fun q h _ => hset q (by omega)) (fun _ h _ => h) (hL.below hb2)) (PAt.step (fun q h _ => hset q (by omega)) (fun q h _ => ?_) hT)
    show b + 3 < q
    omega
  · rw [hpar, show a - j = (a - (j + 1)) + 1 by omega]
    simp only [pkids]
    rw [hq]
    simp only
    cases pkids (pparse cons k) (a - (j + 1)) r1 with
    | none => rfl
    | some p => simp

theorem pwithin_yes (n lo hi : Int) (w : World) (h0 : lo ≤ n) (h1 : n ≤ hi) : Calls Try.prog 53 #[.int .i64 n, .int .i64 lo, .int .i64 hi] w fun e w' => e = .returned (.bool true) ∧ w = w' := by
  have c0 : decide (lo ≤ n) = true := decide_eq_true h0
  have c1 : decide (n ≤ hi) = true := decide_eq_true h1
  clear h0 h1
  go_enter Try.func53, Try.ntmps53
  go_wp2
  go_ret
  exact ⟨rfl, rfl⟩
theorem pwithin_no (n lo hi : Int) (w : World) (h : ¬ (lo ≤ n ∧ n ≤ hi)) : Calls Try.prog 53 #[.int .i64 n, .int .i64 lo, .int .i64 hi] w fun e w' => e = .returned (.bool false) ∧ w = w' := by
  by_cases h0 : lo ≤ n
  · have c0 : decide (lo ≤ n) = true := decide_eq_true h0
    have c1 : decide (n ≤ hi) = false := decide_eq_false (fun x => h ⟨h0, x⟩)
    clear h0 h
    go_enter Try.func53, Try.ntmps53
    go_wp2
    go_ret
    exact ⟨rfl, rfl⟩
  · have c0 : decide (lo ≤ n) = false := decide_eq_false h0
    clear h0 h
    go_enter Try.func53, Try.ntmps53
    go_wp2
    go_ret
    exact ⟨rfl, rfl⟩

/-- The numbers of parts, read where they lie; small. -/
structure Cons (w0 : World) (Ad : Option Addr) (cd : Nat) (cons : List Int) : Prop where
  read : Kd.C (Kd.int .i64) w0 Ad cons.length cons
  cap : cons.length ≤ cd
  few : cons.length ≤ 4
  small : ∀ n ∈ cons, 0 ≤ n ∧ n ≤ 2

set_option maxRecDepth 100000 in
set_option maxHeartbeats 4000000 in
theorem patFrom_calls (cons : List Int) (Ad : Option Addr) (cd : Nat) (w0 : World) (hcons : Cons w0 Ad cd cons) (k : Nat) : ∀ (l : List S139) (A : Option Addr) (c : Nat) (w : World), l.length < k → Below w0.heap.size w0 w → Kd.C k139 w0 A l.length l → l.length ≤ c →
    Calls Try.prog 109 #[.agg #[.slice Ad cons.length cd], .slice A l.length c] w (PFrom (pparse cons k l) w0 w) := by
  have HCONS := Lib.hid hcons
  clear hcons
  induction k with
  | zero => intro l A c w h; omega
  | succ k ih =>
    intro l A c w hk hW hr hc
    cases l with
    | nil =>
      go_enter Try.func109, Try.ntmps109
      go_wp2
      go_ret2
      exact ⟨below_alloc (Below.refl _ _) _, rfl⟩
    | cons x l =>
      simp only [List.length_cons] at hk hc hr ⊢
      obtain ⟨ad, rfl, hc0, hc1⟩ := at_T139 (Kd.C_below hr hW) 0 (by omega) (by omega)
      have e0 : ad.add (Int.toNat 0 * 2) = ad := by simp [Addr.add]
      rw [e0, show rd_T139 (x :: l) 0 = x from rfl] at hc0 hc1
      clear e0
      obtain ⟨A1, hd, hcut⟩ : ∃ A1, Kd.C k139 w0 A1 l.length l ∧ ∀ W : World, (Instr.slice 84 (.slice (some ad) (l.length + 1) c) (some (.int .i64 1)) none none).run Try.prog W = .ok (.slice A1 l.length (c - 1)) W := by
        obtain ⟨i0, hi0, _, hsz, _⟩ := info_parts info139
        refine ⟨_, Kd.C_drop (k := k139) (m := 1) hr (by simp) hc, fun W => ?_⟩
        rw [cut_from (P := Try.prog) 84 139 .i64 Try.underlying84 hi0 2 hsz (some ad) (l.length + 1) c 1 (by omega) (by omega)]
        rfl
      have HD := Lib.hid hd
      have HR := Lib.hid hr
      have IH := Lib.hid ih
      have HW := Lib.hid hW
      clear hd hr ih hW
      have hd0 : ∀ o o', ((w.alloc o).alloc o').cell? ad = some (.int .i64 x.f0) := fun o o' => ((below_alloc (below_alloc (Below.refl _ _) o) o' : Below w.heap.size w _).cell (World.block_lt_of_cell? w _ hc0)).trans hc0
      have hd1 : ∀ o o', ((w.alloc o).alloc o').cell? ⟨ad.block, ad.off + 1, none⟩ = some (.int .i64 x.f1) := fun o o' => ((below_alloc (below_alloc (Below.refl _ _) o) o' : Below w.heap.size w _).cell (World.block_lt_of_cell? w _ hc1)).trans hc1
      have he0 : ∀ o, (w.alloc o).cell? ad = some (.int .i64 x.f0) := fun o => ((below_alloc (Below.refl _ _) o : Below w.heap.size w _).cell (World.block_lt_of_cell? w _ hc0)).trans hc0
      have he1 : ∀ o, (w.alloc o).cell? ⟨ad.block, ad.off + 1, none⟩ = some (.int .i64 x.f1) := fun o => ((below_alloc (Below.refl _ _) o : Below w.heap.size w _).cell (World.block_lt_of_cell? w _ hc1)).trans hc1
      by_cases h1 : x.f0 = 1 ∧ x.f1 = 0
      · have e : pparse cons (k + 1) (x :: l) = some (.mk true 0 [], l) := by simp only [pparse]; rw [if_pos h1]
        rw [e]
        clear e
        have b1 : (x.f0 == 1) = true := by simp [h1.1]
        have b2 : (x.f1 == 0) = true := by simp [h1.2]
        clear h1
        go_enter Try.func109, Try.ntmps109
        go_wp2
        go_region
        go_wp2_with (go_at_call 111; refine (anyPat_calls _).mono ?_; unfold ptr; rintro e w' ⟨g, rfl, hg, hb⟩)
        go_ret2
        have hB : Below w.heap.size w w' := below_step (by repeat (first | exact Below.refl _ _ | apply below_drew1 | apply below_alloc)) hb
        exact ⟨hB, g, A1, c - 1, rfl, PAt.step (fun _ _ _ => rfl) (fun k hk _ => Nat.le_trans (below_size (by repeat (first | exact Below.refl _ _ | apply below_drew1 | apply below_alloc) : Below w.heap.size w _)) hk) hg, HD.out, by omega⟩
      · by_cases h2 : x.f0 = 2 ∧ (0 ≤ x.f1 ∧ x.f1 ≤ (cons.length : Int) - 1)
        · obtain ⟨a1, a2, a3⟩ := h2
          have b1 : (x.f0 == 1) = false := by simp [a1]
          have b2 : (x.f0 != 2) = false := by simp [a1]
          obtain ⟨a, haa⟩ : ∃ a : Nat, rd cons x.f1 = (a : Int) ∧ a ≤ 2 := by
            have hm : rd cons x.f1 ∈ cons := by
              have : x.f1.toNat < cons.length := by omega
              simp only [rd, List.getD_eq_getElem?_getD, List.getElem?_eq_getElem this, Option.getD_some]
              exact List.getElem_mem _
            have := HCONS.out.small _ hm
            exact ⟨(rd cons x.f1).toNat, by omega, by omega⟩
          obtain ⟨haa, ha2⟩ := haa
          have hp : pparse cons (k + 1) (x :: l) = match pkids (pparse cons k) a l with
              | none => none
              | some (ts, r') => some (.mk false x.f1 ts, r') := by
            have e : (cons.getD x.f1.toNat 0).toNat = a := by
              have : rd cons x.f1 = cons.getD x.f1.toNat 0 := rfl
              rw [← this, haa]; rfl
            simp only [pparse]; rw [if_neg h1, if_pos ⟨a1, a2, a3⟩, e]
          obtain ⟨adc, hAd, hcc⟩ := Kd.at_int (Kd.C_below HCONS.out.read HW.out) x.f1 a2 (by omega)
          rw [haa] at hcc
          have hcb := World.block_lt_of_cell? w _ hcc
          have HCC := Lib.hid hcc
          have few := HCONS.out.few
          obtain ⟨i, hi⟩ : ∃ i : Nat, x.f1 = (i : Int) := ⟨x.f1.toNat, by omega⟩
          subst hAd
          have hmk : ∀ W, (Instr.makeSlice 86 (.int .i64 (a : Int)) (.int .i64 (a : Int))).run Try.prog W = .ok (.slice (some ⟨W.heap.size, 0, none⟩) a a) (W.alloc (.cells (madeCells #[.pointer none] a) 78)) := run_make_row' 86 78 (.pointer none) 8 Try.underlying86 info78 rfl .i64 .i64 a (by omega) (by omega)
          have HP := Lib.hid hp
          rw [hi] at a2 a3 hcc hc1 hcb HCC
          have hcc2 : ∀ o o', ((w.alloc o).alloc o').cell? (adc.add i) = some (.int .i64 (a : Int)) := fun o o' => ((below_alloc (below_alloc (Below.refl _ _) o) o' : Below w.heap.size w _).cell (World.block_lt_of_cell? w _ hcc)).trans hcc
          have hf1 : ∀ o o', ((w.alloc o).alloc o').cell? ⟨ad.block, ad.off + 1, none⟩ = some (.int .i64 (i : Int)) := fun o o' => (hd1 o o').trans (by rw [hi])
          have hg1 : ∀ o, (w.alloc o).cell? ⟨ad.block, ad.off + 1, none⟩ = some (.int .i64 (i : Int)) := fun o => (he1 o).trans (by rw [hi])
          have HI := Lib.hid hi
          clear h1 a1 haa hp hi hcc hd1 he1
          go_enter Try.func109, Try.ntmps109
          go_wp2
          go_region
          go_wp2_with (go_at_call 53; refine (pwithin_yes _ _ _ _ (by omega) (by omega)).mono ?_; rintro e w' ⟨rfl, rfl⟩)
          have il : (i : Int) < (cons.length : Int) := by omega
          go_region
          go_wp2
          obtain ⟨b, hb⟩ : ∃ b, b = w.heap.size := ⟨_, rfl⟩
          rw [← hb]
          have HST := Lib.hid (show Mid (some adc) cd cons k a l i b w0 w ((((w.alloc (.cells #[.slice (some adc) cons.length cd] 28)).alloc (.cells #[.int .i64 x.f0, .int .i64 i] 139)).alloc (.cells (madeCells #[.pointer none] a) 78)).alloc (.cells #[.bool false, .int .i64 i, .slice (some ⟨b + 1 + 1, 0, none⟩) a a] 147)).drew.drew 0 (.slice A1 l.length (c - 1)) by
            subst hb
            refine ⟨[], [], madeCells #[.pointer none] a, l, A1, c - 1, rfl, rfl, HD.out, by omega, Nat.le_refl _, ?_, size_madeCells _ _, by simp, by simp [QAt], ?_, ?_, by repeat (first | exact Below.refl _ _ | apply below_drew1 | apply below_alloc), ?_⟩
            · exact blk_drew (blk_drew (blk_alloc (by simpa using blk_new ((w.alloc _).alloc _) _) _))
            · exact blk_drew (blk_drew (by simpa using blk_new (((w.alloc _).alloc _).alloc _) _))
            · exact blk_drew (blk_drew (blk_alloc (blk_alloc (blk_alloc (blk_new w _) _) _) _))
            · rw [Nat.sub_zero]
              cases pkids (pparse cons k) a l with
              | none => rfl
              | some p => rfl)
          have hwb : w.heap.size ≤ b := by omega
          clear hb hf1 hg1 hcc2 hd0 he0 hmk
          go_loopw [7, 9, 57] (fun v7 v9 v57 wr => ∃ j : Nat, j ≤ a ∧ v57 = .int .i64 j ∧ Mid (some adc) cd cons k a l i b w0 w wr j v7) (fun _ _ v57 _ => a - (intOf v57).toNat)
          case atStart => exact ⟨0, Nat.zero_le _, rfl, HST.out⟩
          case round =>
            obtain ⟨j, hj, rfl, ts, gs, arr, rj, A7, c7, hts, rfl, hC, hc7, hrl, hblk, hsz, harr, hL, hnode, hbox, hBw, hpar⟩ := hrel
            clear HST
            have hblt := blk_lt hblk
            have HL := Lib.hid hL
            have HPAR := Lib.hid hpar
            have HARR := Lib.hid harr
            have HBLK := Lib.hid hblk
            have HN := Lib.hid hnode
            have HBX := Lib.hid hbox
            have HTS := Lib.hid hts
            have HSZ := Lib.hid hsz
            have HC := Lib.hid hC
            have cn : wr.cell? ⟨b + 3, 2, none⟩ = some (.slice (some ⟨b + 2, 0, none⟩) a a) := (blk_cell hnode 2).trans rfl
            have cx : wr.cell? ⟨b, 0, none⟩ = some (.slice (some adc) cons.length cd) := (blk_cell hbox 0).trans rfl
            clear hL hpar harr hblk hnode hbox hts hsz hC
            by_cases hlt : j < a
            · obtain ⟨old, hold⟩ : ∃ old, arr[j]? = some old := ⟨arr[j]'(by have := HSZ.out; omega), by have := HSZ.out; simp⟩
              have HOLD := Lib.hid hold
              clear hold
              have hja : (j : Int) < (a : Int) := by omega
              cases hq : pparse cons k rj with
              | none =>
                have HQ := Lib.hid hq
                clear hq
                go_wp2_with fail
                go_region_with (go_at_call 109; refine (IH.out rj A7 c7 _ (by omega) (below_step HW.out (below_step hBw (by repeat (first | exact Below.refl _ _ | apply below_drew1 | apply below_alloc)))) HC.out hc7).mono ?_; rw [HQ.out]; rintro e w2 ⟨hb2, rfl⟩; have HB2 := Lib.hid (show Below wr.heap.size wr w2 from below_step (by repeat (first | exact Below.refl _ _ | apply below_drew1 | apply below_alloc)) hb2); have k2 : w2.cell? ⟨b + 2, j, none⟩ = some old := (blk_cell ((HB2.out.block _ hblt).trans HBLK.out) j).trans HOLD.out; have f2 : w2.frozen? ⟨b + 2, j, none⟩ = false := blk_frozen ((HB2.out.block _ hblt).trans HBLK.out) j; have cn2 : w2.cell? ⟨b + 3, 2, none⟩ = some (.slice (some ⟨b + 2, 0, none⟩) a a) := (blk_cell ((HB2.out.block _ (blk_lt HN.out)).trans HN.out) 2).trans rfl; clear hb2)
                all_goals go_wp2
                all_goals go_ret2
                all_goals
                  (have hpn : pparse cons (k + 1) (x :: l) = none := by
                    rw [HP.out, HPAR.out, show a - j = (a - j - 1) + 1 by omega]
                    simp only [pkids]
                    rw [HQ.out])
                  (rw [hpn])
                  (exact ⟨below_set (below_then hBw hBw.size HB2.out) (by omega), rfl⟩)
              | some q =>
                obtain ⟨t, r1⟩ := q
                have hl1 := pparse_len _ _ _ _ _ hq
                have HQ := Lib.hid hq
                clear hq
                go_wp2_with fail
                go_region_with (go_at_call 109; refine (IH.out rj A7 c7 _ (by omega) (below_step HW.out (below_step hBw (by repeat (first | exact Below.refl _ _ | apply below_drew1 | apply below_alloc)))) HC.out hc7).mono ?_; rw [HQ.out]; rintro e w2 ⟨hb2, g, A6, c6, rfl, hT, hC6, hc6⟩; have HB2 := Lib.hid (show Below wr.heap.size wr w2 from below_step (by repeat (first | exact Below.refl _ _ | apply below_drew1 | apply below_alloc)) hb2); have k2 : w2.cell? ⟨b + 2, j, none⟩ = some old := (blk_cell ((HB2.out.block _ hblt).trans HBLK.out) j).trans HOLD.out; have f2 : w2.frozen? ⟨b + 2, j, none⟩ = false := blk_frozen ((HB2.out.block _ hblt).trans HBLK.out) j; have cn2 : w2.cell? ⟨b + 3, 2, none⟩ = some (.slice (some ⟨b + 2, 0, none⟩) a a) := (blk_cell ((HB2.out.block _ (blk_lt HN.out)).trans HN.out) 2).trans rfl; clear hb2; have HT := Lib.hid (show PAt (fun q => wr.heap.size ≤ q) w2 g t from PAt.step (fun _ _ _ => rfl) (fun q h _ => Nat.le_trans (below_size (by repeat (first | exact Below.refl _ _ | apply below_drew1 | apply below_alloc) : Below wr.heap.size wr _)) h) hT); have HC6 := Lib.hid hC6; unfold ptr; clear hT hC6)
                all_goals go_wp2
                all_goals go_roundw
                all_goals first
                  | exact ⟨j + 1, by omega, by go_num, Mid_step HTS.out hlt hrl HBLK.out HSZ.out HARR.out HL.out HN.out HBX.out hBw hwb HPAR.out HQ.out HB2.out HT.out HC6.out hc6⟩
                  | (simp [intOf]; omega)
            · obtain rfl : j = a := by omega
              have hja : decide ((j : Int) < (j : Int)) = false := by simp
              have hf := HPAR.out
              rw [Nat.sub_self] at hf
              simp only [pkids, List.append_nil] at hf
              have hpn : pparse cons (k + 1) (x :: l) = some (.mk false i ts, rj) := by
                rw [HP.out, hf, HI.out]
              have HPN := Lib.hid hpn
              clear hpn hf
              go_wp2
              go_ret2
              rw [HPN.out]
              refine ⟨hBw, b + 3, A7, c7, rfl, ?_, HC.out, hc7⟩
              simp only [PAt]
              have hl := HTS.out
              refine ⟨some ⟨b + 2, 0, none⟩, j, gs, by omega, by omega, by rw [hl]; exact HN.out, fun i p hp => ⟨⟨b + 2, 0, none⟩, rfl, by show w.heap.size ≤ b + 2; omega, by rw [add_plain]; exact (blk_cell HBLK.out i).trans (HARR.out i p hp)⟩, QAt.step (fun _ _ _ => rfl) (fun q h _ => ?_) HL.out⟩
              show w.heap.size ≤ q
              have : b + 3 < q := h
              omega
        · have e : pparse cons (k + 1) (x :: l) = none := by simp only [pparse]; rw [if_neg h1, if_neg h2]
          rw [e]
          clear e
          by_cases a2 : x.f0 = 2
          · have b1 : (x.f0 == 1) = false := by simp [a2]
            have b2 : (x.f0 != 2) = false := by simp [a2]
            have a3 : ¬ (0 ≤ x.f1 ∧ x.f1 ≤ (cons.length : Int) - 1) := fun z => h2 ⟨a2, z⟩
            have A3 := Lib.hid a3
            have few := HCONS.out.few
            clear h1 h2 a2 a3
            go_enter Try.func109, Try.ntmps109
            go_wp2
            go_region
            go_wp2_with (go_at_call 53; refine (pwithin_no _ _ _ _ A3.out).mono ?_; rintro e w' ⟨rfl, rfl⟩)
            go_ret2
            exact ⟨by repeat (first | exact Below.refl _ _ | apply below_drew1 | apply below_alloc), rfl⟩
          · have b2 : (x.f0 != 2) = true := by simp [a2]
            by_cases a1 : x.f0 = 1
            · have b1 : (x.f0 == 1) = true := by simp [a1]
              have b3 : (x.f1 == 0) = false := by simp; exact fun z => h1 ⟨a1, z⟩
              clear h1 h2 a2 a1
              go_enter Try.func109, Try.ntmps109
              go_wp2
              go_region
              go_wp2
              go_ret2
              exact ⟨by repeat (first | exact Below.refl _ _ | apply below_drew1 | apply below_alloc), rfl⟩
            · have b1 : (x.f0 == 1) = false := by simp [a1]
              clear h1 h2 a2 a1
              go_enter Try.func109, Try.ntmps109
              go_wp2
              go_region
              go_wp2
              go_ret2
              exact ⟨by repeat (first | exact Below.refl _ _ | apply below_drew1 | apply below_alloc), rfl⟩
end Go.Proofs.Ytjobjielgiojhaa.PAll
