/- patOf, valueOf, GoodValue by their contracts. -/
import Derived.Test.YtjobjielgiojhaaHpatB
import Derived.Test.YtjobjielgiojhaaHgoodData
namespace Go.Proofs.Ytjobjielgiojhaa.PAll
open Go.RowKit Go.Proofs.YtjobjielgiojhaaW.PrintWords Go.Proofs.YtjobjielgiojhaaW.PrintLast Go.Proofs.YtjobjielgiojhaaW.PrintMore
set_option linter.unusedVariables false
set_option linter.unusedSimpArgs false

/-- The tree of good cells, of so many at most. -/
def pof (cons : List Int) (most : Nat) (l : List S139) : Option Pt := if l.length ≤ most then match pparse cons (most + 1) l with
  | some (t, []) => some t
  | _ => none
  else none

def POf (r : Option Pt) (w : World) (e : Ending) (w' : World) : Prop :=
  Below w.heap.size w w' ∧ match r with
  | none => e = .returned (.pointer none)
  | some t => ∃ g, e = .returned (ptr g) ∧ PAt (fun k => w.heap.size ≤ k) w' g t

theorem Cons.below {w w1 : World} {Ad : Option Addr} {cd : Nat} {cons : List Int} (h : Cons w Ad cd cons) (hb : Below w.heap.size w w1) : Cons w1 Ad cd cons := ⟨Kd.C_below h.read hb, h.cap, h.few, h.small⟩

theorem PAt.lower {w1 w' : World} {n m : Nat} {g : Nat} {t : Pt} (hnm : n ≤ m) (h : PAt (fun k => m ≤ k) w' g t) : PAt (fun k => n ≤ k) w' g t :=
  PAt.step (fun _ _ _ => rfl) (fun q hq _ => Nat.le_trans hnm hq) h

set_option maxRecDepth 100000 in
theorem patOf_calls (cons : List Int) (Ad : Option Addr) (cd : Nat) (most : Nat) (hm : most ≤ 1000) (l : List S139) (A : Option Addr) (c : Nat) (w : World) (hcons : Cons w Ad cd cons) (hr : Kd.C k139 w A l.length l) (hc : l.length ≤ c) :
    Calls Try.prog 90 #[.agg #[.slice Ad cons.length cd], .slice A l.length c, .int .i64 (most : Int)] w (POf (pof cons most l) w) := by
  have HCONS := Lib.hid hcons
  clear hcons
  by_cases h60 : l.length ≤ most
  · have h60i : (l.length : Int) ≤ (most : Int) := by omega
    cases hq : pparse cons (most + 1) l with
    | none =>
      have e : pof cons most l = none := by simp [pof, h60, hq]
      rw [e]
      have HQ := Lib.hid hq
      clear hq e
      go_enter Try.func90, Try.ntmps90
      go_wp2_with (go_at_call 109; refine (patFrom_calls cons Ad cd w HCONS.out (most + 1) l A c _ (by omega) (below_alloc (Below.refl _ _) _) hr hc).mono ?_; rw [HQ.out]; rintro e w1 ⟨hb, rfl⟩)
      go_ret
      exact ⟨below_step (below_alloc (Below.refl _ _) _) hb, rfl⟩
    | some p =>
      obtain ⟨t, r⟩ := p
      cases r with
      | nil =>
        have e : pof cons most l = some t := by simp [pof, h60, hq]
        rw [e]
        have HQ := Lib.hid hq
        clear hq e
        go_enter Try.func90, Try.ntmps90
        go_wp2_with (go_at_call 109; refine (patFrom_calls cons Ad cd w HCONS.out (most + 1) l A c _ (by omega) (below_alloc (Below.refl _ _) _) hr hc).mono ?_; rw [HQ.out]; rintro e w1 ⟨hb, g, A1, c1, rfl, ha, hr1, hc1⟩; simp only [List.length_nil]; unfold ptr)
        go_ret
        exact ⟨below_step (below_alloc (Below.refl _ _) _) hb, g, rfl, PAt.lower (w1 := w1) (by simp) ha⟩
      | cons x r =>
        have e : pof cons most l = none := by simp [pof, h60, hq]
        rw [e]
        have HQ := Lib.hid hq
        clear hq e
        go_enter Try.func90, Try.ntmps90
        go_wp2_with (go_at_call 109; refine (patFrom_calls cons Ad cd w HCONS.out (most + 1) l A c _ (by omega) (below_alloc (Below.refl _ _) _) hr hc).mono ?_; rw [HQ.out]; rintro e w1 ⟨hb, g, A1, c1, rfl, ha, hr1, hc1⟩; simp only [List.length_cons]; unfold ptr)
        go_ret
        exact ⟨below_step (below_alloc (Below.refl _ _) _) hb, rfl⟩
  · have e : pof cons most l = none := by simp [pof, h60]
    rw [e]
    clear e
    have h61 : (most : Int) < (l.length : Int) := by omega
    clear h60
    go_enter Try.func90, Try.ntmps90
    go_wp2
    go_ret
    exact ⟨below_alloc (Below.refl _ _) _, rfl⟩

theorem cons_of_data {w : World} {Ad : Option Addr} {cd : Nat} {cons : List Int} (hr : Kd.C (Kd.int .i64) w Ad cons.length cons) (hc : cons.length ≤ cd) (h : dataB cons = true) : Cons w Ad cd cons := by
  unfold dataB at h
  simp only [Bool.and_eq_true, decide_eq_true_eq, Bool.not_eq_true', List.any_eq_false] at h
  refine ⟨hr, hc, by omega, fun n hn => ?_⟩
  have := h.2.2 n hn
  simp [consB] at this
  omega

/-- The cells of a value. -/
def vcell (n : Int) : S139 := ⟨2, n⟩
def valOf (cons : List Int) (v : List Int) : Option Pt := if dataB cons = true ∧ v.length ≤ 60 then pof cons 60 (v.map vcell) else none

/-- The row that is filled: so many cells are. -/
def VRow (w : World) (b : Nat) (v : List Int) (i : Nat) : Prop := ∃ arr : Array Value, w.heap[b]? = some (.cells arr 139 (0, 0)) ∧ arr.size = v.length * 2 ∧ ∀ (j : Nat) (n : Int), j < i → v[j]? = some n → arr[j * 2]? = some (.int .i64 2) ∧ arr[j * 2 + 1]? = some (.int .i64 n)

theorem VRow.reads {w : World} {b : Nat} {v : List Int} (h : VRow w b v v.length) (hl : v.length ≤ 60) : Kd.C k139 w (some ⟨b, 0, none⟩) (v.map vcell).length (v.map vcell) := by
  obtain ⟨arr, h0, h1, h2⟩ := h
  refine ⟨rfl, by simp; omega, fun _ => ⟨⟨b, 0, none⟩, rfl, fun j p hp => ?_⟩⟩
  rw [List.getElem?_map] at hp
  obtain ⟨n, hn, rfl⟩ := Option.map_eq_some_iff.mp hp
  have hj : j < v.length := by
    rcases Nat.lt_or_ge j v.length with h | h
    · exact h
    · rw [List.getElem?_eq_none h] at hn; cases hn
  obtain ⟨e0, e1⟩ := h2 j n hj hn
  refine ⟨[.int .i64 2, .int .i64 n], rfl, ⟨[.int .i64 2], [.int .i64 n], rfl, rfl, rfl⟩, fun i u hu => ?_⟩
  rw [add_plain]
  match i, hu with
  | 0, hu => simp at hu; subst hu; exact (blk_cell h0 _).trans e0
  | 1, hu => simp at hu; subst hu; exact (blk_cell h0 _).trans e1

theorem VRow.step {w : World} {b : Nat} {v : List Int} {i : Nat} {n : Int} (h : VRow w b v i) (hn : v[i]? = some n) : VRow ((w.setCell ⟨b, i * 2, none⟩ (.int .i64 2)).setCell ⟨b, i * 2 + 1, none⟩ (.int .i64 n)) b v (i + 1) := by
  obtain ⟨arr, h0, h1, h2⟩ := h
  have hi : i < v.length := by
    rcases Nat.lt_or_ge i v.length with h | h
    · exact h
    · rw [List.getElem?_eq_none h] at hn; cases hn
  refine ⟨(arr.setIfInBounds (i * 2) (.int .i64 2)).setIfInBounds (i * 2 + 1) (.int .i64 n), blk_set (blk_set h0 _ _) _ _, by simpa using h1, fun j m hj hm => ?_⟩
  by_cases e : j = i
  · subst e
    rw [hn] at hm
    obtain rfl := Option.some.inj hm
    refine ⟨?_, ?_⟩
    · rw [Array.getElem?_setIfInBounds_ne (by omega), Array.getElem?_setIfInBounds_self_of_lt (by omega)]
    · rw [Array.getElem?_setIfInBounds_self_of_lt (by simp; omega)]
  · obtain ⟨e0, e1⟩ := h2 j m (by omega) hm
    refine ⟨?_, ?_⟩
    · rw [Array.getElem?_setIfInBounds_ne (by omega), Array.getElem?_setIfInBounds_ne (by omega)]; exact e0
    · rw [Array.getElem?_setIfInBounds_ne (by omega), Array.getElem?_setIfInBounds_ne (by omega)]; exact e1

set_option maxRecDepth 100000 in
set_option maxHeartbeats 2000000 in
theorem valueOf_calls (cons : List Int) (Ad : Option Addr) (cd : Nat) (v : List Int) (A : Option Addr) (c : Nat) (w : World) (hrd : Kd.C (Kd.int .i64) w Ad cons.length cons) (hcd : cons.length ≤ cd) (hr : Kd.C (Kd.int .i64) w A v.length v) (hc : v.length ≤ c) :
    Calls Try.prog 58 #[.agg #[.slice Ad cons.length cd], .slice A v.length c] w (POf (valOf cons v) w) := by
  have HRD := Lib.hid hrd
  have HR := Lib.hid hr
  clear hrd hr
  unfold valOf
  cases hd : dataB cons with
  | false =>
    rw [if_neg (by simp)]
    have HD := Lib.hid hd
    clear hd
    go_enter Try.func58, Try.ntmps58
    go_wp2_with (go_at_call 16; refine (GoodData_calls cons Ad cd _ (Kd.C_below HRD.out (below_alloc (Below.refl _ _) _)) hcd).mono ?_; rw [HD.out]; rintro e w1 ⟨rfl, hb⟩)
    go_ret
    exact ⟨below_step (below_alloc (Below.refl _ _) _) hb, rfl⟩
  | true =>
    have HCONS := Lib.hid (cons_of_data HRD.out hcd hd)
    have HD := Lib.hid hd
    clear hd
    by_cases h60 : v.length ≤ 60
    · rw [if_pos ⟨rfl, h60⟩]
      have hmk : ∀ W, (Instr.makeSlice 84 (.int .i64 (v.length : Int)) (.int .i64 (v.length : Int))).run Try.prog W = .ok (.slice (some ⟨W.heap.size, 0, none⟩) v.length v.length) (W.alloc (.cells (madeCells #[.int .i64 0, .int .i64 0] (v.length * 2)) 139)) := by
        intro W
        obtain ⟨i, hi, hz, hs, hb⟩ := info_parts info139
        have := run_make (P := Try.prog) W 84 139 i _ Try.underlying84 hi hz .i64 .i64 (v.length : Int) (v.length : Int) (by omega) (Int.le_refl _) (by rw [hb]; omega) (by omega)
        rw [Int.toNat_natCast, hs] at this
        exact this
      go_enter Try.func58, Try.ntmps58
      go_wp2_with (go_at_call 16; refine (GoodData_calls cons Ad cd _ (Kd.C_below HRD.out (below_alloc (Below.refl _ _) _)) hcd).mono ?_; rw [HD.out]; rintro e w1 ⟨rfl, hb⟩; have HB := Lib.hid (show Below w.heap.size w w1 from below_step (below_alloc (Below.refl _ _) _) hb); have hx : w1.heap[w.heap.size]? = some (.cells #[.slice Ad cons.length cd] 28 (0, 0)) := (hb.block _ (by simp)).trans (blk_new w _); have HX := Lib.hid hx; have cx : w1.cell? ⟨w.heap.size, 0, none⟩ = some (.slice Ad cons.length cd) := (blk_cell hx 0).trans rfl; clear hb hx)
      obtain ⟨b, hb⟩ : ∃ b, b = w1.heap.size := ⟨_, rfl⟩
      rw [← hb]
      have HST := Lib.hid (show VRow (w1.alloc (.cells (madeCells #[.int .i64 0, .int .i64 0] (v.length * 2)) 139)) b v 0 from ⟨_, by rw [hb]; exact blk_new w1 _, size_madeCells _ _, fun j n h => by omega⟩)
      have HB1 := Lib.hid (show Below w1.heap.size w1 (w1.alloc (.cells (madeCells #[.int .i64 0, .int .i64 0] (v.length * 2)) 139)) from below_alloc (Below.refl _ _) _)
      have HBB := Lib.hid hb
      have hwb : w.heap.size < w1.heap.size := blk_lt HX.out
      clear hb cx
      go_loopw [6, 7, 21] (fun v6 v7 v21 wr => ∃ i : Nat, i ≤ v.length ∧ v21 = .int .i64 i ∧ VRow wr b v i ∧ Below w1.heap.size w1 wr) (fun _ _ v21 _ => v.length - (intOf v21).toNat)
      case atStart => exact ⟨0, Nat.zero_le _, rfl, HST.out, HB1.out⟩
      case round =>
        obtain ⟨i, hi, rfl, hst, hb1⟩ := hrel
        clear HST HB1
        have HST := Lib.hid hst
        have HB1 := Lib.hid hb1
        clear hst hb1
        by_cases hlt : i < v.length
        · obtain ⟨ad, hA, hx⟩ := Kd.at_int (Kd.C_below HR.out (below_step HB.out HB1.out)) (i : Int) (by omega) (by omega)
          subst hA
          rw [Int.toNat_natCast] at hx
          obtain ⟨n, hn⟩ : ∃ n, n = rd v (i : Int) := ⟨_, rfl⟩
          rw [← hn] at hx
          have hvn : v[i]? = some n := by rw [hn]; simp [rd, List.getD_eq_getElem?_getD, List.getElem?_eq_getElem hlt]
          have HVN := Lib.hid hvn
          obtain ⟨arr, hblk, hsz, _⟩ := HST.out
          obtain ⟨o0, ho0⟩ : ∃ o, arr[i * 2]? = some o := ⟨arr[i * 2]'(by omega), by simp⟩
          obtain ⟨o1, ho1⟩ : ∃ o, arr[i * 2 + 1]? = some o := ⟨arr[i * 2 + 1]'(by omega), by simp⟩
          have k0 : wr.cell? ⟨b, i * 2, none⟩ = some o0 := (blk_cell hblk _).trans ho0
          have k1 : wr.cell? ⟨b, i * 2 + 1, none⟩ = some o1 := (blk_cell hblk _).trans ho1
          have f0 : wr.frozen? ⟨b, i * 2, none⟩ = false := blk_frozen hblk _
          have f1 : wr.frozen? ⟨b, i * 2 + 1, none⟩ = false := blk_frozen hblk _
          have hwb2 : w1.heap.size ≤ b := by have := HBB.out; omega
          clear hn hvn hblk hsz ho0 ho1
          go_wp2
          go_roundw
          case rel => exact ⟨i + 1, by omega, by go_num, VRow.step HST.out HVN.out, below_set (below_set HB1.out hwb2) hwb2⟩
          case measure => simp [intOf]; omega
        · obtain rfl : i = v.length := by omega
          have cx : wr.cell? ⟨w.heap.size, 0, none⟩ = some (.slice Ad cons.length cd) := (blk_cell ((HB1.out.block _ hwb).trans HX.out) 0).trans rfl
          have hcall : Calls Try.prog 90 #[.agg #[.slice Ad cons.length cd], .slice (some ⟨b, 0, none⟩) v.length v.length, .int .i64 60] wr (POf (pof cons 60 (v.map vcell)) wr) := by
            have := patOf_calls cons Ad cd 60 (by omega) (v.map vcell) (some ⟨b, 0, none⟩) v.length wr (HCONS.out.below (below_step HB.out HB1.out)) (VRow.reads HST.out h60) (by simp)
            rw [List.length_map] at this
            exact this
          have hbw := below_step HB.out HB1.out
          cases hpf : pof cons 60 (v.map vcell) with
          | none =>
            rw [hpf] at hcall
            have C90 := Lib.hid hcall
            have HPF := Lib.hid hpf
            have HBW := Lib.hid hbw
            clear hcall hpf hbw
            go_wp2_with (go_at_call 90; (with_reducible refine C90.out.mono ?_); rintro e w2 ⟨hb2, rfl⟩; have HB2 := Lib.hid hb2; clear hb2)
            go_ret
            rw [HPF.out]
            exact ⟨below_step HBW.out HB2.out, rfl⟩
          | some t =>
            rw [hpf] at hcall
            have C90 := Lib.hid hcall
            have HPF := Lib.hid hpf
            have HBW := Lib.hid hbw
            clear hcall hpf hbw
            go_wp2_with (go_at_call 90; (with_reducible refine C90.out.mono ?_); rintro e w2 ⟨hb2, g, rfl, hg⟩; unfold ptr; have HB2 := Lib.hid hb2; have HG := Lib.hid hg; clear hb2 hg)
            go_ret
            rw [HPF.out]
            exact ⟨below_step HBW.out HB2.out, g, rfl, PAt.lower (w1 := w1) (below_size HBW.out) HG.out⟩
    · rw [if_neg (by simp; omega)]
      have h61 : (60 : Int) < (v.length : Int) := by omega
      clear h60
      go_enter Try.func58, Try.ntmps58
      go_wp2_with (go_at_call 16; refine (GoodData_calls cons Ad cd _ (Kd.C_below HRD.out (below_alloc (Below.refl _ _) _)) hcd).mono ?_; rw [HD.out]; rintro e w1 ⟨rfl, hb⟩)
      go_ret
      exact ⟨below_step (below_alloc (Below.refl _ _) _) hb, rfl⟩

theorem GoodValue_calls (cons : List Int) (Ad : Option Addr) (cd : Nat) (v : List Int) (A : Option Addr) (c : Nat) (w : World) (hrd : Kd.C (Kd.int .i64) w Ad cons.length cons) (hcd : cons.length ≤ cd) (hr : Kd.C (Kd.int .i64) w A v.length v) (hc : v.length ≤ c) :
    Calls Try.prog 20 #[.agg #[.slice Ad cons.length cd], .slice A v.length c] w fun e w' => e = .returned (.bool (valOf cons v).isSome) ∧ Below w.heap.size w w' := by
  have HRD := Lib.hid hrd
  have HR := Lib.hid hr
  clear hrd hr
  cases hq : valOf cons v with
  | none =>
    have HQ := Lib.hid hq
    clear hq
    go_enter Try.func20, Try.ntmps20
    go_wp2_with (go_at_call 58; refine (valueOf_calls cons Ad cd v A c _ (Kd.C_below HRD.out (below_alloc (Below.refl _ _) _)) hcd (Kd.C_below HR.out (below_alloc (Below.refl _ _) _)) hc).mono ?_; rw [HQ.out]; rintro e w1 ⟨hb, rfl⟩)
    go_ret
    exact ⟨rfl, below_step (below_alloc (Below.refl _ _) _) hb⟩
  | some t =>
    have HQ := Lib.hid hq
    clear hq
    go_enter Try.func20, Try.ntmps20
    go_wp2_with (go_at_call 58; refine (valueOf_calls cons Ad cd v A c _ (Kd.C_below HRD.out (below_alloc (Below.refl _ _) _)) hcd (Kd.C_below HR.out (below_alloc (Below.refl _ _) _)) hc).mono ?_; rw [HQ.out]; rintro e w1 ⟨hb, g, rfl, hg⟩; unfold ptr)
    go_ret
    exact ⟨rfl, below_step (below_alloc (Below.refl _ _) _) hb⟩
def goodValueB (cons : List Int) (v : List Int) : Bool := (valOf cons v).isSome
end Go.Proofs.Ytjobjielgiojhaa.PAll
