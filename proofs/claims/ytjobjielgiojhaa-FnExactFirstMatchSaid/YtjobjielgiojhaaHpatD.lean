/- rulesOf, GoodRules by their contracts. -/
import Derived.Test.YtjobjielgiojhaaHpatC
namespace Go.Proofs.Ytjobjielgiojhaa.PAll
open Go.RowKit Go.Proofs.YtjobjielgiojhaaW.PrintWords Go.Proofs.YtjobjielgiojhaaW.PrintLast Go.Proofs.YtjobjielgiojhaaW.PrintMore
set_option linter.unusedVariables false
set_option linter.unusedSimpArgs false

def pofs (cons : List Int) : List (List S139) → Option (List Pt)
  | [] => some []
  | l :: ls => match pof cons 40 l with
    | none => none
    | some t => match pofs cons ls with
      | none => none
      | some ts => some (t :: ts)
def rulesV (cons : List Int) (rs : List (List S139)) : Option (List Pt) := if dataB cons = true ∧ rs.length ≤ 8 then pofs cons rs else none

theorem pofs_len {cons : List Int} : ∀ {ls : List (List S139)} {ts : List Pt}, pofs cons ls = some ts → ts.length = ls.length
  | [], ts, h => by simp [pofs] at h; subst h; rfl
  | l :: ls, ts, h => by
    simp only [pofs] at h
    split at h
    · cases h
    · split at h
      · cases h
      · rename_i h2
        obtain rfl := Option.some.inj h
        simp [pofs_len h2]

/-- What rulesOf answers. -/
def ROf (r : Option (List Pt)) (w : World) (e : Ending) (w' : World) : Prop :=
  Below w.heap.size w w' ∧ match r with
  | none => e = .returned (.tuple #[.slice none 0 0, .bool false])
  | some ts => ∃ b gs, e = .returned (.tuple #[.slice (some ⟨b, 0, none⟩) ts.length ts.length, .bool true]) ∧ PtrRow (fun k => w.heap.size ≤ k) w' (some ⟨b, 0, none⟩) gs ∧ QAt (fun k => w.heap.size ≤ k) w' gs ts

theorem rdR_drop (ls : List (List S139)) (i : Nat) (h : i < ls.length) : ls.drop i = rd_L5 ls (i : Int) :: ls.drop (i + 1) := by
  rw [List.drop_eq_getElem_cons h]; simp [rd_L5, List.getD_eq_getElem?_getD, List.getElem?_eq_getElem h]

/-- Where the loop of rulesOf stands. -/
def RSt (cons : List Int) (rs : List (List S139)) (w w1 wr : World) (b i : Nat) : Prop :=
  ∃ (ts : List Pt) (gs : List Nat) (arr : Array Value), ts.length = i ∧ wr.heap[b]? = some (.cells arr 78 (0, 0)) ∧ arr.size = rs.length ∧ (∀ i p : Nat, gs[i]? = some p → arr[i]? = some (ptr p)) ∧ QAt (fun q => b < q) wr gs ts ∧ Below w1.heap.size w1 wr ∧
    pofs cons rs = match pofs cons (rs.drop i) with
      | none => none
      | some us => some (ts ++ us)

theorem RSt.step {cons : List Int} {rs : List (List S139)} {w w1 wr w2 : World} {b i g : Nat} {t : Pt} (h : RSt cons rs w w1 wr b i) (hi : i < rs.length) (hb2 : Below wr.heap.size wr w2) (hq : pof cons 40 (rd_L5 rs (i : Int)) = some t) (hg : PAt (fun k => wr.heap.size ≤ k) w2 g t) (hb : w1.heap.size ≤ b) :
    RSt cons rs w w1 (w2.setCell ⟨b, i, none⟩ (ptr g)) b (i + 1) := by
  obtain ⟨ts, gs, arr, hts, hblk, hsz, harr, hL, hBw, hpar⟩ := h
  have hblt := blk_lt hblk
  have hgl := hL.length
  have hset : ∀ q, b < q → (w2.setCell ⟨b, i, none⟩ (ptr g)).heap[q]? = w2.heap[q]? := fun q h => Below.heap_setCell w2 ⟨b, i, none⟩ _ q (by simp; omega)
  refine ⟨ts ++ [t], gs ++ [g], arr.setIfInBounds i (ptr g), by simp [hts], blk_set ((hb2.block _ hblt).trans hblk) i _, by simpa using hsz, ?_, ?_, below_set (below_then hBw hBw.size hb2) hb, ?_⟩
  · intro j p hp
    by_cases hj : j < gs.length
    · rw [List.getElem?_append_left hj] at hp
      rw [Array.getElem?_setIfInBounds_ne (by omega)]
      exact harr j p hp
    · rw [List.getElem?_append_right (by omega)] at hp
      have e : j - gs.length = 0 := by
        rcases Nat.eq_zero_or_pos (j - gs.length) with h | h
        · exact h
        · rw [List.getElem?_eq_none (by simp; omega)] at hp; cases hp
      rw [e] at hp
      simp at hp
      subst hp
      obtain rfl : j = i := by omega
      rw [Array.getElem?_setIfInBounds_self_of_lt (by omega)]
  · refine QAt.snoc (QAt.step (fun q h _ => hset q h) (fun _ h _ => h) (hL.below hb2)) (PAt.step (fun q h _ => hset q (by omega)) (fun q h _ => ?_) hg)
    show b < q
    omega
  · rw [hpar, rdR_drop rs i hi]
    simp only [pofs, hq]
    cases pofs cons (rs.drop (i + 1)) with
    | none => rfl
    | some us => simp

set_option maxRecDepth 100000 in
set_option maxHeartbeats 4000000 in
theorem rulesOf_calls (cons : List Int) (Ad : Option Addr) (cd : Nat) (rs : List (List S139)) (A : Option Addr) (c : Nat) (w : World) (hrd : Kd.C (Kd.int .i64) w Ad cons.length cons) (hcd : cons.length ≤ cd) (hr : Kd.C (Kd.slice 139 k139) w A rs.length rs) (hc : rs.length ≤ c) :
    Calls Try.prog 62 #[.agg #[.slice Ad cons.length cd], .slice A rs.length c] w (ROf (rulesV cons rs) w) := by
  have HRD := Lib.hid hrd
  have HR := Lib.hid hr
  clear hrd hr
  unfold rulesV
  cases hd : dataB cons with
  | false =>
    rw [if_neg (by simp)]
    have HD := Lib.hid hd
    clear hd
    go_enter Try.func62, Try.ntmps62
    go_wp2_with (go_at_call 16; refine (GoodData_calls cons Ad cd _ (Kd.C_below HRD.out (below_alloc (Below.refl _ _) _)) hcd).mono ?_; rw [HD.out]; rintro e w1 ⟨rfl, hb⟩)
    go_ret2
    exact ⟨below_step (below_alloc (Below.refl _ _) _) hb, rfl⟩
  | true =>
    have HCONS := Lib.hid (cons_of_data HRD.out hcd hd)
    have HD := Lib.hid hd
    clear hd
    by_cases h60 : rs.length ≤ 8
    · rw [if_pos ⟨rfl, h60⟩]
      have hmk : ∀ W, (Instr.makeSlice 86 (.int .i64 (rs.length : Int)) (.int .i64 (rs.length : Int))).run Try.prog W = .ok (.slice (some ⟨W.heap.size, 0, none⟩) rs.length rs.length) (W.alloc (.cells (madeCells #[.pointer none] rs.length) 78)) := run_make_row' 86 78 (.pointer none) 8 Try.underlying86 info78 rfl .i64 .i64 rs.length (by omega) (by omega)
      go_enter Try.func62, Try.ntmps62
      go_wp2_with (go_at_call 16; refine (GoodData_calls cons Ad cd _ (Kd.C_below HRD.out (below_alloc (Below.refl _ _) _)) hcd).mono ?_; rw [HD.out]; rintro e w1 ⟨rfl, hb⟩; have HB := Lib.hid (show Below w.heap.size w w1 from below_step (below_alloc (Below.refl _ _) _) hb); have hx : w1.heap[w.heap.size]? = some (.cells #[.slice Ad cons.length cd] 28 (0, 0)) := (hb.block _ (by simp)).trans (blk_new w _); have HX := Lib.hid hx; have cx : w1.cell? ⟨w.heap.size, 0, none⟩ = some (.slice Ad cons.length cd) := (blk_cell hx 0).trans rfl; clear hb hx)
      obtain ⟨b, hb⟩ : ∃ b, b = w1.heap.size := ⟨_, rfl⟩
      rw [← hb]
      have HST := Lib.hid (show RSt cons rs w w1 (w1.alloc (.cells (madeCells #[.pointer none] rs.length) 78)) b 0 from ⟨[], [], _, rfl, by rw [hb]; exact blk_new w1 _, size_madeCells _ _, by simp, by simp [QAt], below_alloc (Below.refl _ _) _, by simp only [List.drop_zero]; cases pofs cons rs <;> rfl⟩)
      have HBB := Lib.hid hb
      have hwb : w.heap.size < w1.heap.size := blk_lt HX.out
      clear hb cx
      go_loopw [7, 8, 22] (fun v7 v8 v22 wr => ∃ i : Nat, i ≤ rs.length ∧ v22 = .int .i64 i ∧ RSt cons rs w w1 wr b i) (fun _ _ v22 _ => rs.length - (intOf v22).toNat)
      case atStart => exact ⟨0, Nat.zero_le _, rfl, HST.out⟩
      case round =>
        obtain ⟨i, hi, rfl, hst⟩ := hrel
        clear HST
        have HST := Lib.hid hst
        clear hst
        obtain ⟨ts, gs, arr, hts, hblk, hsz, harr, hL, hB1, hpar⟩ := HST.out
        have HB1 := Lib.hid hB1
        have HTS := Lib.hid hts
        have HARR := Lib.hid harr
        have HL := Lib.hid hL
        have HPAR := Lib.hid hpar
        have HBLK := Lib.hid hblk
        have hblt := blk_lt hblk
        have cx : wr.cell? ⟨w.heap.size, 0, none⟩ = some (.slice Ad cons.length cd) := (blk_cell ((hB1.block _ hwb).trans HX.out) 0).trans rfl
        by_cases hlt : i < rs.length
        · obtain ⟨ad, A0, c0, hA, hx, hxl, hxc⟩ := at_L5 (HR.out) (i : Int) (by omega) (by omega)
          subst hA
          rw [Int.toNat_natCast] at hx
          have hx1 : wr.cell? (ad.add i) = some (.slice A0 (rd_L5 rs i).length c0) := ((below_step HB.out HB1.out).cell (World.block_lt_of_cell? w _ hx)).trans hx
          obtain ⟨old, hold⟩ : ∃ old, arr[i]? = some old := ⟨arr[i]'(by omega), by simp⟩
          have HOLD := Lib.hid hold
          have hcall : Calls Try.prog 90 #[.agg #[.slice Ad cons.length cd], .slice A0 (rd_L5 rs i).length c0, .int .i64 40] wr (POf (pof cons 40 (rd_L5 rs i)) wr) := patOf_calls cons Ad cd 40 (by omega) (rd_L5 rs i) A0 c0 wr (HCONS.out.below (below_step HB.out HB1.out)) (Kd.C_below hxc (below_step HB.out HB1.out)) hxl
          have hwb2 : w1.heap.size ≤ b := by have := HBB.out; omega
          clear hx hxc hts hblk hsz harr hL hB1 hpar hold
          cases hpf : pof cons 40 (rd_L5 rs i) with
          | none =>
            rw [hpf] at hcall
            have C90 := Lib.hid hcall
            have HPF := Lib.hid hpf
            clear hcall hpf
            go_wp2_with (go_at_call 90; (with_reducible refine C90.out.mono ?_); rintro e w2 ⟨hb2, rfl⟩; have HB2 := Lib.hid hb2; have k2 : w2.cell? ⟨b, i, none⟩ = some old := (blk_cell ((hb2.block b hblt).trans HBLK.out) i).trans HOLD.out; have f2 : w2.frozen? ⟨b, i, none⟩ = false := blk_frozen ((hb2.block b hblt).trans HBLK.out) i; clear hb2)
            go_ret2
            rw [show pofs cons rs = none by rw [HPAR.out, rdR_drop rs i (by omega)]; simp only [pofs]; rw [HPF.out]]
            exact ⟨below_step HB.out (below_set (below_step HB1.out HB2.out) hwb2), rfl⟩
          | some t =>
            rw [hpf] at hcall
            have C90 := Lib.hid hcall
            have HPF := Lib.hid hpf
            clear hcall hpf
            go_wp2_with (go_at_call 90; (with_reducible refine C90.out.mono ?_); rintro e w2 ⟨hb2, g, rfl, hg⟩; unfold ptr; have HB2 := Lib.hid hb2; have HG := Lib.hid hg; have k2 : w2.cell? ⟨b, i, none⟩ = some old := (blk_cell ((hb2.block b hblt).trans HBLK.out) i).trans HOLD.out; have f2 : w2.frozen? ⟨b, i, none⟩ = false := blk_frozen ((hb2.block b hblt).trans HBLK.out) i; clear hb2 hg)
            go_roundw
            case rel => exact ⟨i + 1, by omega, by go_num, RSt.step HST.out hlt HB2.out HPF.out HG.out hwb2⟩
            case measure => simp [intOf]; omega
        · obtain rfl : i = rs.length := by omega
          clear hts hblk hsz harr hL hB1 hpar
          go_wp2
          go_ret2
          rw [show pofs cons rs = some ts by rw [HPAR.out, List.drop_eq_nil_of_le (Nat.le_refl _)]; simp [pofs]]
          have hl := HTS.out
          refine ⟨below_step HB.out HB1.out, b, gs, by rw [hl]; rfl, fun i p hp => ⟨⟨b, 0, none⟩, rfl, by show w.heap.size ≤ b; have := HBB.out; omega, by rw [add_plain]; exact (blk_cell HBLK.out i).trans (HARR.out i p hp)⟩, QAt.step (fun _ _ _ => rfl) (fun q h _ => ?_) HL.out⟩
          show w.heap.size ≤ q
          have : b < q := h
          have := HBB.out
          omega
    · rw [if_neg (by simp; omega)]
      have h61 : (8 : Int) < (rs.length : Int) := by omega
      clear h60
      go_enter Try.func62, Try.ntmps62
      go_wp2_with (go_at_call 16; refine (GoodData_calls cons Ad cd _ (Kd.C_below HRD.out (below_alloc (Below.refl _ _) _)) hcd).mono ?_; rw [HD.out]; rintro e w1 ⟨rfl, hb⟩)
      go_ret2
      exact ⟨below_step (below_alloc (Below.refl _ _) _) hb, rfl⟩

theorem GoodRules_calls (cons : List Int) (Ad : Option Addr) (cd : Nat) (rs : List (List S139)) (A : Option Addr) (c : Nat) (w : World) (hrd : Kd.C (Kd.int .i64) w Ad cons.length cons) (hcd : cons.length ≤ cd) (hr : Kd.C (Kd.slice 139 k139) w A rs.length rs) (hc : rs.length ≤ c) :
    Calls Try.prog 25 #[.agg #[.slice Ad cons.length cd], .slice A rs.length c] w fun e w' => e = .returned (.bool (rulesV cons rs).isSome) ∧ Below w.heap.size w w' := by
  have HRD := Lib.hid hrd
  have HR := Lib.hid hr
  clear hrd hr
  cases hq : rulesV cons rs with
  | none =>
    have HQ := Lib.hid hq
    clear hq
    go_enter Try.func25, Try.ntmps25
    go_wp2_with (go_at_call 62; refine (rulesOf_calls cons Ad cd rs A c _ (Kd.C_below HRD.out (below_alloc (Below.refl _ _) _)) hcd (Kd.C_below HR.out (below_alloc (Below.refl _ _) _)) hc).mono ?_; rw [HQ.out]; rintro e w1 ⟨hb, rfl⟩)
    go_ret
    exact ⟨rfl, below_step (below_alloc (Below.refl _ _) _) hb⟩
  | some t =>
    have HQ := Lib.hid hq
    clear hq
    go_enter Try.func25, Try.ntmps25
    go_wp2_with (go_at_call 62; refine (rulesOf_calls cons Ad cd rs A c _ (Kd.C_below HRD.out (below_alloc (Below.refl _ _) _)) hcd (Kd.C_below HR.out (below_alloc (Below.refl _ _) _)) hc).mono ?_; rw [HQ.out]; rintro e w1 ⟨hb, b, gs, rfl, hg⟩)
    go_ret
    exact ⟨rfl, below_step (below_alloc (Below.refl _ _) _) hb⟩
def goodRulesB (cons : List Int) (rs : List (List S139)) : Bool := (rulesV cons rs).isSome
end Go.Proofs.Ytjobjielgiojhaa.PAll
