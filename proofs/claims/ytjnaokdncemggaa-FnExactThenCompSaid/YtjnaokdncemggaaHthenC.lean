/- ThenComp by its contract. -/
import Derived.Test.YtjnaokdncemggaaHthenG
import Derived.Deep.OwnRows
namespace Go.Proofs.Ytjnaokdncemggaa.PAll
open Go.RowKit Go.Proofs.YtjnaokdncemggaaW.PrintWords Go.Proofs.YtjnaokdncemggaaW.PrintLast Go.Proofs.YtjnaokdncemggaaW.PrintMore
set_option linter.unusedVariables false
set_option linter.unusedSimpArgs false

theorem enters79 : ∀ args W, (callFunc 79 args).run Try.prog W = .ok (.enter 79 args) W := fun args W => enters_ (P := Try.prog) (f := 79) Try.func79 (by kernel_rfl) rfl args W
theorem info98 : (Try.prog.info? 98).map (fun i => (i.zero, i.size, i.bytes)) = some (some (.pointer none), 1, 8) := by kernel_rfl

/-- A store into a block of another type leaves a tree. -/
theorem CAt.far {w : World} {b e : Nat} {arr : Array Value} (hb : w.heap[b]? = some (.cells arr e (0, 0))) (he : e ≠ 103) (j : Nat) (v : Value) : ∀ {t : CT} {g : Nat}, CAt w g t → CAt (w.setCell ⟨b, j, none⟩ v) g t := by
  have ne : ∀ {g : Nat} {cs : Array Value}, w.heap[g]? = some (.cells cs 103 (0, 0)) → (w.setCell ⟨b, j, none⟩ v).heap[g]? = w.heap[g]? := by
    intro g cs h
    refine Below.heap_setCell w ⟨b, j, none⟩ v g ?_
    rintro rfl
    rw [h] at hb
    injection hb with hb
    injection hb with _ hb
    exact he hb.symm
  intro t
  induction t with
  | ret n => intro g h; exact (ne h).trans h
  | ask n a b iha ihb => intro g h; obtain ⟨p, q, h, ha, hq⟩ := h; exact ⟨p, q, (ne h).trans h, iha ha, ihb hq⟩

/-- The first trees of the row at block b. -/
def LRow (w : World) (b : Nat) (ts : List CT) : Prop := ∃ arr : Array Value, w.heap[b]? = some (.cells arr 98 (0, 0)) ∧ arr.size = 100 ∧ ∀ (j : Nat) (t : CT), ts[j]? = some t → ∃ g, arr[j]? = some (Value.pointer (some ⟨g, 0, none⟩)) ∧ CAt w g t

theorem LRow.below {w w1 : World} {b : Nat} {ts : List CT} (h : LRow w b ts) (hb : Below w.heap.size w w1) : LRow w1 b ts := by
  obtain ⟨arr, h0, h1, h2⟩ := h
  refine ⟨arr, (hb.block b (blk_lt h0)).trans h0, h1, fun j t ht => ?_⟩
  obtain ⟨g, hg, hc⟩ := h2 j t ht
  exact ⟨g, hg, hc.below hb⟩

theorem LRow.snoc {w w1 : World} {b : Nat} {ts : List CT} {g : Nat} {t : CT} (h : LRow w b ts) (hb : Below w.heap.size w w1) (ht : CAt w1 g t) (hl : ts.length < 100) : LRow (w1.setCell ⟨b, ts.length, none⟩ (.pointer (some ⟨g, 0, none⟩))) b (ts ++ [t]) := by
  obtain ⟨arr, h0, h1, h2⟩ := h
  have h0' := (hb.block b (blk_lt h0)).trans h0
  refine ⟨arr.setIfInBounds ts.length (.pointer (some ⟨g, 0, none⟩)), blk_set h0' _ _, by simpa using h1, fun j u hu => ?_⟩
  by_cases hj : j < ts.length
  · rw [List.getElem?_append_left hj] at hu
    obtain ⟨q, hq, hc⟩ := h2 j u hu
    exact ⟨q, by rw [Array.getElem?_setIfInBounds_ne (by omega)]; exact hq, CAt.far h0' (by decide) _ _ (hc.below hb)⟩
  · rw [List.getElem?_append_right (by omega)] at hu
    obtain ⟨rfl, rfl⟩ : j = ts.length ∧ t = u := by
      rcases Nat.eq_zero_or_pos (j - ts.length) with e | e
      · rw [e] at hu; simp at hu; exact ⟨by omega, hu⟩
      · rw [List.getElem?_eq_none (by simp; omega)] at hu; cases hu
    exact ⟨g, by rw [Array.getElem?_setIfInBounds_self_of_lt (by omega)], CAt.far h0' (by decide) _ _ ht⟩

def tsF (ts : List CT) (n : Int) : CT := ts.getD n.toNat (.ret 0)

set_option maxRecDepth 100000 in
theorem clo79 (g b : Nat) (ts : List CT) (w0 : World) (hl : ts.length = 100) (h : w0.heap[g]? = some (.cells #[.slice (some ⟨b, 0, none⟩) 100 100] 112 (0, 0))) (hr : LRow w0 b ts) : Clo 79 g (tsF ts) w0 := by
  intro n W h0 h1 hb
  obtain ⟨i, rfl⟩ : ∃ i : Nat, n = i := ⟨n.toNat, by omega⟩
  obtain ⟨arr, h2, h3, h4⟩ := hr.below hb
  have i2 : i < 100 := by omega
  obtain ⟨t, ht⟩ : ∃ t, ts[i]? = some t := ⟨ts[i]'(by omega), by simp [hl, i2]⟩
  obtain ⟨p, hp, hc⟩ := h4 i t ht
  have c0 : W.cell? ⟨g, 0, none⟩ = some (.slice (some ⟨b, 0, none⟩) 100 100) := (blk_cell ((hb.block g (blk_lt h)).trans h) 0).trans rfl
  have c1 : W.cell? ⟨b, i, none⟩ = some (.pointer (some ⟨p, 0, none⟩)) := (blk_cell h2 i).trans hp
  have e : tsF ts i = t := by simp [tsF, List.getD_eq_getElem?_getD, ht]
  rw [e]
  have HC := Lib.hid hc
  have i1 : (i : Int) < 100 := by omega
  clear h2 h3 h4 hp hc e hb h hr h1 ht
  go_enter Try.func79, Try.ntmps79
  go_wp2
  go_ret
  exact ⟨p, rfl, HC.out, Below.refl _ _⟩

def cofs : List (List S83) → Option (List CT)
  | [] => some []
  | l :: ls => match cof l with
    | none => none
    | some t => match cofs ls with
      | none => none
      | some ts => some (t :: ts)
def thenTo (t : CT) : Option (List CT) → List S83 × Bool
  | none => ([], false)
  | some ts => goodOf (t.sub (tsF ts))
def thenOf (l : List S83) (ls : List (List S83)) : List S83 × Bool := match cof l with
  | none => ([], false)
  | some t => if ls.length = 100 then thenTo t (cofs ls) else ([], false)

theorem cofs_len : ∀ {ls : List (List S83)} {ts : List CT}, cofs ls = some ts → ts.length = ls.length
  | [], ts, h => by simp [cofs] at h; subst h; rfl
  | l :: ls, ts, h => by
    simp only [cofs] at h
    split at h
    · cases h
    · split at h
      · cases h
      · rename_i h2
        obtain rfl := Option.some.inj h
        simp [cofs_len h2]
theorem sub_ok {f : Int → CT} (hf : ∀ n, 0 ≤ n → n ≤ 99 → (f n).ok) : ∀ {t : CT}, t.ok → (t.sub f).ok
  | .ret n, h => hf n h.1 h.2
  | .ask n a b, h => ⟨sub_ok hf h.1, sub_ok hf h.2⟩

theorem cofs_ok : ∀ {ls : List (List S83)} {ts : List CT}, cofs ls = some ts → ∀ n, (tsF ts n).ok
  | [], ts, h, n => by simp [cofs] at h; subst h; simp [tsF, CT.ok]
  | l :: ls, ts, h, n => by
    simp only [cofs] at h
    split at h
    · cases h
    · rename_i h1
      split at h
      · cases h
      · rename_i ts2 h2
        obtain rfl := Option.some.inj h
        have hr := cofs_ok h2
        unfold tsF
        cases hn : n.toNat with
        | zero => exact cof_ok h1
        | succ m => have := hr (m : Int); simpa [tsF] using this

/-- Where the loop of ThenComp stands. -/
def TcSt (ls : List (List S83)) (w wr : World) (g b p : Nat) (t : CT) (i : Nat) : Prop :=
  ∃ ts, ts.length = i ∧ cofs ls = (match cofs (ls.drop i) with
    | none => none
    | some us => some (ts ++ us)) ∧ wr.heap[g]? = some (.cells #[.slice (some ⟨b, 0, none⟩) 100 100] 112 (0, 0)) ∧ LRow wr b ts ∧ CAt wr p t ∧ Below w.heap.size w wr

theorem rdL_drop (ls : List (List S83)) (i : Nat) (h : i < ls.length) : ls.drop i = rd_L8 ls (i : Int) :: ls.drop (i + 1) := by
  rw [List.drop_eq_getElem_cons h]; simp [rd_L8, List.getD_eq_getElem?_getD, List.getElem?_eq_getElem h]

theorem tc_step {ls : List (List S83)} {w wr w2 : World} {b p q i : Nat} {t u : CT} {ts : List CT} (hts : ts.length = i) (hlt : i < 100) (hl : ls.length = 100) (hcof : cofs ls = (match cofs (ls.drop i) with
    | none => none
    | some us => some (ts ++ us))) (hg : wr.heap[b + 1]? = some (.cells #[.slice (some ⟨b, 0, none⟩) 100 100] 112 (0, 0))) (hrow : LRow wr b ts) (hp : CAt wr p t) (hbw : Below w.heap.size w wr) (hb2 : Below wr.heap.size wr w2) (hwb : w.heap.size ≤ b) (hq : cof (rd_L8 ls (i : Int)) = some u) (hu : CAt w2 q u) :
    TcSt ls w (w2.setCell ⟨b, i, none⟩ (.pointer (some ⟨q, 0, none⟩))) (b + 1) b p t (i + 1) := by
  have hrow2 := LRow.snoc hrow hb2 hu (by omega)
  rw [hts] at hrow2
  obtain ⟨arr, h0, _, _⟩ := hrow
  refine ⟨ts ++ [u], by simp [hts], ?_, (Below.heap_setCell w2 ⟨b, i, none⟩ _ (b + 1) (by simp)).trans ((hb2.block _ (blk_lt hg)).trans hg), hrow2, CAt.far ((hb2.block b (blk_lt h0)).trans h0) (by decide) _ _ (hp.below hb2), below_set (below_then hbw hbw.size hb2) hwb⟩
  rw [hcof, rdL_drop ls i (by omega)]
  simp only [cofs, hq]
  cases cofs (ls.drop (i + 1)) with
  | none => rfl
  | some us => simp

set_option maxRecDepth 100000 in
set_option maxHeartbeats 4000000 in
theorem ThenComp_calls (l : List S83) (A : Option Addr) (c : Nat) (ls : List (List S83)) (A1 : Option Addr) (c1 : Nat) (w : World) (hr : Kd.C k83 w A l.length l) (hc : l.length ≤ c) (hr1 : Kd.C (Kd.slice 83 k83) w A1 ls.length ls) (hc1 : ls.length ≤ c1) :
    Calls Try.prog 43 #[.slice A l.length c, .slice A1 ls.length c1] w (RowPost (thenOf l ls) w) := by
  unfold thenOf
  cases hq : cof l with
  | none =>
    simp only
    have HQ := Lib.hid hq
    clear hq
    go_enter Try.func43, Try.ntmps43
    go_wp2_with (go_at_call 66; refine (compOf_calls l A c _ hr hc).mono ?_; rw [HQ.out]; rintro e w1 ⟨hb, rfl⟩; have HB := Lib.hid hb; clear hb)
    go_ret2
    exact ⟨_, rfl, Kd.R_nil _ _ _ _ _, HB.out⟩
  | some t =>
    have ho := cof_ok hq
    simp only
    have HQ := Lib.hid hq
    clear hq
    by_cases h100 : ls.length = 100
    · rw [if_pos h100]
      have d1 : ((ls.length : Int) != 100) = false := by simp; omega
      have HL := Lib.hid h100
      have HR1 := Lib.hid hr1
      have hmk : ∀ W, (Instr.makeSlice 112 (.int .i64 (100 : Int)) (.int .i64 (100 : Int))).run Try.prog W = .ok (.slice (some ⟨W.heap.size, 0, none⟩) 100 100) (W.alloc (.cells (madeCells #[.pointer none] 100) 98)) := run_make_row' 112 98 (.pointer none) 8 Try.underlying112 info98 rfl .i64 .i64 100 (by omega) (by omega)
      clear h100 hr1
      go_enter Try.func43, Try.ntmps43
      go_wp2_with (go_at_call 66; refine (compOf_calls l A c _ hr hc).mono ?_; rw [HQ.out]; rintro e w1 ⟨hb, p, rfl, hp⟩; have HB := Lib.hid hb; have HP := Lib.hid hp; clear hb hp)
      obtain ⟨b, hbb⟩ : ∃ b, b = w1.heap.size := ⟨_, rfl⟩
      rw [← hbb]
      have HBB := Lib.hid hbb
      have HST := Lib.hid (show TcSt ls w ((w1.alloc (.cells (madeCells #[.pointer none] 100) 98)).alloc (.cells #[.slice (some ⟨b, 0, none⟩) 100 100] 112)) (b + 1) b p t 0 from ⟨[], rfl, by simp only [List.drop_zero]; cases cofs ls <;> rfl, by rw [hbb]; simpa using blk_new (w1.alloc (.cells (madeCells #[.pointer none] 100) 98)) (.cells #[.slice (some ⟨w1.heap.size, 0, none⟩) 100 100] 112), ⟨_, by rw [hbb]; exact blk_alloc (blk_new w1 _) _, size_madeCells _ _, by simp⟩, HP.out.below (below_alloc (below_alloc (Below.refl _ _) _) _), below_alloc (below_alloc HB.out _) _⟩)
      have hwb : w.heap.size ≤ b := by rw [hbb]; exact HB.out.size
      clear hbb HP
      go_loopw [8, 9, 22] (fun v8 v9 v22 wr => ∃ i : Nat, i ≤ 100 ∧ v22 = .int .i64 i ∧ TcSt ls w wr (b + 1) b p t i) (fun _ _ v22 _ => 100 - (intOf v22).toNat)
      case atStart => exact ⟨0, by omega, rfl, HST.out⟩
      case round =>
        obtain ⟨i, hi, rfl, ts, hts, hcof, hg, hrow, hp, hbw⟩ := hrel
        clear HST
        have HCOF := Lib.hid hcof
        have HG := Lib.hid hg
        have HROW := Lib.hid hrow
        have HP := Lib.hid hp
        have HBW := Lib.hid hbw
        have HTS := Lib.hid hts
        have cg : wr.cell? ⟨b + 1, 0, none⟩ = some (.slice (some ⟨b, 0, none⟩) 100 100) := (blk_cell hg 0).trans rfl
        clear hcof hg hrow hp hbw hts
        by_cases hlt : i < 100
        · have hi2 : (i : Int) < (ls.length : Int) := by have := HL.out; omega
          obtain ⟨ad, A0, c0, hA, hx, hxl, hxc⟩ := at_L8 (HR1.out) (i : Int) (by omega) hi2
          subst hA
          rw [Int.toNat_natCast] at hx
          have hx1 : wr.cell? (ad.add i) = some (.slice A0 (rd_L8 ls i).length c0) := (HBW.out.cell (World.block_lt_of_cell? w _ hx)).trans hx
          have HXC := Lib.hid (Kd.C_below hxc HBW.out)
          have hwl : (i : Int) < 100 := by omega
          clear hx hxc
          obtain ⟨arr, hblk, hsz, _⟩ := HROW.out
          obtain ⟨old, hold⟩ : ∃ old, arr[i]? = some old := ⟨arr[i]'(by omega), by simp [hsz, hlt]⟩
          have HBLK := Lib.hid hblk
          have HOLD := Lib.hid hold
          have hblt := blk_lt hblk
          clear hblk hsz hold
          cases hq : cof (rd_L8 ls i) with
          | none =>
            have HQ2 := Lib.hid hq
            clear hq
            go_wp2_with fail
            go_region_with (go_at_call 66; refine (compOf_calls (rd_L8 ls i) A0 c0 _ (Kd.C_below HXC.out (by repeat (first | exact Below.refl _ _ | apply below_drew1 | apply below_alloc))) hxl).mono ?_; rw [HQ2.out]; rintro e w2 ⟨hb2, rfl⟩; have HB2 := Lib.hid (show Below wr.heap.size wr w2 from below_step (by repeat (first | exact Below.refl _ _ | apply below_drew1 | apply below_alloc)) hb2); have k2 : w2.cell? ⟨b, i, none⟩ = some old := (blk_cell ((HB2.out.block b hblt).trans HBLK.out) i).trans HOLD.out; have f2 : w2.frozen? ⟨b, i, none⟩ = false := blk_frozen ((HB2.out.block b hblt).trans HBLK.out) i; have cg2 : w2.cell? ⟨b + 1, 0, none⟩ = some (.slice (some ⟨b, 0, none⟩) 100 100) := (blk_cell ((HB2.out.block (b + 1) (blk_lt HG.out)).trans HG.out) 0).trans rfl; clear hb2)
            all_goals go_wp2
            all_goals go_ret2
            all_goals
              (rw [show cofs ls = none by rw [HCOF.out, rdL_drop ls i (by omega)]; simp only [cofs]; rw [HQ2.out]])
              (exact ⟨_, rfl, Kd.R_nil _ _ _ _ _, below_set (below_then HBW.out HBW.out.size HB2.out) hwb⟩)
          | some u =>
            have HQ2 := Lib.hid hq
            clear hq
            go_wp2_with fail
            go_region_with (go_at_call 66; refine (compOf_calls (rd_L8 ls i) A0 c0 _ (Kd.C_below HXC.out (by repeat (first | exact Below.refl _ _ | apply below_drew1 | apply below_alloc))) hxl).mono ?_; rw [HQ2.out]; rintro e w2 ⟨hb2, q, rfl, hq2⟩; have HB2 := Lib.hid (show Below wr.heap.size wr w2 from below_step (by repeat (first | exact Below.refl _ _ | apply below_drew1 | apply below_alloc)) hb2); have k2 : w2.cell? ⟨b, i, none⟩ = some old := (blk_cell ((HB2.out.block b hblt).trans HBLK.out) i).trans HOLD.out; have f2 : w2.frozen? ⟨b, i, none⟩ = false := blk_frozen ((HB2.out.block b hblt).trans HBLK.out) i; have cg2 : w2.cell? ⟨b + 1, 0, none⟩ = some (.slice (some ⟨b, 0, none⟩) 100 100) := (blk_cell ((HB2.out.block (b + 1) (blk_lt HG.out)).trans HG.out) 0).trans rfl; clear hb2; have HU := Lib.hid hq2; clear hq2)
            all_goals go_wp2
            all_goals go_roundw
            all_goals first
              | exact ⟨i + 1, by omega, by go_num, tc_step HTS.out hlt HL.out HCOF.out HG.out HROW.out HP.out HBW.out HB2.out hwb HQ2.out HU.out⟩
              | (simp [intOf]; omega)
        · obtain rfl : i = 100 := by omega
          have hcs : cofs ls = some ts := by
            rw [HCOF.out, List.drop_eq_nil_of_le (by have := HL.out; omega)]; simp [cofs]
          have hfo : ∀ n, 0 ≤ n → n ≤ 99 → (tsF ts n).ok := fun n h0 h1 => cofs_ok hcs n
          have HCS := Lib.hid hcs
          have HFO := Lib.hid hfo
          have hle : (ls.length : Int) ≤ 100 := by have := HL.out; omega
          have hle2 : decide ((100 : Int) < (ls.length : Int)) = false := decide_eq_false (by omega)
          have CL := Lib.hid (clo79 (b + 1) b ts wr HTS.out HG.out HROW.out)
          clear hcs hfo
          go_wp2_with (first
            | (go_at_call 73; refine (then_calls 79 (b + 1) (tsF ts) wr enters79 CL.out t p _ (HP.out.below (by repeat (first | exact Below.refl _ _ | apply below_drew1 | apply below_alloc))) ho (by repeat (first | exact Below.refl _ _ | apply below_drew1 | apply below_alloc))).mono ?_; rintro e w2 ⟨q, rfl, hq, hb2⟩; have HB2 := Lib.hid (below_step HBW.out (below_step (by repeat (first | exact Below.refl _ _ | apply below_drew1 | apply below_alloc)) hb2)); have HQ2 := Lib.hid hq; clear hq hb2)
            | (go_at_call 76; refine (good_row _ q _ HQ2.out).mono ?_; rintro e w3 hpost; obtain ⟨v, rfl, hv, hb3⟩ := RowPost.lower HB2.out hpost; have HV := Lib.hid hv; have HB3 := Lib.hid hb3; clear hv hb3 hpost))
          go_ret2
          rw [HCS.out]
          exact ⟨_, rfl, HV.out, HB3.out⟩
    · rw [if_neg h100]
      have d1 : ((ls.length : Int) != 100) = true := by simp; omega
      clear h100
      go_enter Try.func43, Try.ntmps43
      go_wp2_with (go_at_call 66; refine (compOf_calls l A c _ hr hc).mono ?_; rw [HQ.out]; rintro e w1 ⟨hb, p, rfl, hp⟩; have HB := Lib.hid hb; clear hb hp)
      go_ret2
      exact ⟨_, rfl, Kd.R_nil _ _ _ _ _, HB.out⟩
/-- The numbers asked are numbers of rules. -/
def CT.aok : CT → Prop
  | .ret _ => True
  | .ask n a b => (0 ≤ n ∧ n ≤ 2) ∧ a.aok ∧ b.aok

theorem cparse_aok : ∀ (k : Nat) (l : List S83) (t : CT) (r : List S83), cparse k l = some (t, r) → t.aok := by
  intro k
  induction k with
  | zero => intro l t r h; simp [cparse] at h
  | succ k ih =>
    intro l t r h
    cases l with
    | nil => simp [cparse] at h
    | cons x l =>
      simp only [cparse] at h
      split at h
      · simp at h; obtain ⟨rfl, rfl⟩ := h; exact trivial
      · split at h
        · rename_i h2
          cases h1 : cparse k l with
          | none => rw [h1] at h; simp at h
          | some p =>
            obtain ⟨a, r1⟩ := p
            rw [h1] at h
            simp only at h
            cases h3 : cparse k r1 with
            | none => rw [h3] at h; simp at h
            | some q =>
              obtain ⟨b, r2⟩ := q
              rw [h3] at h
              simp at h
              obtain ⟨rfl, rfl⟩ := h
              exact ⟨h2.2, ih _ _ _ h1, ih _ _ _ h3⟩
        · simp at h
theorem cof_aok {l : List S83} {t : CT} (h : cof l = some t) : t.aok := by
  unfold cof at h
  split at h
  · split at h
    · rename_i h1
      injection h with h
      subst h
      exact cparse_aok _ _ _ _ h1
    · cases h
  · cases h

end Go.Proofs.Ytjnaokdncemggaa.PAll
