/- readCell by its contract. -/
import Derived.Test.YtgoiifpimpnlpaaDoorHtextB
import Derived.Test.YtgoiifpimpnlpaaDoorHshelfB
import Derived.Lib.SplitLaws
import Derived.Test.YtgoiifpimpnlpaaDoorPAllx7
import Derived.Test.YtgoiifpimpnlpaaDoorPAllx16
import Derived.Test.YtgoiifpimpnlpaaDoorPAllx17
namespace Go.Proofs.YtgoiifpimpnlpaaDoor.PAll
open Go.RowKit Go.Proofs.YtgoiifpimpnlpaaDoorW.PrintWords Go.Proofs.YtgoiifpimpnlpaaDoorW.PrintLast Go.Proofs.YtgoiifpimpnlpaaDoorW.PrintMore
set_option linter.unusedVariables false
set_option linter.unusedSimpArgs false

/-- The errors that Atoi names stand in the first blocks. -/
def ErrB (B : Nat) (w : World) : Prop := ∀ w', Below B w w' → (∃ ev, w'.cell? ⟨1, 0, none⟩ = some ev ∧ (ev = .nilIface ∨ ∃ te pe, ev = .iface te pe)) ∧ ∃ ev, w'.cell? ⟨2, 0, none⟩ = some ev ∧ (ev = .nilIface ∨ ∃ te pe, ev = .iface te pe)
theorem ErrB.below {B : Nat} {w w1 : World} (h : ErrB B w) (hB : B ≤ w.heap.size) (hb : Below w.heap.size w w1) : ErrB B w1 := fun w' hw' => h w' ((hb.mono hB).trans hw')

/-- The number that Atoi answers, whatever the text. -/
def numV (l : List UInt8) : Int := match Lib.atoiAll l with
  | .ok v => v
  | .range => Lib.atoiSat l
  | _ => 0
/-- The sign that a text of one byte is. -/
def signAt (l : List UInt8) : Int := match l with
  | [c] => Lib.indexByte [92, 64, 43, 63, 61] c
  | _ => -1
/-- What readCell answers. -/
def cellOf (l : List UInt8) : S41 := if 0 ≤ signAt l then ⟨3 + signAt l, 0⟩ else if Lib.hasPrefix l [118] = true then ⟨1, numV (Lib.trimPrefix l [118])⟩ else ⟨2, numV l⟩

theorem atoi_calls (B : Nat) (s : ByteArray) (hs : s.size ≤ 281474976710656) (w : World) (hB : B ≤ w.heap.size) (hE : ErrB B w) :
    Calls Tryd.prog 39 #[.string s] w fun e w' => (∃ er, e = .returned (.tuple #[.int .i64 (numV s.data.toList), er])) ∧ Below w.heap.size w w' := by
  obtain ⟨⟨e1, h1, i1⟩, e2, h2, i2⟩ := hE w (Below.refl _ _)
  unfold numV
  rcases h : Lib.atoiAll s.data.toList with v | _ | _
  · refine (strconv_Atoi_ok s (by omega) v h w).mono ?_
    rintro e w' ⟨rfl, hw⟩
    refine ⟨⟨_, rfl⟩, ?_⟩
    rcases hw with rfl | ⟨t, rfl⟩
    · exact Below.refl _ _
    · exact Lib.bytesWorld_below _ _ _
  · refine (strconv_Atoi_bad s hs (by rw [h]) _ w h1 i1).mono ?_
    rintro e w' ⟨N, rfl, _, _, hb⟩
    exact ⟨⟨_, rfl⟩, hb⟩
  · refine (strconv_Atoi_range s hs h _ w h2 i2).mono ?_
    rintro e w' ⟨N, rfl, _, _, hb⟩
    exact ⟨⟨_, rfl⟩, hb⟩

theorem signAt_le (l : List UInt8) : -1 ≤ signAt l ∧ signAt l ≤ 4 := by
  unfold signAt
  split
  · rename_i c
    simp only [Lib.indexByte]
    repeat' split
    all_goals omega
  · omega
theorem size_one {s : ByteArray} (h : s.size = 1) : ∃ c, s = ⟨#[c]⟩ ∧ s.data.toList = [c] := by
  obtain ⟨⟨l⟩⟩ := s
  cases l with
  | nil => simp [ByteArray.size] at h
  | cons c r => cases r with
    | nil => exact ⟨c, rfl, rfl⟩
    | cons d r => simp [ByteArray.size] at h
theorem trimPrefix_le (l p : List UInt8) : (Lib.trimPrefix l p).length ≤ l.length := by
  unfold Lib.trimPrefix
  split
  · simp
  · exact Nat.le_refl _

/-- What stands in the result's cell behind a call. -/
theorem two_cells {w w1 : World} (hb : Below (w.alloc (.cells #[.int .i64 0, .int .i64 0] 41)).heap.size (w.alloc (.cells #[.int .i64 0, .int .i64 0] 41)) w1) (a b : Value) :
    w1.cell? ⟨w.heap.size, 0, none⟩ = some (.int .i64 0) ∧ w1.cell? ⟨w.heap.size, 1, none⟩ = some (.int .i64 0) ∧ w1.frozen? ⟨w.heap.size, 0, none⟩ = false ∧ w1.frozen? ⟨w.heap.size, 1, none⟩ = false
      ∧ ((w1.setCell ⟨w.heap.size, 0, none⟩ a).setCell ⟨w.heap.size, 1, none⟩ b).heap[w.heap.size]? = some (.cells #[a, b] 41 (0, 0))
      ∧ Below w.heap.size w ((w1.setCell ⟨w.heap.size, 0, none⟩ a).setCell ⟨w.heap.size, 1, none⟩ b) := by
  have hk := blk_below (blk_new w (.cells #[.int .i64 0, .int .i64 0] 41)) hb
  have hb0 := below_step (below_alloc (Below.refl w.heap.size w) (.cells #[.int .i64 0, .int .i64 0] 41)) hb
  refine ⟨(blk_cell hk 0).trans rfl, (blk_cell hk 1).trans rfl, blk_frozen hk 0, blk_frozen hk 1, ?_, below_set (below_set hb0 (Nat.le_refl _)) (Nat.le_refl _)⟩
  exact blk_set (blk_set hk 0 a) 1 b
set_option maxRecDepth 100000 in
set_option maxHeartbeats 1000000 in
theorem readCell_calls (B : Nat) (s : ByteArray) (hs : s.size ≤ 2000) (w : World) (hB : B ≤ w.heap.size) (hE : ErrB B w) :
    Calls Tryd.prog 22 #[.string s] w fun e w' => e = .returned (.agg #[.int .i64 (cellOf s.data.toList).f0, .int .i64 (cellOf s.data.toList).f1]) ∧ Below w.heap.size w w' := by
  have CP := Lib.hid (fun (W : World) => strings_CutPrefix s ⟨#[118]⟩ W)
  have hl2 : (Lib.trimPrefix s.data.toList [118]).length ≤ s.size := by
    have := trimPrefix_le s.data.toList [118]
    rwa [Array.length_toList, ByteArray.size_data] at this
  have A1 := Lib.hid (fun (W : World) (hb : Below w.heap.size w W) => atoi_calls B s (by omega) W (Nat.le_trans hB hb.size) (hE.below hB hb))
  have A2 := Lib.hid (fun (W : World) (hb : Below w.heap.size w W) => atoi_calls B ⟨(Lib.trimPrefix s.data.toList [118]).toArray⟩ (by simp only [ByteArray.size, List.size_toArray]; omega) W (Nat.le_trans hB hb.size) (hE.below hB hb))
  clear hE hl2
  obtain ⟨o, ho⟩ : ∃ o, o = w.heap.size := ⟨_, rfl⟩
  by_cases hsg : 0 ≤ signAt s.data.toList
  · have h1 : s.size = 1 := by
      rcases hq : s.data.toList with _ | ⟨c, _ | ⟨d, r⟩⟩
      · rw [hq] at hsg; exact absurd hsg (by decide)
      · rw [← ByteArray.size_data, ← Array.length_toList, hq]; rfl
      · rw [hq] at hsg; exact absurd hsg (by simp [signAt])
    obtain ⟨c, rfl, hc⟩ := size_one h1
    have IX := Lib.hid (fun (W : World) => strings_Index_one ⟨#[92, 64, 43, 63, 61]⟩ c W)
    have hle := (signAt_le [c]).2
    unfold cellOf
    rw [if_pos hsg]
    rw [hc] at hsg ⊢
    have e : signAt [c] = Lib.indexByte (⟨#[92, 64, 43, 63, 61]⟩ : ByteArray).data.toList c := rfl
    obtain ⟨n, hn⟩ : ∃ n, n = signAt [c] := ⟨_, rfl⟩
    rw [← e, ← hn] at IX
    rw [← hn] at hsg hle ⊢
    clear e hn h1 hc A1 A2 CP
    have d1 : decide (0 ≤ n) = true := decide_eq_true hsg
    have hw1 : IntKind.i64.wrap (3 + n) = 3 + n := by rw [IntKind.wrap_i64]; omega
    have hsz : ((⟨#[c]⟩ : ByteArray).size : Int) = 1 := rfl
    go_enter Tryd.func22, Tryd.ntmps22
    go_wp2_with fail
    refine (IX.out _).mono ?_
    rintro e w1 ⟨rfl, rfl⟩
    go_wp2_with fail
    exact bodyPost_ret (results_cell_row rfl _ _ w.heap.size 41 _ (0, 0) _ rfl (blk_new w _) Tryd.underlying41 rfl (by kernel_rfl)) rfl ⟨rfl, below_alloc (Below.refl _ _) _⟩
  · have hn1 : ∀ (c : UInt8), s = ⟨#[c]⟩ → signAt [c] < 0 := by
      rintro c rfl
      exact Int.not_le.1 hsg
    unfold cellOf
    rw [if_neg hsg]
    clear hsg
    by_cases h1 : s.size = 1
    · obtain ⟨c, rfl, hc⟩ := size_one h1
      have IX := Lib.hid (fun (W : World) => strings_Index_one ⟨#[92, 64, 43, 63, 61]⟩ c W)
      have e : signAt [c] = Lib.indexByte (⟨#[92, 64, 43, 63, 61]⟩ : ByteArray).data.toList c := rfl
      have hn := hn1 c rfl
      obtain ⟨n, hn0⟩ : ∃ n, n = signAt [c] := ⟨_, rfl⟩
      rw [← e, ← hn0] at IX
      rw [← hn0] at hn
      have d1 : decide (0 ≤ n) = false := decide_eq_false (by omega)
      clear hn1 e hn0 hn h1 hc
      have hsz : ((⟨#[c]⟩ : ByteArray).size : Int) = 1 := rfl
      by_cases hp : Lib.hasPrefix (⟨#[c]⟩ : ByteArray).data.toList [118] = true
      · rw [if_pos hp]
        simp only [show (⟨#[118]⟩ : ByteArray).data.toList = [118] from rfl, hp] at CP
        generalize htp : (Lib.trimPrefix (⟨#[c]⟩ : ByteArray).data.toList [118]) = tp at CP A2 ⊢
        generalize hnv : numV tp = nv at A2 ⊢
        clear htp hp A1
        go_enter Tryd.func22, Tryd.ntmps22
        go_wp2_with fail
        refine (IX.out _).mono ?_
        rintro e w1 ⟨rfl, rfl⟩
        go_wp2_with fail
        refine (CP.out _).mono ?_
        rintro e w1 ⟨rfl, rfl⟩
        go_wp2_with fail
        refine (A2.out _ (below_alloc (Below.refl _ _) _)).mono ?_
        rintro e w1 ⟨⟨er, rfl⟩, hb⟩
        obtain ⟨k0, k1, f0, f1, hbl, hbe⟩ := two_cells hb (.int .i64 1) (.int .i64 nv)
        clear hb
        have HBL := Lib.hid hbl
        have HBE := Lib.hid hbe
        clear hbl hbe
        go_wp2_with fail
        exact bodyPost_ret (results_cell_row rfl _ _ w.heap.size 41 _ (0, 0) _ rfl HBL.out Tryd.underlying41 rfl (by kernel_rfl)) rfl ⟨rfl, HBE.out⟩
      · rw [if_neg hp]
        have hp' : Lib.hasPrefix (⟨#[c]⟩ : ByteArray).data.toList [118] = false := by simpa using hp
        simp only [show (⟨#[118]⟩ : ByteArray).data.toList = [118] from rfl, hp'] at CP
        generalize htp : (Lib.trimPrefix (⟨#[c]⟩ : ByteArray).data.toList [118]) = tp at CP
        generalize hnv : numV (⟨#[c]⟩ : ByteArray).data.toList = nv at A1 ⊢
        clear htp hp hp' A2
        go_enter Tryd.func22, Tryd.ntmps22
        go_wp2_with fail
        refine (IX.out _).mono ?_
        rintro e w1 ⟨rfl, rfl⟩
        go_wp2_with fail
        refine (CP.out _).mono ?_
        rintro e w1 ⟨rfl, rfl⟩
        go_wp2_with fail
        refine (A1.out _ (below_alloc (Below.refl _ _) _)).mono ?_
        rintro e w1 ⟨⟨er, rfl⟩, hb⟩
        obtain ⟨k0, k1, f0, f1, hbl, hbe⟩ := two_cells hb (.int .i64 2) (.int .i64 nv)
        clear hb
        have HBL := Lib.hid hbl
        have HBE := Lib.hid hbe
        clear hbl hbe
        go_wp2_with fail
        exact bodyPost_ret (results_cell_row rfl _ _ w.heap.size 41 _ (0, 0) _ rfl HBL.out Tryd.underlying41 rfl (by kernel_rfl)) rfl ⟨rfl, HBE.out⟩
    · have d1 : ((s.size : Int) == 1) = false := by rw [beq_eq_false_iff_ne]; omega
      clear hn1 h1
      by_cases hp : Lib.hasPrefix s.data.toList [118] = true
      · rw [if_pos hp]
        simp only [show (⟨#[118]⟩ : ByteArray).data.toList = [118] from rfl, hp] at CP
        generalize htp : (Lib.trimPrefix s.data.toList [118]) = tp at CP A2 ⊢
        generalize hnv : numV tp = nv at A2 ⊢
        clear htp hp A1
        go_enter Tryd.func22, Tryd.ntmps22
        go_wp2_with fail
        refine (CP.out _).mono ?_
        rintro e w1 ⟨rfl, rfl⟩
        go_wp2_with fail
        refine (A2.out _ (below_alloc (Below.refl _ _) _)).mono ?_
        rintro e w1 ⟨⟨er, rfl⟩, hb⟩
        obtain ⟨k0, k1, f0, f1, hbl, hbe⟩ := two_cells hb (.int .i64 1) (.int .i64 nv)
        clear hb
        have HBL := Lib.hid hbl
        have HBE := Lib.hid hbe
        clear hbl hbe
        go_wp2_with fail
        exact bodyPost_ret (results_cell_row rfl _ _ w.heap.size 41 _ (0, 0) _ rfl HBL.out Tryd.underlying41 rfl (by kernel_rfl)) rfl ⟨rfl, HBE.out⟩
      · rw [if_neg hp]
        have hp' : Lib.hasPrefix s.data.toList [118] = false := by simpa using hp
        simp only [show (⟨#[118]⟩ : ByteArray).data.toList = [118] from rfl, hp'] at CP
        generalize htp : (Lib.trimPrefix s.data.toList [118]) = tp at CP
        generalize hnv : numV s.data.toList = nv at A1 ⊢
        clear htp hp hp' A2
        go_enter Tryd.func22, Tryd.ntmps22
        go_wp2_with fail
        refine (CP.out _).mono ?_
        rintro e w1 ⟨rfl, rfl⟩
        go_wp2_with fail
        refine (A1.out _ (below_alloc (Below.refl _ _) _)).mono ?_
        rintro e w1 ⟨⟨er, rfl⟩, hb⟩
        obtain ⟨k0, k1, f0, f1, hbl, hbe⟩ := two_cells hb (.int .i64 2) (.int .i64 nv)
        clear hb
        have HBL := Lib.hid hbl
        have HBE := Lib.hid hbe
        clear hbl hbe
        go_wp2_with fail
        exact bodyPost_ret (results_cell_row rfl _ _ w.heap.size 41 _ (0, 0) _ rfl HBL.out Tryd.underlying41 rfl (by kernel_rfl)) rfl ⟨rfl, HBE.out⟩
end Go.Proofs.YtgoiifpimpnlpaaDoor.PAll

namespace Go.Proofs.YtgoiifpimpnlpaaDoor.PAll
open Go.RowKit Go.Proofs.YtgoiifpimpnlpaaDoorW.PrintWords Go.Proofs.YtgoiifpimpnlpaaDoorW.PrintLast Go.Proofs.YtgoiifpimpnlpaaDoorW.PrintMore
set_option linter.unusedVariables false
set_option linter.unusedSimpArgs false

/-- The cell of MaxLen holds some number. -/
def MaxB (B : Nat) (w : World) : Prop := ∀ w', Below B w w' → ∃ m, w'.cell? ⟨0, 0, none⟩ = some (.int .i64 m)
theorem MaxB.below {B : Nat} {w w1 : World} (h : MaxB B w) (hB : B ≤ w.heap.size) (hb : Below w.heap.size w w1) : MaxB B w1 := fun w' hw' => h w' ((hb.mono hB).trans hw')
/-- The words between the blanks. -/
def wordsOf (s : ByteArray) : List ByteArray := Lib.splitB ⟨#[32]⟩ 0 (Lib.countB s ⟨#[32]⟩) s
theorem wordsOf_len (s : ByteArray) : (wordsOf s).length = Lib.countB s ⟨#[32]⟩ + 1 := Lib.splitB_all ⟨#[32]⟩ (by decide) 0 _ s rfl
theorem countB_bd (s : ByteArray) : Lib.countB s ⟨#[32]⟩ ≤ s.size := Lib.countB_le ⟨#[32]⟩ (by decide) s.size s (Nat.le_refl _)
theorem splitB_sizes (sep : ByteArray) : ∀ (k : Nat) (s : ByteArray), ∀ x ∈ Lib.splitB sep 0 k s, x.size ≤ s.size := by
  intro k
  induction k with
  | zero => intro s x hx; rw [Lib.splitB_zero] at hx; obtain rfl := List.mem_singleton.1 hx; exact Nat.le_refl _
  | succ k ih =>
    intro s x hx
    unfold Lib.splitB at hx
    split at hx
    · obtain rfl := List.mem_singleton.1 hx; exact Nat.le_refl _
    · rcases List.mem_cons.1 hx with rfl | hx
      · rw [ByteArray.size_extract]; omega
      · have := ih _ x hx
        rw [ByteArray.size_extract] at this
        omega
/-- The cells that ReadTerm reads. -/
def readCells (s : ByteArray) : List S41 := (wordsOf s).map fun x => cellOf x.data.toList
/-- What ReadTerm answers. -/
def readFin (out : List S41) (s : ByteArray) : List S41 × Bool := if (textOf out).2 = true ∧ strB (textOf out).1 = s then (out, true) else ([], false)
/-- The same, with the length looked at. -/
def readOf (s : ByteArray) : List S41 × Bool := if 2000 < s.size then ([], false) else readFin (readCells s) s

set_option maxRecDepth 100000 in
set_option maxHeartbeats 2000000 in
theorem ReadTerm_calls (B : Nat) (s : ByteArray) (w : World) (hB : B ≤ w.heap.size) (hT : TabB B w) (hE : ErrB B w) (hM : MaxB B w) :
    Calls Tryd.prog 7 #[.string s] w fun e w' => ∃ v, e = .returned (.tuple #[v, .bool (readOf s).2]) ∧ Kd.R k41 41 w' w.heap.size (fun _ => True) v (readOf s).1 ∧ Below w.heap.size w w' := by
  unfold readOf
  by_cases h1 : 2000 < s.size
  · rw [if_pos h1]
    have d1 : decide ((2000 : Int) < (s.size : Int)) = true := decide_eq_true (by omega)
    clear hT hE hM
    go_enter Tryd.func7, Tryd.ntmps7
    go_wp2
    go_ret2
    exact ⟨_, rfl, Kd.R_nil _ _ _ _ _, Below.refl _ _⟩
  · rw [if_neg h1]
    have d1 : decide ((2000 : Int) < (s.size : Int)) = false := decide_eq_false (by omega)
    obtain ⟨m, hm⟩ := hM w (Below.refl _ _)
    have SP := Lib.hid (fun (W : World) (hb : Below w.heap.size w W) => by
      obtain ⟨m, hm⟩ := (hM.below hB hb) W (Below.refl _ _)
      exact strings_Split s ⟨#[32]⟩ m W (by omega) hm (by decide))
    have hwl := wordsOf_len s
    have hcb := countB_bd s
    have HWS := Lib.hid (splitB_sizes ⟨#[32]⟩ (Lib.countB s ⟨#[32]⟩) s)
    rw [show Lib.splitB ⟨#[32]⟩ 0 (Lib.countB s ⟨#[32]⟩) s = wordsOf s from rfl] at SP HWS
    rw [← hwl] at SP
    have HT := Lib.hid (fun (W : World) (hb : Below w.heap.size w W) => hT.below hB hb)
    have HE := Lib.hid (fun (W : World) (hb : Below w.heap.size w W) => hE.below hB hb)
    clear hT hE hM hm
    obtain ⟨ws, hws⟩ : ∃ ws, ws = wordsOf s := ⟨_, rfl⟩
    have hrc : readCells s = ws.map fun x => cellOf x.data.toList := by rw [hws]; rfl
    rw [← hws] at SP HWS hwl
    have hlen : ws.length ≤ 2001 := by omega
    rw [hrc]
    clear hrc hws hwl hcb
    obtain ⟨out, hout⟩ : ∃ out, out = ws.map fun x => cellOf x.data.toList := ⟨_, rfl⟩
    rw [← hout]
    have HOUT := Lib.hid hout
    clear hout
    go_enter Tryd.func7, Tryd.ntmps7
    go_wp2_with fail
    refine (SP.out _ (below_alloc (Below.refl _ _) _)).mono ?_
    rintro e w1 ⟨rfl, hw1⟩
    have HB1 := Lib.hid (show Below w.heap.size w w1 by rw [hw1]; exact below_alloc (below_alloc (Below.refl _ _) _) _)
    have HS := Lib.hid (show w1.heap[w.heap.size + 1]? = some (.cells (ws.map Value.string).toArray 9 (0, 0)) by rw [hw1]; simpa using blk_new (w.alloc (.cells #[] 41)) (.cells (ws.map Value.string).toArray 9))
    have HU := Lib.hid (show Kd.R k41 41 w1 w.heap.size (fun k => k ≠ w.heap.size + 1) (.slice (some ⟨w.heap.size, 0, none⟩) 0 0) [] from
      ⟨fun k hk => by simp [Value.ownBlock] at hk; omega, ⟨[], ⟨by simp, .inr ⟨w.heap.size, 0, #[], rfl, Nat.le_refl _, by rw [hw1]; exact blk_alloc (blk_new w _) _, Nat.le_refl _, by decide, by simp, by simp⟩⟩, Reps.none _ _⟩⟩)
    clear hw1
    go_wp2_with fail
    go_loopw [4, 6, 16] (fun v4 v6 v16 wr => ∃ j : Nat, j ≤ ws.length ∧ v16 = .int .i64 j ∧ Kd.R k41 41 wr w.heap.size (fun k => k ≠ w.heap.size + 1) v4 ((ws.take j).map fun x => cellOf x.data.toList) ∧ Below w.heap.size w wr ∧ wr.heap[w.heap.size + 1]? = some (.cells (ws.map Value.string).toArray 9 (0, 0))) (fun _ _ v16 _ => ws.length - (intOf v16).toNat)
    case atStart => exact ⟨0, Nat.zero_le _, rfl, by simpa using HU.out, HB1.out, HS.out⟩
    case round =>
      obtain ⟨j, hj, rfl, hR, hBw, hblk⟩ := hrel
      clear HS HU HB1
      have HR := Lib.hid hR
      have HBW := Lib.hid hBw
      have HBLK := Lib.hid hblk
      clear hR hBw hblk
      by_cases hlt : j < ws.length
      · obtain ⟨x, hx⟩ : ∃ x, ws[j]? = some x := ⟨ws[j], by simp [hlt]⟩
        have hxs := HWS.out x (List.mem_of_getElem? hx)
        have cx : wr.cell? ⟨w.heap.size + 1, j, none⟩ = some (.string x) := (blk_cell HBLK.out j).trans (by simp [hx])
        have C := Lib.hid (readCell_calls B x (by omega) wr (Nat.le_trans hB HBW.out.size) (HE.out wr HBW.out))
        have HX := Lib.hid hx
        have hl16 : (((ws.take j).map fun x => cellOf x.data.toList).length + 1) * 16 ≤ 140737488355328 := by simp; omega
        have HL16 := Lib.hid hl16
        clear hx hxs hl16
        obtain ⟨zs, hzs⟩ : ∃ zs, zs = (ws.take j).map fun x => cellOf x.data.toList := ⟨_, rfl⟩
        rw [← hzs] at HR HL16
        have HZS := Lib.hid hzs
        clear hzs
        go_wp2_with fail
        refine C.out.mono ?_
        rintro e w2 ⟨rfl, hb2⟩
        have HR2 := Lib.hid (Kd.R_below HR.out hb2)
        have HBW2 := Lib.hid (below_step HBW.out hb2)
        have HBLK2 := Lib.hid (blk_below HBLK.out hb2)
        clear hb2
        obtain ⟨y, hy⟩ : ∃ y, y = cellOf x.data.toList := ⟨_, rfl⟩
        rw [← hy]
        have HY := Lib.hid hy
        clear hy HR HBW HBLK cx
        go_wp2_with (first | ((with_reducible refine gate_builtin (b := .append) (xs := #[.tmp 20, .tmp 23]) rfl ?_); at_builtin; refine Kd.R_append k41 (w0 := w) w.heap.size rfl (.tmp 20) (.tmp 23) 22 41 (.agg #[(.int .i64 0), (.int .i64 0)]) 16 rfl Tryd.underlying22 info41 rfl (by decide) (by omega) u4 zs y [.int .i64 y.f0, .int .i64 y.f1] (fun k => k ≠ w.heap.size + 1) (fun _ => False) rfl (by first | (go_simp; done) | (go_simp; rfl)) ?aP (fun _ hk => hk.elim) ?aF ?aO ?aB ?aS ?aL ?_; (case aP => exact k41_mkM _ _ _ y); (case aB => exact HBW2.out); (case aF => exact (fun k hk => by have := blk_lt HBLK2.out; omega)); (case aO => exact HR2.out); (case aS => exact HBW2.out.size); (case aL => exact HL16.out); intro v1 w3 hu3 hb3 hg3 _; have HU3 := Lib.hid hu3; have HB3 := Lib.hid hb3; have HBLK3 := Lib.hid ((hg3.block (w.heap.size + 1) (blk_lt HBLK2.out) (fun e => HR2.out.1 (w.heap.size + 1) e.symm rfl)).trans HBLK2.out); clear hu3 hb3 hg3))
        go_roundw
        case rel => exact ⟨j + 1, by omega, by go_num, by
          rw [List.take_add_one, HX.out, List.map_append, Option.toList_some, List.map_cons, List.map_nil, ← HY.out, ← HZS.out]
          exact HU3.out, HB3.out, HBLK3.out⟩
        case measure => simp [intOf]; omega
      · obtain rfl : j = ws.length := by omega
        rw [List.take_length, ← HOUT.out] at HR
        obtain ⟨Ao, co, hv4, hlo, _⟩ := Kd.R_reads HR.out
        subst hv4
        have HC := Lib.hid (Kd.R_reads' HR.out).2.2
        have HT2 := Lib.hid (HT.out wr HBW.out)
        have TT := Lib.hid (TermText_calls B out Ao co wr HC.out hlo (Nat.le_trans hB HBW.out.size) HT2.out)
        obtain ⟨tx, ok, htx⟩ : ∃ tx ok, textOf out = (tx, ok) := ⟨_, _, rfl⟩
        rw [htx] at TT
        simp only at TT
        have HTX := Lib.hid htx
        clear htx
        cases ok with
        | false =>
          have hpost : readFin out s = (([], false) : List S41 × Bool) := by unfold readFin; rw [HTX.out]; simp
          have HPOST := Lib.hid hpost
          clear hpost
          go_wp2_with fail
          refine TT.out.mono ?_
          rintro e w2 ⟨rfl, hb2⟩
          have HB2 := Lib.hid (below_step HBW.out hb2)
          clear hb2
          go_wp2
          go_ret2
          rw [HPOST.out]
          exact ⟨_, rfl, Kd.R_nil _ _ _ _ _, HB2.out⟩
        | true =>
          by_cases he : strB tx = s
          · have hpost : readFin out s = ((out, true) : List S41 × Bool) := by unfold readFin; rw [HTX.out]; simp [he]
            have HPOST := Lib.hid hpost
            have d2 : ((strB tx).toList == s.toList) = true := by rw [he]; exact beq_self_eq_true _
            clear hpost he
            go_wp2_with fail
            refine TT.out.mono ?_
            rintro e w2 ⟨rfl, hb2⟩
            have HB2 := Lib.hid (below_step HBW.out hb2)
            have HR2 := Lib.hid (Kd.R_mono (Kd.R_below HR.out hb2) (fun _ _ => trivial) : Kd.R k41 41 w2 w.heap.size (fun _ => True) _ out)
            clear hb2
            go_wp2
            go_ret2
            rw [HPOST.out]
            exact ⟨_, rfl, HR2.out, HB2.out⟩
          · have hpost : readFin out s = (([], false) : List S41 × Bool) := by unfold readFin; rw [HTX.out]; simp [he]
            have HPOST := Lib.hid hpost
            have d2 : ((strB tx).toList == s.toList) = false := by
              rw [beq_eq_false_iff_ne]
              intro h
              rw [ByteArray.toList_eq, ByteArray.toList_eq] at h
              exact he (ByteArray.ext (Array.ext' h))
            clear hpost he
            go_wp2_with fail
            refine TT.out.mono ?_
            rintro e w2 ⟨rfl, hb2⟩
            have HB2 := Lib.hid (below_step HBW.out hb2)
            clear hb2
            go_wp2
            go_ret2
            rw [HPOST.out]
            exact ⟨_, rfl, Kd.R_nil _ _ _ _ _, HB2.out⟩
end Go.Proofs.YtgoiifpimpnlpaaDoor.PAll

namespace Go.Proofs.YtgoiifpimpnlpaaDoor.PAll
open Go.RowKit Go.Proofs.YtgoiifpimpnlpaaDoorW.PrintWords Go.Proofs.YtgoiifpimpnlpaaDoorW.PrintLast Go.Proofs.YtgoiifpimpnlpaaDoorW.PrintMore
attribute [local go_sem] max2_int min2_int max_two min_two max_three min_three max_four min_four
set_option linter.unusedVariables false
set_option linter.unusedSimpArgs false

/-- What the first blocks hold. -/
def PreB (B : Nat) (w : World) : Prop := TabB B w ∧ ErrB B w ∧ MaxB B w
theorem PreB.below {B : Nat} {w w1 : World} (h : PreB B w) (hB : B ≤ w.heap.size) (hb : Below w.heap.size w w1) : PreB B w1 := ⟨h.1.below hB hb, h.2.1.below hB hb, h.2.2.below hB hb⟩
def impl_ReadTerm.f (k : Nat) (a0 : ByteArray) : Option (List S41 × Bool) := some (readOf a0)
theorem impl_ReadTerm.mono : ∀ a0 k, LeO (impl_ReadTerm.f k a0) (impl_ReadTerm.f (k + 1) a0) := fun _ _ => LeO.refl _
theorem impl_ReadTerm.calls (B : Nat) (k : Nat) (a0 : ByteArray) (r1 : List S41) (r2 : Bool) (w : World) (hp : B ≤ w.heap.size ∧ PreB B w) (h : impl_ReadTerm.f k a0 = some (r1, r2)) :
    Calls Tryd.prog 7 #[.string a0] w fun e w' => ∃ v0_ : Value, e = .returned (.tuple #[v0_, .bool r2]) ∧ Kd.R k41 41 w' w.heap.size (fun _ => True) v0_ r1 ∧ Below w.heap.size w w' := by
  have e : readOf a0 = (r1, r2) := Option.some.inj h
  have := ReadTerm_calls B a0 w hp.1 hp.2.1 hp.2.2.1 hp.2.2.2
  rw [e] at this
  exact this

/-! ### laws_FnExactReadTerm: function 3 -/
mutual
def laws_FnExactReadTerm.j0 : Nat → ByteArray → List (S41) → Bool → List (S41) → Bool → Option (Bool)
  | 0, _, _, _, _, _ => none
  | k + 1, x0, x3, x4, x5, x32 => if x32 = true then (some false) else ((laws_markCellS.f k x5 1).bind fun bt271 => ((laws_heldCellS.f k bt271.2 1).bind fun t273 => (if t273 < 0 then (some false) else (if t273 = bt271.1 then ((impl_ReadTerm.f k x0).bind fun bt274 => ((laws_eqCellS.f k bt274.1 x3).bind fun t278 => (if t278 = true then (laws_FnExactReadTerm.j1 k bt271.2 bt271.1 (bt274.2 != x4)) else (laws_FnExactReadTerm.j1 k bt271.2 bt271.1 true)))) else (some false)))))
def laws_FnExactReadTerm.j1 : Nat → List (S41) → Int → Bool → Option (Bool)
  | 0, _, _, _ => none
  | k + 1, x5, x7, x57 => if x57 = true then (some false) else ((laws_heldCellS.f k x5 1).bind fun t279 => (if t279 < 0 then (some false) else (if t279 = x7 then (some true) else (some false))))
end
def laws_FnExactReadTerm.f (k : Nat) (a0 : ByteArray) : Option (Bool) := if (a0.size : Int) > 1048576 then (some true) else ((spec_ReadTerm.f k a0).bind fun bt262 => ((impl_ReadTerm.f k a0).bind fun bt266 => ((laws_eqCellS.f k bt266.1 bt262.1).bind fun t270 => (if t270 = true then (laws_FnExactReadTerm.j0 k a0 bt262.1 bt262.2 bt266.1 (bt266.2 != bt262.2)) else (laws_FnExactReadTerm.j0 k a0 bt262.1 bt262.2 bt266.1 true)))))
theorem laws_FnExactReadTerm.mono_l : ∀ k, (∀ y0 y1 y2 y3 y4, LeO (laws_FnExactReadTerm.j0 k y0 y1 y2 y3 y4) (laws_FnExactReadTerm.j0 (k + 1) y0 y1 y2 y3 y4)) ∧ (∀ y0 y1 y2, LeO (laws_FnExactReadTerm.j1 k y0 y1 y2) (laws_FnExactReadTerm.j1 (k + 1) y0 y1 y2))
  | 0 => ⟨fun _ _ _ _ _ r h => by simp [laws_FnExactReadTerm.j0] at h, fun _ _ _ r h => by simp [laws_FnExactReadTerm.j1] at h⟩
  | k + 1 => by
    obtain ⟨ih0, ih1⟩ := laws_FnExactReadTerm.mono_l k
    refine ⟨?_, ?_⟩
    · intro y0 y1 y2 y3 y4
      unfold laws_FnExactReadTerm.j0
      repeat' first
      | (with_reducible exact ih0 _ _ _ _ _)
      | (with_reducible exact ih1 _ _ _)
      | (with_reducible exact impl_ReadTerm.mono _ _)
      | (with_reducible exact laws_eqCellS.mono _ _ _)
      | (with_reducible exact laws_heldCellS.mono _ _ _)
      | (with_reducible exact laws_markCellS.mono _ _ _)
      | (with_reducible exact spec_ReadTerm.mono _ _)
      | (with_reducible exact LeO.refl _)
      | (with_reducible exact LeO.none _)
      | (with_reducible refine LeO.ite ?_ ?_)
      | (with_reducible refine LeO.bind ?_ (fun _ => ?_))
      | exact ih0 _ _ _ _ _
      | exact ih1 _ _ _
      | exact impl_ReadTerm.mono _ _
      | exact laws_eqCellS.mono _ _ _
      | exact laws_heldCellS.mono _ _ _
      | exact laws_markCellS.mono _ _ _
      | exact spec_ReadTerm.mono _ _
      | exact LeO.none _
      | refine LeO.ite ?_ ?_
      | refine LeO.bind ?_ (fun _ => ?_)
    · intro y0 y1 y2
      unfold laws_FnExactReadTerm.j1
      repeat' first
      | (with_reducible exact ih0 _ _ _ _ _)
      | (with_reducible exact ih1 _ _ _)
      | (with_reducible exact impl_ReadTerm.mono _ _)
      | (with_reducible exact laws_eqCellS.mono _ _ _)
      | (with_reducible exact laws_heldCellS.mono _ _ _)
      | (with_reducible exact laws_markCellS.mono _ _ _)
      | (with_reducible exact spec_ReadTerm.mono _ _)
      | (with_reducible exact LeO.refl _)
      | (with_reducible exact LeO.none _)
      | (with_reducible refine LeO.ite ?_ ?_)
      | (with_reducible refine LeO.bind ?_ (fun _ => ?_))
      | exact ih0 _ _ _ _ _
      | exact ih1 _ _ _
      | exact impl_ReadTerm.mono _ _
      | exact laws_eqCellS.mono _ _ _
      | exact laws_heldCellS.mono _ _ _
      | exact laws_markCellS.mono _ _ _
      | exact spec_ReadTerm.mono _ _
      | exact LeO.none _
      | refine LeO.ite ?_ ?_
      | refine LeO.bind ?_ (fun _ => ?_)
theorem laws_FnExactReadTerm.mono : ∀ a0 k, LeO (laws_FnExactReadTerm.f k a0) (laws_FnExactReadTerm.f (k + 1) a0) := by
  intro a0 k
  obtain ⟨ih0, ih1⟩ := laws_FnExactReadTerm.mono_l k
  unfold laws_FnExactReadTerm.f
  repeat' first
      | (with_reducible exact ih0 _ _ _ _ _)
      | (with_reducible exact ih1 _ _ _)
      | (with_reducible exact impl_ReadTerm.mono _ _)
      | (with_reducible exact laws_eqCellS.mono _ _ _)
      | (with_reducible exact laws_heldCellS.mono _ _ _)
      | (with_reducible exact laws_markCellS.mono _ _ _)
      | (with_reducible exact spec_ReadTerm.mono _ _)
      | (with_reducible exact LeO.refl _)
      | (with_reducible exact LeO.none _)
      | (with_reducible refine LeO.ite ?_ ?_)
      | (with_reducible refine LeO.bind ?_ (fun _ => ?_))
      | exact ih0 _ _ _ _ _
      | exact ih1 _ _ _
      | exact impl_ReadTerm.mono _ _
      | exact laws_eqCellS.mono _ _ _
      | exact laws_heldCellS.mono _ _ _
      | exact laws_markCellS.mono _ _ _
      | exact spec_ReadTerm.mono _ _
      | exact LeO.none _
      | refine LeO.ite ?_ ?_
      | refine LeO.bind ?_ (fun _ => ?_)
set_option maxHeartbeats 8000000 in
set_option maxRecDepth 100000 in
set_option maxRecDepth 100000 in
set_option maxHeartbeats 4000000 in
theorem laws_FnExactReadTerm.calls (B : Nat) (k : Nat) (a0 : ByteArray) (r_ : Bool) (w : World) (hB0 : B ≤ w.heap.size) (hP0 : PreB B w) (h : laws_FnExactReadTerm.f k a0 = some true) :
    Calls Tryd.prog 3 #[.string a0] w fun e w' => e = .returned (.bool true) ∧ Below w.heap.size w w' := by
  have PR := Aside0.mk (fun (W : World) (hb : Below w.heap.size w W) => (⟨Nat.le_trans hB0 hb.size, hP0.below hB0 hb⟩ : B ≤ W.heap.size ∧ PreB B W))
  clear hB0 hP0
  have HB := Aside0.mk (Below.refl w.heap.size w)
  have H : (if (a0.size : Int) > 1048576 then (some true) else ((spec_ReadTerm.f k a0).bind fun bt262 => ((impl_ReadTerm.f k a0).bind fun bt266 => ((laws_eqCellS.f k bt266.1 bt262.1).bind fun t270 => (if t270 = true then (laws_FnExactReadTerm.j0 k a0 bt262.1 bt262.2 bt266.1 (bt266.2 != bt262.2)) else (laws_FnExactReadTerm.j0 k a0 bt262.1 bt262.2 bt266.1 true)))))) = some true := h
  clear h
  by_cases c2 : (a0.size : Int) > 1048576
  · rw [if_pos c2] at H
    have c2b0 : decide (1048576 < (a0.size : Int)) = true := decide_eq_true c2
    have c2b1 : decide (1048576 < a0.size) = true := decide_eq_true (by omega)
    clear c2
    clear H
    go_enter Tryd.func3, Tryd.ntmps3
    go_wp2
    go_ret
    exact ⟨by first | rfl | (simp [errW_none, errW_some] <;> rfl) | (simp [*, errW_none, errW_some] <;> rfl), by repeat (first | (with_reducible first | exact HB.out | apply below_alloc | apply pw_below_drewN | apply below_drew1) | exact HB.out)⟩
  · rw [if_neg c2] at H
    have c2b0 : decide (1048576 < (a0.size : Int)) = false := decide_eq_false c2
    have c2b1 : decide (1048576 < a0.size) = false := decide_eq_false (by omega)
    clear c2
    replace H := Option.bind_eq_some_iff.mp H
    obtain ⟨⟨t262, t263⟩, A30, H⟩ := H
    replace H : ((impl_ReadTerm.f k a0).bind fun bt266 => ((laws_eqCellS.f k bt266.1 t262).bind fun t270 => (if t270 = true then (laws_FnExactReadTerm.j0 k a0 t262 t263 bt266.1 (bt266.2 != t263)) else (laws_FnExactReadTerm.j0 k a0 t262 t263 bt266.1 true)))) = some true := H
    have A3 := Aside0.mk A30
    clear A30
    replace H := Option.bind_eq_some_iff.mp H
    obtain ⟨⟨t266, t267⟩, A40, H⟩ := H
    replace H : ((laws_eqCellS.f k t266 t262).bind fun t270 => (if t270 = true then (laws_FnExactReadTerm.j0 k a0 t262 t263 t266 (t267 != t263)) else (laws_FnExactReadTerm.j0 k a0 t262 t263 t266 true))) = some true := H
    have A4 := Aside0.mk A40
    clear A40
    have HC5 := Aside0.mk H
    clear H
    go_enter Tryd.func3, Tryd.ntmps3
    go_upto_region 5 with (first | ((with_reducible refine gate_callee (f := 6) rfl ?_); refine goesL_ (some 16) rfl rfl Tryd.func6 (by kernel_rfl) rfl #[.string a0] rfl (by (try simp only [List.map_toArray, List.map_cons, List.map_nil]); first | done | rfl | (simp only [List.length_drop, List.length_take]; rfl)) ?_; (with_reducible refine (spec_ReadTerm.calls k a0 t262 t263 _ A3.out).mono ?_); rintro e w6 ⟨v264, rfl, ho0, hb⟩; refine ⟨_, rfl, ?_⟩; have n0_ := Aside0.mk (Kd.R_lower ho0 (below_size (by repeat (first | (with_reducible first | exact HB.out | apply below_alloc | apply pw_below_drewN | apply below_drew1) | exact HB.out)))); have n1_ := Aside0.mk (below_step (by repeat (first | (with_reducible first | exact HB.out | apply below_alloc | apply pw_below_drewN | apply below_drew1) | exact HB.out)) hb); clear HB; have HO265 := n0_; have HB := n1_; clear n0_ n1_; (try clear hb); (try clear hb2); (try clear hk); (try clear hi); (try clear ho0)) | ((with_reducible refine gate_callee (f := 7) rfl ?_); refine goesL_ (some 21) rfl rfl Tryd.func7 (by kernel_rfl) rfl #[.string a0] rfl (by (try simp only [List.map_toArray, List.map_cons, List.map_nil]); first | done | rfl | (simp only [List.length_drop, List.length_take]; rfl)) ?_; (with_reducible refine (impl_ReadTerm.calls B k a0 t266 t267 _ (PR.out _ (by repeat (first | (with_reducible first | exact HB.out | apply below_alloc | apply pw_below_drewN | apply below_drew1) | exact HB.out))) A4.out).mono ?_); rintro e w7 ⟨v268, rfl, ho0, hb⟩; refine ⟨_, rfl, ?_⟩; have n0_ := Aside0.mk (Kd.R_elder' (by (with_reducible repeat (first | apply Kd.R_alloc | apply Kd.R_drewN | apply Kd.R_drew)); exact HO265.out) (Kd.R_base ho0) hb); have n1_ := Aside0.mk (Kd.R_lower (Kd.R_new' ho0 (Kd.R_lt (by (with_reducible repeat (first | apply Kd.R_alloc | apply Kd.R_drewN | apply Kd.R_drew)); exact HO265.out))) (below_size (by repeat (first | (with_reducible first | exact HB.out | apply below_alloc | apply pw_below_drewN | apply below_drew1) | exact HB.out)))); have n2_ := Aside0.mk (below_step (by repeat (first | (with_reducible first | exact HB.out | apply below_alloc | apply pw_below_drewN | apply below_drew1) | exact HB.out)) hb); clear HO265; clear HB; have HO265 := n0_; have HO269 := n1_; have HB := n2_; clear n0_ n1_ n2_; (try clear hb); (try clear hb2); (try clear hk); (try clear hi); (try clear ho0)))
    (try simp only [Act.put, List.setIfInBounds_toArray, List.set_cons_zero, List.set_cons_succ])
    go_cut [32] (fun v32 wc => ∃ (kq : Nat) (x32_4 : Bool), v32 = .bool x32_4 ∧ Aside0 (laws_FnExactReadTerm.j0 kq a0 t262 t263 t266 x32_4 = some true) ∧ Aside0 (kq ≤ k) ∧ Aside0 (Kd.R k41 41 wc w.heap.size (fun k_ => some k_ ≠ (v268 : Value).ownBlock) v264 t262) ∧ Aside0 (Kd.R k41 41 wc w.heap.size (fun k_ => some k_ ≠ (v264 : Value).ownBlock) v268 t266) ∧ Aside0 (Below w.heap.size w wc))
    case first =>
      have H := HC5.out
      clear HC5
      replace H := Option.bind_eq_some_iff.mp H
      obtain ⟨t270, A80, H⟩ := H
      replace H : (if t270 = true then (laws_FnExactReadTerm.j0 k a0 t262 t263 t266 (t267 != t263)) else (laws_FnExactReadTerm.j0 k a0 t262 t263 t266 true)) = some true := H
      have A8 := Aside0.mk A80
      clear A80
      by_cases c9 : t270 = true
      · subst c9
        have H1 : (laws_FnExactReadTerm.j0 k a0 t262 t263 t266 (t267 != t263)) = some true := by rw [if_pos rfl] at H; first | done | exact H
        clear H
        have H := H1
        clear H1
        have H' := Aside0.mk H
        clear H
        obtain ⟨Ao10, co10, eo10⟩ := Kd.R_slice HO269.out
        subst eo10
        obtain ⟨Ao11, co11, eo11⟩ := Kd.R_slice HO265.out
        subst eo11
        go_wp2_with (first | ((with_reducible refine gate_callee (f := 8) rfl ?_); refine goesL_ (some 26) rfl rfl Tryd.func8 (by kernel_rfl) rfl #[.slice Ao10 t266.length co10, .slice Ao11 t262.length co11] rfl (by (try simp only [List.map_toArray, List.map_cons, List.map_nil]); first | done | rfl | (simp only [List.length_drop, List.length_take]; rfl)) ?_; (with_reducible refine (laws_eqCellS.calls k _ _ t266 _ _ t262 true _ ?side1 ?side2 ?side3 ?side4 A8.out).mono ?_); (case side1 => repeat (first | exact (Kd.R_reads' HO269.out).2.2 | (with_reducible refine Kd.C_alloc ?_ _) | (with_reducible refine Kd.C_drewN ?_ _) | (with_reducible refine Kd.C_drew ?_))); (case side2 => exact (Kd.R_reads' HO269.out).2.1); (case side3 => repeat (first | exact (Kd.R_reads' HO265.out).2.2 | (with_reducible refine Kd.C_alloc ?_ _) | (with_reducible refine Kd.C_drewN ?_ _) | (with_reducible refine Kd.C_drew ?_))); (case side4 => exact (Kd.R_reads' HO265.out).2.1); rintro e w12 ⟨rfl, hb⟩; refine ⟨_, rfl, ?_⟩; have n0_ := Aside0.mk (Kd.R_below (by (with_reducible repeat (first | apply Kd.R_alloc | apply Kd.R_drewN | apply Kd.R_drew)); exact HO265.out) hb); have n1_ := Aside0.mk (Kd.R_below (by (with_reducible repeat (first | apply Kd.R_alloc | apply Kd.R_drewN | apply Kd.R_drew)); exact HO269.out) hb); have n2_ := Aside0.mk (below_step (by repeat (first | (with_reducible first | exact HB.out | apply below_alloc | apply pw_below_drewN | apply below_drew1) | exact HB.out)) hb); clear HO265; clear HO269; clear HB; have HO265 := n0_; have HO269 := n1_; have HB := n2_; clear n0_ n1_ n2_; (try clear hb); (try clear hb2); (try clear hk); (try clear hi)))
        go_meet
        case rel => exact ⟨_, ((t267 != t263)), (by first | rfl | (simp; done) | (simp [*]; done)), H', ⟨by first | omega | exact Nat.le_refl _⟩, ⟨by (with_reducible repeat (first | apply Kd.R_alloc | apply Kd.R_drewN | apply Kd.R_drew)); exact Kd.R_mono HO265.out (fun _ hk => hk.2)⟩, ⟨by (with_reducible repeat (first | apply Kd.R_alloc | apply Kd.R_drewN | apply Kd.R_drew)); exact Kd.R_mono HO269.out (fun _ hk => hk.2)⟩, ⟨by repeat (first | (with_reducible first | exact HB.out | apply below_alloc | apply pw_below_drewN | apply below_drew1) | exact HB.out)⟩⟩
      · replace c9 := Bool.eq_false_iff.mpr c9
        subst c9
        have H1 : (laws_FnExactReadTerm.j0 k a0 t262 t263 t266 true) = some true := by rw [if_neg (show ¬ (false = true) by decide)] at H; first | done | exact H
        clear H
        have H := H1
        clear H1
        have H' := Aside0.mk H
        clear H
        obtain ⟨Ao13, co13, eo13⟩ := Kd.R_slice HO269.out
        subst eo13
        obtain ⟨Ao14, co14, eo14⟩ := Kd.R_slice HO265.out
        subst eo14
        go_wp2_with (first | ((with_reducible refine gate_callee (f := 8) rfl ?_); refine goesL_ (some 26) rfl rfl Tryd.func8 (by kernel_rfl) rfl #[.slice Ao13 t266.length co13, .slice Ao14 t262.length co14] rfl (by (try simp only [List.map_toArray, List.map_cons, List.map_nil]); first | done | rfl | (simp only [List.length_drop, List.length_take]; rfl)) ?_; (with_reducible refine (laws_eqCellS.calls k _ _ t266 _ _ t262 false _ ?side1 ?side2 ?side3 ?side4 A8.out).mono ?_); (case side1 => repeat (first | exact (Kd.R_reads' HO269.out).2.2 | (with_reducible refine Kd.C_alloc ?_ _) | (with_reducible refine Kd.C_drewN ?_ _) | (with_reducible refine Kd.C_drew ?_))); (case side2 => exact (Kd.R_reads' HO269.out).2.1); (case side3 => repeat (first | exact (Kd.R_reads' HO265.out).2.2 | (with_reducible refine Kd.C_alloc ?_ _) | (with_reducible refine Kd.C_drewN ?_ _) | (with_reducible refine Kd.C_drew ?_))); (case side4 => exact (Kd.R_reads' HO265.out).2.1); rintro e w15 ⟨rfl, hb⟩; refine ⟨_, rfl, ?_⟩; have n0_ := Aside0.mk (Kd.R_below (by (with_reducible repeat (first | apply Kd.R_alloc | apply Kd.R_drewN | apply Kd.R_drew)); exact HO265.out) hb); have n1_ := Aside0.mk (Kd.R_below (by (with_reducible repeat (first | apply Kd.R_alloc | apply Kd.R_drewN | apply Kd.R_drew)); exact HO269.out) hb); have n2_ := Aside0.mk (below_step (by repeat (first | (with_reducible first | exact HB.out | apply below_alloc | apply pw_below_drewN | apply below_drew1) | exact HB.out)) hb); clear HO265; clear HO269; clear HB; have HO265 := n0_; have HO269 := n1_; have HB := n2_; clear n0_ n1_ n2_; (try clear hb); (try clear hb2); (try clear hk); (try clear hi)))
        go_meet
        case rel => exact ⟨_, (true), (by first | rfl | (simp; done) | (simp [*]; done)), H', ⟨by first | omega | exact Nat.le_refl _⟩, ⟨by (with_reducible repeat (first | apply Kd.R_alloc | apply Kd.R_drewN | apply Kd.R_drew)); exact Kd.R_mono HO265.out (fun _ hk => hk.2)⟩, ⟨by (with_reducible repeat (first | apply Kd.R_alloc | apply Kd.R_drewN | apply Kd.R_drew)); exact Kd.R_mono HO269.out (fun _ hk => hk.2)⟩, ⟨by repeat (first | (with_reducible first | exact HB.out | apply below_alloc | apply pw_below_drewN | apply below_drew1) | exact HB.out)⟩⟩
    case rest =>
      clear HC5
      try clear c2
      try clear c2b0
      try clear c2b1
      try clear p2
      try clear c3
      try clear c6
      try clear c7
      try clear c8
      try clear c9
      obtain ⟨kq, x32_4, rfl, HA, HJ4, HO_3, HO_5, HB⟩ := hcut
      cases kq with
      | zero => exact absurd HA.out (by simp [laws_FnExactReadTerm.j0])
      | succ kj4 =>
        have H := HA.out
        clear HA
        simp only [laws_FnExactReadTerm.j0] at H
        by_cases c16 : x32_4 = true
        · subst c16
          have H1 : (some false) = some true := by rw [if_pos rfl] at H; first | done | exact H
          clear H
          have H := H1
          clear H1
          exact absurd H (by simp)
        · replace c16 := Bool.eq_false_iff.mpr c16
          subst c16
          have H1 : ((laws_markCellS.f kj4 t266 1).bind fun bt271 => ((laws_heldCellS.f kj4 bt271.2 1).bind fun t273 => (if t273 < 0 then (some false) else (if t273 = bt271.1 then ((impl_ReadTerm.f kj4 a0).bind fun bt274 => ((laws_eqCellS.f kj4 bt274.1 t262).bind fun t278 => (if t278 = true then (laws_FnExactReadTerm.j1 kj4 bt271.2 bt271.1 (bt274.2 != t263)) else (laws_FnExactReadTerm.j1 kj4 bt271.2 bt271.1 true)))) else (some false))))) = some true := by rw [if_neg (show ¬ (false = true) by decide)] at H; first | done | exact H
          clear H
          have H := H1
          clear H1
          replace H := Option.bind_eq_some_iff.mp H
          obtain ⟨⟨t271, t272⟩, A170, H⟩ := H
          replace H : ((laws_heldCellS.f kj4 t272 1).bind fun t273 => (if t273 < 0 then (some false) else (if t273 = t271 then ((impl_ReadTerm.f kj4 a0).bind fun bt274 => ((laws_eqCellS.f kj4 bt274.1 t262).bind fun t278 => (if t278 = true then (laws_FnExactReadTerm.j1 kj4 t272 t271 (bt274.2 != t263)) else (laws_FnExactReadTerm.j1 kj4 t272 t271 true)))) else (some false)))) = some true := H
          have A17 := Aside0.mk A170
          clear A170
          replace H := Option.bind_eq_some_iff.mp H
          obtain ⟨t273, A180, H⟩ := H
          replace H : (if t273 < 0 then (some false) else (if t273 = t271 then ((impl_ReadTerm.f kj4 a0).bind fun bt274 => ((laws_eqCellS.f kj4 bt274.1 t262).bind fun t278 => (if t278 = true then (laws_FnExactReadTerm.j1 kj4 t272 t271 (bt274.2 != t263)) else (laws_FnExactReadTerm.j1 kj4 t272 t271 true)))) else (some false))) = some true := H
          have A18 := Aside0.mk A180
          clear A180
          by_cases c19 : t273 < 0
          · rw [if_pos c19] at H
            have c19b0 : decide (t273 < 0) = true := decide_eq_true c19
            clear c19
            exact absurd H (by simp)
          · rw [if_neg c19] at H
            have c19b0 : decide (t273 < 0) = false := decide_eq_false c19
            clear c19
            by_cases c20 : t273 = t271
            · rw [if_pos c20] at H
              have c20b0 : (t273 == t271) = true := beq_iff_eq.mpr c20
              have c20b1 : (t273 != t271) = false := bne_eq_false_iff_eq.mpr c20
              clear c20
              replace H := Option.bind_eq_some_iff.mp H
              obtain ⟨⟨t274, t275⟩, A210, H⟩ := H
              replace H : ((laws_eqCellS.f kj4 t274 t262).bind fun t278 => (if t278 = true then (laws_FnExactReadTerm.j1 kj4 t272 t271 (t275 != t263)) else (laws_FnExactReadTerm.j1 kj4 t272 t271 true))) = some true := H
              have A21 := Aside0.mk A210
              clear A210
              have HC22 := Aside0.mk H
              clear H
              obtain ⟨Ao23, co23, eo23⟩ := Kd.R_slice HO_5.out
              subst eo23
              go_upto_region 16 with (first | ((with_reducible refine gate_callee (f := 9) rfl ?_); refine goesL_ (some 35) rfl rfl Tryd.func9 (by kernel_rfl) rfl #[.slice Ao23 t266.length co23, .int .i64 1] rfl (by (try simp only [List.map_toArray, List.map_cons, List.map_nil]); first | done | rfl | (simp only [List.length_drop, List.length_take]; rfl)) ?_; (with_reducible refine (laws_markCellS.calls kj4 (fun k_ => some k_ = (.slice Ao23 t266.length co23 : Value).ownBlock) (.slice Ao23 t266.length co23) t266 1 t271 t272 w _ ?side1 ?side2 A17.out).mono ?_); (case side1 => repeat (first | (with_reducible first | exact HB.out | apply below_alloc | apply pw_below_drewN | apply below_drew1) | exact HB.out)); (case side2 => exact Kd.R_tight rfl HO_5.out); rintro e w24 ⟨rfl, hy0, hb, hkp⟩; refine ⟨_, rfl, ?_⟩; have n0_ := Aside0.mk (Kd.R_mono (ok' := fun k_ => some k_ ≠ (.slice Ao23 t266.length co23 : Value).ownBlock) (Kd.R_keptB (HO_3.out) hkp (fun k_ hk_ hs_ => (hk_) hs_)) (fun k_ hk_ => hk_.1)); have n1_ := Aside0.mk (Kd.R_reok rfl hy0 (fun k_ e_ => HO_5.out.1 k_ e_)); have n2_ := Aside0.mk (hb); clear HO_3; clear HO_5; clear HB; have HO_3 := n0_; have HO_5 := n1_; have HB := n2_; clear n0_ n1_ n2_; (try clear hb); (try clear hkp); (try clear hy0)) | ((with_reducible refine gate_callee (f := 10) rfl ?_); refine goesL_ (some 38) rfl rfl Tryd.func10 (by kernel_rfl) rfl #[.slice Ao23 t272.length co23, .int .i64 1] rfl (by (try simp only [List.map_toArray, List.map_cons, List.map_nil]); first | done | (rw [show t272.length = t266.length from (Kd.R_reads' HO_5.out).1.symm] <;> rfl) | rfl | (simp only [List.length_drop, List.length_take]; rfl)) ?_; (with_reducible refine (laws_heldCellS.calls kj4 _ _ t272 1 t273 _ ?side1 ?side2 A18.out).mono ?_); (case side1 => repeat (first | exact (Kd.R_reads' HO_5.out).2.2 | (with_reducible refine Kd.C_alloc ?_ _) | (with_reducible refine Kd.C_drewN ?_ _) | (with_reducible refine Kd.C_drew ?_))); (case side2 => rw [show t272.length = t266.length from (Kd.R_reads' HO_5.out).1.symm]; exact (Kd.R_reads' HO_5.out).2.1); rintro e w' ⟨rfl, ⟨nd, rfl⟩⟩; refine ⟨_, rfl, ?_⟩) | ((with_reducible refine gate_callee (f := 7) rfl ?_); refine goesL_ (some 46) rfl rfl Tryd.func7 (by kernel_rfl) rfl #[.string a0] rfl (by (try simp only [List.map_toArray, List.map_cons, List.map_nil]); first | done | rfl | (simp only [List.length_drop, List.length_take]; rfl)) ?_; (with_reducible refine (impl_ReadTerm.calls B kj4 a0 t274 t275 _ (PR.out _ (by repeat (first | (with_reducible first | exact HB.out | apply below_alloc | apply pw_below_drewN | apply below_drew1) | exact HB.out))) A21.out).mono ?_); rintro e w25 ⟨v276, rfl, ho0, hb⟩; refine ⟨_, rfl, ?_⟩; have n0_ := Aside0.mk (Kd.R_elder' (by (with_reducible repeat (first | apply Kd.R_alloc | apply Kd.R_drewN | apply Kd.R_drew)); exact HO_3.out) (Kd.R_base ho0) hb); have n1_ := Aside0.mk (Kd.R_elder' (by (with_reducible repeat (first | apply Kd.R_alloc | apply Kd.R_drewN | apply Kd.R_drew)); exact HO_5.out) (Kd.R_base ho0) hb); have n2_ := Aside0.mk (Kd.R_lower (Kd.R_new' (Kd.R_new' ho0 (Kd.R_lt (by (with_reducible repeat (first | apply Kd.R_alloc | apply Kd.R_drewN | apply Kd.R_drew)); exact HO_3.out))) (Kd.R_lt (by (with_reducible repeat (first | apply Kd.R_alloc | apply Kd.R_drewN | apply Kd.R_drew)); exact HO_5.out))) (below_size (by repeat (first | (with_reducible first | exact HB.out | apply below_alloc | apply pw_below_drewN | apply below_drew1) | exact HB.out)))); have n3_ := Aside0.mk (below_step (by repeat (first | (with_reducible first | exact HB.out | apply below_alloc | apply pw_below_drewN | apply below_drew1) | exact HB.out)) hb); clear HO_3; clear HO_5; clear HB; have HO_3 := n0_; have HO_5 := n1_; have HO277 := n2_; have HB := n3_; clear n0_ n1_ n2_ n3_; (try clear hb); (try clear hb2); (try clear hk); (try clear hi); (try clear ho0)))
              (try simp only [Act.put, List.setIfInBounds_toArray, List.set_cons_zero, List.set_cons_succ])
              go_cut [57] (fun v57 wc => ∃ (kq : Nat) (x57_21 : Bool), v57 = .bool x57_21 ∧ Aside0 (laws_FnExactReadTerm.j1 kq t272 t271 x57_21 = some true) ∧ Aside0 (kq ≤ kj4) ∧ Aside0 (Kd.R k41 41 wc w.heap.size (fun _ => True) (.slice Ao23 t266.length co23) t272) ∧ Aside0 (Below w.heap.size w wc))
              case first =>
                have H := HC22.out
                clear HC22
                replace H := Option.bind_eq_some_iff.mp H
                obtain ⟨t278, A260, H⟩ := H
                replace H : (if t278 = true then (laws_FnExactReadTerm.j1 kj4 t272 t271 (t275 != t263)) else (laws_FnExactReadTerm.j1 kj4 t272 t271 true)) = some true := H
                have A26 := Aside0.mk A260
                clear A260
                by_cases c27 : t278 = true
                · subst c27
                  have H1 : (laws_FnExactReadTerm.j1 kj4 t272 t271 (t275 != t263)) = some true := by rw [if_pos rfl] at H; first | done | exact H
                  clear H
                  have H := H1
                  clear H1
                  have H' := Aside0.mk H
                  clear H
                  obtain ⟨Ao28, co28, eo28⟩ := Kd.R_slice HO277.out
                  subst eo28
                  obtain ⟨Ao29, co29, eo29⟩ := Kd.R_slice HO_3.out
                  subst eo29
                  go_wp2_with (first | ((with_reducible refine gate_callee (f := 8) rfl ?_); refine goesL_ (some 51) rfl rfl Tryd.func8 (by kernel_rfl) rfl #[.slice Ao28 t274.length co28, .slice Ao29 t262.length co29] rfl (by (try simp only [List.map_toArray, List.map_cons, List.map_nil]); first | done | rfl | (simp only [List.length_drop, List.length_take]; rfl)) ?_; (with_reducible refine (laws_eqCellS.calls kj4 _ _ t274 _ _ t262 true _ ?side1 ?side2 ?side3 ?side4 A26.out).mono ?_); (case side1 => repeat (first | exact (Kd.R_reads' HO277.out).2.2 | (with_reducible refine Kd.C_alloc ?_ _) | (with_reducible refine Kd.C_drewN ?_ _) | (with_reducible refine Kd.C_drew ?_))); (case side2 => exact (Kd.R_reads' HO277.out).2.1); (case side3 => repeat (first | exact (Kd.R_reads' HO_3.out).2.2 | (with_reducible refine Kd.C_alloc ?_ _) | (with_reducible refine Kd.C_drewN ?_ _) | (with_reducible refine Kd.C_drew ?_))); (case side4 => exact (Kd.R_reads' HO_3.out).2.1); rintro e w30 ⟨rfl, hb⟩; refine ⟨_, rfl, ?_⟩; have n0_ := Aside0.mk (Kd.R_below (by (with_reducible repeat (first | apply Kd.R_alloc | apply Kd.R_drewN | apply Kd.R_drew)); exact HO_3.out) hb); have n1_ := Aside0.mk (Kd.R_below (by (with_reducible repeat (first | apply Kd.R_alloc | apply Kd.R_drewN | apply Kd.R_drew)); exact HO_5.out) hb); have n2_ := Aside0.mk (Kd.R_below (by (with_reducible repeat (first | apply Kd.R_alloc | apply Kd.R_drewN | apply Kd.R_drew)); exact HO277.out) hb); have n3_ := Aside0.mk (below_step (by repeat (first | (with_reducible first | exact HB.out | apply below_alloc | apply pw_below_drewN | apply below_drew1) | exact HB.out)) hb); clear HO_3; clear HO_5; clear HO277; clear HB; have HO_3 := n0_; have HO_5 := n1_; have HO277 := n2_; have HB := n3_; clear n0_ n1_ n2_ n3_; (try clear hb); (try clear hb2); (try clear hk); (try clear hi)))
                  go_meet
                  case rel => exact ⟨_, ((t275 != t263)), (by first | rfl | (simp; done) | (simp [*]; done)), H', ⟨by have := HJ4.out; first | omega | exact Nat.le_refl _⟩, ⟨by (with_reducible repeat (first | apply Kd.R_alloc | apply Kd.R_drewN | apply Kd.R_drew)); exact Kd.R_mono HO_5.out (fun _ hk => trivial)⟩, ⟨by repeat (first | (with_reducible first | exact HB.out | apply below_alloc | apply pw_below_drewN | apply below_drew1) | exact HB.out)⟩⟩
                · replace c27 := Bool.eq_false_iff.mpr c27
                  subst c27
                  have H1 : (laws_FnExactReadTerm.j1 kj4 t272 t271 true) = some true := by rw [if_neg (show ¬ (false = true) by decide)] at H; first | done | exact H
                  clear H
                  have H := H1
                  clear H1
                  have H' := Aside0.mk H
                  clear H
                  obtain ⟨Ao31, co31, eo31⟩ := Kd.R_slice HO277.out
                  subst eo31
                  obtain ⟨Ao32, co32, eo32⟩ := Kd.R_slice HO_3.out
                  subst eo32
                  go_wp2_with (first | ((with_reducible refine gate_callee (f := 8) rfl ?_); refine goesL_ (some 51) rfl rfl Tryd.func8 (by kernel_rfl) rfl #[.slice Ao31 t274.length co31, .slice Ao32 t262.length co32] rfl (by (try simp only [List.map_toArray, List.map_cons, List.map_nil]); first | done | rfl | (simp only [List.length_drop, List.length_take]; rfl)) ?_; (with_reducible refine (laws_eqCellS.calls kj4 _ _ t274 _ _ t262 false _ ?side1 ?side2 ?side3 ?side4 A26.out).mono ?_); (case side1 => repeat (first | exact (Kd.R_reads' HO277.out).2.2 | (with_reducible refine Kd.C_alloc ?_ _) | (with_reducible refine Kd.C_drewN ?_ _) | (with_reducible refine Kd.C_drew ?_))); (case side2 => exact (Kd.R_reads' HO277.out).2.1); (case side3 => repeat (first | exact (Kd.R_reads' HO_3.out).2.2 | (with_reducible refine Kd.C_alloc ?_ _) | (with_reducible refine Kd.C_drewN ?_ _) | (with_reducible refine Kd.C_drew ?_))); (case side4 => exact (Kd.R_reads' HO_3.out).2.1); rintro e w33 ⟨rfl, hb⟩; refine ⟨_, rfl, ?_⟩; have n0_ := Aside0.mk (Kd.R_below (by (with_reducible repeat (first | apply Kd.R_alloc | apply Kd.R_drewN | apply Kd.R_drew)); exact HO_3.out) hb); have n1_ := Aside0.mk (Kd.R_below (by (with_reducible repeat (first | apply Kd.R_alloc | apply Kd.R_drewN | apply Kd.R_drew)); exact HO_5.out) hb); have n2_ := Aside0.mk (Kd.R_below (by (with_reducible repeat (first | apply Kd.R_alloc | apply Kd.R_drewN | apply Kd.R_drew)); exact HO277.out) hb); have n3_ := Aside0.mk (below_step (by repeat (first | (with_reducible first | exact HB.out | apply below_alloc | apply pw_below_drewN | apply below_drew1) | exact HB.out)) hb); clear HO_3; clear HO_5; clear HO277; clear HB; have HO_3 := n0_; have HO_5 := n1_; have HO277 := n2_; have HB := n3_; clear n0_ n1_ n2_ n3_; (try clear hb); (try clear hb2); (try clear hk); (try clear hi)))
                  go_meet
                  case rel => exact ⟨_, (true), (by first | rfl | (simp; done) | (simp [*]; done)), H', ⟨by have := HJ4.out; first | omega | exact Nat.le_refl _⟩, ⟨by (with_reducible repeat (first | apply Kd.R_alloc | apply Kd.R_drewN | apply Kd.R_drew)); exact Kd.R_mono HO_5.out (fun _ hk => trivial)⟩, ⟨by repeat (first | (with_reducible first | exact HB.out | apply below_alloc | apply pw_below_drewN | apply below_drew1) | exact HB.out)⟩⟩
              case rest =>
                clear HC22
                try clear c1
                try clear c2
                try clear c2b0
                try clear c2b1
                try clear p2
                try clear c3
                try clear c6
                try clear c7
                try clear c8
                try clear c9
                try clear c10
                try clear c16
                try clear c19
                try clear c19b0
                try clear c20
                try clear c20b0
                try clear c20b1
                try clear c27
                try clear p2
                obtain ⟨kq, x57_21, rfl, HA, HJ21, HO_5, HB⟩ := hcut
                have hl5_21 := (Kd.R_reads' HO_5.out).1
                rw [hl5_21] at HO_5
                (try simp only [hl5_21])
                cases kq with
                | zero => exact absurd HA.out (by simp [laws_FnExactReadTerm.j1])
                | succ kj21 =>
                  have H := HA.out
                  clear HA
                  simp only [laws_FnExactReadTerm.j1] at H
                  by_cases c34 : x57_21 = true
                  · subst c34
                    have H1 : (some false) = some true := by rw [if_pos rfl] at H; first | done | exact H
                    clear H
                    have H := H1
                    clear H1
                    exact absurd H (by simp)
                  · replace c34 := Bool.eq_false_iff.mpr c34
                    subst c34
                    have H1 : ((laws_heldCellS.f kj21 t272 1).bind fun t279 => (if t279 < 0 then (some false) else (if t279 = t271 then (some true) else (some false)))) = some true := by rw [if_neg (show ¬ (false = true) by decide)] at H; first | done | exact H
                    clear H
                    have H := H1
                    clear H1
                    replace H := Option.bind_eq_some_iff.mp H
                    obtain ⟨t279, A350, H⟩ := H
                    replace H : (if t279 < 0 then (some false) else (if t279 = t271 then (some true) else (some false))) = some true := H
                    have A35 := Aside0.mk A350
                    clear A350
                    by_cases c36 : t279 < 0
                    · rw [if_pos c36] at H
                      have c36b0 : decide (t279 < 0) = true := decide_eq_true c36
                      clear c36
                      exact absurd H (by simp)
                    · rw [if_neg c36] at H
                      have c36b0 : decide (t279 < 0) = false := decide_eq_false c36
                      clear c36
                      by_cases c37 : t279 = t271
                      · rw [if_pos c37] at H
                        have c37b0 : (t279 == t271) = true := beq_iff_eq.mpr c37
                        have c37b1 : (t279 != t271) = false := bne_eq_false_iff_eq.mpr c37
                        clear c37
                        clear H
                        go_wp2_with (first | ((with_reducible refine gate_callee (f := 10) rfl ?_); refine goesL_ (some 60) rfl rfl Tryd.func10 (by kernel_rfl) rfl #[.slice Ao23 t272.length co23, .int .i64 1] rfl (by (try simp only [List.map_toArray, List.map_cons, List.map_nil]); first | done | rfl | (simp only [List.length_drop, List.length_take]; rfl)) ?_; (with_reducible refine (laws_heldCellS.calls kj21 _ _ t272 1 t279 _ ?side1 ?side2 A35.out).mono ?_); (case side1 => repeat (first | exact (Kd.R_reads' HO_5.out).2.2 | (with_reducible refine Kd.C_alloc ?_ _) | (with_reducible refine Kd.C_drewN ?_ _) | (with_reducible refine Kd.C_drew ?_))); (case side2 => exact (Kd.R_reads' HO_5.out).2.1); rintro e w' ⟨rfl, ⟨nd, rfl⟩⟩; refine ⟨_, rfl, ?_⟩))
                        go_ret
                        exact ⟨by first | rfl | (simp [errW_none, errW_some] <;> rfl) | (simp [*, errW_none, errW_some] <;> rfl), by repeat (first | (with_reducible first | exact HB.out | apply below_alloc | apply pw_below_drewN | apply below_drew1) | exact HB.out)⟩
                      · rw [if_neg c37] at H
                        have c37b0 : (t279 == t271) = false := beq_eq_false_iff_ne.mpr c37
                        have c37b1 : (t279 != t271) = true := bne_iff_ne.mpr c37
                        exact absurd H (by simp)
            · rw [if_neg c20] at H
              have c20b0 : (t273 == t271) = false := beq_eq_false_iff_ne.mpr c20
              have c20b1 : (t273 != t271) = true := bne_iff_ne.mpr c20
              exact absurd H (by simp)

end Go.Proofs.YtgoiifpimpnlpaaDoor.PAll
