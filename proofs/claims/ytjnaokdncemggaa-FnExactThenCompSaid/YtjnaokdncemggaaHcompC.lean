/- cells puts a tree's cells behind others; good, compOf and GoodComp. -/
import Derived.Test.YtjnaokdncemggaaHcompB
import Derived.Deep.RegionLaw
import Derived.Deep.RegionWith
import Derived.Outline
namespace Go.Proofs.Ytjnaokdncemggaa.PAll
open Go.RowKit Go.Proofs.YtjnaokdncemggaaW.PrintWords Go.Proofs.YtjnaokdncemggaaW.PrintLast Go.Proofs.YtjnaokdncemggaaW.PrintMore
set_option linter.unusedVariables false
set_option linter.unusedSimpArgs false

def ccells : CT → List S83
  | .ret n => [⟨1, n⟩]
  | .ask n a b => ⟨2, n⟩ :: (ccells a ++ ccells b)

/-- The tree lies below block B. -/
def CB (B : Nat) (w : World) : Nat → CT → Prop
  | g, .ret n => g < B ∧ w.heap[g]? = some (.cells #[.int .i64 1, .int .i64 n, .pointer none, .pointer none, .int .i64 1] 103 (0, 0))
  | g, .ask n a b => ∃ p q, g < B ∧ w.heap[g]? = some (.cells #[.int .i64 2, .int .i64 n, .pointer (some ⟨p, 0, none⟩), .pointer (some ⟨q, 0, none⟩), .int .i64 (CT.ask n a b).size] 103 (0, 0)) ∧ CB B w p a ∧ CB B w q b

theorem CAt.cb {w : World} : ∀ {t : CT} {g : Nat}, CAt w g t → CB w.heap.size w g t := by
  intro t
  induction t with
  | ret n => intro g h; exact ⟨blk_lt h, h⟩
  | ask n a b iha ihb => intro g h; obtain ⟨p, q, h, ha, hq⟩ := h; exact ⟨p, q, blk_lt h, h, iha ha, ihb hq⟩
theorem CB.keep {B : Nat} {w w1 : World} (hb : Below B w w1) : ∀ {t : CT} {g : Nat}, CB B w g t → CB B w1 g t := by
  intro t
  induction t with
  | ret n => intro g h; exact ⟨h.1, (hb.block g h.1).trans h.2⟩
  | ask n a b iha ihb => intro g h; obtain ⟨p, q, h0, h, ha, hq⟩ := h; exact ⟨p, q, h0, (hb.block g h0).trans h, iha ha, ihb hq⟩

theorem ccells_room {l : List S83} {n : Int} {a b : CT} (x : S83) (h : (l.length + (ccells (.ask n a b)).length) * 16 ≤ 140737488355328) :
    (l.length + 1) * 16 ≤ 140737488355328 ∧ ((l ++ [x]).length + (ccells a).length) * 16 ≤ 140737488355328 ∧ ((l ++ [x] ++ ccells a).length + (ccells b).length) * 16 ≤ 140737488355328 := by
  have e : (ccells (.ask n a b)).length = (ccells a).length + (ccells b).length + 1 := by simp [ccells]
  rw [e] at h
  simp only [List.length_append, List.length_singleton]
  omega

set_option maxRecDepth 100000 in
set_option maxHeartbeats 1000000 in
theorem cells_calls (B : Nat) (t : CT) : ∀ (g : Nat) (u : Value) (l : List S83) (w : World), CB B w g t → B ≤ w.heap.size → Kd.R k83 83 w B (fun _ => True) u l → (l.length + (ccells t).length) * 16 ≤ 140737488355328 →
    Calls Try.prog 94 #[.pointer (some ⟨g, 0, none⟩), u] w fun e w' => ∃ v, e = .returned v ∧ Kd.R k83 83 w' B (fun _ => True) v (l ++ ccells t) ∧ Below B w w' := by
  induction t with
  | ret n =>
    intro g u l w hg hB hu hl
    obtain ⟨hlt, hg⟩ := hg
    have c0 : w.cell? ⟨g, 0, none⟩ = some (.int .i64 1) := (blk_cell hg 0).trans rfl
    have c1 : w.cell? ⟨g, 1, none⟩ = some (.int .i64 n) := (blk_cell hg 1).trans rfl
    have HG := Lib.hid hg
    have HU := Lib.hid hu
    have HL0 : Hid ((l.length + 1) * 16 ≤ 140737488355328) := Lib.hid (by simp only [ccells, List.length_singleton] at hl; omega)
    clear hg hu hl
    go_enter Try.func94, Try.ntmps94
    go_wp2
    go_region_law (refine Kd.R_append_step k83 (w0 := w) (W := w.drew) B (by first | rfl | simp) (.tmp 5) (.tmp 15) 36 83 (.agg #[(.int .i64 0), (.int .i64 0)]) 16 (by rfl) Try.underlying36 info83 rfl (by decide) (by omega) u l (⟨1, n⟩ : S83) [.int .i64 1, .int .i64 n] (fun _ => True) (fun _ => False) (by simp [Act.eval, Act.put]) (by simp [Act.eval, Act.put]) (k83_mkM _ _ _ _) (fun _ h => h.elim) (fun _ _ => trivial) (Kd.R_drew HU.out) (by repeat (first | exact Below.refl _ _ | apply below_drew1)) hB HL0.out ?_; intro v1 w1 hu1 hb1 _ _; have c01 : w1.cell? ⟨g, 0, none⟩ = some (.int .i64 1) := (hb1.cell (p := ⟨g, 0, none⟩) hlt).trans c0; have HU1 := Lib.hid hu1; clear hu1)
    all_goals go_wp2
    all_goals go_ret
    all_goals exact ⟨v1, rfl, HU1.out, hb1⟩
  | ask n a b iha ihb =>
    intro g u l w hg hB hu hl
    have hgg := hg
    obtain ⟨p, q, hlt, hg, hp, hq⟩ := hg
    have c0 : w.cell? ⟨g, 0, none⟩ = some (.int .i64 2) := (blk_cell hg 0).trans rfl
    have c1 : w.cell? ⟨g, 1, none⟩ = some (.int .i64 n) := (blk_cell hg 1).trans rfl
    have c2 : w.cell? ⟨g, 2, none⟩ = some (.pointer (some ⟨p, 0, none⟩)) := (blk_cell hg 2).trans rfl
    have c3 : w.cell? ⟨g, 3, none⟩ = some (.pointer (some ⟨q, 0, none⟩)) := (blk_cell hg 3).trans rfl
    have HG := Lib.hid hg
    have HP := Lib.hid hp
    have HQ := Lib.hid hq
    have HU := Lib.hid hu
    have HR := ccells_room (⟨2, n⟩ : S83) hl
    have HL0 := Lib.hid HR.1
    have HL1 := Lib.hid HR.2.1
    have HL2 := Lib.hid HR.2.2
    clear HR
    have IA := Lib.hid iha
    have IB := Lib.hid ihb
    clear hg hu hl iha ihb hgg hp hq
    go_enter Try.func94, Try.ntmps94
    go_wp2
    go_region_law (refine Kd.R_append_step k83 (w0 := w) (W := w.drew) B (by first | rfl | simp) (.tmp 5) (.tmp 15) 36 83 (.agg #[(.int .i64 0), (.int .i64 0)]) 16 (by rfl) Try.underlying36 info83 rfl (by decide) (by omega) u l (⟨2, n⟩ : S83) [.int .i64 2, .int .i64 n] (fun _ => True) (fun _ => False) (by simp [Act.eval, Act.put]) (by simp [Act.eval, Act.put]) (k83_mkM _ _ _ _) (fun _ h => h.elim) (fun _ _ => trivial) (Kd.R_drew HU.out) (by repeat (first | exact Below.refl _ _ | apply below_drew1)) hB HL0.out ?_; intro v1 w1 hu1 hb1 _ _; have c01 : w1.cell? ⟨g, 0, none⟩ = some (.int .i64 2) := (hb1.cell (p := ⟨g, 0, none⟩) hlt).trans c0; have c21 : w1.cell? ⟨g, 2, none⟩ = some (.pointer (some ⟨p, 0, none⟩)) := (hb1.cell (p := ⟨g, 2, none⟩) hlt).trans c2; have c31 : w1.cell? ⟨g, 3, none⟩ = some (.pointer (some ⟨q, 0, none⟩)) := (hb1.cell (p := ⟨g, 3, none⟩) hlt).trans c3; have HU1 := Lib.hid hu1; clear hu1)
    all_goals have hs1 : B ≤ w1.heap.size := Nat.le_trans hB hb1.size
    all_goals go_wp2
    all_goals
      go_region_with (first
        | (go_at_call_of 94 p; refine (IA.out p v1 _ _ (HP.out.keep (by repeat (first | exact hb1 | apply below_drew1))) (by exact hs1) (Kd.R_drew HU1.out) HL1.out).mono ?_; rintro e w2 ⟨v2, rfl, hu2, hb2⟩; have hb12 := (below_drew1 hb1).trans hb2; have c32 : w2.cell? ⟨g, 3, none⟩ = some (.pointer (some ⟨q, 0, none⟩)) := (hb12.cell (p := ⟨g, 3, none⟩) hlt).trans c3)
        | (go_at_call_of 94 q; refine (IB.out q v2 _ _ (HQ.out.keep hb12) (by exact Nat.le_trans hB hb12.size) hu2 HL2.out).mono ?_; rintro e w3 ⟨v3, rfl, hu3, hb3⟩; have hb13 := hb12.trans hb3))
    all_goals go_wp2
    all_goals go_ret
    all_goals exact ⟨v3, rfl, by simpa [ccells] using hu3, hb13⟩
end Go.Proofs.Ytjnaokdncemggaa.PAll
