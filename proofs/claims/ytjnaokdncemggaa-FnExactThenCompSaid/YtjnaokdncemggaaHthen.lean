/- then, with a closure by its contract. -/
import Derived.Test.YtjnaokdncemggaaHcompD
import Derived.Test.YtjnaokdncemggaaHcompC
import Derived.Deep.RegionHeld3
namespace Go.Proofs.Ytjnaokdncemggaa.PAll
open Go.RowKit Go.Proofs.YtjnaokdncemggaaW.PrintWords Go.Proofs.YtjnaokdncemggaaW.PrintLast Go.Proofs.YtjnaokdncemggaaW.PrintMore
set_option linter.unusedVariables false
set_option linter.unusedSimpArgs false

/-- Another tree in the place of each number told. -/
def CT.sub (f : Int → CT) : CT → CT
  | .ret n => f n
  | .ask n a b => .ask n (a.sub f) (b.sub f)

set_option maxRecDepth 100000 in
theorem add74_calls (g : Nat) (by_ n : Int) (w : World) (h : w.heap[g]? = some (.cells #[.int .i64 by_] 3 (0, 0))) (h0 : 0 ≤ n) (h1 : n ≤ 99) (b0 : 0 ≤ by_) (b1 : by_ ≤ 99) :
    Calls Try.prog 74 #[.int .i64 n, .pointer (some ⟨g, 0, none⟩)] w fun e w' => ∃ p, e = .returned (.pointer (some ⟨p, 0, none⟩)) ∧ CAt w' p (.ret ((n + by_) % 100)) ∧ Below w.heap.size w w' := by
  have c0 : w.cell? ⟨g, 0, none⟩ = some (.int .i64 by_) := (blk_cell h 0).trans rfl
  go_enter Try.func74, Try.ntmps74
  go_wp2_with (go_at_call 75; refine (told_calls (n + by_) _ (by omega) (by omega)).mono ?_; rintro e w' ⟨p, rfl, hp, hb⟩)
  go_ret
  exact ⟨p, rfl, hp, hb⟩

/-- All numbers told are numbers. -/
def CT.ok : CT → Prop
  | .ret n => 0 ≤ n ∧ n ≤ 99
  | .ask _ a b => a.ok ∧ b.ok

set_option maxRecDepth 100000 in
set_option maxHeartbeats 2000000 in
theorem then74_calls (g : Nat) (by_ : Int) (b0 : 0 ≤ by_) (b1 : by_ ≤ 99) (t : CT) : ∀ (p : Nat) (w : World), CAt w p t → t.ok → w.heap[g]? = some (.cells #[.int .i64 by_] 3 (0, 0)) →
    Calls Try.prog 73 #[.pointer (some ⟨p, 0, none⟩), .func (.func 74) #[] #[.pointer (some ⟨g, 0, none⟩)]] w fun e w' => ∃ q, e = .returned (.pointer (some ⟨q, 0, none⟩)) ∧ CAt w' q (t.sub fun n => .ret ((n + by_) % 100)) ∧ Below w.heap.size w w' := by
  induction t with
  | ret n =>
    intro p w ht ho hg
    have c0 : w.cell? ⟨p, 0, none⟩ = some (.int .i64 1) := (blk_cell ht 0).trans rfl
    have c1 : w.cell? ⟨p, 1, none⟩ = some (.int .i64 n) := (blk_cell ht 1).trans rfl
    have HG := Lib.hid hg
    have o0 := ho.1
    have o1 := ho.2
    clear ht ho hg
    go_enter Try.func73, Try.ntmps73
    go_wp2_with (go_at_call 74; refine (add74_calls g by_ n _ HG.out o0 o1 b0 b1).mono ?_; rintro e w' ⟨q, rfl, hq, hb⟩)
    go_ret
    exact ⟨q, rfl, hq, hb⟩
  | ask n a b iha ihb =>
    intro p w ht ho hg
    obtain ⟨pa, pb, hp, ha, hb⟩ := ht
    have c0 : w.cell? ⟨p, 0, none⟩ = some (.int .i64 2) := (blk_cell hp 0).trans rfl
    have c1 : w.cell? ⟨p, 1, none⟩ = some (.int .i64 n) := (blk_cell hp 1).trans rfl
    have c2 : w.cell? ⟨p, 2, none⟩ = some (.pointer (some ⟨pa, 0, none⟩)) := (blk_cell hp 2).trans rfl
    have c3 : w.cell? ⟨p, 3, none⟩ = some (.pointer (some ⟨pb, 0, none⟩)) := (blk_cell hp 3).trans rfl
    have hlt := blk_lt hp
    have hglt := blk_lt hg
    have SS := Lib.hid (show ∀ W : World, Below w.heap.size w W → W.cell? ⟨p, 1, none⟩ = some (.int .i64 n) ∧ W.cell? ⟨p, 2, none⟩ = some (.pointer (some ⟨pa, 0, none⟩)) ∧ W.cell? ⟨p, 3, none⟩ = some (.pointer (some ⟨pb, 0, none⟩)) from fun W hW => ⟨(hW.cell (p := ⟨p, 1, none⟩) hlt).trans c1, (hW.cell (p := ⟨p, 2, none⟩) hlt).trans c2, (hW.cell (p := ⟨p, 3, none⟩) hlt).trans c3⟩)
    have S4 := SS.out w.drew (below_drew1 (Below.refl _ _))
    have C0 := Lib.hid (iha pa w.drew (ha.below (below_drew1 (Below.refl _ _))) ho.1 hg)
    have IB := Lib.hid ihb
    have HB := Lib.hid hb
    have HO := Lib.hid ho.2
    have HG := Lib.hid hg
    clear iha ihb ha hb ho hp hg
    go_enter Try.func73, Try.ntmps73
    go_wp2
    go_region_held3 (fun W => W.cell? ⟨p, 1, none⟩ = some (.int .i64 n) ∧ W.cell? ⟨p, 2, none⟩ = some (.pointer (some ⟨pa, 0, none⟩)) ∧ W.cell? ⟨p, 3, none⟩ = some (.pointer (some ⟨pb, 0, none⟩))) (first | (with_reducible exact S4) | (with_reducible exact S5) | (with_reducible exact S6) | (with_reducible exact S7))
      (first
      | (go_at_call 73; (with_reducible refine C0.out.mono ?_); rintro e w5 ⟨qa, rfl, hqa, hb5⟩; have B5 := Lib.hid (below_step (below_drew1 (Below.refl _ _)) hb5); have S5 := SS.out w5 B5.out; have QA := Lib.hid hqa; have C1 := Lib.hid (IB.out pb w5 (HB.out.below B5.out) HO.out ((B5.out.block g hglt).trans HG.out)); clear hqa hb5)
      | (go_at_call 73; (with_reducible refine C1.out.mono ?_); rintro e w6 ⟨qb, rfl, hqb, hb6⟩; have B6 := Lib.hid (below_step B5.out hb6); have S6 := SS.out w6 B6.out; have C2 := Lib.hid (asks_calls n qa qb _ _ w6 (QA.out.below hb6) hqb); clear hqb hb6)
      | (go_at_call 93; (with_reducible refine C2.out.mono ?_); rintro e w7 ⟨q, rfl, hq, hb7⟩; have B7 := Lib.hid (below_step B6.out hb7); have S7 := SS.out w7 B7.out; have Q7 := Lib.hid hq; clear hq hb7))
    all_goals go_wp2
    all_goals go_ret
    all_goals exact ⟨q, rfl, Q7.out, B7.out⟩

theorem CT.cells_len (t : CT) : t.size < 1000000 → (ccells t).length = t.size.toNat := by
  induction t with
  | ret n => intro _; simp [ccells, CT.size]
  | ask n a b iha ihb =>
    intro h
    have ha := a.size_bd
    have hb := b.size_bd
    simp only [CT.size] at h
    split at h
    · omega
    · rename_i h1
      have e : (CT.ask n a b).size = 1 + a.size + b.size := by simp [CT.size, h1]
      rw [e]
      simp only [ccells, List.length_cons, List.length_append]
      rw [iha (by omega), ihb (by omega)]
      omega

/-- What good answers. -/
def GoodPost (t : CT) (w : World) (e : Ending) (w' : World) : Prop := Below w.heap.size w w' ∧ if t.size ≤ 60 then ∃ v, e = .returned (.tuple #[v, .bool true]) ∧ Kd.R k83 83 w' w.heap.size (fun _ => True) v (ccells t) else e = .returned (.tuple #[.slice none 0 0, .bool false])

set_option maxRecDepth 100000 in
theorem good_calls (t : CT) (p : Nat) (w : World) (ht : CAt w p t) : Calls Try.prog 76 #[.pointer (some ⟨p, 0, none⟩)] w (GoodPost t w) := by
  have c4 := ht.size_cell
  have bd := t.size_bd
  by_cases h : t.size ≤ 60
  · have C := Lib.hid (cells_calls w.heap.size t p (.slice none 0 0) [] w ht.cb (Nat.le_refl _) (Kd.R_nil _ _ _ _ _) (by rw [CT.cells_len t (by omega)]; simp; omega))
    unfold GoodPost
    simp only [if_pos h]
    have d4 : decide ((60 : Int) < t.size) = false := decide_eq_false (by omega)
    clear ht
    go_enter Try.func76, Try.ntmps76
    go_wp2_with (go_at_call 94; refine C.out.mono ?_; rintro e w' ⟨v, rfl, hv, hb⟩)
    go_ret2
    exact ⟨hb, v, rfl, by simpa using hv⟩
  · unfold GoodPost
    simp only [if_neg h]
    have d4 : decide ((60 : Int) < t.size) = true := decide_eq_true (by omega)
    clear ht
    go_enter Try.func76, Try.ntmps76
    go_wp2
    go_ret2
    exact ⟨Below.refl _ _, rfl⟩
end Go.Proofs.Ytjnaokdncemggaa.PAll
