/- Computations as trees in memory: what a pointer to one is, and what told and asks make. -/
import Derived.Test.YtjnaokdncemggaaPAllx0
import Derived.Lib.Hide
namespace Go.Proofs.Ytjnaokdncemggaa.PAll
open Go.RowKit Go.Proofs.YtjnaokdncemggaaW.PrintWords Go.Proofs.YtjnaokdncemggaaW.PrintLast Go.Proofs.YtjnaokdncemggaaW.PrintMore
set_option linter.unusedVariables false
set_option linter.unusedSimpArgs false

inductive CT where
  | ret (n : Int)
  | ask (n : Int) (a b : CT)

def CT.size : CT → Int
  | .ret _ => 1
  | .ask _ a b => if 1000000 < 1 + a.size + b.size then 1000000 else 1 + a.size + b.size

theorem CT.size_bd (t : CT) : 1 ≤ t.size ∧ t.size ≤ 1000000 := by
  induction t with
  | ret n => simp [CT.size]
  | ask n a b iha ihb => unfold CT.size; split <;> omega

/-- A pointer at block g leads to the tree t. -/
def CAt (w : World) : Nat → CT → Prop
  | g, .ret n => w.heap[g]? = some (.cells #[.int .i64 1, .int .i64 n, .pointer none, .pointer none, .int .i64 1] 103 (0, 0))
  | g, .ask n a b => ∃ p q, w.heap[g]? = some (.cells #[.int .i64 2, .int .i64 n, .pointer (some ⟨p, 0, none⟩), .pointer (some ⟨q, 0, none⟩), .int .i64 (CT.ask n a b).size] 103 (0, 0)) ∧ CAt w p a ∧ CAt w q b

theorem CAt.lt {w : World} {g : Nat} {t : CT} (h : CAt w g t) : g < w.heap.size := by
  cases t with
  | ret n => exact blk_lt h
  | ask n a b => obtain ⟨p, q, h, _⟩ := h; exact blk_lt h

theorem CAt.below {w w1 : World} (hb : Below w.heap.size w w1) : ∀ {t : CT} {g : Nat}, CAt w g t → CAt w1 g t := by
  intro t
  induction t with
  | ret n => intro g h; exact (hb.block g (blk_lt h)).trans h
  | ask n a b iha ihb => intro g h; obtain ⟨p, q, h, ha, hq⟩ := h; exact ⟨p, q, (hb.block g (blk_lt h)).trans h, iha ha, ihb hq⟩

theorem CAt.size_cell {w : World} {g : Nat} {t : CT} (h : CAt w g t) : w.cell? ⟨g, 4, none⟩ = some (.int .i64 t.size) := by
  cases t with
  | ret n => exact (blk_cell h 4).trans rfl
  | ask n a b => obtain ⟨p, q, h, _⟩ := h; exact (blk_cell h 4).trans rfl

set_option maxRecDepth 100000 in
theorem told_calls (n : Int) (w : World) (h0 : 0 ≤ n) (h1 : n ≤ 1000000) :
    Calls Try.prog 75 #[.int .i64 n] w fun e w' => ∃ g, e = .returned (.pointer (some ⟨g, 0, none⟩)) ∧ CAt w' g (.ret (n % 100)) ∧ Below w.heap.size w w' := by
  go_enter Try.func75, Try.ntmps75
  go_wp2
  go_ret
  exact ⟨_, rfl, blk_new w _, below_alloc (Below.refl _ _) _⟩

set_option maxRecDepth 100000 in
theorem asks_calls (n : Int) (p q : Nat) (a b : CT) (w : World) (ha : CAt w p a) (hb : CAt w q b) :
    Calls Try.prog 93 #[.int .i64 n, .pointer (some ⟨p, 0, none⟩), .pointer (some ⟨q, 0, none⟩)] w fun e w' => ∃ g, e = .returned (.pointer (some ⟨g, 0, none⟩)) ∧ CAt w' g (.ask n a b) ∧ Below w.heap.size w w' := by
  have sa := ha.size_cell
  have sb := hb.size_cell
  have ba := a.size_bd
  have bb := b.size_bd
  by_cases hs : 1000000 < 1 + a.size + b.size
  · have e : (CT.ask n a b).size = 1000000 := by simp [CT.size, hs]
    have E := Lib.hid e
    clear e
    go_enter Try.func93, Try.ntmps93
    go_wp2
    go_region
    go_wp2
    go_ret
    refine ⟨_, rfl, ⟨p, q, by rw [E.out]; exact blk_drew (blk_new w _), ha.below ?_, hb.below ?_⟩, ?_⟩ <;> exact below_drew (below_alloc (Below.refl _ _) _)
  · have e : (CT.ask n a b).size = 1 + a.size + b.size := by simp [CT.size, hs]
    have E := Lib.hid e
    clear e
    go_enter Try.func93, Try.ntmps93
    go_wp2
    go_region
    go_wp2
    go_ret
    refine ⟨_, rfl, ⟨p, q, by rw [E.out]; exact blk_drew (blk_new w _), ha.below ?_, hb.below ?_⟩, ?_⟩ <;> exact below_drew (below_alloc (Below.refl _ _) _)
end Go.Proofs.Ytjnaokdncemggaa.PAll
