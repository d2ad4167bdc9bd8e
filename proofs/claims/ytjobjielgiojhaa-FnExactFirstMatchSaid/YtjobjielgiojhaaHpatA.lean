/- Patterns as trees in memory: what a pointer to one is, and how that stays. -/
import Derived.Test.YtjobjielgiojhaaPAllx0
import Derived.Lib.Hide
namespace Go.Proofs.Ytjobjielgiojhaa.PAll
open Go.RowKit Go.Proofs.YtjobjielgiojhaaW.PrintWords Go.Proofs.YtjobjielgiojhaaW.PrintLast Go.Proofs.YtjobjielgiojhaaW.PrintMore
set_option linter.unusedVariables false
set_option linter.unusedSimpArgs false

inductive Pt where
  | mk (any : Bool) (con : Int) (kids : List Pt)

theorem Pt.ind {P : Pt → Prop} (h : ∀ k n ks, (∀ t ∈ ks, P t) → P (.mk k n ks)) : ∀ t, P t := by
  intro t
  refine Pt.rec (motive_1 := P) (motive_2 := fun ks => ∀ t ∈ ks, P t) (fun k n ks ih => h k n ks ih) (fun t ht => by cases ht) (fun t ks ht hks x hx => ?_) t
  rcases List.mem_cons.1 hx with rfl | hx
  · exact ht
  · exact hks x hx

def ptr (g : Nat) : Value := .pointer (some ⟨g, 0, none⟩)

/-- A row that is read: its cells are these pointers, in blocks of S. -/
def PtrRow (S : Nat → Prop) (w : World) (A : Option Addr) (gs : List Nat) : Prop :=
  ∀ i p, gs[i]? = some p → ∃ ad, A = some ad ∧ S ad.block ∧ w.cell? (ad.add i) = some (ptr p)

mutual
/-- The pointer to block g leads to the pattern; all its blocks are in S. -/
def PAt (S : Nat → Prop) (w : World) : Nat → Pt → Prop
  | g, .mk k n ks => ∃ A c gs, S g ∧ ks.length ≤ c ∧ w.heap[g]? = some (.cells #[.bool k, .int .i64 n, .slice A ks.length c] 147 (0, 0)) ∧ PtrRow S w A gs ∧ QAt S w gs ks
def QAt (S : Nat → Prop) (w : World) : List Nat → List Pt → Prop
  | [], [] => True
  | g :: gs, t :: ts => PAt S w g t ∧ QAt S w gs ts
  | _, _ => False
end

theorem QAt.length {S : Nat → Prop} {w : World} : ∀ {gs : List Nat} {ts : List Pt}, QAt S w gs ts → gs.length = ts.length
  | [], [], _ => rfl
  | g :: gs, t :: ts, h => by simp only [QAt] at h; simp [QAt.length h.2]
  | [], _ :: _, h => by simp [QAt] at h
  | _ :: _, [], h => by simp [QAt] at h

theorem QAt.get {S : Nat → Prop} {w : World} : ∀ {gs : List Nat} {ts : List Pt} {i : Nat} {t : Pt}, QAt S w gs ts → ts[i]? = some t → ∃ g, gs[i]? = some g ∧ PAt S w g t
  | g :: gs, t :: ts, 0, u, h, e => by simp only [QAt] at h; simp at e; subst e; exact ⟨g, rfl, h.1⟩
  | g :: gs, t :: ts, i + 1, u, h, e => by simp only [QAt] at h; simp only [List.getElem?_cons_succ] at e ⊢; exact QAt.get h.2 e
  | [], [], i, u, h, e => by simp at e
  | [], _ :: _, _, _, h, _ => by simp [QAt] at h
  | _ :: _, [], _, _, h, _ => by simp [QAt] at h

theorem QAt.snoc {S : Nat → Prop} {w : World} : ∀ {gs : List Nat} {ts : List Pt} {g : Nat} {t : Pt}, QAt S w gs ts → PAt S w g t → QAt S w (gs ++ [g]) (ts ++ [t])
  | [], [], g, t, _, h => by simp only [List.nil_append, QAt]; exact ⟨h, trivial⟩
  | g0 :: gs, t0 :: ts, g, t, h0, h => by simp only [QAt] at h0; simp only [List.cons_append, QAt]; exact ⟨h0.1, QAt.snoc h0.2 h⟩
  | [], _ :: _, _, _, h, _ => by simp [QAt] at h
  | _ :: _, [], _, _, h, _ => by simp [QAt] at h

theorem PtrRow.step {S S' : Nat → Prop} {w w1 : World} {A : Option Addr} {gs : List Nat} (h : PtrRow S w A gs) (hm : ∀ k, S k → k < w.heap.size → w1.heap[k]? = w.heap[k]?) (hS : ∀ k, S k → k < w.heap.size → S' k) : PtrRow S' w1 A gs := by
  intro i p hp
  obtain ⟨ad, e, hs, hc⟩ := h i p hp
  have hlt : (ad.add i).block < w.heap.size := World.block_lt_of_cell? w _ hc
  have eb : (ad.add i).block = ad.block := by unfold Addr.add; split <;> simp_all
  rw [eb] at hlt
  refine ⟨ad, e, hS _ hs hlt, ?_⟩
  have := hm _ hs hlt
  have e2 : w1.cell? (ad.add i) = w.cell? (ad.add i) := by simp [World.cell?, eb, this]
  rw [e2]; exact hc

/-- What is in S and was there stays: so does the pattern. -/
theorem PAt.step {S S' : Nat → Prop} {w w1 : World} (hm : ∀ k, S k → k < w.heap.size → w1.heap[k]? = w.heap[k]?) (hS : ∀ k, S k → k < w.heap.size → S' k) : ∀ {t : Pt} {g : Nat}, PAt S w g t → PAt S' w1 g t := by
  intro t
  refine Pt.rec (motive_1 := fun t => ∀ {g : Nat}, PAt S w g t → PAt S' w1 g t) (motive_2 := fun ts => ∀ {gs : List Nat}, QAt S w gs ts → QAt S' w1 gs ts) (fun k n ks ih => ?_) ?_ (fun t ts ht hts => ?_) t
  · intro g h
    simp only [PAt] at h ⊢
    obtain ⟨A, c, gs, hg, hc, hh, hr, hl⟩ := h
    exact ⟨A, c, gs, hS _ hg (blk_lt hh), hc, (hm _ hg (blk_lt hh)).trans hh, hr.step hm hS, ih hl⟩
  · intro gs h
    cases gs with
    | nil => simp [QAt]
    | cons => simp [QAt] at h
  · intro gs h
    cases gs with
    | nil => simp [QAt] at h
    | cons g gs => simp only [QAt] at h ⊢; exact ⟨ht h.1, hts h.2⟩
theorem QAt.step {S S' : Nat → Prop} {w w1 : World} (hm : ∀ k, S k → k < w.heap.size → w1.heap[k]? = w.heap[k]?) (hS : ∀ k, S k → k < w.heap.size → S' k) : ∀ {ts : List Pt} {gs : List Nat}, QAt S w gs ts → QAt S' w1 gs ts
  | [], [], _ => by simp [QAt]
  | t :: ts, g :: gs, h => by simp only [QAt] at h ⊢; exact ⟨PAt.step hm hS h.1, QAt.step hm hS h.2⟩
  | [], _ :: _, h => by simp [QAt] at h
  | _ :: _, [], h => by simp [QAt] at h

theorem PAt.below {S : Nat → Prop} {w w1 : World} {t : Pt} {g : Nat} (h : PAt S w g t) (hb : Below w.heap.size w w1) : PAt S w1 g t := PAt.step (fun k _ hk => hb.block k hk) (fun _ h _ => h) h
theorem QAt.below {S : Nat → Prop} {w w1 : World} {ts : List Pt} {gs : List Nat} (h : QAt S w gs ts) (hb : Below w.heap.size w w1) : QAt S w1 gs ts := QAt.step (fun k _ hk => hb.block k hk) (fun _ h _ => h) h
theorem PtrRow.below {S : Nat → Prop} {w w1 : World} {A : Option Addr} {gs : List Nat} (h : PtrRow S w A gs) (hb : Below w.heap.size w w1) : PtrRow S w1 A gs := h.step (fun k _ hk => hb.block k hk) (fun _ h _ => h)


theorem PAt.cells {S : Nat → Prop} {w : World} {g : Nat} {k : Bool} {n : Int} {ks : List Pt} (h : PAt S w g (.mk k n ks)) : ∃ A c gs, ks.length ≤ c ∧ w.cell? ⟨g, 0, none⟩ = some (.bool k) ∧ w.cell? ⟨g, 1, none⟩ = some (.int .i64 n) ∧ w.cell? ⟨g, 2, none⟩ = some (.slice A ks.length c) ∧ PtrRow S w A gs ∧ QAt S w gs ks := by
  simp only [PAt] at h
  obtain ⟨A, c, gs, hg, hc, hh, hr, hl⟩ := h
  exact ⟨A, c, gs, hc, (blk_cell hh 0).trans rfl, (blk_cell hh 1).trans rfl, (blk_cell hh 2).trans rfl, hr, hl⟩
theorem PAt.blk {S : Nat → Prop} {w : World} {g : Nat} {t : Pt} (h : PAt S w g t) : S g ∧ g < w.heap.size := by
  cases t with | mk k n ks => simp only [PAt] at h; obtain ⟨A, c, gs, hg, hc, hh, hr, hl⟩ := h; exact ⟨hg, blk_lt hh⟩

set_option maxRecDepth 100000 in
theorem anyPat_calls (w : World) : Calls Try.prog 111 #[] w fun e w' => ∃ g, e = .returned (ptr g) ∧ PAt (fun k => w.heap.size ≤ k) w' g (.mk true 0 []) ∧ Below w.heap.size w w' := by
  unfold ptr
  go_enter Try.func111, Try.ntmps111
  go_wp2
  go_ret
  refine ⟨_, rfl, ?_, below_alloc (Below.refl _ _) _⟩
  simp only [PAt]
  exact ⟨none, 0, [], Nat.le_refl _, Nat.le_refl _, blk_new w _, by intro i p h; simp at h, by simp [QAt]⟩
end Go.Proofs.Ytjobjielgiojhaa.PAll
