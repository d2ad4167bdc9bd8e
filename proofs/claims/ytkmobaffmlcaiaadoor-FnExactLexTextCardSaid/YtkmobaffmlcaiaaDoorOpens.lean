/- What an argument reads as, kind by kind: from the form's reading to the print's kinds. -/
import Derived.Test.YtkmobaffmlcaiaaDoorWWords
import Derived.Lib.SmallJoins
import Derived.Deep.Strs
import Derived.ChangeArms
import Derived.ChangeSame
import Derived.DataReads
namespace Go.Proofs.YtkmobaffmlcaiaaDoorW.Opens
open Go.RowKit Go.Proofs.YtkmobaffmlcaiaaDoorW.PrintWords Go.ChangeShapes Go.WideShapes Go.Deep Go.Joins

/-- Whatever is read at type t is of kind d, and G holds of it. -/
def Opn {α : Type} (P : Program) (t : TypeId) (d : Kd α) (G : α → Prop) : Prop :=
  ∀ {H : Type} (enc : TypeId × Value → H) (w : World) (base : Nat) (spare : Nat → Bool) (held : Bool) (fuel : Nat) (cs : List Value) (x : DataW H × List MemPlace),
    DataW.trod enc P w base spare held fuel t cs = some x → ∃ a, d.K w a cs ∧ G a

theorem opn_int {P : Program} {t : TypeId} {k : IntKind} (ht : P.underlying t = some (.int k)) : Opn P t (Kd.int k) (fun n => (Lit.int k n).wf = true) := by
  intro H enc w base spare held fuel cs x h
  obtain ⟨n, rfl, _, hw⟩ := DataW.trod_int ht h
  exact ⟨n, rfl, hw⟩
theorem opn_bool {P : Program} {t : TypeId} (ht : P.underlying t = some .bool) : Opn P t Kd.bool (fun _ => True) := by
  intro H enc w base spare held fuel cs x h
  obtain ⟨b, rfl, _⟩ := DataW.trod_bool ht h
  exact ⟨b, rfl, trivial⟩
theorem opn_string {P : Program} {t : TypeId} (ht : P.underlying t = some .string) : Opn P t Kd.string (fun s => s.size ≤ maxLen) := by
  intro H enc w base spare held fuel cs x h
  obtain ⟨s, rfl, _, hs⟩ := DataW.trod_string ht h
  exact ⟨s, rfl, hs⟩

theorem list_of {α : Type} {p : Nat → α → Prop} : ∀ {n : Nat}, (∀ i, i < n → ∃ a, p i a) → ∃ xs : List α, xs.length = n ∧ ∀ i a, xs[i]? = some a → p i a := by
  intro n
  induction n with
  | zero => intro _; exact ⟨[], rfl, fun i a h => by simp at h⟩
  | succ n ih =>
    intro h
    obtain ⟨xs, hl, hx⟩ := ih (fun i hi => h i (by omega))
    obtain ⟨a, ha⟩ := h n (by omega)
    refine ⟨xs ++ [a], by simp [hl], fun i b hb => ?_⟩
    rcases Nat.lt_or_ge i xs.length with hi | hi
    · rw [List.getElem?_append_left hi] at hb; exact hx i b hb
    · rw [List.getElem?_append_right hi] at hb
      have : i - xs.length = 0 := by
        rcases Nat.eq_zero_or_pos (i - xs.length) with h0 | h0
        · exact h0
        · rw [List.getElem?_eq_none (by simp; omega)] at hb; cases hb
      rw [this] at hb
      simp at hb
      subst hb
      rw [show i = n by omega]
      exact ha

theorem opn_slice {α : Type} {P : Program} {t e : TypeId} {d : Kd α} {G : α → Prop} (ht : P.underlying t = some (.slice e)) (hc : P.cellsOf e = d.sz) (h : Opn P e d G) : Opn P t (Kd.slice e d) (fun xs => xs.length ≤ 9223372036854775807 ∧ ∀ x ∈ xs, G x) := by
  intro H enc w base spare held fuel cs x hx
  rcases DataW.trod_slice ht hx with ⟨rfl, _⟩ | ⟨a, len, cap, elems, rest, n, _, rfl, _, hb, hl, hm, hlen, hel, _, _⟩
  · exact ⟨[], ⟨none, 0, rfl, Nat.le_refl _, ⟨rfl, by simp, fun h0 => absurd h0 (by simp)⟩⟩, by simp, fun x hx => by cases hx⟩
  · obtain ⟨xs, hxl, hxs⟩ := list_of (n := len) (p := fun i a' => (∃ c, w.cells? base (a.add (i * P.cellsOf e)) (P.cellsOf e) = some c ∧ d.K w a' c) ∧ G a') (fun i hi => by
      have he := hel i hi
      rw [List.getElem?_eq_getElem (show i < elems.length by omega)] at he
      obtain ⟨c, h1, h2⟩ := Option.bind_eq_some_iff.1 he
      obtain ⟨a', hk, hg⟩ := h enc w base spare held n c _ h2
      exact ⟨a', ⟨c, h1, hk⟩, hg⟩)
    have hxm : xs.length ≤ 9223372036854775807 := by rw [hxl]; have := hm; simp only [maxLen] at this; omega
    refine ⟨xs, ⟨some a, cap, by rw [hxl], by omega, ⟨rfl, hxm, fun _ => ⟨a, rfl, fun j p hj => ?_⟩⟩⟩, hxm, fun x hx => ?_⟩
    · obtain ⟨⟨c, h1, hk⟩, _⟩ := hxs j p hj
      obtain ⟨h2, h3, h4⟩ := World.cells?_some h1
      refine ⟨c, d.K_len hk, hk, fun i u hu => ?_⟩
      have hi : i < P.cellsOf e := by rw [← h3]; exact (List.getElem?_eq_some_iff.1 hu).1
      have := h4 i hi
      rw [Go.Deep.add_add, hu, hc] at this
      exact this
    · obtain ⟨i, hi, rfl⟩ := List.getElem_of_mem hx
      exact (hxs i _ (List.getElem?_eq_getElem hi)).2
theorem opn_iso {α β : Type} {P : Program} {t : TypeId} {d : Kd α} {G : α → Prop} {f : β → α} (g : α → β) (hg : ∀ a, f (g a) = a) (h : Opn P t d G) : Opn P t (Kd.iso d f) (fun b => G (f b)) := by
  intro H enc w base spare held fuel cs x hx
  obtain ⟨a, hk, ha⟩ := h enc w base spare held fuel cs x hx
  exact ⟨g a, by show d.K w (f (g a)) cs; rw [hg]; exact hk, by show G (f (g a)); rw [hg]; exact ha⟩

theorem opn_struct1 {α : Type} {P : Program} {t : TypeId} {f0 : Field} {d0 : Kd α} {G0 : α → Prop} (ht : P.underlying t = some (.struct #[f0]))
    (hs : (f0.offset, P.cellsOf f0.type, P.cellsOf t) = (0, d0.sz, d0.sz)) (h0 : Opn P f0.type d0 G0) : Opn P t d0 G0 := by
  intro H enc w base spare held fuel cs x hx
  obtain ⟨y0, n, _, hl, hf⟩ := trod_struct1 ht hx
  simp only [Prod.mk.injEq] at hs
  obtain ⟨e0, e1, e2⟩ := hs
  rw [e0, e1, List.drop_zero, List.take_of_length_le (by omega)] at hf
  exact h0 enc w base spare held n cs y0 hf

theorem opn_struct2 {α β : Type} {P : Program} {t : TypeId} {f0 f1 : Field} {d0 : Kd α} {d1 : Kd β} {G0 : α → Prop} {G1 : β → Prop} (ht : P.underlying t = some (.struct #[f0, f1]))
    (hs : ((f0.offset, P.cellsOf f0.type), (f1.offset, P.cellsOf f1.type), P.cellsOf t) = ((0, d0.sz), (d0.sz, d1.sz), d0.sz + d1.sz)) (h0 : Opn P f0.type d0 G0) (h1 : Opn P f1.type d1 G1) :
    Opn P t (Kd.pair d0 d1) (fun p => G0 p.1 ∧ G1 p.2) := by
  intro H enc w base spare held fuel cs x hx
  obtain ⟨y0, y1, n, _, hl, hf0, hf1⟩ := trod_struct2 ht hx
  simp only [Prod.mk.injEq] at hs
  obtain ⟨⟨a0, b0⟩, ⟨a1, b1⟩, c⟩ := hs
  rw [a0, b0] at hf0
  rw [a1, b1] at hf1
  obtain ⟨u0, k0, g0⟩ := h0 enc w base spare held n _ _ hf0
  obtain ⟨u1, k1, g1⟩ := h1 enc w base spare held n _ _ hf1
  refine ⟨(u0, u1), ⟨_, _, ?_, k0, k1⟩, g0, g1⟩
  rw [List.drop_zero, List.take_of_length_le (l := cs.drop d0.sz) (by simp; omega), List.take_append_drop]

theorem opn_struct3 {α β γ : Type} {P : Program} {t : TypeId} {f0 f1 f2 : Field} {d0 : Kd α} {d1 : Kd β} {d2 : Kd γ} {G0 : α → Prop} {G1 : β → Prop} {G2 : γ → Prop} (ht : P.underlying t = some (.struct #[f0, f1, f2]))
    (hs : ((f0.offset, P.cellsOf f0.type), (f1.offset, P.cellsOf f1.type), (f2.offset, P.cellsOf f2.type), P.cellsOf t) = ((0, d0.sz), (d0.sz, d1.sz), (d0.sz + d1.sz, d2.sz), d0.sz + d1.sz + d2.sz))
    (h0 : Opn P f0.type d0 G0) (h1 : Opn P f1.type d1 G1) (h2 : Opn P f2.type d2 G2) :
    Opn P t (Kd.pair d0 (Kd.pair d1 d2)) (fun p => G0 p.1 ∧ G1 p.2.1 ∧ G2 p.2.2) := by
  intro H enc w base spare held fuel cs x hx
  obtain ⟨y0, y1, y2, n, _, hl, hf0, hf1, hf2⟩ := trod_struct3 ht hx
  simp only [Prod.mk.injEq] at hs
  obtain ⟨⟨a0, b0⟩, ⟨a1, b1⟩, ⟨a2, b2⟩, c⟩ := hs
  rw [a0, b0] at hf0
  rw [a1, b1] at hf1
  rw [a2, b2] at hf2
  obtain ⟨u0, k0, g0⟩ := h0 enc w base spare held n _ _ hf0
  obtain ⟨u1, k1, g1⟩ := h1 enc w base spare held n _ _ hf1
  obtain ⟨u2, k2, g2⟩ := h2 enc w base spare held n _ _ hf2
  refine ⟨(u0, u1, u2), ⟨_, _, ?_, k0, _, _, rfl, k1, k2⟩, g0, g1, g2⟩
  rw [List.drop_zero, List.take_of_length_le (l := cs.drop (d0.sz + d1.sz)) (by simp; omega), ← List.drop_drop, List.take_append_drop, List.take_append_drop]

theorem opn_struct4 {α β γ δ : Type} {P : Program} {t : TypeId} {f0 f1 f2 f3 : Field} {d0 : Kd α} {d1 : Kd β} {d2 : Kd γ} {d3 : Kd δ} {G0 : α → Prop} {G1 : β → Prop} {G2 : γ → Prop} {G3 : δ → Prop} (ht : P.underlying t = some (.struct #[f0, f1, f2, f3]))
    (hs : ((f0.offset, P.cellsOf f0.type), (f1.offset, P.cellsOf f1.type), (f2.offset, P.cellsOf f2.type), (f3.offset, P.cellsOf f3.type), P.cellsOf t) = ((0, d0.sz), (d0.sz, d1.sz), (d0.sz + d1.sz, d2.sz), (d0.sz + d1.sz + d2.sz, d3.sz), d0.sz + d1.sz + d2.sz + d3.sz))
    (h0 : Opn P f0.type d0 G0) (h1 : Opn P f1.type d1 G1) (h2 : Opn P f2.type d2 G2) (h3 : Opn P f3.type d3 G3) :
    Opn P t (Kd.pair d0 (Kd.pair d1 (Kd.pair d2 d3))) (fun p => G0 p.1 ∧ G1 p.2.1 ∧ G2 p.2.2.1 ∧ G3 p.2.2.2) := by
  intro H enc w base spare held fuel cs x hx
  obtain ⟨y0, y1, y2, y3, n, _, hl, hf0, hf1, hf2, hf3⟩ := trod_struct4 ht hx
  simp only [Prod.mk.injEq] at hs
  obtain ⟨⟨a0, b0⟩, ⟨a1, b1⟩, ⟨a2, b2⟩, ⟨a3, b3⟩, c⟩ := hs
  rw [a0, b0] at hf0
  rw [a1, b1] at hf1
  rw [a2, b2] at hf2
  rw [a3, b3] at hf3
  obtain ⟨u0, k0, g0⟩ := h0 enc w base spare held n _ _ hf0
  obtain ⟨u1, k1, g1⟩ := h1 enc w base spare held n _ _ hf1
  obtain ⟨u2, k2, g2⟩ := h2 enc w base spare held n _ _ hf2
  obtain ⟨u3, k3, g3⟩ := h3 enc w base spare held n _ _ hf3
  refine ⟨(u0, u1, u2, u3), ⟨_, _, ?_, k0, _, _, rfl, k1, _, _, rfl, k2, k3⟩, g0, g1, g2, g3⟩
  rw [List.drop_zero, List.take_of_length_le (l := cs.drop (d0.sz + d1.sz + d2.sz)) (by simp; omega)]
  simp only [← List.drop_drop, List.take_append_drop]

/-- A slice that came in, as the contracts ask it. -/
theorem slice_came {α : Type} {P : Program} {t e : TypeId} {d : Kd α} {G : List α → Prop} (h : Opn P t (Kd.slice e d) G) {H : Type} {enc : TypeId × Value → H} {w : World} {base : Nat} {spare : Nat → Bool} {held : Bool} {dd : DataW H} {ps : List MemPlace} {A : Option Addr} {n c : Nat}
    (hd : DataW.Trod enc P w base spare held t (.slice A n c) dd ps) : ∃ xs, n = xs.length ∧ Kd.C d w A xs.length xs ∧ xs.length ≤ c ∧ G xs := by
  obtain ⟨fuel, hf⟩ := hd
  obtain ⟨xs, ⟨A', c', he, hl, hr⟩, hg⟩ := h enc w base spare held fuel _ _ hf
  simp [Value.cells] at he
  obtain ⟨rfl, rfl, rfl⟩ := he
  exact ⟨xs, rfl, hr, hl, hg⟩
/-- A value of several cells that came in. -/
theorem agg_came {α : Type} {P : Program} {t : TypeId} {d : Kd α} {G : α → Prop} (h : Opn P t d G) {H : Type} {enc : TypeId × Value → H} {w : World} {base : Nat} {spare : Nat → Bool} {held : Bool} {dd : DataW H} {ps : List MemPlace} {cs : Array Value}
    (hd : DataW.Trod enc P w base spare held t (.agg cs) dd ps) : ∃ a, d.K w a cs.toList ∧ G a := by
  obtain ⟨fuel, hf⟩ := hd
  exact h enc w base spare held fuel _ _ hf
end Go.Proofs.YtkmobaffmlcaiaaDoorW.Opens
