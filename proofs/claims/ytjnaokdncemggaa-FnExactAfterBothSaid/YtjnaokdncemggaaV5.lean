-- Made by pack.py of the texts that the law reaches.
import Derived.ChangeArms
import Derived.ChangeSame
import Derived.DataReads
import Derived.Deep.Strs
import Derived.Lib.SmallJoins
import Derived.Test.YtjnaokdncemggaaV4
section
namespace Go.Proofs.Ytjnaokdncemggaa.PAll
open Go.RowKit Go.Proofs.YtjnaokdncemggaaW.PrintWords Go.Proofs.YtjnaokdncemggaaW.PrintLast Go.Proofs.YtjnaokdncemggaaW.PrintMore
def laws_FnExactAfterBoth.Pure : Prop := ∀ (a0_0 : Int) (l0_1 : List (S126)) (a1_0 : Int) (l1_1 : List (S126)), (Lit.int .i64 a0_0).wf = true → (l0_1.length ≤ 9223372036854775807 ∧ ∀ xl01_ ∈ l0_1, ((Lit.int .i64 xl01_.f0).wf = true ∧ (Lit.int .i64 xl01_.f1).wf = true)) → (Lit.int .i64 a1_0).wf = true → (l1_1.length ≤ 9223372036854775807 ∧ ∀ xl11_ ∈ l1_1, ((Lit.int .i64 xl11_.f0).wf = true ∧ (Lit.int .i64 xl11_.f1).wf = true)) → ∃ k, laws_FnExactAfterBoth.f k a0_0 l0_1 a1_0 l1_1 = some true
end Go.Proofs.Ytjnaokdncemggaa.PAll

end

section
namespace Go.Proofs.Ytjnaokdncemggaa.PAll
open Go.RowKit Go.Proofs.YtjnaokdncemggaaW.PrintWords Go.Proofs.YtjnaokdncemggaaW.PrintLast Go.Proofs.YtjnaokdncemggaaW.PrintMore
theorem toHandler_eq (a : Int) (l : List S126) (hl : l.length ≤ 1048576) (k : Nat) (hk : 1048577 ≤ k) : laws_toHandler.f k a l = some (a, l.map cvR) := by
  unfold laws_toHandler.f
  rw [toRuleS_eq l (by omega) _ (by omega), Option.bind_some]
theorem eqHandler_self (a : Int) (l : List S82) (hl : l.length ≤ 1048576) (k : Nat) (hk : 1048577 ≤ k) : laws_eqHandler.f k a l a l = some true := by
  unfold laws_eqHandler.f
  rw [if_pos rfl, eqRuleS_self _ (by omega) _ (by omega), Option.bind_some, if_pos rfl]
theorem markHandler_from (a : Int) (m : Nat) (hm : m ≤ 100000000000000) (l : List S82) (hl : l.length ≤ 1048576) (k : Nat) (hk : 1048577 ≤ k) : ∃ ys, laws_markHandler.f k a l (m : Int) = some (((m + 2 * l.length : Nat) : Int), ys) := by
  unfold laws_markHandler.f
  obtain ⟨ys, h⟩ := markFromR_eq l (by omega) m hm k (by omega)
  exact ⟨ys, by rw [h, Option.bind_some]⟩
theorem markHeldH_eq (a : Int) (l : List S82) (hl : l.length ≤ 1048576) (k : Nat) (hk : 1048577 ≤ k) : ∃ ys, laws_markHandler.f k a l 1 = some (((1 + 2 * l.length : Nat) : Int), ys) ∧ ∀ q, 1048577 ≤ q → laws_heldHandler.f q a ys 1 = some ((1 + 2 * l.length : Nat) : Int) := by
  unfold laws_markHandler.f laws_heldHandler.f
  obtain ⟨ys, h, hh⟩ := markHeldR_eq l (by omega) k (by omega)
  refine ⟨ys, by rw [h, Option.bind_some], fun q hq => ?_⟩
  rw [hh q (by omega), Option.bind_some, if_neg (by omega)]
theorem FnExactAfterBoth_pure : laws_FnExactAfterBoth.Pure := by
  intro a0 l0 a1 l1 _ g0 _ g1
  refine ⟨3000000, ?_⟩
  unfold laws_FnExactAfterBoth.f laws_szHandler.f laws_szRuleS.f
  by_cases h : wrap64 (1048576 - (l0.length : Int)) < 0
  · rw [if_pos h]; simp
  · have hl0 : l0.length ≤ 1048576 := by have := g0.1; unfold wrap64 at h; omega
    have hw : wrap64 (1048576 - (l0.length : Int)) = 1048576 - (l0.length : Int) := wrap_idR (by omega) (by omega)
    rw [if_neg h]
    simp only [Option.bind_some]
    rw [if_neg h]
    simp only [Option.bind_some]
    rw [if_neg h, hw]
    by_cases h2 : wrap64 (1048576 - (l0.length : Int) - (l1.length : Int)) < 0
    · rw [if_pos h2]; simp
    · have hl1 : l1.length ≤ 1048576 := by have := g1.1; unfold wrap64 at h2; omega
      rw [if_neg h2]
      simp only [Option.bind_some]
      rw [if_neg h2]
      simp only [Option.bind_some]
      rw [if_neg h2]
      have T0 := fun k hk => toHandler_eq a0 l0 hl0 k hk
      have T1 := fun k hk => toHandler_eq a1 l1 hl1 k hk
      rw [T0 _ (by omega), Option.bind_some, T1 _ (by omega), Option.bind_some]
      simp only
      rw [specAb_eq a0 (l0.map cvR) a1 (l1.map cvR) (by simp; omega) (by simp; omega) _ (by omega) (by simp; omega) (by simp; omega), Option.bind_some, Option.bind_some, Option.bind_some]
      simp only
      rw [implAb_eq a0 (l0.map cvR) a1 (l1.map cvR) _ (by omega), Option.bind_some]
      have hrs := abOf_len a0 (l0.map cvR) a1 (l1.map cvR)
      obtain ⟨ys, hm, hh⟩ := markHeldH_eq (abOf a0 (l0.map cvR) a1 (l1.map cvR)).1 (abOf a0 (l0.map cvR) a1 (l1.map cvR)).2.1 (by omega) 2999998 (by omega)
      obtain ⟨zs, hz⟩ := markHandler_from a0 1 (by omega) (l0.map cvR) (by simp; omega) 2999999 (by omega)
      obtain ⟨us, hu⟩ := markHandler_from a1 (1 + 2 * (l0.map cvR).length) (by simp; omega) (l1.map cvR) (by simp; omega) 2999999 (by omega)
      simp only [Int.cast_ofNat_Int] at hz
      rw [eqHandler_self _ _ (by omega) _ (by omega), Option.bind_some, if_pos rfl]
      simp only [laws_FnExactAfterBoth.j0, bne_self_eq_false]
      rw [if_neg (by simp), T0 _ (by omega), Option.bind_some]
      simp only
      rw [eqHandler_self _ _ (by simp; omega) _ (by omega), Option.bind_some, if_pos rfl, T1 _ (by omega), Option.bind_some]
      simp only
      rw [eqHandler_self _ _ (by simp; omega) _ (by omega), Option.bind_some, if_pos rfl, hz, Option.bind_some]
      simp only
      rw [hu, Option.bind_some]
      simp only
      rw [if_neg (by omega), eqHandler_self _ _ (by omega) _ (by omega), Option.bind_some, if_pos rfl]
      simp only [laws_FnExactAfterBoth.j1]
      rw [if_neg (by simp), hm, Option.bind_some]
      simp only
      rw [hh _ (by omega), Option.bind_some, if_neg (by omega), if_pos rfl, T0 _ (by omega), Option.bind_some, T1 _ (by omega), Option.bind_some]
      simp only
      rw [implAb_eq a0 (l0.map cvR) a1 (l1.map cvR) _ (by omega), Option.bind_some]
      rw [eqHandler_self _ _ (by omega) _ (by omega), Option.bind_some, if_pos rfl]
      simp only [laws_FnExactAfterBoth.j2, bne_self_eq_false]
      rw [if_neg (by simp), hh _ (by omega), Option.bind_some, if_neg (by omega), if_pos rfl]
end Go.Proofs.Ytjnaokdncemggaa.PAll

end

section
namespace Go.Proofs.YtjnaokdncemggaaW.Opens
open Go.RowKit Go.Proofs.YtjnaokdncemggaaW.PrintWords Go.ChangeShapes Go.WideShapes Go.Deep Go.Joins
def Opn {α : Type} (P : Program) (t : TypeId) (d : Kd α) (G : α → Prop) : Prop :=
  ∀ {H : Type} (enc : TypeId × Value → H) (w : World) (base : Nat) (spare : Nat → Bool) (held : Bool) (fuel : Nat) (cs : List Value) (x : DataW H × List MemPlace),
    DataW.trod enc P w base spare held fuel t cs = some x → ∃ a, d.K w a cs ∧ G a
theorem opn_int {P : Program} {t : TypeId} {k : IntKind} (ht : P.underlying t = some (.int k)) : Opn P t (Kd.int k) (fun n => (Lit.int k n).wf = true) := by
  intro H enc w base spare held fuel cs x h
  obtain ⟨n, rfl, _, hw⟩ := DataW.trod_int ht h
  exact ⟨n, rfl, hw⟩
theorem list_of {α : Type} {p : Nat → α → Prop} : ∀ {n : Nat}, (∀ i, i < n → ∃ a, p i a) → ∃ xs : List α, xs.length = n ∧ ∀ i a, xs[i]? = some a → p i a := by
  intro n
  induction n with
  | zero => intro _; exact ⟨[], rfl, fun i a h => by simp at h⟩
  | succ n ih =>
    intro h
    obtain ⟨xs, hl, hx⟩ := ih (fun i hi => h i (by omega))
    obtain ⟨a, ha⟩ := h n (by omega)
    refine ⟨xs ++ [a], by simp [hl], fun i b hb => ?_⟩
    rcases Nat.lt_or_ge i xs.length with hi | hi
    · rw [List.getElem?_append_left hi] at hb; exact hx i b hb
    · rw [List.getElem?_append_right hi] at hb
      have : i - xs.length = 0 := by
        rcases Nat.eq_zero_or_pos (i - xs.length) with h0 | h0
        · exact h0
        · rw [List.getElem?_eq_none (by simp; omega)] at hb; cases hb
      rw [this] at hb
      simp at hb
      subst hb
      rw [show i = n by omega]
      exact ha
theorem opn_slice {α : Type} {P : Program} {t e : TypeId} {d : Kd α} {G : α → Prop} (ht : P.underlying t = some (.slice e)) (hc : P.cellsOf e = d.sz) (h : Opn P e d G) : Opn P t (Kd.slice e d) (fun xs => xs.length ≤ 9223372036854775807 ∧ ∀ x ∈ xs, G x) := by
  intro H enc w base spare held fuel cs x hx
  rcases DataW.trod_slice ht hx with ⟨rfl, _⟩ | ⟨a, len, cap, elems, rest, n, _, rfl, _, hb, hl, hm, hlen, hel, _, _⟩
  · exact ⟨[], ⟨none, 0, rfl, Nat.le_refl _, ⟨rfl, by simp, fun h0 => absurd h0 (by simp)⟩⟩, by simp, fun x hx => by cases hx⟩
  · obtain ⟨xs, hxl, hxs⟩ := list_of (n := len) (p := fun i a' => (∃ c, w.cells? base (a.add (i * P.cellsOf e)) (P.cellsOf e) = some c ∧ d.K w a' c) ∧ G a') (fun i hi => by
      have he := hel i hi
      rw [List.getElem?_eq_getElem (show i < elems.length by omega)] at he
      obtain ⟨c, h1, h2⟩ := Option.bind_eq_some_iff.1 he
      obtain ⟨a', hk, hg⟩ := h enc w base spare held n c _ h2
      exact ⟨a', ⟨c, h1, hk⟩, hg⟩)
    have hxm : xs.length ≤ 9223372036854775807 := by rw [hxl]; have := hm; simp only [maxLen] at this; omega
    refine ⟨xs, ⟨some a, cap, by rw [hxl], by omega, ⟨rfl, hxm, fun _ => ⟨a, rfl, fun j p hj => ?_⟩⟩⟩, hxm, fun x hx => ?_⟩
    · obtain ⟨⟨c, h1, hk⟩, _⟩ := hxs j p hj
      obtain ⟨h2, h3, h4⟩ := World.cells?_some h1
      refine ⟨c, d.K_len hk, hk, fun i u hu => ?_⟩
      have hi : i < P.cellsOf e := by rw [← h3]; exact (List.getElem?_eq_some_iff.1 hu).1
      have := h4 i hi
      rw [Go.Deep.add_add, hu, hc] at this
      exact this
    · obtain ⟨i, hi, rfl⟩ := List.getElem_of_mem hx
      exact (hxs i _ (List.getElem?_eq_getElem hi)).2
theorem opn_iso {α β : Type} {P : Program} {t : TypeId} {d : Kd α} {G : α → Prop} {f : β → α} (g : α → β) (hg : ∀ a, f (g a) = a) (h : Opn P t d G) : Opn P t (Kd.iso d f) (fun b => G (f b)) := by
  intro H enc w base spare held fuel cs x hx
  obtain ⟨a, hk, ha⟩ := h enc w base spare held fuel cs x hx
  exact ⟨g a, by show d.K w (f (g a)) cs; rw [hg]; exact hk, by show G (f (g a)); rw [hg]; exact ha⟩
theorem opn_struct2 {α β : Type} {P : Program} {t : TypeId} {f0 f1 : Field} {d0 : Kd α} {d1 : Kd β} {G0 : α → Prop} {G1 : β → Prop} (ht : P.underlying t = some (.struct #[f0, f1]))
    (hs : ((f0.offset, P.cellsOf f0.type), (f1.offset, P.cellsOf f1.type), P.cellsOf t) = ((0, d0.sz), (d0.sz, d1.sz), d0.sz + d1.sz)) (h0 : Opn P f0.type d0 G0) (h1 : Opn P f1.type d1 G1) :
    Opn P t (Kd.pair d0 d1) (fun p => G0 p.1 ∧ G1 p.2) := by
  intro H enc w base spare held fuel cs x hx
  obtain ⟨y0, y1, n, _, hl, hf0, hf1⟩ := trod_struct2 ht hx
  simp only [Prod.mk.injEq] at hs
  obtain ⟨⟨a0, b0⟩, ⟨a1, b1⟩, c⟩ := hs
  rw [a0, b0] at hf0
  rw [a1, b1] at hf1
  obtain ⟨u0, k0, g0⟩ := h0 enc w base spare held n _ _ hf0
  obtain ⟨u1, k1, g1⟩ := h1 enc w base spare held n _ _ hf1
  refine ⟨(u0, u1), ⟨_, _, ?_, k0, k1⟩, g0, g1⟩
  rw [List.drop_zero, List.take_of_length_le (l := cs.drop d0.sz) (by simp; omega), List.take_append_drop]
theorem agg_came {α : Type} {P : Program} {t : TypeId} {d : Kd α} {G : α → Prop} (h : Opn P t d G) {H : Type} {enc : TypeId × Value → H} {w : World} {base : Nat} {spare : Nat → Bool} {held : Bool} {dd : DataW H} {ps : List MemPlace} {cs : Array Value}
    (hd : DataW.Trod enc P w base spare held t (.agg cs) dd ps) : ∃ a, d.K w a cs.toList ∧ G a := by
  obtain ⟨fuel, hf⟩ := hd
  exact h enc w base spare held fuel _ _ hf
end Go.Proofs.YtjnaokdncemggaaW.Opens

end
