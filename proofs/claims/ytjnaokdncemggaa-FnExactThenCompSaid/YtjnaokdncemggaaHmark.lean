/- markCompSS by its contract: it writes into the rows' own blocks alone. -/
import Derived.Test.YtjnaokdncemggaaHthenC
import Derived.Test.YtjnaokdncemggaaPAllx29
namespace Go.Proofs.Ytjnaokdncemggaa.PAll
open Go.RowKit Go.Proofs.YtjnaokdncemggaaW.PrintWords Go.Proofs.YtjnaokdncemggaaW.PrintLast Go.Proofs.YtjnaokdncemggaaW.PrintMore
set_option linter.unusedVariables false
set_option linter.unusedSimpArgs false

def tot {α : Type} : List (List α) → Int
  | [] => 0
  | l :: ls => (l.length : Int) + tot ls
theorem tot_pos {α : Type} : ∀ (ls : List (List α)), 0 ≤ tot ls
  | [] => by simp [tot]
  | l :: ls => by have := tot_pos ls; simp only [tot]; omega
theorem tot_take {α : Type} : ∀ (ls : List (List α)) (i : Nat) (l : List α), ls[i]? = some l → tot (ls.take (i + 1)) = tot (ls.take i) + l.length
  | [], i, l, h => by simp at h
  | a :: ls, 0, l, h => by simp at h; subst h; simp [tot]
  | a :: ls, i + 1, l, h => by simp only [List.getElem?_cons_succ] at h; simp only [List.take_succ_cons, tot, tot_take ls i l h]; omega
theorem tot_take_le {α : Type} : ∀ (ls : List (List α)) (i : Nat), tot (ls.take i) ≤ tot ls
  | [], i => by simp [tot]
  | a :: ls, 0 => by have := tot_pos ls; simp only [List.take_zero, tot]; omega
  | a :: ls, i + 1 => by have := tot_take_le ls i; simp only [List.take_succ_cons, tot]; omega

theorem hwrap_id {x : Int} (h0 : -9223372036854775808 ≤ x) (h1 : x < 9223372036854775808) : wrap64 x = x := by unfold wrap64; omega
theorem markComp_gen (n : Nat) (hn : n ≤ 1000000000) (a : Int) (h0 : 0 ≤ a) (h1 : a ≤ 1000000000000) : ∀ (d k i : Nat) (xs : List S83), xs.length = n → i + d = n → d < k → ∃ ys, laws_markCompS.l0 k xs (a + 2 * (i : Int)) (i : Int) = some (a + 2 * (n : Int), ys) := by
  intro d
  induction d with
  | zero =>
    intro k i xs hx hi hk
    obtain ⟨k, rfl⟩ : ∃ m, k = m + 1 := ⟨k - 1, by omega⟩
    simp only [laws_markCompS.l0]
    rw [if_neg (by omega)]
    obtain rfl : i = n := by omega
    exact ⟨xs, rfl⟩
  | succ d ih =>
    intro k i xs hx hi hk
    obtain ⟨k, rfl⟩ : ∃ m, k = m + 1 := ⟨k - 1, by omega⟩
    simp only [laws_markCompS.l0]
    rw [if_pos (by omega), if_pos (by omega), Option.bind_some, hwrap_id (x := a + 2 * (i : Int) + 1) (by omega) (by omega), hwrap_id (x := (i : Int) + 1) (by omega) (by omega), hwrap_id (by omega) (by omega)]
    have e1 : a + 2 * (i : Int) + 1 + 1 = a + 2 * ((i + 1 : Nat) : Int) := by omega
    have e2 : (i : Int) + 1 = ((i + 1 : Nat) : Int) := by omega
    rw [e1, e2]
    exact ih k (i + 1) _ (by simp [hx]) (by omega) (by omega)

/-- Where the marking stands. -/
def MkSt (ls : List (List S83)) (f : Nat → Nat) (ok : Nat → Prop) (g : Nat) (w0 w wr : World) (i : Nat) : Prop :=
  Below w0.heap.size w0 wr ∧ Kept w wr ok ∧ ∀ (j : Nat) (l : List S83), ls[j]? = some l → ∃ v, wr.cell? ⟨g, j, none⟩ = some v ∧ (i ≤ j → Kd.R k83 83 wr w0.heap.size (fun k => (ok k ∧ k ≠ g) ∧ f k = j) v l)

theorem MkSt.step {ls : List (List S83)} {f : Nat → Nat} {ok : Nat → Prop} {g : Nat} {w0 w wr w2 : World} {i : Nat} (h : MkSt ls f ok g w0 w wr i) (hok : ∀ k, w.heap.size ≤ k → False → ok k) (hb : Below w0.heap.size w0 w2) (hk : Kept wr w2 (fun k => (ok k ∧ k ≠ g) ∧ f k = i)) (hg : g < wr.heap.size) : MkSt ls f ok g w0 w w2 (i + 1) := by
  obtain ⟨h0, h1, h2⟩ := h
  refine ⟨hb, h1.then_ hk (fun k hk => .inl hk.1.1), fun j l hj => ?_⟩
  obtain ⟨v, hv, hr⟩ := h2 j l hj
  refine ⟨v, cell_kept hv hk (fun h => h.1.2 rfl), fun hij => ?_⟩
  exact Kd.R_kept (hr (by omega)) hk (fun k h1 h2 => by have := h1.2; have := h2.2; omega)

set_option maxRecDepth 100000 in
set_option maxHeartbeats 2000000 in
theorem markCompSS_calls (ls : List (List S83)) (a : Int) (u : Value) (ok : Nat → Prop) (w0 w : World) (hB : Below w0.heap.size w0 w) (hS : Kd.S (Kd.slice 83 k83) 36 w w0.heap.size ok u ls) (ha : 0 ≤ a) (hs : a + 2 * tot ls ≤ 1000000000) (hn : ls.length ≤ 1000000000) :
    Calls Try.prog 45 #[u, .int .i64 a] w fun e w' => e = .returned (.int .i64 (a + 2 * tot ls)) ∧ Below w0.heap.size w0 w' ∧ Kept w w' ok := by
  by_cases hp : 0 < ls.length
  · obtain ⟨g, cap, rfl, hg, hlt, cells, hblk⟩ := Kd.S_form hS hp
    obtain ⟨f, hR⟩ := hS
    have hst : MkSt ls f ok g w0 w w 0 := by
      refine ⟨hB, Kept.refl _ _, fun j l hj => ?_⟩
      have hjl : j < ls.length := by
        rcases Nat.lt_or_ge j ls.length with h | h
        · exact h
        · rw [List.getElem?_eq_none h] at hj; cases hj
      obtain ⟨c, hcl, hM, hcc⟩ := Kd.R_getA hR (([] : List S83), 0) (j : Int) (by omega) (by omega)
      have hz : ls.zipIdx.getD (j : Int).toNat (([] : List S83), 0) = (l, j) := by
        rw [Int.toNat_natCast, List.getD_eq_getElem?_getD, Kd.zip_at hj]; rfl
      rw [hz] at hM
      obtain ⟨v, rfl, hv⟩ := hM
      refine ⟨v, ?_, fun _ => Kd.R_mono hv (fun k hk => ⟨⟨hk.1.1, fun e => hk.1.2 (by rw [e]; rfl)⟩, hk.2⟩)⟩
      have h1 := hcc 0 v rfl
      rw [Int.toNat_natCast] at h1
      rcases Nat.eq_zero_or_pos j with rfl | hj0
      · simpa [Addr.add, Kd.tag, Kd.slice] using h1
      · simpa [Addr.add, Kd.tag, Kd.slice, Nat.pos_iff_ne_zero.mp hj0] using h1
    have HST := Lib.hid hst
    have hlt0 := hlt
    clear hst hR hblk hB
    go_enter Try.func45, Try.ntmps45
    go_wp2
    go_loopw [1, 5] (fun v1 v5 wr => ∃ i : Nat, i ≤ ls.length ∧ v5 = .int .i64 i ∧ v1 = .int .i64 (a + 2 * tot (ls.take i)) ∧ MkSt ls f ok g w0 w wr i) (fun _ v5 _ => ls.length - (intOf v5).toNat)
    case atStart => exact ⟨0, Nat.zero_le _, rfl, by simp [tot], HST.out⟩
    case round =>
      obtain ⟨i, hi, rfl, rfl, hst⟩ := hrel
      clear HST
      have HST := Lib.hid hst
      clear hst
      by_cases hil : i < ls.length
      · obtain ⟨l, hl⟩ : ∃ l, ls[i]? = some l := ⟨ls[i], by simp [hil]⟩
        obtain ⟨hb0, hk0, hcell⟩ := HST.out
        obtain ⟨v, hv, hr⟩ := hcell i l hl
        have HR := Lib.hid (hr (Nat.le_refl _))
        have htt := tot_take ls i l hl
        have ht1 := tot_take_le ls (i + 1)
        have ht0 := tot_pos (ls.take i)
        obtain ⟨A1, c1, hv1⟩ := Kd.R_slice HR.out
        subst hv1
        obtain ⟨ys, hy⟩ := markComp_gen l.length (by omega) (a + 2 * tot (ls.take i)) (by omega) (by omega) l.length (l.length + 1) 0 l rfl (by omega) (by omega)
        have hm : laws_markCompS.f (l.length + 1) l (a + 2 * tot (ls.take i)) = some (a + 2 * tot (ls.take (i + 1)), ys) := by
          unfold laws_markCompS.f
          have e0 : ((0 : Nat) : Int) = 0 := rfl
          rw [e0] at hy
          rw [show a + 2 * tot (ls.take i) + 2 * (0 : Int) = a + 2 * tot (ls.take i) by omega] at hy
          rw [hy, htt]
          congr 2
          omega
        have hgw : g < wr.heap.size := Nat.lt_of_lt_of_le hlt0 hk0.1
        have hcall := laws_markCompS.calls (l.length + 1) _ _ l (a + 2 * tot (ls.take i)) _ ys w0 wr hb0 HR.out hm
        have C := Lib.hid hcall
        have hi2 : (i : Int) < (ls.length : Int) := by omega
        clear hcall hy hm hl hcell hr htt ht1 ht0 hb0 hk0
        go_wp2_with (go_at_call 34; (with_reducible refine C.out.mono ?_); rintro e w2 ⟨rfl, _, hb2, hk2⟩; have HST2 := Lib.hid (MkSt.step HST.out (fun _ _ h => h.elim) hb2 hk2 hgw); clear hb2 hk2)
        go_roundw
        case rel => exact ⟨i + 1, by omega, by go_num, rfl, HST2.out⟩
        case measure => simp [intOf]; omega
      · obtain rfl : i = ls.length := by omega
        go_wp2
        go_ret
        obtain ⟨hb0, hk0, _⟩ := HST.out
        exact ⟨by rw [List.take_length]; rfl, hb0, hk0⟩
  · obtain ⟨A, c, rfl⟩ := Kd.S_slice hS
    have hl0 : ls = [] := by
      cases ls with
      | nil => rfl
      | cons => simp at hp
    subst hl0
    clear hS
    go_enter Try.func45, Try.ntmps45
    go_wp2
    go_loopw [1, 5] (fun v1 v5 wr => v5 = .int .i64 0 ∧ v1 = .int .i64 a ∧ wr = w) (fun _ _ _ => 0)
    case atStart => exact ⟨rfl, rfl, rfl⟩
    case round =>
      obtain ⟨rfl, rfl, rfl⟩ := hrel
      go_wp2
      go_ret
      exact ⟨by simp [tot], hB, Kept.refl _ _⟩
end Go.Proofs.Ytjnaokdncemggaa.PAll
