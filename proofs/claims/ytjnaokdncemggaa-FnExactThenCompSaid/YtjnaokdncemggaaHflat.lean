/- The reference's l9Flat by its contract: it appends the cells of a tree to a row that is handed on. -/
import Derived.Test.YtjnaokdncemggaaHresults
namespace Go.Proofs.Ytjnaokdncemggaa.PAll
open Go.RowKit Go.Proofs.YtjnaokdncemggaaW.PrintWords Go.Proofs.YtjnaokdncemggaaW.PrintLast Go.Proofs.YtjnaokdncemggaaW.PrintMore
set_option linter.unusedVariables false
set_option linter.unusedSimpArgs false

def l9fl (f : Bool → Int → List S93 → List S83 → Option (List S83)) : List S93 → List S83 → Option (List S83)
  | [], out => some out
  | x :: l, out => (f x.f0 x.f1 x.f2 out).bind (l9fl f l)
def l9flat : Nat → Bool → Int → List S93 → List S83 → Option (List S83)
  | 0, _, _, _, _ => none
  | k + 1, a0, n, l, out => if out.length < 8796093022208 then (if a0 = true then (if l.length ≤ 1000 then l9fl (l9flat k) l (out ++ [⟨2, n⟩]) else none) else some (out ++ [⟨1, n⟩])) else none

/-- What a call of l9Flat does. -/
def LFPost (w0 w : World) (P1_ : Nat → Prop) (r : List S83) (e : Ending) (w' : World) : Prop := ∃ v0_ : Value, e = .returned (v0_) ∧ Kd.R k83 83 w' w0.heap.size (fun k_ => (P1_ k_ ∨ w.heap.size ≤ k_)) v0_ r ∧ Below w0.heap.size w0 w' ∧ Kept w w' (fun k_ => P1_ k_)

/-- Where the loop over the kids stands. -/
def FlSt (k : Nat) (l : List S93) (r : List S83) (w0 wb : World) (Q : Nat → Prop) (i : Nat) (wr : World) (v : Value) : Prop :=
  ∃ out, Kd.R k83 83 wr w0.heap.size Q v out ∧ Below w0.heap.size w0 wr ∧ Kept wb wr Q ∧ l9fl (l9flat k) (l.drop i) out = some r

theorem rd93_drop (l : List S93) (i : Nat) (h : i < l.length) : l.drop i = rd_T93 l (i : Int) :: l.drop (i + 1) := by
  rw [List.drop_eq_getElem_cons h]; simp [rd_T93, List.getD_eq_getElem?_getD, List.getElem?_eq_getElem h]

def FlIH (k : Nat) : Prop := ∀ (a0_0 : Bool) (a0_1 : Int) (A0_2 : Option Addr) (c0_2 : Nat) (l0_2 : List (S93)) (P1_ : Nat → Prop) (u9000_ : Value) (l1 : List S83) (r : List S83) (w0 w : World), Below w0.heap.size w0 w → (∀ W_, Kept w W_ (fun k_ => P1_ k_) → Kd.C k93 W_ A0_2 l0_2.length l0_2) → l0_2.length ≤ c0_2 → Kd.R k83 83 w w0.heap.size P1_ u9000_ l1 → l9flat k a0_0 a0_1 l0_2 l1 = some r →
    Calls Try.prog 71 #[.agg #[.bool a0_0, .int .i64 a0_1, .slice A0_2 l0_2.length c0_2], u9000_] w (LFPost w0 w P1_ r)

theorem fl_call {k : Nat} {l : List S93} {r : List S83} {w0 wb wr W : World} {Q : Nat → Prop} {i : Nat} {v : Value} {X : Option Addr} {cx : Nat} (ih : FlIH k) (hst : FlSt k l r w0 wb Q i wr v) (hi : i < l.length)
    (hQ : ∀ k, wb.heap.size ≤ k → Q k) (lx : (rd_T93 l (i : Int)).f2.length ≤ cx) (gx : ∀ W, Kept wb W Q → Kd.C k93 W X (rd_T93 l (i : Int)).f2.length (rd_T93 l (i : Int)).f2) (hb : Below wr.heap.size wr W) :
    Calls Try.prog 71 #[.agg #[.bool (rd_T93 l (i : Int)).f0, .int .i64 (rd_T93 l (i : Int)).f1, .slice X (rd_T93 l (i : Int)).f2.length cx], v] W fun e w' => ∃ v2, e = .returned v2 ∧ FlSt k l r w0 wb Q (i + 1) w' v2 := by
  obtain ⟨out, hR, hB, hK, h⟩ := hst
  rw [rd93_drop l i hi] at h
  simp only [l9fl] at h
  obtain ⟨t, h1, h2⟩ := Option.bind_eq_some_iff.mp h
  have hKW : Kept wb W Q := hK.below hb
  refine (ih _ _ X cx _ Q v out t w0 W (below_step hB hb) (fun W' hW' => gx W' (hKW.then_ hW' (fun k hk => .inl hk))) lx (Kd.R_below hR hb) h1).mono ?_
  rintro e w' ⟨v2, rfl, hR2, hB2, hK2⟩
  exact ⟨v2, rfl, t, Kd.R_mono hR2 (fun k hk => hk.elim id (fun hk => hQ k (Nat.le_trans hKW.1 hk))), hB2, hKW.then_ hK2 (fun k hk => .inl hk), h2⟩

set_option maxHeartbeats 8000000 in
set_option maxRecDepth 100000 in
theorem l9flat_calls (k : Nat) : FlIH k := by
  induction k with
  | zero => intro a0_0 a0_1 A0_2 c0_2 l0_2 P1_ u9000_ l1 r w0 w _ _ _ _ h; simp [l9flat] at h
  | succ k ih =>
    intro a0_0 a0_1 A0_2 c0_2 l0_2 P1_ u9000_ l1 r w0 w hB hr0_2 hc0_2 ho1 h
    simp only [l9flat] at h
    by_cases c3 : l1.length < 8796093022208
    · rw [if_pos c3] at h
      have LMc3 := Aside0.mk c3
      clear c3
      have HR0_2 := Aside0.mk hr0_2
      have HC0_2 := hc0_2
      clear hr0_2 hc0_2
      have HO1 := Aside0.mk (show Kd.R k83 83 w w0.heap.size (fun k_ => (P1_ k_ ∧ k_ < w.heap.size)) u9000_ l1 from Kd.R_mono (Kd.R_bound ho1) (fun k_ hk => ⟨hk.1, hk.2.2.1⟩))
      have HB := Aside0.mk hB
      clear hB ho1
      have IH := Lib.hid ih
      clear ih
      unfold LFPost
      cases a0_0 with
      | false =>
        obtain rfl : l1 ++ [⟨1, a0_1⟩] = r := by simpa using h
        clear h
        go_enter Try.func71, Try.ntmps71
        go_wp2_with (first
          | ((with_reducible refine gate_dst (N := 2) rfl ?_); refine box_event ?hg (N := 2) ?hd (cs := #[.bool false, .int .i64 a0_1, .slice A0_2 l0_2.length c0_2]) (t := 93) ?hr ?_; (case hd => rfl); (case hg => rfl); (case hr => first | (go_simp; done) | (go_simp; rfl)); intro gb hg w4 hbox hb; have K4 := Lib.hid (Kept.of_below hb (fun k_ => P1_ k_)); have B4 := Lib.hid hb; have HX := Lib.hid hbox; have HB4 := Lib.hid (below_step HB.out (show Below w.heap.size w w4 from hb)); have c0 : w4.cell? ⟨gb, 0, none⟩ = some (.bool false) := (blk_cell hbox 0).trans rfl; have c1 : w4.cell? ⟨gb, 1, none⟩ = some (.int .i64 a0_1) := (blk_cell hbox 1).trans rfl; clear hb hg hbox)
          | ((with_reducible refine gate_builtin (b := .append) (xs := #[.tmp 10, .tmp 14]) rfl ?_); at_builtin; refine Kd.R_append k83 (w0 := w0) w0.heap.size rfl (.tmp 10) (.tmp 14) 36 83 (.agg #[(.int .i64 0), (.int .i64 0)]) 16 rfl Try.underlying36 info83 rfl (by decide) (by omega) u9000_ l1 (⟨1, a0_1⟩ : S83) [.int .i64 1, .int .i64 a0_1] (fun k_ => (P1_ k_ ∧ k_ < w.heap.size) ∨ w4.heap.size ≤ k_) (fun _ => False) rfl rfl ?aP (fun _ hk => hk.elim) ?aF ?aO ?aB ?aS ?aL ?_; (case aP => exact k83_mkM _ _ _ (⟨1, a0_1⟩ : S83)); (case aB => exact HB4.out); (case aF => exact fun k_ hk => .inr hk); (case aO => exact Kd.R_mono (Kd.R_below HO1.out B4.out) (fun k hk => .inl hk)); (case aS => exact HB4.out.size); (case aL => have := LMc3.out; omega); intro v457 w6 ho hb hg hat; have HO2 := Lib.hid ho; have HBB := Lib.hid hb; have HKK := Lib.hid (Kept.of_grown (S := (fun k_ => P1_ k_)) hg K4.out (fun k_ e_ => .inl (HO1.out.1 k_ e_).1)); clear ho hb hg hat))
        go_ret
        exact ⟨_, rfl, Kd.R_mono HO2.out (fun k hk => hk.elim (fun h => .inl h.1) (fun h => .inr (Nat.le_trans K4.out.1 h))), HBB.out, HKK.out⟩
      | true =>
        rw [if_pos rfl] at h
        have hlen : l0_2.length ≤ 1000 := by
          split at h
          · assumption
          · cases h
        rw [if_pos hlen] at h
        have H := Lib.hid h
        clear h
        go_enter Try.func71, Try.ntmps71
        go_wp2_with (first
          | ((with_reducible refine gate_dst (N := 2) rfl ?_); refine box_event ?hg (N := 2) ?hd (cs := #[.bool true, .int .i64 a0_1, .slice A0_2 l0_2.length c0_2]) (t := 93) ?hr ?_; (case hd => rfl); (case hg => rfl); (case hr => first | (go_simp; done) | (go_simp; rfl)); intro gb hg w4 hbox hb; have K4 := Lib.hid (Kept.of_below hb (fun k_ => P1_ k_)); have B4 := Lib.hid hb; have HG := Lib.hid hg; have HX := Lib.hid hbox; have HB4 := Lib.hid (below_step HB.out (show Below w.heap.size w w4 from hb)); have c0 : w4.cell? ⟨gb, 0, none⟩ = some (.bool true) := (blk_cell hbox 0).trans rfl; have c1 : w4.cell? ⟨gb, 1, none⟩ = some (.int .i64 a0_1) := (blk_cell hbox 1).trans rfl; clear hb hg hbox)
          | ((with_reducible refine gate_builtin (b := .append) (xs := #[.tmp 16, .tmp 20]) rfl ?_); at_builtin; refine Kd.R_append k83 (w0 := w0) w0.heap.size rfl (.tmp 16) (.tmp 20) 36 83 (.agg #[(.int .i64 0), (.int .i64 0)]) 16 rfl Try.underlying36 info83 rfl (by decide) (by omega) u9000_ l1 (⟨2, a0_1⟩ : S83) [.int .i64 2, .int .i64 a0_1] (fun k_ => (P1_ k_ ∧ k_ < w.heap.size) ∨ w4.heap.size ≤ k_) (fun _ => False) rfl rfl ?aP (fun _ hk => hk.elim) ?aF ?aO ?aB ?aS ?aL ?_; (case aP => exact k83_mkM _ _ _ (⟨2, a0_1⟩ : S83)); (case aB => exact HB4.out); (case aF => exact fun k_ hk => .inr hk); (case aO => exact Kd.R_mono (Kd.R_below HO1.out B4.out) (fun k hk => .inl hk)); (case aS => exact HB4.out.size); (case aL => have := LMc3.out; omega); intro v457 w6 ho hb hg hat; have hne : ¬ ((P1_ gb ∧ gb < w.heap.size) ∨ w4.heap.size ≤ gb) := (by have := HG.out; have := blk_lt HX.out; rintro (h | h) <;> omega); have HKK := Lib.hid (Kept.of_grown (S := (fun k_ => (P1_ k_ ∧ k_ < w.heap.size) ∨ w4.heap.size ≤ k_)) hg (Kept.refl w4 _) (fun k_ e_ => .inl (.inl (HO1.out.1 k_ e_)))); have c26 : w6.cell? ⟨gb, 2, none⟩ = some (.slice A0_2 l0_2.length c0_2) := (kept_cell HKK.out (p := ⟨gb, 2, none⟩) hne (blk_lt HX.out)).trans ((blk_cell HX.out 2).trans rfl); have HST := Lib.hid (show FlSt k l0_2 r w0 w4 (fun k_ => (P1_ k_ ∧ k_ < w.heap.size) ∨ w4.heap.size ≤ k_) 0 w6 v457 from ⟨_, ho, hb, HKK.out, by simpa using H.out⟩); clear ho hb hg hat hne))
        have KB := Lib.hid (show ∀ W, Kept w4 W (fun k_ => (P1_ k_ ∧ k_ < w.heap.size) ∨ w4.heap.size ≤ k_) → Kept w W (fun k_ => P1_ k_) from fun W hW => K4.out.then_ hW (fun k hk => hk.elim (fun h => .inl h.1) (fun h => .inr (Nat.le_trans K4.out.1 h))))
        clear c0 c1
        go_loopw [1, 6, 25] (fun v1 v6 v25 wr => ∃ i : Nat, i ≤ l0_2.length ∧ v25 = .int .i64 i ∧ FlSt k l0_2 r w0 w4 (fun k_ => (P1_ k_ ∧ k_ < w.heap.size) ∨ w4.heap.size ≤ k_) i wr v1) (fun _ _ v25 _ => l0_2.length - (intOf v25).toNat)
        case atStart => exact ⟨0, Nat.zero_le _, rfl, HST.out⟩
        case round =>
          obtain ⟨i, hi, rfl, hst⟩ := hrel
          clear c26 HST
          have HST := Lib.hid hst
          clear hst
          by_cases hlt : i < l0_2.length
          · obtain ⟨ad, X, cx, hA, fx, lx, gx⟩ := kept_get93 HR0_2.out (i : Int) (by omega) (by omega)
            subst hA
            obtain ⟨out, _, _, hK, _⟩ := HST.out
            have fx' := fx _ (KB.out _ hK)
            obtain ⟨f0, f1, f2⟩ := fx'
            have GX := Lib.hid (show ∀ W, Kept w4 W (fun k_ => (P1_ k_ ∧ k_ < w.heap.size) ∨ w4.heap.size ≤ k_) → Kd.C k93 W X (rd_T93 l0_2 (i : Int)).f2.length (rd_T93 l0_2 (i : Int)).f2 from fun W hW => gx W (KB.out W hW))
            rw [Int.toNat_natCast] at f0 f1 f2
            clear fx gx hK
            go_wp2_with fail
            (refine (fl_call IH.out HST.out hlt (fun k hk => .inr hk) lx GX.out (below_alloc (Below.refl _ _) _)).mono ?_; rintro e w' ⟨v2, rfl, hst⟩; have HST2 := Lib.hid hst; clear hst)
            go_wp2
            go_roundw
            case rel => exact ⟨i + 1, by omega, by go_num, HST2.out⟩
            case measure => simp [intOf]; omega
          · obtain rfl : i = l0_2.length := by omega
            go_wp2
            go_ret
            obtain ⟨out, hR, hB', hK, hh⟩ := HST.out
            rw [List.drop_eq_nil_of_le (Nat.le_refl _)] at hh
            obtain rfl := Option.some.inj hh
            exact ⟨_, rfl, Kd.R_mono hR (fun k hk => hk.elim (fun h => .inl h.1) (fun h => .inr (Nat.le_trans K4.out.1 h))), hB', KB.out _ hK⟩
    · rw [if_neg c3] at h; cases h
end Go.Proofs.Ytjnaokdncemggaa.PAll
