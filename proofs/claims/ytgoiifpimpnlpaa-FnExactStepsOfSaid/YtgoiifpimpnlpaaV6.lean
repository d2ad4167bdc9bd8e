-- Made by pack.py of the texts that the law reaches.
import Derived.Deep.RegionWith
import Derived.Lib.Hide
import Derived.Test.YtgoiifpimpnlpaaV5
section
namespace Go.Proofs.Ytgoiifpimpnlpaa.PAll
open Go.RowKit Go.Proofs.YtgoiifpimpnlpaaW.PrintWords Go.Proofs.YtgoiifpimpnlpaaW.PrintLast Go.Proofs.YtgoiifpimpnlpaaW.PrintMore
set_option linter.unusedVariables false
set_option linter.unusedSimpArgs false
mutual
/-- All terms that one redex, contracted, makes. -/
def stepsT : Tm → List Tm
  | .mk k n ks => (if redexB k ks = true then [contrT k ks] else []) ++ stepsK k n ks 0 ks
def stepsK (k n : Int) (ks0 : List Tm) : Nat → List Tm → List Tm
  | _, [] => []
  | i, t :: ts => (stepsT t).map (fun u => .mk k n (ks0.set i u)) ++ stepsK k n ks0 (i + 1) ts
end
theorem stepsT_mk (k n : Int) (ks : List Tm) : stepsT (.mk k n ks) = (if redexB k ks = true then [contrT k ks] else []) ++ stepsK k n ks 0 ks := by simp [stepsT]
def Frm (B : Nat) (W W' : World) : Prop := W.heap.size ≤ W'.heap.size ∧ (∀ k, k < B → W'.heap[k]? = W.heap[k]?) ∧ (∀ (k : Nat) (cells : Array Value) (ty : TypeId), W.heap[k]? = some (.cells cells ty (0, 0)) → (ty = 69 ∨ ty = 97 ∨ ty = 3) → W'.heap[k]? = W.heap[k]?) ∧ W'.os = W.os ∧ W'.tape = W.tape ∧ W'.output = W.output
theorem Frm.of_below {B : Nat} {W W' : World} (hB : B ≤ W.heap.size) (h : Below W.heap.size W W') : Frm B W W' := ⟨h.size, fun k hk => h.block k (by omega), fun k cells ty hc _ => h.block k (blk_lt hc), h.os, h.tape, h.output⟩
theorem Frm.trans {B : Nat} {W W1 W2 : World} (h1 : Frm B W W1) (h2 : Frm B W1 W2) : Frm B W W2 :=
  ⟨Nat.le_trans h1.1 h2.1, fun k hk => (h2.2.1 k hk).trans (h1.2.1 k hk), fun k cells ty hc ht => (h2.2.2.1 k cells ty ((h1.2.2.1 k cells ty hc ht).trans hc) ht).trans (h1.2.2.1 k cells ty hc ht), h2.2.2.2.1.trans h1.2.2.2.1, h2.2.2.2.2.1.trans h1.2.2.2.2.1, h2.2.2.2.2.2.trans h1.2.2.2.2.2⟩
theorem Frm.below {B : Nat} {W W' : World} (h : Frm B W W') : Below B W W' := ⟨h.2.2.2.1, h.2.2.2.2.1, h.2.2.2.2.2, h.1, h.2.1⟩
def Yld (fn : Nat) (caps : Array Value) (ok : Tm → Bool) (Inv : List Tm → World → Prop) (B M : Nat) : Prop :=
  ∀ (L : List Tm) (W : World) (g : Nat) (u : Tm), L.length < M → Inv L W → B ≤ W.heap.size → TAt (fun _ => True) W g u → u.wf →
    Calls Try.prog fn (#[ptr g] ++ caps) W fun e W' => e = .returned (.bool (ok u)) ∧ Inv (L ++ [u]) W' ∧ Frm B W W'
theorem enters115 : ∀ args W, (callFunc 115 args).run Try.prog W = .ok (.enter 115 args) W := fun args W => enters_ (P := Try.prog) (f := 115) Try.func115 (by kernel_rfl) rfl args W
set_option maxRecDepth 100000 in
set_option maxHeartbeats 1000000 in
theorem yield115_calls (fn : Nat) (caps : Array Value) (ok : Tm → Bool) (Inv : List Tm → World → Prop) (B M : Nat) (hen : ∀ args W, (callFunc fn args).run Try.prog W = .ok (.enter fn args) W) (hY : Yld fn caps ok Inv B M) (hI : ∀ L W W', Inv L W → Below W.heap.size W W' → Inv L W')
    (p3 p2 p5 g : Nat) (k n : Int) (ks : List Tm) (i : Nat) (hk3 : ks.length ≤ 3) (hi : i < ks.length) (hw : (Tm.mk k n ks).wf) (L : List Tm) (W : World) (q : Nat) (u : Tm) (hu : u.wf)
    (hM : L.length < M) (hinv : Inv L W) (hB : B ≤ W.heap.size) (hT : TAt (fun x => x < B) W g (.mk k n ks)) (hq : TAt (fun _ => True) W q u)
    (h3 : W.heap[p3]? = some (.cells #[.func (.func fn) #[] caps] 97 (0, 0))) (h2 : W.heap[p2]? = some (.cells #[ptr g] 69 (0, 0))) (h5 : W.heap[p5]? = some (.cells #[.int .i64 i] 3 (0, 0))) :
    Calls Try.prog 115 #[ptr q, ptr p3, ptr p2, ptr p5] W fun e W' => e = .returned (.bool (ok (.mk k n (ks.set i u)))) ∧ Inv (L ++ [.mk k n (ks.set i u)]) W' ∧ Frm B W W' := by
  have c3 : W.cell? ⟨p3, 0, none⟩ = some (.func (.func fn) #[] caps) := (an_ h3 0).trans rfl
  have c2 : W.cell? ⟨p2, 0, none⟩ = some (.pointer (some ⟨g, 0, none⟩)) := (an_ h2 0).trans rfl
  have c5 : W.cell? ⟨p5, 0, none⟩ = some (.int .i64 i) := (an_ h5 0).trans rfl
  have SS := Lib.hid (show ∀ W1 : World, Below W.heap.size W W1 → W1.cell? ⟨p3, 0, none⟩ = some (.func (.func fn) #[] caps) ∧ W1.cell? ⟨p2, 0, none⟩ = some (.pointer (some ⟨g, 0, none⟩)) ∧ W1.cell? ⟨p5, 0, none⟩ = some (.int .i64 i) from fun W1 hW => ⟨(hW.cell (p := ⟨p3, 0, none⟩) (blk_lt h3)).trans c3, (hW.cell (p := ⟨p2, 0, none⟩) (blk_lt h2)).trans c2, (hW.cell (p := ⟨p5, 0, none⟩) (blk_lt h5)).trans c5⟩)
  have FB : ∀ (W1 W2 : World) (x : Nat) (cells : Array Value) (ty : TypeId) (v : Value), Below W.heap.size W W1 → Frm B W1 W2 → W.heap[x]? = some (.cells cells ty (0, 0)) → (ty = 69 ∨ ty = 97 ∨ ty = 3) → cells[0]? = some v → W2.cell? ⟨x, 0, none⟩ = some v := by
    intro W1 W2 x cells ty v hb hf hx ht hv
    have h1 := (hb.block x (blk_lt hx)).trans hx
    exact (an_ ((hf.2.2.1 x cells ty h1 ht).trans h1) 0).trans hv
  have SF := Lib.hid (show ∀ W1 W2 : World, Below W.heap.size W W1 → Frm B W1 W2 → W2.cell? ⟨p3, 0, none⟩ = some (.func (.func fn) #[] caps) ∧ W2.cell? ⟨p2, 0, none⟩ = some (.pointer (some ⟨g, 0, none⟩)) ∧ W2.cell? ⟨p5, 0, none⟩ = some (.int .i64 i) from fun W1 W2 hb hf => ⟨FB W1 W2 p3 _ _ _ hb hf h3 (.inr (.inl rfl)) rfl, FB W1 W2 p2 _ _ _ hb hf h2 (.inl rfl) rfl, FB W1 W2 p5 _ _ _ hb hf h5 (.inr (.inr rfl)) rfl⟩)
  clear FB
  have S4 := SS.out W.drew (ah_ (aq_ _ _))
  have hTT : TAt (fun _ => True) W g (.mk k n ks) := TAt.step (fun _ _ _ => rfl) (fun _ _ _ => trivial) hT
  have C := Lib.hid (fun (W1 : World) (hb : Below W.heap.size W W1) => with_calls (fun _ => True) k n ks i u g q W1 hk3 hi (fun _ _ => trivial) (hTT.below hb) (hq.below hb))
  have hwf : (Tm.mk k n (ks.set i u)).wf := by
    simp only [Tm.wf] at hw ⊢
    refine ⟨by rw [hw.1]; simp, ?_⟩
    have : ∀ (l : List Tm) (j : Nat), wfs l → wfs (l.set j u) := by
      intro l
      induction l with
      | nil => intro j _; simp [wfs]
      | cons x l ih =>
        intro j h
        simp only [wfs] at h
        cases j with
        | zero => simp only [List.set_cons_zero, wfs]; exact ⟨hu, h.2⟩
        | succ j => simp only [List.set_cons_succ, wfs]; exact ⟨h.1, ih j h.2⟩
    exact this _ _ hw.2
  have Y := Lib.hid (fun (W1 : World) (r : Nat) (hb : Below W.heap.size W W1) (hr : TAt (fun _ => True) W1 r (.mk k n (ks.set i u))) => hY L W1 r (.mk k n (ks.set i u)) hM (hI L W W1 hinv hb) (Nat.le_trans hB hb.size) hr hwf)
  clear hTT hT hq hwf hw hinv hY hI hu h3 h2 h5
  unfold ptr at C Y ⊢
  go_enter Try.func115, Try.ntmps115
  go_wp2
  go_region_held3 (fun W => W.cell? ⟨p3, 0, none⟩ = some (.func (.func fn) #[] caps) ∧ W.cell? ⟨p2, 0, none⟩ = some (.pointer (some ⟨g, 0, none⟩)) ∧ W.cell? ⟨p5, 0, none⟩ = some (.int .i64 i)) (first | (with_reducible exact S4) | (with_reducible exact S5) | (with_reducible exact S6))
    (first
    | (go_at_call 116; (with_reducible refine (C.out _ (by repeat (first | exact aq_ _ _ | apply ag_ | apply ah_))).mono ?_); rintro e w3 hpost; obtain ⟨r, rfl, hr, hb3⟩ := PPost.lower (show Below W.heap.size W _ from by repeat (first | exact aq_ _ _ | apply ag_ | apply ah_)) hpost; have HR := Lib.hid hr; have HB3 := Lib.hid hb3; have S5 := SS.out _ hb3; clear hpost hr hb3; unfold ptr)
    | ((with_reducible refine (Y.out w3 r HB3.out HR.out).mono ?_); rintro e w4 ⟨rfl, hv, hf⟩; have HV := Lib.hid hv; have HF := Lib.hid hf; have S6 := SF.out _ _ HB3.out hf; clear hv hf))
  all_goals go_wp2
  all_goals go_ret
  all_goals exact ⟨rfl, HV.out, (Frm.of_below hB HB3.out).trans HF.out⟩
theorem stepsT_len (t : Tm) : (stepsT t).length ≤ t.cnt := by
  refine (Tm.ind2 (P := fun t => (stepsT t).length ≤ t.cnt) (Q := fun ts => ∀ k n ks0 s, (stepsK k n ks0 s ts).length ≤ cnts ts) ?_ ?_ ?_).1 t
  · intro k n ks h
    have := h k n ks 0
    rw [stepsT_mk, cnt_mk, List.length_append]
    split
    · simp only [List.length_singleton]; omega
    · simp only [List.length_nil]; omega
  · intro k n ks0 s; simp [stepsK]
  · intro t ts h1 h2 k n ks0 s
    have := h2 k n ks0 (s + 1)
    simp only [stepsK, cnts, List.length_append, List.length_map]
    omega
def StPost (ok : Tm → Bool) (Inv : List Tm → World → Prop) (B : Nat) (L l : List Tm) (w : World) (e : Ending) (w' : World) : Prop := e = .returned (.bool (l.all ok)) ∧ (l.all ok = true → Inv (L ++ l) w') ∧ Frm B w w'
def StC (B : Nat) (Bv : Int) (t : Tm) : Prop := ∀ (M fn : Nat) (caps : Array Value) (ok : Tm → Bool) (Inv : List Tm → World → Prop) (hen : ∀ args W, (callFunc fn args).run Try.prog W = .ok (.enter fn args) W) (hY : Yld fn caps ok Inv B M) (hI : ∀ L W W', Inv L W → Below W.heap.size W W' → Inv L W')
  (L : List Tm) (g : Nat) (w : World), L.length + (stepsT t).length ≤ M → t.wf → t.wn → t.vb Bv → t.cnt ≤ 600 → TAt (fun x => x < B) w g t → B ≤ w.heap.size → Inv L w → Calls Try.prog 73 #[ptr g, .func (.func fn) #[] caps] w (StPost ok Inv B L (stepsT t) w)
def StSt (fn : Nat) (caps : Array Value) (ok : Tm → Bool) (Inv : List Tm → World → Prop) (B : Nat) (L1 : List Tm) (k n : Int) (ks : List Tm) (g : Nat) (w : World) (i : Nat) (wr : World) : Prop :=
  Frm B w wr ∧ B ≤ wr.heap.size ∧ wr.heap[w.heap.size]? = some (.cells #[ptr g] 69 (0, 0)) ∧ wr.heap[w.heap.size + 1]? = some (.cells #[.func (.func fn) #[] caps] 97 (0, 0)) ∧ (stepsK k n ks 0 (ks.take i)).all ok = true ∧ Inv (L1 ++ stepsK k n ks 0 (ks.take i)) wr
theorem stepsK_app (k n : Int) (ks0 : List Tm) : ∀ (ts : List Tm) (s i : Nat) (t : Tm), ts[i]? = some t → stepsK k n ks0 s (ts.take (i + 1)) = stepsK k n ks0 s (ts.take i) ++ (stepsT t).map (fun u => .mk k n (ks0.set (s + i) u))
  | [], s, i, t, h => by simp at h
  | a :: ts, s, 0, t, h => by simp at h; subst h; simp [stepsK]
  | a :: ts, s, i + 1, t, h => by
    simp only [List.getElem?_cons_succ] at h
    simp only [List.take_succ_cons, stepsK, List.append_assoc]
    rw [stepsK_app k n ks0 ts (s + 1) i t h, show s + 1 + i = s + (i + 1) by omega]
theorem stepsK_append (k n : Int) (ks0 : List Tm) : ∀ (a b : List Tm) (s : Nat), stepsK k n ks0 s (a ++ b) = stepsK k n ks0 s a ++ stepsK k n ks0 (s + a.length) b
  | [], b, s => by simp [stepsK]
  | x :: a, b, s => by
    simp only [List.cons_append, stepsK, List.append_assoc, List.length_cons]
    rw [stepsK_append k n ks0 a b (s + 1), show s + 1 + a.length = s + (a.length + 1) by omega]
theorem st_kid {B M : Nat} {Bv : Int} {fn : Nat} {caps : Array Value} {ok : Tm → Bool} {Inv : List Tm → World → Prop} (hen : ∀ args W, (callFunc fn args).run Try.prog W = .ok (.enter fn args) W) (hY : Yld fn caps ok Inv B M) (hI : ∀ L W W', Inv L W → Below W.heap.size W W' → Inv L W')
    {k n : Int} {ks : List Tm} {L1 : List Tm} {g qg i : Nat} {w wr : World} {t : Tm} (hM : L1.length + (stepsK k n ks 0 ks).length ≤ M) (hk3 : ks.length ≤ 3) (hw : (Tm.mk k n ks).wf) (hn : (Tm.mk k n ks).wn) (hv : (Tm.mk k n ks).vb Bv) (hc : (Tm.mk k n ks).cnt ≤ 600) (ih : StC B Bv t) (ht : ks[i]? = some t) (hst : StSt fn caps ok Inv B L1 k n ks g w i wr) (hT : TAt (fun x => x < B) w g (.mk k n ks)) (hq : TAt (fun x => x < B) w qg t) :
    Calls Try.prog 73 #[ptr qg, .func (.func 115) #[] #[ptr (w.heap.size + 1), ptr w.heap.size, ptr wr.heap.size]] (wr.alloc (.cells #[.int .i64 i] 3)) fun e w' => e = .returned (.bool ((stepsT t).all fun u => ok (.mk k n (ks.set i u)))) ∧ ((stepsT t).all (fun u => ok (.mk k n (ks.set i u))) = true → StSt fn caps ok Inv B L1 k n ks g w (i + 1) w') ∧ Frm B w w' := by
  obtain ⟨hf, hB, h2, h3, hall, hinv⟩ := hst
  have hmem := List.mem_of_getElem? ht
  have hi : i < ks.length := by
    rcases Nat.lt_or_ge i ks.length with h | h
    · exact h
    · rw [List.getElem?_eq_none h] at ht; cases ht
  have hcn := cnt_mem hmem
  rw [cnt_mk] at hc
  have HW := hw
  simp only [Tm.wf] at hw
  simp only [Tm.wn] at hn
  rw [vb_mk] at hv
  have hlen : (L1 ++ stepsK k n ks 0 (ks.take i)).length + (stepsT t).length ≤ M := by
    have e : stepsK k n ks 0 ks = stepsK k n ks 0 (ks.take (i + 1)) ++ stepsK k n ks (0 + (ks.take (i + 1)).length) (ks.drop (i + 1)) := by
      rw [← stepsK_append, List.take_append_drop]
    have e2 := congrArg List.length e
    rw [stepsK_app k n ks ks 0 i t ht] at e2
    simp only [List.length_append, List.length_map] at e2 ⊢
    omega
  have hbA : Below wr.heap.size wr (wr.alloc (.cells #[.int .i64 i] 3)) := ai_ (aq_ _ _) _
  have hsz : (wr.alloc (.cells #[.int .i64 i] 3)).heap.size = wr.heap.size + 1 := by simp
  let Inv' : List Tm → World → Prop := fun L' W => Inv ((L1 ++ stepsK k n ks 0 (ks.take i)) ++ L'.map (fun u => .mk k n (ks.set i u))) W ∧ W.heap[w.heap.size]? = some (.cells #[ptr g] 69 (0, 0)) ∧ W.heap[w.heap.size + 1]? = some (.cells #[.func (.func fn) #[] caps] 97 (0, 0)) ∧ W.heap[wr.heap.size]? = some (.cells #[.int .i64 i] 3 (0, 0)) ∧ TAt (fun x => x < B) W g (.mk k n ks)
  have hI' : ∀ L W W', Inv' L W → Below W.heap.size W W' → Inv' L W' := by
    rintro L W W' ⟨a1, a2, a3, a4, a5⟩ hb
    exact ⟨hI _ _ _ a1 hb, (hb.block _ (blk_lt a2)).trans a2, (hb.block _ (blk_lt a3)).trans a3, (hb.block _ (blk_lt a4)).trans a4, a5.below hb⟩
  have hY' : Yld 115 #[ptr (w.heap.size + 1), ptr w.heap.size, ptr wr.heap.size] (fun u => ok (.mk k n (ks.set i u))) Inv' B (M - (L1 ++ stepsK k n ks 0 (ks.take i)).length) := by
    rintro L W q u hLM ⟨a1, a2, a3, a4, a5⟩ hBW hq' hu
    refine (yield115_calls fn caps ok Inv B M hen hY hI (w.heap.size + 1) w.heap.size wr.heap.size g k n ks i hk3 hi HW _ W q u hu (by simp only [List.length_append, List.length_map] at hLM ⊢; omega) a1 hBW a5 hq' a3 a2 a4).mono ?_
    rintro e w' ⟨rfl, hv', hf'⟩
    refine ⟨rfl, ⟨by simpa using hv', (hf'.2.2.1 _ _ _ a2 (.inl rfl)).trans a2, (hf'.2.2.1 _ _ _ a3 (.inr (.inl rfl))).trans a3, (hf'.2.2.1 _ _ _ a4 (.inr (.inr rfl))).trans a4, TAt.step (fun x hx _ => hf'.2.1 x hx) (fun _ h _ => h) a5⟩, hf'⟩
  have hTr : TAt (fun x => x < B) wr g (.mk k n ks) := TAt.step (fun x hx _ => hf.2.1 x hx) (fun _ h _ => h) hT
  have hqr : TAt (fun x => x < B) wr qg t := TAt.step (fun x hx _ => hf.2.1 x hx) (fun _ h _ => h) hq
  refine (ih _ 115 _ _ Inv' enters115 hY' hI' [] qg (wr.alloc (.cells #[.int .i64 i] 3)) (by simp only [List.length_nil, List.length_append] at hlen ⊢; omega) (wfs_get hw.2 _ hmem) (wns_get hn.2 _ hmem) (vbs_get hv.2 _ hmem) (by omega) (hqr.below hbA) (by omega) ⟨by simpa using hI _ _ _ hinv hbA, (hbA.block _ (blk_lt h2)).trans h2, (hbA.block _ (blk_lt h3)).trans h3, blk_new wr _, hTr.below hbA⟩).mono ?_
  rintro e w' ⟨rfl, hall', hf'⟩
  have hfw : Frm B w w' := hf.trans ((Frm.of_below hB hbA).trans hf')
  refine ⟨rfl, fun h => ?_, hfw⟩
  obtain ⟨a1, a2, a3, a4, a5⟩ := hall' h
  refine ⟨hfw, Nat.le_trans hB (Nat.le_trans hbA.size hf'.1), a2, a3, ?_, ?_⟩
  · rw [stepsK_app k n ks ks 0 i t ht, List.all_append, hall, Bool.true_and, Nat.zero_add, List.all_map]
    exact h
  · rw [stepsK_app k n ks ks 0 i t ht, Nat.zero_add, ← List.append_assoc]
    simpa using a1
theorem stepsK_no {k n : Int} {ks : List Tm} {i : Nat} {t : Tm} {ok : Tm → Bool} (ht : ks[i]? = some t) (h : (stepsT t).all (fun u => ok (.mk k n (ks.set i u))) = false) : (stepsK k n ks 0 ks).all ok = false := by
  have e : stepsK k n ks 0 ks = stepsK k n ks 0 (ks.take (i + 1)) ++ stepsK k n ks (0 + (ks.take (i + 1)).length) (ks.drop (i + 1)) := by
    rw [← stepsK_append, List.take_append_drop]
  rw [e, stepsK_app k n ks ks 0 i t ht, List.all_append, List.all_append, List.all_map, Nat.zero_add]
  have : (stepsT t).all (ok ∘ fun u => .mk k n (ks.set i u)) = false := h
  rw [this]
  simp
theorem st_no {B : Nat} {ok : Tm → Bool} {Inv : List Tm → World → Prop} {L l pre : List Tm} {k n : Int} {ks : List Tm} {i : Nat} {t : Tm} {w w' : World} {e : Ending} (ht : ks[i]? = some t) (h : (stepsT t).all (fun u => ok (.mk k n (ks.set i u))) = false) (hl : l = pre ++ stepsK k n ks 0 ks) (hf : Frm B w w') (he : e = .returned (.bool false)) : StPost ok Inv B L l w e w' := by
  have hn := stepsK_no (ok := ok) ht h
  have : l.all ok = false := by rw [hl, List.all_append, hn]; simp
  exact ⟨by rw [this]; exact he, fun hh => (by rw [this] at hh; cases hh), hf⟩
theorem st_yes {fn : Nat} {caps : Array Value} {B : Nat} {ok : Tm → Bool} {Inv : List Tm → World → Prop} {L l pre : List Tm} {k n : Int} {ks : List Tm} {g : Nat} {w w' : World} {e : Ending} (hp : pre.all ok = true) (hst : StSt fn caps ok Inv B (L ++ pre) k n ks g w ks.length w') (hl : l = pre ++ stepsK k n ks 0 ks) (he : e = .returned (.bool true)) : StPost ok Inv B L l w e w' := by
  obtain ⟨hf, _, _, _, hall, hinv⟩ := hst
  rw [List.take_length] at hall hinv
  have : l.all ok = true := by rw [hl, List.all_append, hp, hall]; rfl
  exact ⟨by rw [this]; exact he, fun _ => by rw [hl, ← List.append_assoc]; exact hinv, hf⟩
theorem st_hd {B : Nat} {ok : Tm → Bool} {Inv : List Tm → World → Prop} {L l rest : List Tm} {x : Tm} {w w' : World} {e : Ending} (h : ok x = false) (hl : l = x :: rest) (hf : Frm B w w') (he : e = .returned (.bool false)) : StPost ok Inv B L l w e w' := by
  have : l.all ok = false := by rw [hl, List.all_cons, h]; rfl
  exact ⟨by rw [this]; exact he, fun hh => (by rw [this] at hh; cases hh), hf⟩
set_option maxRecDepth 100000 in
set_option maxHeartbeats 4000000 in
theorem steps_calls (B : Nat) (Bv : Int) (hB0 : 0 ≤ Bv) (hB1 : Bv ≤ 1000000000000) (t : Tm) : StC B Bv t := by
  induction t using Tm.ind with
  | h k n ks ih =>
  intro M fn caps ok Inv hen hY hI L g w hM hw hn hv hc hT hB hinv
  have HW := Lib.hid hw
  have HN := Lib.hid hn
  have HV := Lib.hid hv
  have HC := Lib.hid hc
  have HT := Lib.hid hT
  have HY := Lib.hid hY
  have HI := Lib.hid hI
  have HINV := Lib.hid hinv
  have IH := Lib.hid ih
  have hk3 : ks.length ≤ 3 := by
    simp only [Tm.wf] at hw
    have := arI_bd k; omega
  obtain ⟨A, c, gs, hcc, c0, c1, c2, c3, hrow, hl⟩ := hT.cells
  have HROW := Lib.hid hrow
  have HL := Lib.hid hl
  have SS := Lib.hid (show ∀ W : World, Below ((w.alloc (.cells #[.pointer (some ⟨g, 0, none⟩)] 69)).alloc (.cells #[.func (.func fn) #[] caps] 97)).heap.size ((w.alloc (.cells #[.pointer (some ⟨g, 0, none⟩)] 69)).alloc (.cells #[.func (.func fn) #[] caps] 97)) W → (W.cell? ⟨w.heap.size, 0, none⟩ = some (.pointer (some ⟨g, 0, none⟩)) ∧ W.cell? ⟨w.heap.size + 1, 0, none⟩ = some (.func (.func fn) #[] caps)) ∧ W.heap[w.heap.size]? = some (.cells #[ptr g] 69 (0, 0)) ∧ W.heap[w.heap.size + 1]? = some (.cells #[.func (.func fn) #[] caps] 97 (0, 0)) ∧ Below w.heap.size w W from fun W hW => by
    have b2 : W.heap[w.heap.size]? = some (.cells #[ptr g] 69 (0, 0)) := (hW.block _ (by simp; omega)).trans (ad_ (blk_new w _) _)
    have b3 : W.heap[w.heap.size + 1]? = some (.cells #[.func (.func fn) #[] caps] 97 (0, 0)) := (hW.block _ (by simp)).trans (by simpa using blk_new (w.alloc (.cells #[.pointer (some ⟨g, 0, none⟩)] 69)) (.cells #[.func (.func fn) #[] caps] 97))
    exact ⟨⟨(an_ b2 0).trans rfl, (an_ b3 0).trans rfl⟩, b2, b3, ap_ (ai_ (ai_ (aq_ _ _) _) _) hW⟩)
  have S4 := (SS.out ((w.alloc (.cells #[.pointer (some ⟨g, 0, none⟩)] 69)).alloc (.cells #[.func (.func fn) #[] caps] 97)).drew (ah_ (aq_ _ _))).1
  clear hw hn hv hT hY hI hinv ih hrow hl hc
  unfold ptr
  cases hr : redexB k ks with
  | false =>
    obtain ⟨L1, hL1⟩ : ∃ L1, L1 = L := ⟨_, rfl⟩
    obtain ⟨L1p, hPp⟩ : ∃ x : List Tm, x = [] := ⟨_, rfl⟩
    have HSTP := Lib.hid (show stepsT (.mk k n ks) = L1p ++ stepsK k n ks 0 ks by rw [stepsT_mk, hr, hPp]; simp)
    have hPRE : L1p.all ok = true := by rw [hPp]; rfl
    have hLL : L1 = L ++ L1p := by rw [hPp, hL1]; simp
    have HR := Lib.hid hr
    clear hr
    go_enter Try.func73, Try.ntmps73
    go_wp2
    go_region_with (go_at_call 97; refine (redex_calls _ k n ks g _ HW.out HN.out (HT.out.below (by first | exact (SS.out _ (by repeat (first | exact aq_ _ _ | apply ag_ | apply ah_))).2.2.2))).mono ?_; rw [HR.out]; rintro e w3 ⟨rfl, hb3⟩; have HB3 := Lib.hid (ap_ (show Below ((w.alloc (.cells #[.pointer (some ⟨g, 0, none⟩)] 69)).alloc (.cells #[.func (.func fn) #[] caps] 97)).heap.size ((w.alloc (.cells #[.pointer (some ⟨g, 0, none⟩)] 69)).alloc (.cells #[.func (.func fn) #[] caps] 97)) _ from by repeat (first | exact aq_ _ _ | apply ag_ | apply ah_)) hb3); have S5 := (SS.out _ HB3.out).1; clear hb3)
    all_goals
      have HST := Lib.hid (show StSt fn caps ok Inv B L1 k n ks g w 0 w3 from ⟨Frm.of_below hB (SS.out _ HB3.out).2.2.2, Nat.le_trans hB (SS.out _ HB3.out).2.2.2.size, (SS.out _ HB3.out).2.1, (SS.out _ HB3.out).2.2.1, by simp [stepsK], by simpa [stepsK, hL1] using HI.out _ _ _ HINV.out (SS.out _ HB3.out).2.2.2⟩)
      have c2' := ((SS.out _ HB3.out).2.2.2.cell (aa_ w _ c2)).trans c2
      go_wp2
      subst hLL
      go_loopw [5, 6, 21] (fun v5 v6 v21 wr => ∃ i : Nat, i ≤ ks.length ∧ v21 = .int .i64 i ∧ StSt fn caps ok Inv B (L ++ L1p) k n ks g w i wr) (fun _ _ v21 _ => ks.length - (intOf v21).toNat)
      case atStart => exact ⟨0, Nat.zero_le _, rfl, HST.out⟩
      case round =>
        obtain ⟨i, hi, rfl, hst⟩ := hrel
        have HST2 := Lib.hid hst
        obtain ⟨hfr, _, hb2, hb3x, _, _⟩ := hst
        have e2 : wr.cell? ⟨w.heap.size, 0, none⟩ = some (.pointer (some ⟨g, 0, none⟩)) := (an_ hb2 0).trans rfl
        have e3 : wr.cell? ⟨w.heap.size + 1, 0, none⟩ = some (.func (.func fn) #[] caps) := (an_ hb3x 0).trans rfl
        clear HST hb2 hb3x
        by_cases hlt : i < ks.length
        · obtain ⟨t, ht⟩ : ∃ t, ks[i]? = some t := ⟨ks[i], by simp [hlt]⟩
          have hmem := List.mem_of_getElem? ht
          obtain ⟨qg, hqg, hTq⟩ := LAt.get HL.out ht
          obtain ⟨ad, rfl, hSa, hcell⟩ := HROW.out i qg hqg
          have eb : (ad.add i).block = ad.block := by unfold Addr.add; split <;> simp_all
          have hcell : wr.cell? (ad.add i) = some (ptr qg) := by
            have := hfr.2.1 (ad.add i).block (by rw [eb]; exact hSa)
            rw [← hcell]
            simp [World.cell?, this]
          have C := Lib.hid (st_kid hen HY.out HI.out (by have := congrArg List.length HSTP.out; simp only [List.length_append] at this ⊢; omega) hk3 HW.out HN.out HV.out HC.out (IH.out t hmem) ht HST2.out HT.out hTq)
          have HX := Lib.hid ht
          unfold ptr at hcell C
          clear ht hTq hqg hSa hmem hfr
          cases hq : (stepsT t).all (fun u => ok (.mk k n (ks.set i u))) with
          | true =>
            have HQ := Lib.hid hq
            clear hq
            go_wp2_with fail
            refine C.out.mono ?_
            rw [HQ.out]
            rintro e w5 ⟨rfl, hs2, _⟩
            have HS2 := Lib.hid (hs2 rfl)
            clear hs2
            go_wp2
            go_roundw
            case rel => exact ⟨i + 1, by omega, by go_num, HS2.out⟩
            case measure => simp [intOf]; omega
          | false =>
            have HQ := Lib.hid hq
            clear hq
            go_wp2_with fail
            refine C.out.mono ?_
            rw [HQ.out]
            rintro e w5 ⟨rfl, _, hf⟩
            have HF := Lib.hid hf
            clear hf
            go_wp2
            go_ret
            exact st_no (pre := L1p) HX.out HQ.out HSTP.out HF.out rfl
        · obtain rfl : i = ks.length := by omega
          go_wp2
          go_ret
          exact st_yes hPRE HST2.out HSTP.out rfl
  | true =>
    obtain ⟨L1p, hPp⟩ : ∃ x : List Tm, x = [contrT k ks] := ⟨_, rfl⟩
    have HSTP := Lib.hid (show stepsT (.mk k n ks) = L1p ++ stepsK k n ks 0 ks by rw [stepsT_mk, hr, hPp]; simp)
    have hca := contr_all hr hB0 HW.out HN.out HV.out
    have hTT : TAt (fun _ => True) w g (.mk k n ks) := TAt.step (fun _ _ _ => rfl) (fun _ _ _ => trivial) HT.out
    have hc6 := HC.out
    have CC := Lib.hid (fun (W : World) (hb : Below ((w.alloc (.cells #[.pointer (some ⟨g, 0, none⟩)] 69)).alloc (.cells #[.func (.func fn) #[] caps] 97)).heap.size ((w.alloc (.cells #[.pointer (some ⟨g, 0, none⟩)] 69)).alloc (.cells #[.func (.func fn) #[] caps] 97)) W) => contract_calls (fun _ => True) Bv k n ks g W hr hB1 (by omega) HW.out HN.out HV.out (fun _ _ => trivial) (hTT.below (SS.out _ hb).2.2.2))
    have YY := Lib.hid (fun (W : World) (r : Nat) (hb : Below ((w.alloc (.cells #[.pointer (some ⟨g, 0, none⟩)] 69)).alloc (.cells #[.func (.func fn) #[] caps] 97)).heap.size ((w.alloc (.cells #[.pointer (some ⟨g, 0, none⟩)] 69)).alloc (.cells #[.func (.func fn) #[] caps] 97)) W) (hr4 : TAt (fun _ => True) W r (contrT k ks)) => HY.out L W r (contrT k ks) (by have := congrArg List.length HSTP.out; rw [hPp] at this; simp at this; omega) (HI.out L w W HINV.out (SS.out _ hb).2.2.2) (Nat.le_trans hB (SS.out _ hb).2.2.2.size) hr4 hca.2.1)
    have SF := Lib.hid (show ∀ W1 W : World, Below ((w.alloc (.cells #[.pointer (some ⟨g, 0, none⟩)] 69)).alloc (.cells #[.func (.func fn) #[] caps] 97)).heap.size ((w.alloc (.cells #[.pointer (some ⟨g, 0, none⟩)] 69)).alloc (.cells #[.func (.func fn) #[] caps] 97)) W1 → Frm B W1 W → W.cell? ⟨w.heap.size, 0, none⟩ = some (.pointer (some ⟨g, 0, none⟩)) ∧ W.cell? ⟨w.heap.size + 1, 0, none⟩ = some (.func (.func fn) #[] caps) from fun W1 W hb hf => ⟨(an_ ((hf.2.2.1 _ _ _ (SS.out _ hb).2.1 (.inl rfl)).trans (SS.out _ hb).2.1) 0).trans rfl, (an_ ((hf.2.2.1 _ _ _ (SS.out _ hb).2.2.1 (.inr (.inl rfl))).trans (SS.out _ hb).2.2.1) 0).trans rfl⟩)
    have hgB : g < B := by
      have := HT.out
      simp only [TAt] at this
      obtain ⟨_, _, _, h, _⟩ := this
      exact h
    have HR := Lib.hid hr
    clear hr hca hTT
    unfold ptr at CC YY
    cases hok : ok (contrT k ks) with
    | false =>
      have HOK := Lib.hid hok
      clear hok
      go_enter Try.func73, Try.ntmps73
      go_wp2
      go_region_held3 (fun W => W.cell? ⟨w.heap.size, 0, none⟩ = some (.pointer (some ⟨g, 0, none⟩)) ∧ W.cell? ⟨w.heap.size + 1, 0, none⟩ = some (.func (.func fn) #[] caps)) (first | (with_reducible exact S4) | (with_reducible exact S5) | (with_reducible exact S6) | (with_reducible exact S7))
        (first
        | (go_at_call 97; refine (redex_calls _ k n ks g _ HW.out HN.out (HT.out.below (SS.out _ (by repeat (first | exact aq_ _ _ | apply ag_ | apply ah_))).2.2.2)).mono ?_; rw [HR.out]; rintro e w3 ⟨rfl, hb3⟩; have HB3 := Lib.hid (ap_ (show Below ((w.alloc (.cells #[.pointer (some ⟨g, 0, none⟩)] 69)).alloc (.cells #[.func (.func fn) #[] caps] 97)).heap.size ((w.alloc (.cells #[.pointer (some ⟨g, 0, none⟩)] 69)).alloc (.cells #[.func (.func fn) #[] caps] 97)) _ from by repeat (first | exact aq_ _ _ | apply ag_ | apply ah_)) hb3); have S5 := (SS.out _ HB3.out).1; clear hb3)
        | (go_at_call 109; (with_reducible refine (CC.out _ (by first | exact HB3.out | exact (ag_ HB3.out _))).mono ?_); rintro e w4 ⟨r, rfl, hr4, hb4⟩; have HR4 := Lib.hid hr4; have HB4 := Lib.hid (ap_ HB3.out hb4); have S6 := (SS.out _ HB4.out).1; clear hr4 hb4; unfold ptr)
        | ((with_reducible refine (YY.out w4 r HB4.out HR4.out).mono ?_); rw [HOK.out]; rintro e w5 ⟨rfl, hv5, hf5⟩; have HV5 := Lib.hid hv5; have HF5 := Lib.hid hf5; have S7 := SF.out _ _ HB4.out hf5; clear hv5 hf5))
      all_goals go_wp2
      all_goals go_ret
      all_goals exact st_hd (rest := stepsK k n ks 0 ks) HOK.out (by rw [HSTP.out, hPp]; rfl) ((Frm.of_below hB (SS.out _ HB4.out).2.2.2).trans HF5.out) rfl
    | true =>
      have hPRE : L1p.all ok = true := by rw [hPp]; simp [hok]
      have HOK := Lib.hid hok
      clear hok
      go_enter Try.func73, Try.ntmps73
      go_wp2
      go_region_held3 (fun W => W.cell? ⟨w.heap.size, 0, none⟩ = some (.pointer (some ⟨g, 0, none⟩)) ∧ W.cell? ⟨w.heap.size + 1, 0, none⟩ = some (.func (.func fn) #[] caps)) (first | (with_reducible exact S4) | (with_reducible exact S5) | (with_reducible exact S6) | (with_reducible exact S7))
        (first
        | (go_at_call 97; refine (redex_calls _ k n ks g _ HW.out HN.out (HT.out.below (SS.out _ (by repeat (first | exact aq_ _ _ | apply ag_ | apply ah_))).2.2.2)).mono ?_; rw [HR.out]; rintro e w3 ⟨rfl, hb3⟩; have HB3 := Lib.hid (ap_ (show Below ((w.alloc (.cells #[.pointer (some ⟨g, 0, none⟩)] 69)).alloc (.cells #[.func (.func fn) #[] caps] 97)).heap.size ((w.alloc (.cells #[.pointer (some ⟨g, 0, none⟩)] 69)).alloc (.cells #[.func (.func fn) #[] caps] 97)) _ from by repeat (first | exact aq_ _ _ | apply ag_ | apply ah_)) hb3); have S5 := (SS.out _ HB3.out).1; clear hb3)
        | (go_at_call 109; (with_reducible refine (CC.out _ (by first | exact HB3.out | exact (ag_ HB3.out _))).mono ?_); rintro e w4 ⟨r, rfl, hr4, hb4⟩; have HR4 := Lib.hid hr4; have HB4 := Lib.hid (ap_ HB3.out hb4); have S6 := (SS.out _ HB4.out).1; clear hr4 hb4; unfold ptr)
        | ((with_reducible refine (YY.out w4 r HB4.out HR4.out).mono ?_); rw [HOK.out]; rintro e w5 ⟨rfl, hv5, hf5⟩; have HV5 := Lib.hid hv5; have HF5 := Lib.hid hf5; have S7 := SF.out _ _ HB4.out hf5; clear hv5 hf5))
      all_goals
        have hfr5 := (Frm.of_below hB (SS.out _ HB4.out).2.2.2).trans HF5.out
        have HST := Lib.hid (show StSt fn caps ok Inv B (L ++ L1p) k n ks g w 0 w5 from ⟨hfr5, Nat.le_trans hB hfr5.1, (HF5.out.2.2.1 _ _ _ (SS.out _ HB4.out).2.1 (.inl rfl)).trans (SS.out _ HB4.out).2.1, (HF5.out.2.2.1 _ _ _ (SS.out _ HB4.out).2.2.1 (.inr (.inl rfl))).trans (SS.out _ HB4.out).2.2.1, by simp [stepsK], by rw [hPp]; simpa [stepsK] using HV5.out⟩)
        have c2' : w5.cell? ⟨g, 2, none⟩ = some (.slice A ks.length c) := by
          rw [← c2]
          have := hfr5.2.1 g hgB
          simp [World.cell?, this]
        clear hfr5
        go_wp2
        go_loopw [5, 6, 21] (fun v5 v6 v21 wr => ∃ i : Nat, i ≤ ks.length ∧ v21 = .int .i64 i ∧ StSt fn caps ok Inv B (L ++ L1p) k n ks g w i wr) (fun _ _ v21 _ => ks.length - (intOf v21).toNat)
        case atStart => exact ⟨0, Nat.zero_le _, rfl, HST.out⟩
        case round =>
          obtain ⟨i, hi, rfl, hst⟩ := hrel
          have HST2 := Lib.hid hst
          obtain ⟨hfr, _, hb2, hb3x, _, _⟩ := hst
          have e2 : wr.cell? ⟨w.heap.size, 0, none⟩ = some (.pointer (some ⟨g, 0, none⟩)) := (an_ hb2 0).trans rfl
          have e3 : wr.cell? ⟨w.heap.size + 1, 0, none⟩ = some (.func (.func fn) #[] caps) := (an_ hb3x 0).trans rfl
          clear HST hb2 hb3x
          by_cases hlt : i < ks.length
          · obtain ⟨t, ht⟩ : ∃ t, ks[i]? = some t := ⟨ks[i], by simp [hlt]⟩
            have hmem := List.mem_of_getElem? ht
            obtain ⟨qg, hqg, hTq⟩ := LAt.get HL.out ht
            obtain ⟨ad, rfl, hSa, hcell⟩ := HROW.out i qg hqg
            have eb : (ad.add i).block = ad.block := by unfold Addr.add; split <;> simp_all
            have hcell : wr.cell? (ad.add i) = some (ptr qg) := by
              have := hfr.2.1 (ad.add i).block (by rw [eb]; exact hSa)
              rw [← hcell]
              simp [World.cell?, this]
            have C := Lib.hid (st_kid hen HY.out HI.out (by have := congrArg List.length HSTP.out; simp only [List.length_append] at this ⊢; omega) hk3 HW.out HN.out HV.out HC.out (IH.out t hmem) ht HST2.out HT.out hTq)
            have HX := Lib.hid ht
            unfold ptr at hcell C
            clear ht hTq hqg hSa hmem hfr
            cases hq : (stepsT t).all (fun u => ok (.mk k n (ks.set i u))) with
            | true =>
              have HQ := Lib.hid hq
              clear hq
              go_wp2_with fail
              refine C.out.mono ?_
              rw [HQ.out]
              rintro e w5 ⟨rfl, hs2, _⟩
              have HS2 := Lib.hid (hs2 rfl)
              clear hs2
              go_wp2
              go_roundw
              case rel => exact ⟨i + 1, by omega, by go_num, HS2.out⟩
              case measure => simp [intOf]; omega
            | false =>
              have HQ := Lib.hid hq
              clear hq
              go_wp2_with fail
              refine C.out.mono ?_
              rw [HQ.out]
              rintro e w5 ⟨rfl, _, hf⟩
              have HF := Lib.hid hf
              clear hf
              go_wp2
              go_ret
              exact st_no (pre := L1p) HX.out HQ.out HSTP.out HF.out rfl
          · obtain rfl : i = ks.length := by omega
            go_wp2
            go_ret
            exact st_yes hPRE HST2.out HSTP.out rfl
end Go.Proofs.Ytgoiifpimpnlpaa.PAll

end

section
namespace Go.Proofs.Ytgoiifpimpnlpaa.PAll
open Go.RowKit Go.Proofs.YtgoiifpimpnlpaaW.PrintWords Go.Proofs.YtgoiifpimpnlpaaW.PrintLast Go.Proofs.YtgoiifpimpnlpaaW.PrintMore
set_option linter.unusedVariables false
set_option linter.unusedSimpArgs false
def OutInv (B o : Nat) (L : List Tm) (W : World) : Prop := B ≤ o ∧ ∃ v, W.heap[o]? = some (.cells #[v] 41 (0, 0)) ∧ Kd.S (Kd.slice 66 k66) 25 W B (fun k => k ≠ o) v (L.map fun u => (goodOfT u).1)
theorem OutInv.below {B o : Nat} : ∀ (L : List Tm) (W W' : World), OutInv B o L W → Below W.heap.size W W' → OutInv B o L W' := by
  rintro L W W' ⟨hB, v, h, hR⟩ hb
  exact ⟨hB, v, (hb.block _ (blk_lt h)).trans h, Kd.S_below hR hb⟩
set_option maxRecDepth 100000 in
set_option maxHeartbeats 2000000 in
theorem yield74 (B o M : Nat) (hM : M ≤ 1000000) : Yld 74 #[ptr o] (fun u => (goodOfT u).2) (OutInv B o) B M := by
  rintro L W g u hL ⟨hBo, v, ho, hR⟩ hBW hT hu
  show Calls Try.prog 74 #[ptr g, ptr o] W _
  obtain ⟨l, hl⟩ : ∃ l, l = L.map (fun u => (goodOfT u).1) := ⟨_, rfl⟩
  have HLEN := Lib.hid (show l.length = L.length by rw [hl]; simp)
  rw [← hl] at hR
  have HLL := Lib.hid hl
  clear hl
  obtain ⟨Av, cv, hv, _, _⟩ := Kd.R_reads (Kd.S_R hR)
  subst hv
  have c0 : W.cell? ⟨o, 0, none⟩ = some (Value.slice Av l.length cv) := (an_ ho 0).trans rfl
  have G := Lib.hid (good_calls (fun _ => True) u g W hu hT)
  have HO := Lib.hid ho
  have HR := Lib.hid hR
  have olt := blk_lt ho
  clear ho hR hT hu
  unfold ptr at G ⊢
  go_enter Try.func74, Try.ntmps74
  go_wp2_with (first
    | (go_at_call 63; refine G.out.mono ?_; rintro e w2 ⟨v2, rfl, hv2, hb2⟩; obtain ⟨A2, c2, hv2e, _, _⟩ := Kd.R_reads hv2; subst hv2e; have HV2 := Lib.hid hv2; have HB2 := Lib.hid hb2; have k0 : w2.cell? ⟨o, 0, none⟩ = some (Value.slice Av l.length cv) := (hb2.cell (p := ⟨o, 0, none⟩) olt).trans c0; have f0 : w2.frozen? ⟨o, 0, none⟩ = false := am_ ((hb2.block o olt).trans HO.out) 0; clear hv2 hb2)
    | ((with_reducible refine gate_builtin (b := .append) (xs := #[.tmp 11, .tmp 13]) rfl ?_); at_builtin; refine Kd.S_append (Kd.slice 66 k66) (w0 := w2) B rfl (.tmp 11) (.tmp 13) 41 25 (.slice none 0 0) 24 rfl Try.underlying41 info25 rfl (by decide) (by omega) (Value.slice Av l.length cv) l (goodOfT u).1 [.slice A2 (goodOfT u).1.length c2] (fun k => k ≠ o) (fun k => W.heap.size ≤ k) rfl rfl ?aP ?aK ?aF ?aO ?aB ?aS ?aL ?_; (case aP => exact ⟨_, rfl, Kd.R_lower (Kd.R_mono (Kd.R_bound HV2.out) (fun k hk => hk.2.1)) hBW⟩); (case aK => exact fun k hk => ⟨by omega, fun he => by have := Kd.S_lt HR.out k he.symm; omega⟩); (case aF => exact fun k hk => by have := HB2.out.size; omega); (case aO => exact Kd.S_mono (Kd.S_below (Kd.S_bound HR.out) HB2.out) (fun k hk => ⟨hk.1, by have := hk.2.2.1; omega⟩)); (case aB => exact aq_ _ _); (case aS => exact Nat.le_trans hBW HB2.out.size); (case aL => have := HLEN.out; omega); intro v3 w3 ho3 hb3 hg3 hat3; obtain ⟨A3, c3, e3, _, _⟩ := Kd.R_reads (Kd.S_R ho3); rw [show (l ++ [(goodOfT u).1]).length = l.length + 1 by simp] at e3; subst e3; have HO3 := Lib.hid ho3; have HG3 := Lib.hid hg3; have hno : some o ≠ (Value.slice Av l.length cv).ownBlock := (fun he => ((Kd.S_R HR.out).1 o he.symm) rfl); have hblk3 : w3.heap[o]? = some (.cells #[(Value.slice Av l.length cv)] 41 (0, 0)) := (hg3.block o (aj_ olt HB2.out.size) hno).trans ((HB2.out.block o olt).trans HO.out); have HBLK := Lib.hid hblk3; have k3 : w3.cell? ⟨o, 0, none⟩ = some (Value.slice Av l.length cv) := (an_ hblk3 0).trans rfl; have f3 : w3.frozen? ⟨o, 0, none⟩ = false := am_ hblk3 0; clear ho3 hb3 hg3 hat3 hblk3))
  go_ret
  have hF3 : Frm B W (w3.setCell ⟨o, 0, none⟩ (.slice A3 (l.length + 1) c3)) := by
    refine (Frm.of_below hBW HB2.out).trans ⟨?_, fun k hk => ?_, fun k cells ty hc ht => ?_, HG3.out.os, HG3.out.tape, HG3.out.output⟩
    · have := HG3.out.size; simpa using this
    · rw [Below.heap_setCell w3 ⟨o, 0, none⟩ _ k (by show k ≠ o; omega)]
      exact HG3.out.block k (by have := HB2.out.size; omega) (fun he => by have := Kd.S_base HR.out k he.symm; omega)
    · have hkl := blk_lt hc
      have hko : k ≠ o := by
        rintro rfl
        have := (HB2.out.block k olt).trans HO.out
        rw [hc] at this
        injection this with this
        injection this with _ h1 _
        rcases ht with h | h | h <;> (rw [h] at h1; exact absurd h1 (by decide))
      rw [Below.heap_setCell w3 ⟨o, 0, none⟩ _ k hko]
      refine HG3.out.block k hkl (fun he => ?_)
      obtain ⟨cs, hcs⟩ := Kd.S_typed (Kd.S_below HR.out HB2.out) k he.symm
      rw [hc] at hcs
      injection hcs with hcs
      injection hcs with _ h1 _
      rcases ht with h | h | h <;> (rw [h] at h1; exact absurd h1 (by decide))
  refine ⟨rfl, ⟨hBo, _, (blk_set HBLK.out 0 _).trans rfl, ?_⟩, hF3⟩
  rw [List.map_append, ← HLL.out]
  exact Kd.S_far HO3.out (fun k hk => hk) _
theorem R_empty {α : Type} (d : Kd α) {e : Nat} {w : World} {base g : Nat} {ok : Nat → Prop} (h : w.heap[g]? = some (.cells #[] e (0, 0))) (hb : base ≤ g) (ho : ok g) : d.R e w base ok (.slice (some ⟨g, 0, none⟩) 0 0) [] :=
  ⟨fun k hk => by simp [Value.ownBlock] at hk; subst hk; exact ho, ⟨[], ⟨by simp, .inr ⟨g, 0, #[], rfl, hb, h, Nat.le_refl _, by decide, by simp, by simp⟩⟩, Reps.none _ _⟩⟩
def stepsOf (l : List S66) : List (List S66) × Bool := match tmof l with
  | none => ([], false)
  | some t => if (stepsT t).all (fun u => (goodOfT u).2) = true then ((stepsT t).map (fun u => (goodOfT u).1), true) else ([], false)
theorem S_empty {α : Type} (d : Kd α) {e : Nat} {w : World} {base g : Nat} {ok : Nat → Prop} (h : w.heap[g]? = some (.cells #[] e (0, 0))) (hb : base ≤ g) (ho : ok g) : Kd.S d e w base ok (.slice (some ⟨g, 0, none⟩) 0 0) [] := ⟨fun _ => 0, R_empty (Kd.tag (fun _ => 0) d) h hb ho⟩
def RowsPost (r : List (List S66) × Bool) (w : World) (e : Ending) (w' : World) : Prop := ∃ v, e = .returned (.tuple #[v, .bool r.2]) ∧ Kd.S (Kd.slice 66 k66) 25 w' w.heap.size (fun _ => True) v r.1 ∧ Below w.heap.size w w'
theorem enters74 : ∀ args W, (callFunc 74 args).run Try.prog W = .ok (.enter 74 args) W := fun args W => enters_ (P := Try.prog) (f := 74) Try.func74 (by kernel_rfl) rfl args W
set_option maxRecDepth 100000 in
set_option maxHeartbeats 2000000 in
theorem StepsOf_calls (l : List S66) (A : Option Addr) (c : Nat) (w : World) (hr : Kd.C k66 w A l.length l) (hc : l.length ≤ c) :
    Calls Try.prog 33 #[.slice A l.length c] w (RowsPost (stepsOf l) w) := by
  have HR := Lib.hid hr
  clear hr
  unfold stepsOf
  cases hq : tmof l with
  | none =>
    simp only
    have HQ := Lib.hid hq
    clear hq
    go_enter Try.func33, Try.ntmps33
    go_wp2_with fail
    refine (termOf_calls l A c _ HR.out hc).mono ?_
    rw [HQ.out]
    rintro e w1 ⟨hb1, rfl⟩
    have HB1 := Lib.hid hb1
    clear hb1
    go_wp2
    go_ret2
    exact ⟨_, rfl, Kd.S_nil _ _ _ _ _, HB1.out⟩
  | some t =>
    simp only
    have hw := tmof_wf hq
    have hn := tmof_wn hq
    have hv := tmof_vb hq
    have HQ := Lib.hid hq
    clear hq
    cases hall : (stepsT t).all (fun u => (goodOfT u).2) with
    | true =>
      rw [if_pos rfl]
      have HALL := Lib.hid hall
      clear hall
      go_enter Try.func33, Try.ntmps33
      go_wp2_with fail
      refine (termOf_calls l A c _ HR.out hc).mono ?_
      rw [HQ.out]
      rintro e w1 ⟨hb1, g, rfl, ht⟩
      have HB1 := Lib.hid hb1
      have HI := Lib.hid (show OutInv w1.heap.size (w1.heap.size + 1) [] ((w1.alloc (.cells #[] 25)).alloc (.cells #[.slice (some ⟨w1.heap.size, 0, none⟩) 0 0] 41)) from ⟨by omega, _, by simpa using blk_new (w1.alloc (.cells #[] 25)) (.cells #[.slice (some ⟨w1.heap.size, 0, none⟩) 0 0] 41), S_empty _ (ad_ (blk_new w1 _) _) (Nat.le_refl _) (by omega)⟩)
      have C := Lib.hid (steps_calls w1.heap.size 99 (by omega) (by omega) t 1000000 74 #[ptr (w1.heap.size + 1)] (fun u => (goodOfT u).2) (OutInv w1.heap.size (w1.heap.size + 1)) enters74 (yield74 w1.heap.size (w1.heap.size + 1) 1000000 (by omega)) (OutInv.below) [] g ((w1.alloc (.cells #[] 25)).alloc (.cells #[.slice (some ⟨w1.heap.size, 0, none⟩) 0 0] 41)) (by have := stepsT_len t; have := hv.2; simp; omega) hw hn hv.1 hv.2 (ht.belowB.below (ai_ (ai_ (aq_ _ _) _) _)) (by simp; omega) HI.out)
      unfold ptr at C ⊢
      clear hb1 ht
      go_wp2_with fail
      refine C.out.mono ?_
      rintro e w2 ⟨rfl, hinv, hf⟩
      obtain ⟨_, v, ho, hR⟩ := hinv HALL.out
      rw [HALL.out]
      obtain ⟨Av, cv, hv', _, _⟩ := Kd.R_reads (Kd.S_R hR)
      subst hv'
      have HRV := Lib.hid hR
      have c5 : w2.cell? ⟨w1.heap.size + 1, 0, none⟩ = some (.slice Av ([] ++ stepsT t |>.map fun u => (goodOfT u).1).length cv) := (an_ ho 0).trans rfl
      have HF := Lib.hid hf
      clear hR ho hinv hf
      go_wp2
      go_ret2
      exact ⟨_, rfl, Kd.S_lower (Kd.S_mono (by simpa using HRV.out) (fun _ _ => trivial)) HB1.out.size, ap_ HB1.out ((ai_ (ai_ (aq_ w1.heap.size w1) _) _).trans HF.out.below)⟩
    | false =>
      rw [if_neg (by simp)]
      have HALL := Lib.hid hall
      clear hall
      go_enter Try.func33, Try.ntmps33
      go_wp2_with fail
      refine (termOf_calls l A c _ HR.out hc).mono ?_
      rw [HQ.out]
      rintro e w1 ⟨hb1, g, rfl, ht⟩
      have HB1 := Lib.hid hb1
      have HI := Lib.hid (show OutInv w1.heap.size (w1.heap.size + 1) [] ((w1.alloc (.cells #[] 25)).alloc (.cells #[.slice (some ⟨w1.heap.size, 0, none⟩) 0 0] 41)) from ⟨by omega, _, by simpa using blk_new (w1.alloc (.cells #[] 25)) (.cells #[.slice (some ⟨w1.heap.size, 0, none⟩) 0 0] 41), S_empty _ (ad_ (blk_new w1 _) _) (Nat.le_refl _) (by omega)⟩)
      have C := Lib.hid (steps_calls w1.heap.size 99 (by omega) (by omega) t 1000000 74 #[ptr (w1.heap.size + 1)] (fun u => (goodOfT u).2) (OutInv w1.heap.size (w1.heap.size + 1)) enters74 (yield74 w1.heap.size (w1.heap.size + 1) 1000000 (by omega)) (OutInv.below) [] g ((w1.alloc (.cells #[] 25)).alloc (.cells #[.slice (some ⟨w1.heap.size, 0, none⟩) 0 0] 41)) (by have := stepsT_len t; have := hv.2; simp; omega) hw hn hv.1 hv.2 (ht.belowB.below (ai_ (ai_ (aq_ _ _) _) _)) (by simp; omega) HI.out)
      unfold ptr at C ⊢
      clear hb1 ht
      go_wp2_with fail
      refine C.out.mono ?_
      rintro e w2 ⟨rfl, _, hf⟩
      rw [HALL.out]
      have HF := Lib.hid hf
      clear hf
      go_wp2
      go_ret2
      exact ⟨_, rfl, Kd.S_nil _ _ _ _ _, ap_ HB1.out ((ai_ (ai_ (aq_ w1.heap.size w1) _) _).trans HF.out.below)⟩
end Go.Proofs.Ytgoiifpimpnlpaa.PAll

end

section
namespace Go.Proofs.Ytgoiifpimpnlpaa.PAll
open Go.RowKit Go.Proofs.YtgoiifpimpnlpaaW.PrintWords Go.Proofs.YtgoiifpimpnlpaaW.PrintLast Go.Proofs.YtgoiifpimpnlpaaW.PrintMore
attribute [local go_sem] max2_int min2_int max_two min_two max_three min_three max_four min_four   -- for this text's walks alone
set_option linter.unusedVariables false
set_option linter.unusedSimpArgs false
def spec_l4With.f (a0_0 : Int) (a0_1 : Int) (l0_2 : List (S62)) (a1 : Int) (a2_0 : Int) (a2_1 : Int) (l2_2 : List (S62)) : Option (Int × Int × (List (S62))) := (some (([] : List (S62)) : List (S62))).bind fun y660 => (if y660.length + l0_2.length < 3518437208883 then ((some (y660 ++ l0_2 : List (S62))).bind fun y663 => (if 0 ≤ a1 then (if a1 < (y663.length : Int) then (some (a0_0, a0_1, (y663.set (a1 : Int).toNat (⟨a2_0, a2_1, l2_2⟩ : S62)))) else (none)) else (none))) else (none))
def spec_l4With.T1 : Bool × List (List Nat × List Nat) := (true, [([], []), ([0], [0]), ([], []), ([2], [2]), ([], []), ([], []), ([5], [5]), ([4, 6], [4, 6]), ([1, 3, 7], [1, 3, 7]), ([], []), ([9, 8, 7, 0, 1, 2, 3, 4, 5, 6, 7, 8, 9], [8, 9])])
def spec_l4With.B1 : List Nat := [0, 1, 0, 4, 0, 0, 32, 112, 255, 0, 1023]
theorem spec_l4With.tab1 : rtab .any (opsOf Try.f114 1) = spec_l4With.T1 := by kernel_rfl
theorem spec_l4With.bits1 : waitsOk spec_l4With.T1.2 spec_l4With.B1 = true := by kernel_rfl
set_option maxHeartbeats 8000000 in
set_option maxRecDepth 100000 in
theorem spec_l4With.calls (a0_0 : Int) (a0_1 : Int) (P0_2_ : Nat → Prop) (A0_2 : Option Addr) (c0_2 : Nat) (l0_2 : List (S62)) (a1 : Int) (a2_0 : Int) (a2_1 : Int) (P2_2_ : Nat → Prop) (A2_2 : Option Addr) (c2_2 : Nat) (l2_2 : List (S62)) (r1 : Int) (r2 : Int) (r3 : List (S62)) (w : World) (hs0_2 : Kd.V k62 62 w w.heap.size (fun k_ => P0_2_ k_) (.slice A0_2 l0_2.length c0_2) l0_2) (hs2_2 : Kd.V k62 62 w w.heap.size (fun k_ => P2_2_ k_) (.slice A2_2 l2_2.length c2_2) l2_2) (h : spec_l4With.f a0_0 a0_1 l0_2 a1 a2_0 a2_1 l2_2 = some (r1, r2, r3)) :
    Calls Try.prog 114 #[.agg #[.int .i64 a0_0, .int .i64 a0_1, .slice A0_2 l0_2.length c0_2], .int .i64 a1, .agg #[.int .i64 a2_0, .int .i64 a2_1, .slice A2_2 l2_2.length c2_2]] w fun e w' => ∃ v2_ : Value, e = .returned (.agg #[.int .i64 r1, .int .i64 r2, v2_]) ∧ Kd.N k62 62 w' w.heap.size (fun k_ => ((P0_2_ k_ ∨ P2_2_ k_) ∨ w.heap.size ≤ k_)) v2_ r3 ∧ Below w.heap.size w w' := by
  have hu62 := Try.underlying62
  have HO0_2 := ab_ (show Kd.V k62 62 w w.heap.size (fun k_ => ((P0_2_ k_ ∨ P2_2_ k_) ∨ w.heap.size ≤ k_)) (.slice A0_2 l0_2.length c0_2) l0_2 from Kd.V_mono hs0_2 (fun k_ hk => .inl (.inl hk)))
  have HO2_2 := ab_ (show Kd.V k62 62 w w.heap.size (fun k_ => ((P0_2_ k_ ∨ P2_2_ k_) ∨ w.heap.size ≤ k_)) (.slice A2_2 l2_2.length c2_2) l2_2 from Kd.V_mono hs2_2 (fun k_ hk => .inl (.inr hk)))
  have HB := ab_ (aq_ w.heap.size w)
  have H : ((some (([] : List (S62)) : List (S62))).bind fun y660 => (if y660.length + l0_2.length < 3518437208883 then ((some (y660 ++ l0_2 : List (S62))).bind fun y663 => (if 0 ≤ a1 then (if a1 < (y663.length : Int) then (some (a0_0, a0_1, (y663.set (a1 : Int).toNat (⟨a2_0, a2_1, l2_2⟩ : S62)))) else (none)) else (none))) else (none))) = some (r1, r2, r3) := h
  clear h
  obtain ⟨y660, hy660⟩ : ∃ y_ : List (S62), y_ = (([] : List (S62))) := ⟨_, rfl⟩
  replace H : (if y660.length + l0_2.length < 3518437208883 then ((some (y660 ++ l0_2 : List (S62))).bind fun y663 => (if 0 ≤ a1 then (if a1 < (y663.length : Int) then (some (a0_0, a0_1, (y663.set (a1 : Int).toNat (⟨a2_0, a2_1, l2_2⟩ : S62)))) else (none)) else (none))) else (none)) = some (r1, r2, r3) := by first | (rw [hy660]; with_reducible exact H) | (have H2_ := (Option.bind_some _ _).symm.trans H; rw [hy660]; with_reducible exact H2_) | (have H2_ := (Option.bind_some _ _).symm.trans H; with_reducible exact H2_) | with_reducible exact H | (rw [hy660]; exact H) | exact H
  have Ny660 := ab_ hy660
  clear hy660
  by_cases c4 : y660.length + l0_2.length < 3518437208883
  · rw [if_pos c4] at H
    have LMc4 := ab_ c4
    clear c4
    obtain ⟨y663, hy663⟩ : ∃ y_ : List (S62), y_ = (y660 ++ l0_2) := ⟨_, rfl⟩
    replace H : (if 0 ≤ a1 then (if a1 < (y663.length : Int) then (some (a0_0, a0_1, (y663.set (a1 : Int).toNat (⟨a2_0, a2_1, l2_2⟩ : S62)))) else (none)) else (none)) = some (r1, r2, r3) := by first | (rw [hy663]; with_reducible exact H) | (have H2_ := (Option.bind_some _ _).symm.trans H; rw [hy663]; with_reducible exact H2_) | (have H2_ := (Option.bind_some _ _).symm.trans H; with_reducible exact H2_) | with_reducible exact H | (rw [hy663]; exact H) | exact H
    have Ny663 := ab_ hy663
    clear hy663
    by_cases c5 : 0 ≤ a1
    · rw [if_pos c5] at H
      have c5b0 : decide (0 ≤ a1) = true := ao_ c5
      clear c5
      by_cases c6 : a1 < (y663.length : Int)
      · rw [if_pos c6] at H
        have c6b0 : decide (a1 < (y663.length : Int)) = true := ao_ c6
        clear c6
        obtain ⟨y667, hy667⟩ : ∃ y_ : List (S62), y_ = (y663.set (a1 : Int).toNat (⟨a2_0, a2_1, l2_2⟩ : S62)) := ⟨_, rfl⟩
        replace H : (some (a0_0, a0_1, y667)) = some (r1, r2, r3) := by first | (rw [hy667]; with_reducible exact H) | (have H2_ := (Option.bind_some _ _).symm.trans H; rw [hy667]; with_reducible exact H2_) | (have H2_ := (Option.bind_some _ _).symm.trans H; with_reducible exact H2_) | with_reducible exact H | (rw [hy667]; exact H) | exact H
        have Ny667 := ab_ hy667
        clear hy667
        simp only [Option.some.injEq, Prod.mk.injEq] at H
        obtain ⟨rfl, rfl, rfl⟩ := H
        go_enter Try.func114, Try.ntmps114
        try go_wp2_with (first | ((with_reducible refine gate_dst (N := 3) rfl ?_); refine box_event ?hg (N := 3) ?hd (cs := #[.int .i64 a0_0, .int .i64 a0_1, .slice A0_2 l0_2.length c0_2]) (t := 62) ?hr ?_; (case hd => rfl); (case hg => rfl); (case hr => first | (go_simp; done) | (go_simp; rfl)); intro gb657 hg w8 hbox hb; have n0_ := ab_ (Kd.V_below (Kd.V_elderB (by (with_reducible repeat (first | apply Kd.V_alloc | apply Kd.V_drewN | apply Kd.V_drew)); exact HO0_2.out) gb657 (Nat.le_of_eq hg.symm)) hb); have n1_ := ab_ (Kd.V_below (Kd.V_elderB (by (with_reducible repeat (first | apply Kd.V_alloc | apply Kd.V_drewN | apply Kd.V_drew)); exact HO2_2.out) gb657 (Nat.le_of_eq hg.symm)) hb); have n2_ := ab_ (ap_ (by repeat (first | (with_reducible first | exact HB.out | apply ai_ | apply ag_ | apply ah_) | exact HB.out)) hb); have n3_ := ab_ (hbox); have n4_ := ab_ ((by rw [hg]; exact (below_size (by repeat (first | (with_reducible first | exact HB.out | apply ai_ | apply ag_ | apply ah_) | exact HB.out))) : w.heap.size ≤ gb657)); have n5_ := ab_ ((by rw [hg]; exact (below_size (by repeat (first | (with_reducible first | exact HB.out | apply ai_ | apply ag_ | apply ah_) | exact HB.out))) : w.heap.size ≤ gb657)); clear HO0_2; clear HO2_2; clear HB; have HO0_2 := n0_; have HO2_2 := n1_; have HB := n2_; have BK657 := n3_; have GW657 := n4_; have GE657 := n5_; clear n0_ n1_ n2_ n3_ n4_ n5_; clear hb hbox hg) | ((with_reducible refine gate_dst (N := 5) rfl ?_); refine box_event ?hg (N := 5) ?hd (cs := #[.int .i64 a2_0, .int .i64 a2_1, .slice A2_2 l2_2.length c2_2]) (t := 62) ?hr ?_; (case hd => rfl); (case hg => rfl); (case hr => first | (go_simp; done) | (go_simp; rfl)); intro gb658 hg w9 hbox hb; have n0_ := ab_ (Kd.V_below (Kd.V_elderB (by (with_reducible repeat (first | apply Kd.V_alloc | apply Kd.V_drewN | apply Kd.V_drew)); exact HO0_2.out) gb658 (Nat.le_of_eq hg.symm)) hb); have n1_ := ab_ (Kd.V_below (Kd.V_elderB (by (with_reducible repeat (first | apply Kd.V_alloc | apply Kd.V_drewN | apply Kd.V_drew)); exact HO2_2.out) gb658 (Nat.le_of_eq hg.symm)) hb); have n2_ := ab_ (blk_below (g := gb657) (o := .cells #[.int .i64 a0_0, .int .i64 a0_1, .slice A0_2 l0_2.length c0_2] 62 (0, 0)) (by (with_reducible repeat (first | refine ac_ ?_ _ | refine ae_ ?_ | refine ad_ ?_ _)); exact BK657.out) hb); have n3_ := ab_ (ap_ (by repeat (first | (with_reducible first | exact HB.out | apply ai_ | apply ag_ | apply ah_ | refine af_ ?_ GE657.out) | exact HB.out)) hb); have n4_ := ab_ (hbox); have n5_ := ab_ ((by rw [hg]; exact (below_size (by repeat (first | (with_reducible first | exact HB.out | apply ai_ | apply ag_ | apply ah_ | refine af_ ?_ GE657.out) | exact HB.out))) : w.heap.size ≤ gb658)); have n6_ := ab_ ((by rw [hg]; exact (below_size (by repeat (first | (with_reducible first | exact HB.out | apply ai_ | apply ag_ | apply ah_ | refine af_ ?_ GE657.out) | exact HB.out))) : w.heap.size ≤ gb658)); have n7_ := ab_ ((by rw [hg]; exact ak_ (blk_lt (g := gb657) (o := .cells #[.int .i64 a0_0, .int .i64 a0_1, .slice A0_2 l0_2.length c0_2] 62 (0, 0)) (by (with_reducible repeat (first | refine ac_ ?_ _ | refine ae_ ?_ | refine ad_ ?_ _)); exact BK657.out)) : gb657 ≠ gb658)); have n8_ := ab_ ((by rw [hg]; exact Nat.ne_of_gt (blk_lt (g := gb657) (o := .cells #[.int .i64 a0_0, .int .i64 a0_1, .slice A0_2 l0_2.length c0_2] 62 (0, 0)) (by (with_reducible repeat (first | refine ac_ ?_ _ | refine ae_ ?_ | refine ad_ ?_ _)); exact BK657.out)) : gb658 ≠ gb657)); clear HO0_2; clear HO2_2; clear BK657; clear HB; have HO0_2 := n0_; have HO2_2 := n1_; have BK657 := n2_; have HB := n3_; have BK658 := n4_; have GW658 := n5_; have GE658 := n6_; have NB657_658 := n7_; have NB658_657 := n8_; clear n0_ n1_ n2_ n3_ n4_ n5_ n6_ n7_ n8_; clear hb hbox hg) | ((with_reducible refine gate_dst (N := 6) rfl ?_); refine box_event ?hg (N := 6) ?hd (cs := #[.int .i64 0, .int .i64 0, .slice none 0 0]) (t := 62) ?hr ?_; (case hd => rfl); (case hg => rfl); (case hr => first | (go_simp; done) | (go_simp; rfl)); intro gb659 hg w10 hbox hb; have n0_ := ab_ (Kd.V_below (Kd.V_elderB (by (with_reducible repeat (first | apply Kd.V_alloc | apply Kd.V_drewN | apply Kd.V_drew)); exact HO0_2.out) gb659 (Nat.le_of_eq hg.symm)) hb); have n1_ := ab_ (Kd.V_below (Kd.V_elderB (by (with_reducible repeat (first | apply Kd.V_alloc | apply Kd.V_drewN | apply Kd.V_drew)); exact HO2_2.out) gb659 (Nat.le_of_eq hg.symm)) hb); have n2_ := ab_ (blk_below (g := gb657) (o := .cells #[.int .i64 a0_0, .int .i64 a0_1, .slice A0_2 l0_2.length c0_2] 62 (0, 0)) (by (with_reducible repeat (first | refine ac_ ?_ _ | refine ae_ ?_ | refine ad_ ?_ _)); exact BK657.out) hb); have n3_ := ab_ (blk_below (g := gb658) (o := .cells #[.int .i64 a2_0, .int .i64 a2_1, .slice A2_2 l2_2.length c2_2] 62 (0, 0)) (by (with_reducible repeat (first | refine ac_ ?_ _ | refine ae_ ?_ | refine ad_ ?_ _)); exact BK658.out) hb); have n4_ := ab_ (ap_ (by repeat (first | (with_reducible first | exact HB.out | apply ai_ | apply ag_ | apply ah_ | refine af_ ?_ GE657.out | refine af_ ?_ GE658.out) | exact HB.out)) hb); have n5_ := ab_ (hbox); have n6_ := ab_ ((by rw [hg]; exact (below_size (by repeat (first | (with_reducible first | exact HB.out | apply ai_ | apply ag_ | apply ah_ | refine af_ ?_ GE657.out | refine af_ ?_ GE658.out) | exact HB.out))) : w.heap.size ≤ gb659)); have n7_ := ab_ ((by rw [hg]; exact (below_size (by repeat (first | (with_reducible first | exact HB.out | apply ai_ | apply ag_ | apply ah_ | refine af_ ?_ GE657.out | refine af_ ?_ GE658.out) | exact HB.out))) : w.heap.size ≤ gb659)); have n8_ := ab_ ((by rw [hg]; exact ak_ (blk_lt (g := gb657) (o := .cells #[.int .i64 a0_0, .int .i64 a0_1, .slice A0_2 l0_2.length c0_2] 62 (0, 0)) (by (with_reducible repeat (first | refine ac_ ?_ _ | refine ae_ ?_ | refine ad_ ?_ _)); exact BK657.out)) : gb657 ≠ gb659)); have n9_ := ab_ ((by rw [hg]; exact Nat.ne_of_gt (blk_lt (g := gb657) (o := .cells #[.int .i64 a0_0, .int .i64 a0_1, .slice A0_2 l0_2.length c0_2] 62 (0, 0)) (by (with_reducible repeat (first | refine ac_ ?_ _ | refine ae_ ?_ | refine ad_ ?_ _)); exact BK657.out)) : gb659 ≠ gb657)); have n10_ := ab_ ((by rw [hg]; exact ak_ (blk_lt (g := gb658) (o := .cells #[.int .i64 a2_0, .int .i64 a2_1, .slice A2_2 l2_2.length c2_2] 62 (0, 0)) (by (with_reducible repeat (first | refine ac_ ?_ _ | refine ae_ ?_ | refine ad_ ?_ _)); exact BK658.out)) : gb658 ≠ gb659)); have n11_ := ab_ ((by rw [hg]; exact Nat.ne_of_gt (blk_lt (g := gb658) (o := .cells #[.int .i64 a2_0, .int .i64 a2_1, .slice A2_2 l2_2.length c2_2] 62 (0, 0)) (by (with_reducible repeat (first | refine ac_ ?_ _ | refine ae_ ?_ | refine ad_ ?_ _)); exact BK658.out)) : gb659 ≠ gb658)); clear HO0_2; clear HO2_2; clear BK657; clear BK658; clear HB; have HO0_2 := n0_; have HO2_2 := n1_; have BK657 := n2_; have BK658 := n3_; have HB := n4_; have BK659 := n5_; have GW659 := n6_; have GE659 := n7_; have NB657_659 := n8_; have NB659_657 := n9_; have NB658_659 := n10_; have NB659_658 := n11_; clear n0_ n1_ n2_ n3_ n4_ n5_ n6_ n7_ n8_ n9_ n10_ n11_; clear hb hbox hg))
        have n0_ := ab_ (Kd.V_drew HO0_2.out)
        have n1_ := ab_ (Kd.V_drew HO2_2.out)
        have n2_ := ab_ (ae_ BK657.out)
        have n3_ := ab_ (ae_ BK658.out)
        have n4_ := ab_ (ae_ BK659.out)
        have n5_ := ab_ (ah_ HB.out)
        clear HO0_2
        clear HO2_2
        clear BK657
        clear BK658
        clear BK659
        clear HB
        have HO0_2 := n0_
        have HO2_2 := n1_
        have BK657 := n2_
        have BK658 := n3_
        have BK659 := n4_
        have HB := n5_
        clear n0_ n1_ n2_ n3_ n4_ n5_
        refine start_ (n := 11) (S := fun w' => w'.cell? ⟨gb657, 0, none⟩ = some (.int .i64 a0_0) ∧ w'.cell? ⟨gb657, 1, none⟩ = some (.int .i64 a0_1) ∧ w'.cell? ⟨gb657, 2, none⟩ = some (.slice A0_2 l0_2.length c0_2)) (ds := []) #[false, false, false, false, false, false, false, false, false, false, false] (by kernel_rfl) rfl rfl ⟨(an_ BK657.out 0).trans rfl, (an_ BK657.out 1).trans rfl, (an_ BK657.out 2).trans rfl⟩ (fun hHeld => ?_); refine with_tabW spec_l4With.tab1 spec_l4With.bits1 (fun HT_ HW_ => ?_)
        generalize w10.drew = w11 at HO0_2 HO2_2 BK657 BK658 BK659 HB hHeld ⊢
        refine pure_ (i := 0) (N := some 8) (v := ?_) (a' := ?_) #[true, false, false, false, false, false, false, false, false, false, false] rfl rfl (any_of HT_.out (by kernel_rfl)) (fun _ _ _ h => h) (Or.inl ⟨by rfl, ?_⟩) ?_ ?_
        rotate_left
        · intro w'
          go_simp
          with_reducible rfl
        rotate_left
        · simp only [Act.put, List.setIfInBounds_toArray, List.set_cons_zero, List.set_cons_succ, i64_w, i32_w]
          rfl
        refine pure_ (i := 2) (N := some 10) (v := ?_) (a' := ?_) #[true, false, true, false, false, false, false, false, false, false, false] rfl rfl (any_of HT_.out (by kernel_rfl)) (fun _ _ _ h => h) (Or.inl ⟨by rfl, ?_⟩) ?_ ?_
        rotate_left
        · intro w'
          go_simp
          with_reducible rfl
        rotate_left
        · simp only [Act.put, List.setIfInBounds_toArray, List.set_cons_zero, List.set_cons_succ, i64_w, i32_w]
          rfl
        refine pure_ (i := 5) (N := some 13) (v := ?_) (a' := ?_) #[true, false, true, false, false, true, false, false, false, false, false] rfl rfl (any_of HT_.out (by kernel_rfl)) (fun _ _ _ h => h) (Or.inl ⟨by rfl, ?_⟩) ?_ ?_
        rotate_left
        · intro w'
          go_simp
          with_reducible rfl
        rotate_left
        · simp only [Act.put, List.setIfInBounds_toArray, List.set_cons_zero, List.set_cons_succ, i64_w, i32_w]
          rfl
        refine take_ (i := 1) (N := some 9) (v := ?_) (a' := ?_) #[true, true, true, false, false, true, false, false, false, false, false] rfl rfl (take_ofW HT_.out HW_.out (by kernel_rfl)) (fun _ _ _ h => h) (Or.inl ⟨by rfl, ?_⟩) hHeld ?_ ?_
        rotate_left
        · rintro w' ⟨s0, s1, s2⟩
          go_simp
          with_reducible rfl
        rotate_left
        · simp only [Act.put, List.setIfInBounds_toArray, List.set_cons_zero, List.set_cons_succ, i64_w, i32_w]
          rfl
        refine take_ (i := 3) (N := some 11) (v := ?_) (a' := ?_) #[true, true, true, true, false, true, false, false, false, false, false] rfl rfl (take_ofW HT_.out HW_.out (by kernel_rfl)) (fun _ _ _ h => h) (Or.inl ⟨by rfl, ?_⟩) hHeld ?_ ?_
        rotate_left
        · rintro w' ⟨s0, s1, s2⟩
          go_simp
          with_reducible rfl
        rotate_left
        · simp only [Act.put, List.setIfInBounds_toArray, List.set_cons_zero, List.set_cons_succ, i64_w, i32_w]
          rfl
        refine take_ (i := 6) (N := some 14) (v := ?_) (a' := ?_) #[true, true, true, true, false, true, true, false, false, false, false] rfl rfl (take_ofW HT_.out HW_.out (by kernel_rfl)) (fun _ _ _ h => h) (Or.inl ⟨by rfl, ?_⟩) hHeld ?_ ?_
        rotate_left
        · rintro w' ⟨s0, s1, s2⟩
          go_simp
          with_reducible rfl
        rotate_left
        · simp only [Act.put, List.setIfInBounds_toArray, List.set_cons_zero, List.set_cons_succ, i64_w, i32_w]
          rfl
        refine join_ (σ := Value × Value × Nat) 1 #[true, true, true, true, true, true, true, true, true, true, false] (fun s_ => [(12, s_.1), (15, s_.2.1), (7, .pointer (some ⟨s_.2.2, 0, none⟩)), (16, .agg #[.int .i64 a0_0, .int .i64 a0_1, s_.2.1])]) (fun s_ w' => (w'.cell? ⟨gb657, 0, none⟩ = some (.int .i64 a0_0) ∧ w'.cell? ⟨gb657, 1, none⟩ = some (.int .i64 a0_1) ∧ w'.cell? ⟨gb657, 2, none⟩ = some (.slice A0_2 l0_2.length c0_2)) ∧ (Kd.V k62 62 w' w.heap.size (fun k_ => ((P0_2_ k_ ∨ P2_2_ k_) ∨ w.heap.size ≤ k_) ∧ some k_ ≠ (s_.2.1 : Value).ownBlock ∧ k_ ≠ gb657 ∧ k_ ≠ gb658 ∧ k_ ≠ gb659 ∧ k_ ≠ s_.2.2) (.slice A0_2 l0_2.length c0_2) l0_2) ∧ (Kd.V k62 62 w' w.heap.size (fun k_ => ((P0_2_ k_ ∨ P2_2_ k_) ∨ w.heap.size ≤ k_) ∧ some k_ ≠ (s_.2.1 : Value).ownBlock ∧ k_ ≠ gb657 ∧ k_ ≠ gb658 ∧ k_ ≠ gb659 ∧ k_ ≠ s_.2.2) (.slice A2_2 l2_2.length c2_2) l2_2) ∧ (Kd.N k62 62 w' w.heap.size (fun k_ => ((P0_2_ k_ ∨ P2_2_ k_) ∨ w.heap.size ≤ k_) ∧ k_ ≠ gb657 ∧ k_ ≠ gb658 ∧ k_ ≠ gb659 ∧ k_ ≠ s_.2.2) s_.2.1 y663) ∧ (w'.heap[gb657]? = some (.cells #[.int .i64 a0_0, .int .i64 a0_1, .slice A0_2 l0_2.length c0_2] 62 (0, 0))) ∧ (w'.heap[gb658]? = some (.cells #[.int .i64 a2_0, .int .i64 a2_1, .slice A2_2 l2_2.length c2_2] 62 (0, 0))) ∧ (w'.heap[gb659]? = some (.cells #[.int .i64 0, .int .i64 0, .slice none 0 0] 62 (0, 0))) ∧ (w'.heap[s_.2.2]? = some (.cells #[.int .i64 0, .int .i64 0, .slice none 0 0] 62 (0, 0))) ∧ (w.heap.size ≤ s_.2.2) ∧ (w.heap.size ≤ s_.2.2) ∧ (gb657 ≠ s_.2.2) ∧ (s_.2.2 ≠ gb657) ∧ (gb658 ≠ s_.2.2) ∧ (s_.2.2 ≠ gb658) ∧ (gb659 ≠ s_.2.2) ∧ (s_.2.2 ≠ gb659) ∧ (Below w.heap.size w w')) ?_ ?_
        rotate_left
        · intro hCont
          refine two_ (i := 4) (j := 9) (Ni := some 12) (Nj := some 7) #[true, true, true, true, true, true, true, false, false, false, false] #[true, true, true, true, false, true, true, false, false, true, false] rfl rfl rfl rfl (two_of HT_.out (by kernel_rfl)) (by decide) (by decide) (fun K hK => ?_) (fun K hK => ?_)
          · skip
            refine Kd.N_lit_step k62 _ 62 ?hg (N' := 12) ?hd (xs := ([] : List (S62))) (inner := []) (ok := (fun k_ => ((P0_2_ k_ ∨ P2_2_ k_) ∨ w.heap.size ≤ k_) ∧ k_ ≠ gb657 ∧ k_ ≠ gb658 ∧ k_ ≠ gb659)) (okp := (fun k_ => ((P0_2_ k_ ∨ P2_2_ k_) ∨ w.heap.size ≤ k_) ∧ k_ ≠ gb657 ∧ k_ ≠ gb658 ∧ k_ ≠ gb659)) ?hr ?hp (fun _ hk => hk) ((show ∀ k_, w11.heap.size ≤ k_ → (fun k_ => ((P0_2_ k_ ∨ P2_2_ k_) ∨ w.heap.size ≤ k_) ∧ k_ ≠ gb657 ∧ k_ ≠ gb658 ∧ k_ ≠ gb659) k_ from fun k_ hk => ⟨(.inr (Nat.le_trans (below_size (by repeat (first | (with_reducible first | exact HB.out | apply ai_ | apply ag_ | apply ah_ | refine af_ ?_ GE657.out | refine af_ ?_ GE658.out | refine af_ ?_ GE659.out) | exact HB.out))) hk)), Kd.freshB (g := gb657) (o := .cells #[.int .i64 a0_0, .int .i64 a0_1, .slice A0_2 l0_2.length c0_2] 62 (0, 0)) (by (with_reducible repeat (first | refine ac_ ?_ _ | refine ae_ ?_ | refine ad_ ?_ _)); exact BK657.out) k_ hk, Kd.freshB (g := gb658) (o := .cells #[.int .i64 a2_0, .int .i64 a2_1, .slice A2_2 l2_2.length c2_2] 62 (0, 0)) (by (with_reducible repeat (first | refine ac_ ?_ _ | refine ae_ ?_ | refine ad_ ?_ _)); exact BK658.out) k_ hk, Kd.freshB (g := gb659) (o := .cells #[.int .i64 0, .int .i64 0, .slice none 0 0] 62 (0, 0)) (by (with_reducible repeat (first | refine ac_ ?_ _ | refine ae_ ?_ | refine ad_ ?_ _)); exact BK659.out) k_ hk⟩) _ (Nat.le_refl _)) (aq_ _ _) (Nat.le_refl _) (by simp) ?_; (case hd => rfl); (case hg => rfl); (case hr => first | (go_simp; done) | (go_simp; rfl)); (case hp => exact (Reps.none _ _))
            intro v661 w12 ho13 hb hg_ hnew_
            clear hg_ hnew_
            (first | rw [← Ny660.out] at ho13 | (simp only [Int.reduceToNat] at ho13; rw [← Ny660.out] at ho13))
            have n0_ := ab_ (Kd.V_elder' (by (with_reducible repeat (first | apply Kd.V_alloc | apply Kd.V_drewN | apply Kd.V_drew)); exact HO0_2.out) (Kd.N_base ho13) hb)
            have n1_ := ab_ (Kd.V_elder' (by (with_reducible repeat (first | apply Kd.V_alloc | apply Kd.V_drewN | apply Kd.V_drew)); exact HO2_2.out) (Kd.N_base ho13) hb)
            have n2_ := ab_ (Kd.N_lower ho13 (below_size (by repeat (first | (with_reducible first | exact HB.out | apply ai_ | apply ag_ | apply ah_ | refine af_ ?_ GE657.out | refine af_ ?_ GE658.out | refine af_ ?_ GE659.out) | exact HB.out))))
            have n3_ := ab_ (blk_below (g := gb657) (o := .cells #[.int .i64 a0_0, .int .i64 a0_1, .slice A0_2 l0_2.length c0_2] 62 (0, 0)) (by (with_reducible repeat (first | refine ac_ ?_ _ | refine ae_ ?_ | refine ad_ ?_ _)); exact BK657.out) hb)
            have n4_ := ab_ (blk_below (g := gb658) (o := .cells #[.int .i64 a2_0, .int .i64 a2_1, .slice A2_2 l2_2.length c2_2] 62 (0, 0)) (by (with_reducible repeat (first | refine ac_ ?_ _ | refine ae_ ?_ | refine ad_ ?_ _)); exact BK658.out) hb)
            have n5_ := ab_ (blk_below (g := gb659) (o := .cells #[.int .i64 0, .int .i64 0, .slice none 0 0] 62 (0, 0)) (by (with_reducible repeat (first | refine ac_ ?_ _ | refine ae_ ?_ | refine ad_ ?_ _)); exact BK659.out) hb)
            have n6_ := ab_ (ap_ (by repeat (first | (with_reducible first | exact HB.out | apply ai_ | apply ag_ | apply ah_ | refine af_ ?_ GE657.out | refine af_ ?_ GE658.out | refine af_ ?_ GE659.out) | exact HB.out)) hb)
            clear HO0_2
            clear HO2_2
            clear BK657
            clear BK658
            clear BK659
            clear HB
            have HO0_2 := n0_
            have HO2_2 := n1_
            have HO662 := n2_
            have BK657 := n3_
            have BK658 := n4_
            have BK659 := n5_
            have HB := n6_
            clear n0_ n1_ n2_ n3_ n4_ n5_ n6_
            clear hb ho13
            refine hK.out _ _ ⟨(an_ BK657.out 0).trans rfl, (an_ BK657.out 1).trans rfl, (an_ BK657.out 2).trans rfl⟩ (fun hHeld => ?_)
            clear hK K
            refine norm_ (a' := ?_) ?_ ?_
            rotate_left
            · show Act.put _ (some 12) _ = _
              simp only [Act.put, List.setIfInBounds_toArray, List.set_cons_zero, List.set_cons_succ, i64_w, i32_w]
              rfl
            refine two_ (i := 7) (j := 9) (Ni := some 15) (Nj := some 7) #[true, true, true, true, true, true, true, true, false, false, false] #[true, true, true, true, true, true, true, false, false, true, false] rfl rfl rfl rfl (two_of HT_.out (by kernel_rfl)) (by decide) (by decide) (fun K hK => ?_) (fun K hK => ?_)
            · skip
              refine Kd.N_append_rows_step k62 (w0 := w) w.heap.size (by rfl) (.tmp 12) (.tmp 14) 60 62 (.agg #[(.int .i64 0), (.int .i64 0), (.slice none 0 0)]) 40 rfl Try.underlying60 info62 rfl (by decide) (by omega) v661 y660 l0_2 _ _ _ (fun k_ => ((P0_2_ k_ ∨ P2_2_ k_) ∨ w.heap.size ≤ k_) ∧ k_ ≠ gb657 ∧ k_ ≠ gb658 ∧ k_ ≠ gb659) (fun k_ => ((fun k_ => ((P0_2_ k_ ∨ P2_2_ k_) ∨ w.heap.size ≤ k_) ∧ k_ ≠ gb657 ∧ k_ ≠ gb658 ∧ k_ ≠ gb659)) k_ ∧ some k_ ≠ (v661 : Value).ownBlock) rfl rfl ?aO ?aR (fun _ hk => hk) ?aF ?aB ?aS ?aL ?_
              (case aR => exact (by skip; exact Kd.V_F (Kd.V_mono (ok' := (fun k_ => ((fun k_ => ((P0_2_ k_ ∨ P2_2_ k_) ∨ w.heap.size ≤ k_) ∧ k_ ≠ gb657 ∧ k_ ≠ gb658 ∧ k_ ≠ gb659)) k_ ∧ some k_ ≠ (v661 : Value).ownBlock)) (HO0_2.out) (fun k_ hk => ⟨⟨hk.1.1.1.1, ⟨hk.1.1.1.2, ⟨hk.1.1.2, hk.1.2⟩⟩⟩, hk.2⟩))))
              (case aB => exact (by repeat (first | (with_reducible first | exact HB.out | apply ai_ | apply ag_ | apply ah_ | refine af_ ?_ GE657.out | refine af_ ?_ GE658.out | refine af_ ?_ GE659.out) | exact HB.out)))
              (case aF => exact (fun k_ hk => ⟨(.inr (Nat.le_trans (below_size (by repeat (first | (with_reducible first | exact HB.out | apply ai_ | apply ag_ | apply ah_ | refine af_ ?_ GE657.out | refine af_ ?_ GE658.out | refine af_ ?_ GE659.out) | exact HB.out))) hk)), Kd.freshB (g := gb657) (o := .cells #[.int .i64 a0_0, .int .i64 a0_1, .slice A0_2 l0_2.length c0_2] 62 (0, 0)) (by (with_reducible repeat (first | refine ac_ ?_ _ | refine ae_ ?_ | refine ad_ ?_ _)); exact BK657.out) k_ hk, Kd.freshB (g := gb658) (o := .cells #[.int .i64 a2_0, .int .i64 a2_1, .slice A2_2 l2_2.length c2_2] 62 (0, 0)) (by (with_reducible repeat (first | refine ac_ ?_ _ | refine ae_ ?_ | refine ad_ ?_ _)); exact BK658.out) k_ hk, Kd.freshB (g := gb659) (o := .cells #[.int .i64 0, .int .i64 0, .slice none 0 0] 62 (0, 0)) (by (with_reducible repeat (first | refine ac_ ?_ _ | refine ae_ ?_ | refine ad_ ?_ _)); exact BK659.out) k_ hk⟩))
              (case aO => exact (by (with_reducible repeat (first | apply Kd.N_alloc | apply Kd.N_drewN | apply Kd.N_drew)); exact HO662.out))
              (case aS => exact (below_size (by repeat (first | (with_reducible first | exact HB.out | apply ai_ | apply ag_ | apply ah_ | refine af_ ?_ GE657.out | refine af_ ?_ GE658.out | refine af_ ?_ GE659.out) | exact HB.out))))
              (case aL => have := LMc4.out; omega)
              intro v664 w14 ho hb hg hat
              rw [← Ny663.out] at ho
              have n0_ := ab_ (Kd.V_afterv (ok := (fun k_ => ((P0_2_ k_ ∨ P2_2_ k_) ∨ w.heap.size ≤ k_) ∧ k_ ≠ gb657 ∧ k_ ≠ gb658 ∧ k_ ≠ gb659)) (by (with_reducible repeat (first | apply Kd.V_alloc | apply Kd.V_drewN | apply Kd.V_drew)); exact Kd.V_mono HO0_2.out (fun _ hk => ⟨⟨hk.1.1.1.1, ⟨hk.1.1.1.2, ⟨hk.1.1.2, hk.1.2⟩⟩⟩, hk.2⟩)) hg hat)
              have n1_ := ab_ (Kd.V_afterv (ok := (fun k_ => ((P0_2_ k_ ∨ P2_2_ k_) ∨ w.heap.size ≤ k_) ∧ k_ ≠ gb657 ∧ k_ ≠ gb658 ∧ k_ ≠ gb659)) (by (with_reducible repeat (first | apply Kd.V_alloc | apply Kd.V_drewN | apply Kd.V_drew)); exact Kd.V_mono HO2_2.out (fun _ hk => ⟨⟨hk.1.1.1.1, ⟨hk.1.1.1.2, ⟨hk.1.1.2, hk.1.2⟩⟩⟩, hk.2⟩)) hg hat)
              have n2_ := ab_ (blk_grown (g := gb657) (o := .cells #[.int .i64 a0_0, .int .i64 a0_1, .slice A0_2 l0_2.length c0_2] 62 (0, 0)) (by (with_reducible repeat (first | refine ac_ ?_ _ | refine ae_ ?_ | refine ad_ ?_ _)); exact BK657.out) hg (Kd.N_away HO662.out (fun _ hk => hk.2.1)))
              have n3_ := ab_ (blk_grown (g := gb658) (o := .cells #[.int .i64 a2_0, .int .i64 a2_1, .slice A2_2 l2_2.length c2_2] 62 (0, 0)) (by (with_reducible repeat (first | refine ac_ ?_ _ | refine ae_ ?_ | refine ad_ ?_ _)); exact BK658.out) hg (Kd.N_away HO662.out (fun _ hk => hk.2.2.1)))
              have n4_ := ab_ (blk_grown (g := gb659) (o := .cells #[.int .i64 0, .int .i64 0, .slice none 0 0] 62 (0, 0)) (by (with_reducible repeat (first | refine ac_ ?_ _ | refine ae_ ?_ | refine ad_ ?_ _)); exact BK659.out) hg (Kd.N_away HO662.out (fun _ hk => hk.2.2.2)))
              have n5_ := ab_ (hb)
              have n6_ := ab_ (ho)
              clear HO0_2
              clear HO2_2
              clear BK657
              clear BK658
              clear BK659
              clear HB
              clear HO662
              have HO0_2 := n0_
              have HO2_2 := n1_
              have BK657 := n2_
              have BK658 := n3_
              have BK659 := n4_
              have HB := n5_
              have HO665 := n6_
              clear n0_ n1_ n2_ n3_ n4_ n5_ n6_
              clear ho hb hg hat
              obtain ⟨Ao15, co15, eo15⟩ := Kd.N_slice HO665.out
              (first | subst eo15 | (injection eo15 with f1_ f2_ f3_; have f4_ := f1_.symm; have f5_ := f3_.symm; clear f1_ f2_ f3_; subst f4_; subst f5_))
              refine hK.out _ _ ⟨(an_ BK657.out 0).trans rfl, (an_ BK657.out 1).trans rfl, (an_ BK657.out 2).trans rfl⟩ (fun hHeld => ?_)
              clear hK K
              refine norm_ (a' := ?_) ?_ ?_
              rotate_left
              · show Act.put _ (some 15) _ = _
                simp only [Act.put, List.setIfInBounds_toArray, List.set_cons_zero, List.set_cons_succ, i64_w, i32_w]
                rfl
              refine pure_ (i := 8) (N := some 16) (v := ?_) (a' := ?_) #[true, true, true, true, true, true, true, true, true, false, false] rfl rfl (any_of HT_.out (by kernel_rfl)) (fun _ _ _ h => h) (Or.inl ⟨by rfl, ?_⟩) ?_ ?_
              rotate_left
              · intro w'
                go_simp
                with_reducible rfl
              rotate_left
              · simp only [Act.put, List.setIfInBounds_toArray, List.set_cons_zero, List.set_cons_succ, i64_w, i32_w]
                rfl
              refine one_ (i := 9) (N := some 7) #[true, true, true, true, true, true, true, true, true, true, false] rfl rfl (one_of HT_.out (by kernel_rfl)) (by decide) (fun K hK => ?_)
              refine box_step ?hg (N := 7) ?hd (cs := #[.int .i64 0, .int .i64 0, .slice none 0 0]) (t := 62) ?hr ?_; (case hd => rfl); (case hg => rfl); (case hr => first | (go_simp; done) | (go_simp; rfl))
              intro gb666 hg w16 hbox hb
              have n0_ := ab_ (Kd.V_below (Kd.V_elderB (by (with_reducible repeat (first | apply Kd.V_alloc | apply Kd.V_drewN | apply Kd.V_drew)); exact HO0_2.out) gb666 (Nat.le_of_eq hg.symm)) hb)
              have n1_ := ab_ (Kd.V_below (Kd.V_elderB (by (with_reducible repeat (first | apply Kd.V_alloc | apply Kd.V_drewN | apply Kd.V_drew)); exact HO2_2.out) gb666 (Nat.le_of_eq hg.symm)) hb)
              have n2_ := ab_ (Kd.N_below (Kd.N_elderB (by (with_reducible repeat (first | apply Kd.N_alloc | apply Kd.N_drewN | apply Kd.N_drew)); exact HO665.out) gb666 (Nat.le_of_eq hg.symm)) hb)
              have n3_ := ab_ (blk_below (g := gb657) (o := .cells #[.int .i64 a0_0, .int .i64 a0_1, .slice A0_2 l0_2.length c0_2] 62 (0, 0)) (by (with_reducible repeat (first | refine ac_ ?_ _ | refine ae_ ?_ | refine ad_ ?_ _)); exact BK657.out) hb)
              have n4_ := ab_ (blk_below (g := gb658) (o := .cells #[.int .i64 a2_0, .int .i64 a2_1, .slice A2_2 l2_2.length c2_2] 62 (0, 0)) (by (with_reducible repeat (first | refine ac_ ?_ _ | refine ae_ ?_ | refine ad_ ?_ _)); exact BK658.out) hb)
              have n5_ := ab_ (blk_below (g := gb659) (o := .cells #[.int .i64 0, .int .i64 0, .slice none 0 0] 62 (0, 0)) (by (with_reducible repeat (first | refine ac_ ?_ _ | refine ae_ ?_ | refine ad_ ?_ _)); exact BK659.out) hb)
              have n6_ := ab_ (ap_ (by repeat (first | (with_reducible first | exact HB.out | apply ai_ | apply ag_ | apply ah_ | refine af_ ?_ GE657.out | refine af_ ?_ GE658.out | refine af_ ?_ GE659.out) | exact HB.out)) hb)
              have n7_ := ab_ (hbox)
              have n8_ := ab_ ((by rw [hg]; exact (below_size (by repeat (first | (with_reducible first | exact HB.out | apply ai_ | apply ag_ | apply ah_ | refine af_ ?_ GE657.out | refine af_ ?_ GE658.out | refine af_ ?_ GE659.out) | exact HB.out))) : w.heap.size ≤ gb666))
              have n9_ := ab_ ((by rw [hg]; exact (below_size (by repeat (first | (with_reducible first | exact HB.out | apply ai_ | apply ag_ | apply ah_ | refine af_ ?_ GE657.out | refine af_ ?_ GE658.out | refine af_ ?_ GE659.out) | exact HB.out))) : w.heap.size ≤ gb666))
              have n10_ := ab_ ((by rw [hg]; exact ak_ (blk_lt (g := gb657) (o := .cells #[.int .i64 a0_0, .int .i64 a0_1, .slice A0_2 l0_2.length c0_2] 62 (0, 0)) (by (with_reducible repeat (first | refine ac_ ?_ _ | refine ae_ ?_ | refine ad_ ?_ _)); exact BK657.out)) : gb657 ≠ gb666))
              have n11_ := ab_ ((by rw [hg]; exact Nat.ne_of_gt (blk_lt (g := gb657) (o := .cells #[.int .i64 a0_0, .int .i64 a0_1, .slice A0_2 l0_2.length c0_2] 62 (0, 0)) (by (with_reducible repeat (first | refine ac_ ?_ _ | refine ae_ ?_ | refine ad_ ?_ _)); exact BK657.out)) : gb666 ≠ gb657))
              have n12_ := ab_ ((by rw [hg]; exact ak_ (blk_lt (g := gb658) (o := .cells #[.int .i64 a2_0, .int .i64 a2_1, .slice A2_2 l2_2.length c2_2] 62 (0, 0)) (by (with_reducible repeat (first | refine ac_ ?_ _ | refine ae_ ?_ | refine ad_ ?_ _)); exact BK658.out)) : gb658 ≠ gb666))
              have n13_ := ab_ ((by rw [hg]; exact Nat.ne_of_gt (blk_lt (g := gb658) (o := .cells #[.int .i64 a2_0, .int .i64 a2_1, .slice A2_2 l2_2.length c2_2] 62 (0, 0)) (by (with_reducible repeat (first | refine ac_ ?_ _ | refine ae_ ?_ | refine ad_ ?_ _)); exact BK658.out)) : gb666 ≠ gb658))
              have n14_ := ab_ ((by rw [hg]; exact ak_ (blk_lt (g := gb659) (o := .cells #[.int .i64 0, .int .i64 0, .slice none 0 0] 62 (0, 0)) (by (with_reducible repeat (first | refine ac_ ?_ _ | refine ae_ ?_ | refine ad_ ?_ _)); exact BK659.out)) : gb659 ≠ gb666))
              have n15_ := ab_ ((by rw [hg]; exact Nat.ne_of_gt (blk_lt (g := gb659) (o := .cells #[.int .i64 0, .int .i64 0, .slice none 0 0] 62 (0, 0)) (by (with_reducible repeat (first | refine ac_ ?_ _ | refine ae_ ?_ | refine ad_ ?_ _)); exact BK659.out)) : gb666 ≠ gb659))
              clear HO0_2
              clear HO2_2
              clear HO665
              clear BK657
              clear BK658
              clear BK659
              clear HB
              have HO0_2 := n0_
              have HO2_2 := n1_
              have HO665 := n2_
              have BK657 := n3_
              have BK658 := n4_
              have BK659 := n5_
              have HB := n6_
              have BK666 := n7_
              have GW666 := n8_
              have GE666 := n9_
              have NB657_666 := n10_
              have NB666_657 := n11_
              have NB658_666 := n12_
              have NB666_658 := n13_
              have NB659_666 := n14_
              have NB666_659 := n15_
              clear n0_ n1_ n2_ n3_ n4_ n5_ n6_ n7_ n8_ n9_ n10_ n11_ n12_ n13_ n14_ n15_
              clear hb hbox hg
              refine hK.out _ _ ⟨(an_ BK657.out 0).trans rfl, (an_ BK657.out 1).trans rfl, (an_ BK657.out 2).trans rfl⟩ (fun hHeld => ?_)
              clear hK K
              refine norm_ (a' := ?_) ?_ ?_
              rotate_left
              · show Act.put _ (some 7) _ = _
                simp only [Act.put, List.setIfInBounds_toArray, List.set_cons_zero, List.set_cons_succ, i64_w, i32_w]
                rfl
              exact norm_ (by simp only [putAll, Act.put, List.setIfInBounds_toArray, List.set_cons_zero, List.set_cons_succ]) (hCont (v661, .slice Ao15 y663.length co15, gb666) _ ⟨hHeld, (by (with_reducible repeat (first | apply Kd.V_alloc | apply Kd.V_drewN | apply Kd.V_drew)); exact Kd.V_mono HO0_2.out (fun _ hk => ⟨hk.1.1.1, ⟨hk.1.2, ⟨hk.1.1.2.1, ⟨hk.1.1.2.2.1, ⟨hk.1.1.2.2.2, hk.2⟩⟩⟩⟩⟩)), (by (with_reducible repeat (first | apply Kd.V_alloc | apply Kd.V_drewN | apply Kd.V_drew)); exact Kd.V_mono HO2_2.out (fun _ hk => ⟨hk.1.1.1, ⟨hk.1.2, ⟨hk.1.1.2.1, ⟨hk.1.1.2.2.1, ⟨hk.1.1.2.2.2, hk.2⟩⟩⟩⟩⟩)), (by (with_reducible repeat (first | apply Kd.N_alloc | apply Kd.N_drewN | apply Kd.N_drew)); exact Kd.N_mono HO665.out (fun _ hk => ⟨hk.1.1, ⟨hk.1.2.1, ⟨hk.1.2.2.1, ⟨hk.1.2.2.2, hk.2⟩⟩⟩⟩)), (by (with_reducible repeat (first | refine ac_ ?_ _ | refine ae_ ?_ | refine ad_ ?_ _)); exact BK657.out), (by (with_reducible repeat (first | refine ac_ ?_ _ | refine ae_ ?_ | refine ad_ ?_ _)); exact BK658.out), (by (with_reducible repeat (first | refine ac_ ?_ _ | refine ae_ ?_ | refine ad_ ?_ _)); exact BK659.out), (by (with_reducible repeat (first | refine ac_ ?_ _ | refine ae_ ?_ | refine ad_ ?_ _)); exact BK666.out), GW666.out, GE666.out, NB657_666.out, NB666_657.out, NB658_666.out, NB666_658.out, NB659_666.out, NB666_659.out, (by repeat (first | (with_reducible first | exact HB.out | apply ai_ | apply ag_ | apply ah_ | refine af_ ?_ GE657.out | refine af_ ?_ GE658.out | refine af_ ?_ GE659.out | refine af_ ?_ GE666.out) | exact HB.out))⟩)
            · skip
              refine box_step ?hg (N := 7) ?hd (cs := #[.int .i64 0, .int .i64 0, .slice none 0 0]) (t := 62) ?hr ?_; (case hd => rfl); (case hg => rfl); (case hr => first | (go_simp; done) | (go_simp; rfl))
              intro gb666 hg w14 hbox hb
              have n0_ := ab_ (Kd.V_below (Kd.V_elderB (by (with_reducible repeat (first | apply Kd.V_alloc | apply Kd.V_drewN | apply Kd.V_drew)); exact HO0_2.out) gb666 (Nat.le_of_eq hg.symm)) hb)
              have n1_ := ab_ (Kd.V_below (Kd.V_elderB (by (with_reducible repeat (first | apply Kd.V_alloc | apply Kd.V_drewN | apply Kd.V_drew)); exact HO2_2.out) gb666 (Nat.le_of_eq hg.symm)) hb)
              have n2_ := ab_ (Kd.N_below (Kd.N_elderB (by (with_reducible repeat (first | apply Kd.N_alloc | apply Kd.N_drewN | apply Kd.N_drew)); exact HO662.out) gb666 (Nat.le_of_eq hg.symm)) hb)
              have n3_ := ab_ (blk_below (g := gb657) (o := .cells #[.int .i64 a0_0, .int .i64 a0_1, .slice A0_2 l0_2.length c0_2] 62 (0, 0)) (by (with_reducible repeat (first | refine ac_ ?_ _ | refine ae_ ?_ | refine ad_ ?_ _)); exact BK657.out) hb)
              have n4_ := ab_ (blk_below (g := gb658) (o := .cells #[.int .i64 a2_0, .int .i64 a2_1, .slice A2_2 l2_2.length c2_2] 62 (0, 0)) (by (with_reducible repeat (first | refine ac_ ?_ _ | refine ae_ ?_ | refine ad_ ?_ _)); exact BK658.out) hb)
              have n5_ := ab_ (blk_below (g := gb659) (o := .cells #[.int .i64 0, .int .i64 0, .slice none 0 0] 62 (0, 0)) (by (with_reducible repeat (first | refine ac_ ?_ _ | refine ae_ ?_ | refine ad_ ?_ _)); exact BK659.out) hb)
              have n6_ := ab_ (ap_ (by repeat (first | (with_reducible first | exact HB.out | apply ai_ | apply ag_ | apply ah_ | refine af_ ?_ GE657.out | refine af_ ?_ GE658.out | refine af_ ?_ GE659.out) | exact HB.out)) hb)
              have n7_ := ab_ (hbox)
              have n8_ := ab_ ((by rw [hg]; exact (below_size (by repeat (first | (with_reducible first | exact HB.out | apply ai_ | apply ag_ | apply ah_ | refine af_ ?_ GE657.out | refine af_ ?_ GE658.out | refine af_ ?_ GE659.out) | exact HB.out))) : w.heap.size ≤ gb666))
              have n9_ := ab_ ((by rw [hg]; exact (below_size (by repeat (first | (with_reducible first | exact HB.out | apply ai_ | apply ag_ | apply ah_ | refine af_ ?_ GE657.out | refine af_ ?_ GE658.out | refine af_ ?_ GE659.out) | exact HB.out))) : w.heap.size ≤ gb666))
              have n10_ := ab_ ((by rw [hg]; exact ak_ (blk_lt (g := gb657) (o := .cells #[.int .i64 a0_0, .int .i64 a0_1, .slice A0_2 l0_2.length c0_2] 62 (0, 0)) (by (with_reducible repeat (first | refine ac_ ?_ _ | refine ae_ ?_ | refine ad_ ?_ _)); exact BK657.out)) : gb657 ≠ gb666))
              have n11_ := ab_ ((by rw [hg]; exact Nat.ne_of_gt (blk_lt (g := gb657) (o := .cells #[.int .i64 a0_0, .int .i64 a0_1, .slice A0_2 l0_2.length c0_2] 62 (0, 0)) (by (with_reducible repeat (first | refine ac_ ?_ _ | refine ae_ ?_ | refine ad_ ?_ _)); exact BK657.out)) : gb666 ≠ gb657))
              have n12_ := ab_ ((by rw [hg]; exact ak_ (blk_lt (g := gb658) (o := .cells #[.int .i64 a2_0, .int .i64 a2_1, .slice A2_2 l2_2.length c2_2] 62 (0, 0)) (by (with_reducible repeat (first | refine ac_ ?_ _ | refine ae_ ?_ | refine ad_ ?_ _)); exact BK658.out)) : gb658 ≠ gb666))
              have n13_ := ab_ ((by rw [hg]; exact Nat.ne_of_gt (blk_lt (g := gb658) (o := .cells #[.int .i64 a2_0, .int .i64 a2_1, .slice A2_2 l2_2.length c2_2] 62 (0, 0)) (by (with_reducible repeat (first | refine ac_ ?_ _ | refine ae_ ?_ | refine ad_ ?_ _)); exact BK658.out)) : gb666 ≠ gb658))
              have n14_ := ab_ ((by rw [hg]; exact ak_ (blk_lt (g := gb659) (o := .cells #[.int .i64 0, .int .i64 0, .slice none 0 0] 62 (0, 0)) (by (with_reducible repeat (first | refine ac_ ?_ _ | refine ae_ ?_ | refine ad_ ?_ _)); exact BK659.out)) : gb659 ≠ gb666))
              have n15_ := ab_ ((by rw [hg]; exact Nat.ne_of_gt (blk_lt (g := gb659) (o := .cells #[.int .i64 0, .int .i64 0, .slice none 0 0] 62 (0, 0)) (by (with_reducible repeat (first | refine ac_ ?_ _ | refine ae_ ?_ | refine ad_ ?_ _)); exact BK659.out)) : gb666 ≠ gb659))
              clear HO0_2
              clear HO2_2
              clear HO662
              clear BK657
              clear BK658
              clear BK659
              clear HB
              have HO0_2 := n0_
              have HO2_2 := n1_
              have HO662 := n2_
              have BK657 := n3_
              have BK658 := n4_
              have BK659 := n5_
              have HB := n6_
              have BK666 := n7_
              have GW666 := n8_
              have GE666 := n9_
              have NB657_666 := n10_
              have NB666_657 := n11_
              have NB658_666 := n12_
              have NB666_658 := n13_
              have NB659_666 := n14_
              have NB666_659 := n15_
              clear n0_ n1_ n2_ n3_ n4_ n5_ n6_ n7_ n8_ n9_ n10_ n11_ n12_ n13_ n14_ n15_
              clear hb hbox hg
              refine hK.out _ _ ⟨(an_ BK657.out 0).trans rfl, (an_ BK657.out 1).trans rfl, (an_ BK657.out 2).trans rfl⟩ (fun hHeld => ?_)
              clear hK K
              refine norm_ (a' := ?_) ?_ ?_
              rotate_left
              · show Act.put _ (some 7) _ = _
                simp only [Act.put, List.setIfInBounds_toArray, List.set_cons_zero, List.set_cons_succ, i64_w, i32_w]
                rfl
              refine one_ (i := 7) (N := some 15) #[true, true, true, true, true, true, true, true, false, true, false] rfl rfl (one_of HT_.out (by kernel_rfl)) (by decide) (fun K hK => ?_)
              refine Kd.N_append_rows_step k62 (w0 := w) w.heap.size (by rfl) (.tmp 12) (.tmp 14) 60 62 (.agg #[(.int .i64 0), (.int .i64 0), (.slice none 0 0)]) 40 rfl Try.underlying60 info62 rfl (by decide) (by omega) v661 y660 l0_2 _ _ _ (fun k_ => ((P0_2_ k_ ∨ P2_2_ k_) ∨ w.heap.size ≤ k_) ∧ k_ ≠ gb657 ∧ k_ ≠ gb658 ∧ k_ ≠ gb659 ∧ k_ ≠ gb666) (fun k_ => ((fun k_ => ((P0_2_ k_ ∨ P2_2_ k_) ∨ w.heap.size ≤ k_) ∧ k_ ≠ gb657 ∧ k_ ≠ gb658 ∧ k_ ≠ gb659 ∧ k_ ≠ gb666)) k_ ∧ some k_ ≠ (v661 : Value).ownBlock) rfl rfl ?aO ?aR (fun _ hk => hk) ?aF ?aB ?aS ?aL ?_
              (case aR => exact (by skip; exact Kd.V_F (Kd.V_mono (ok' := (fun k_ => ((fun k_ => ((P0_2_ k_ ∨ P2_2_ k_) ∨ w.heap.size ≤ k_) ∧ k_ ≠ gb657 ∧ k_ ≠ gb658 ∧ k_ ≠ gb659 ∧ k_ ≠ gb666)) k_ ∧ some k_ ≠ (v661 : Value).ownBlock)) (HO0_2.out) (fun k_ hk => ⟨⟨hk.1.1.1.1.1, ⟨hk.1.1.1.1.2, ⟨hk.1.1.1.2, ⟨hk.1.1.2, hk.2⟩⟩⟩⟩, hk.1.2⟩))))
              (case aB => exact (by repeat (first | (with_reducible first | exact HB.out | apply ai_ | apply ag_ | apply ah_ | refine af_ ?_ GE657.out | refine af_ ?_ GE658.out | refine af_ ?_ GE659.out | refine af_ ?_ GE666.out) | exact HB.out)))
              (case aF => exact (fun k_ hk => ⟨(.inr (Nat.le_trans (below_size (by repeat (first | (with_reducible first | exact HB.out | apply ai_ | apply ag_ | apply ah_ | refine af_ ?_ GE657.out | refine af_ ?_ GE658.out | refine af_ ?_ GE659.out | refine af_ ?_ GE666.out) | exact HB.out))) hk)), Kd.freshB (g := gb657) (o := .cells #[.int .i64 a0_0, .int .i64 a0_1, .slice A0_2 l0_2.length c0_2] 62 (0, 0)) (by (with_reducible repeat (first | refine ac_ ?_ _ | refine ae_ ?_ | refine ad_ ?_ _)); exact BK657.out) k_ hk, Kd.freshB (g := gb658) (o := .cells #[.int .i64 a2_0, .int .i64 a2_1, .slice A2_2 l2_2.length c2_2] 62 (0, 0)) (by (with_reducible repeat (first | refine ac_ ?_ _ | refine ae_ ?_ | refine ad_ ?_ _)); exact BK658.out) k_ hk, Kd.freshB (g := gb659) (o := .cells #[.int .i64 0, .int .i64 0, .slice none 0 0] 62 (0, 0)) (by (with_reducible repeat (first | refine ac_ ?_ _ | refine ae_ ?_ | refine ad_ ?_ _)); exact BK659.out) k_ hk, Kd.freshB (g := gb666) (o := .cells #[.int .i64 0, .int .i64 0, .slice none 0 0] 62 (0, 0)) (by (with_reducible repeat (first | refine ac_ ?_ _ | refine ae_ ?_ | refine ad_ ?_ _)); exact BK666.out) k_ hk⟩))
              (case aO => exact (by (with_reducible repeat (first | apply Kd.N_alloc | apply Kd.N_drewN | apply Kd.N_drew)); exact Kd.N_mono HO662.out (fun _ hk => ⟨hk.1.1, ⟨hk.1.2.1, ⟨hk.1.2.2.1, ⟨hk.1.2.2.2, hk.2⟩⟩⟩⟩)))
              (case aS => exact (below_size (by repeat (first | (with_reducible first | exact HB.out | apply ai_ | apply ag_ | apply ah_ | refine af_ ?_ GE657.out | refine af_ ?_ GE658.out | refine af_ ?_ GE659.out | refine af_ ?_ GE666.out) | exact HB.out))))
              (case aL => have := LMc4.out; omega)
              intro v664 w15 ho hb hg hat
              rw [← Ny663.out] at ho
              have n0_ := ab_ (Kd.V_afterv (ok := (fun k_ => ((P0_2_ k_ ∨ P2_2_ k_) ∨ w.heap.size ≤ k_) ∧ k_ ≠ gb657 ∧ k_ ≠ gb658 ∧ k_ ≠ gb659 ∧ k_ ≠ gb666)) (by (with_reducible repeat (first | apply Kd.V_alloc | apply Kd.V_drewN | apply Kd.V_drew)); exact Kd.V_mono HO0_2.out (fun _ hk => ⟨⟨hk.1.1.1.1.1, ⟨hk.1.1.1.1.2, ⟨hk.1.1.1.2, ⟨hk.1.1.2, hk.2⟩⟩⟩⟩, hk.1.2⟩)) hg hat)
              have n1_ := ab_ (Kd.V_afterv (ok := (fun k_ => ((P0_2_ k_ ∨ P2_2_ k_) ∨ w.heap.size ≤ k_) ∧ k_ ≠ gb657 ∧ k_ ≠ gb658 ∧ k_ ≠ gb659 ∧ k_ ≠ gb666)) (by (with_reducible repeat (first | apply Kd.V_alloc | apply Kd.V_drewN | apply Kd.V_drew)); exact Kd.V_mono HO2_2.out (fun _ hk => ⟨⟨hk.1.1.1.1.1, ⟨hk.1.1.1.1.2, ⟨hk.1.1.1.2, ⟨hk.1.1.2, hk.2⟩⟩⟩⟩, hk.1.2⟩)) hg hat)
              have n2_ := ab_ (blk_grown (g := gb657) (o := .cells #[.int .i64 a0_0, .int .i64 a0_1, .slice A0_2 l0_2.length c0_2] 62 (0, 0)) (by (with_reducible repeat (first | refine ac_ ?_ _ | refine ae_ ?_ | refine ad_ ?_ _)); exact BK657.out) hg (Kd.N_away HO662.out (fun _ hk => hk.1.2.1)))
              have n3_ := ab_ (blk_grown (g := gb658) (o := .cells #[.int .i64 a2_0, .int .i64 a2_1, .slice A2_2 l2_2.length c2_2] 62 (0, 0)) (by (with_reducible repeat (first | refine ac_ ?_ _ | refine ae_ ?_ | refine ad_ ?_ _)); exact BK658.out) hg (Kd.N_away HO662.out (fun _ hk => hk.1.2.2.1)))
              have n4_ := ab_ (blk_grown (g := gb659) (o := .cells #[.int .i64 0, .int .i64 0, .slice none 0 0] 62 (0, 0)) (by (with_reducible repeat (first | refine ac_ ?_ _ | refine ae_ ?_ | refine ad_ ?_ _)); exact BK659.out) hg (Kd.N_away HO662.out (fun _ hk => hk.1.2.2.2)))
              have n5_ := ab_ (blk_grown (g := gb666) (o := .cells #[.int .i64 0, .int .i64 0, .slice none 0 0] 62 (0, 0)) (by (with_reducible repeat (first | refine ac_ ?_ _ | refine ae_ ?_ | refine ad_ ?_ _)); exact BK666.out) hg (Kd.N_away HO662.out (fun _ hk => hk.2)))
              have n6_ := ab_ (hb)
              have n7_ := ab_ (ho)
              clear HO0_2
              clear HO2_2
              clear BK657
              clear BK658
              clear BK659
              clear BK666
              clear HB
              clear HO662
              have HO0_2 := n0_
              have HO2_2 := n1_
              have BK657 := n2_
              have BK658 := n3_
              have BK659 := n4_
              have BK666 := n5_
              have HB := n6_
              have HO665 := n7_
              clear n0_ n1_ n2_ n3_ n4_ n5_ n6_ n7_
              clear ho hb hg hat
              obtain ⟨Ao16, co16, eo16⟩ := Kd.N_slice HO665.out
              (first | subst eo16 | (injection eo16 with f1_ f2_ f3_; have f4_ := f1_.symm; have f5_ := f3_.symm; clear f1_ f2_ f3_; subst f4_; subst f5_))
              refine hK.out _ _ ⟨(an_ BK657.out 0).trans rfl, (an_ BK657.out 1).trans rfl, (an_ BK657.out 2).trans rfl⟩ (fun hHeld => ?_)
              clear hK K
              refine norm_ (a' := ?_) ?_ ?_
              rotate_left
              · show Act.put _ (some 15) _ = _
                simp only [Act.put, List.setIfInBounds_toArray, List.set_cons_zero, List.set_cons_succ, i64_w, i32_w]
                rfl
              refine pure_ (i := 8) (N := some 16) (v := ?_) (a' := ?_) #[true, true, true, true, true, true, true, true, true, true, false] rfl rfl (any_of HT_.out (by kernel_rfl)) (fun _ _ _ h => h) (Or.inl ⟨by rfl, ?_⟩) ?_ ?_
              rotate_left
              · intro w'
                go_simp
                with_reducible rfl
              rotate_left
              · simp only [Act.put, List.setIfInBounds_toArray, List.set_cons_zero, List.set_cons_succ, i64_w, i32_w]
                rfl
              exact norm_ (by simp only [putAll, Act.put, List.setIfInBounds_toArray, List.set_cons_zero, List.set_cons_succ]) (hCont (v661, .slice Ao16 y663.length co16, gb666) _ ⟨hHeld, (by (with_reducible repeat (first | apply Kd.V_alloc | apply Kd.V_drewN | apply Kd.V_drew)); exact Kd.V_mono HO0_2.out (fun _ hk => ⟨hk.1.1, ⟨hk.2, ⟨hk.1.2.1, ⟨hk.1.2.2.1, ⟨hk.1.2.2.2.1, hk.1.2.2.2.2⟩⟩⟩⟩⟩)), (by (with_reducible repeat (first | apply Kd.V_alloc | apply Kd.V_drewN | apply Kd.V_drew)); exact Kd.V_mono HO2_2.out (fun _ hk => ⟨hk.1.1, ⟨hk.2, ⟨hk.1.2.1, ⟨hk.1.2.2.1, ⟨hk.1.2.2.2.1, hk.1.2.2.2.2⟩⟩⟩⟩⟩)), (by (with_reducible repeat (first | apply Kd.N_alloc | apply Kd.N_drewN | apply Kd.N_drew)); exact HO665.out), (by (with_reducible repeat (first | refine ac_ ?_ _ | refine ae_ ?_ | refine ad_ ?_ _)); exact BK657.out), (by (with_reducible repeat (first | refine ac_ ?_ _ | refine ae_ ?_ | refine ad_ ?_ _)); exact BK658.out), (by (with_reducible repeat (first | refine ac_ ?_ _ | refine ae_ ?_ | refine ad_ ?_ _)); exact BK659.out), (by (with_reducible repeat (first | refine ac_ ?_ _ | refine ae_ ?_ | refine ad_ ?_ _)); exact BK666.out), GW666.out, GE666.out, NB657_666.out, NB666_657.out, NB658_666.out, NB666_658.out, NB659_666.out, NB666_659.out, (by repeat (first | (with_reducible first | exact HB.out | apply ai_ | apply ag_ | apply ah_ | refine af_ ?_ GE657.out | refine af_ ?_ GE658.out | refine af_ ?_ GE659.out | refine af_ ?_ GE666.out) | exact HB.out))⟩)
          · skip
            refine box_step ?hg (N := 7) ?hd (cs := #[.int .i64 0, .int .i64 0, .slice none 0 0]) (t := 62) ?hr ?_; (case hd => rfl); (case hg => rfl); (case hr => first | (go_simp; done) | (go_simp; rfl))
            intro gb666 hg w12 hbox hb
            have n0_ := ab_ (Kd.V_below (Kd.V_elderB (by (with_reducible repeat (first | apply Kd.V_alloc | apply Kd.V_drewN | apply Kd.V_drew)); exact HO0_2.out) gb666 (Nat.le_of_eq hg.symm)) hb)
            have n1_ := ab_ (Kd.V_below (Kd.V_elderB (by (with_reducible repeat (first | apply Kd.V_alloc | apply Kd.V_drewN | apply Kd.V_drew)); exact HO2_2.out) gb666 (Nat.le_of_eq hg.symm)) hb)
            have n2_ := ab_ (blk_below (g := gb657) (o := .cells #[.int .i64 a0_0, .int .i64 a0_1, .slice A0_2 l0_2.length c0_2] 62 (0, 0)) (by (with_reducible repeat (first | refine ac_ ?_ _ | refine ae_ ?_ | refine ad_ ?_ _)); exact BK657.out) hb)
            have n3_ := ab_ (blk_below (g := gb658) (o := .cells #[.int .i64 a2_0, .int .i64 a2_1, .slice A2_2 l2_2.length c2_2] 62 (0, 0)) (by (with_reducible repeat (first | refine ac_ ?_ _ | refine ae_ ?_ | refine ad_ ?_ _)); exact BK658.out) hb)
            have n4_ := ab_ (blk_below (g := gb659) (o := .cells #[.int .i64 0, .int .i64 0, .slice none 0 0] 62 (0, 0)) (by (with_reducible repeat (first | refine ac_ ?_ _ | refine ae_ ?_ | refine ad_ ?_ _)); exact BK659.out) hb)
            have n5_ := ab_ (ap_ (by repeat (first | (with_reducible first | exact HB.out | apply ai_ | apply ag_ | apply ah_ | refine af_ ?_ GE657.out | refine af_ ?_ GE658.out | refine af_ ?_ GE659.out) | exact HB.out)) hb)
            have n6_ := ab_ (hbox)
            have n7_ := ab_ ((by rw [hg]; exact (below_size (by repeat (first | (with_reducible first | exact HB.out | apply ai_ | apply ag_ | apply ah_ | refine af_ ?_ GE657.out | refine af_ ?_ GE658.out | refine af_ ?_ GE659.out) | exact HB.out))) : w.heap.size ≤ gb666))
            have n8_ := ab_ ((by rw [hg]; exact (below_size (by repeat (first | (with_reducible first | exact HB.out | apply ai_ | apply ag_ | apply ah_ | refine af_ ?_ GE657.out | refine af_ ?_ GE658.out | refine af_ ?_ GE659.out) | exact HB.out))) : w.heap.size ≤ gb666))
            have n9_ := ab_ ((by rw [hg]; exact ak_ (blk_lt (g := gb657) (o := .cells #[.int .i64 a0_0, .int .i64 a0_1, .slice A0_2 l0_2.length c0_2] 62 (0, 0)) (by (with_reducible repeat (first | refine ac_ ?_ _ | refine ae_ ?_ | refine ad_ ?_ _)); exact BK657.out)) : gb657 ≠ gb666))
            have n10_ := ab_ ((by rw [hg]; exact Nat.ne_of_gt (blk_lt (g := gb657) (o := .cells #[.int .i64 a0_0, .int .i64 a0_1, .slice A0_2 l0_2.length c0_2] 62 (0, 0)) (by (with_reducible repeat (first | refine ac_ ?_ _ | refine ae_ ?_ | refine ad_ ?_ _)); exact BK657.out)) : gb666 ≠ gb657))
            have n11_ := ab_ ((by rw [hg]; exact ak_ (blk_lt (g := gb658) (o := .cells #[.int .i64 a2_0, .int .i64 a2_1, .slice A2_2 l2_2.length c2_2] 62 (0, 0)) (by (with_reducible repeat (first | refine ac_ ?_ _ | refine ae_ ?_ | refine ad_ ?_ _)); exact BK658.out)) : gb658 ≠ gb666))
            have n12_ := ab_ ((by rw [hg]; exact Nat.ne_of_gt (blk_lt (g := gb658) (o := .cells #[.int .i64 a2_0, .int .i64 a2_1, .slice A2_2 l2_2.length c2_2] 62 (0, 0)) (by (with_reducible repeat (first | refine ac_ ?_ _ | refine ae_ ?_ | refine ad_ ?_ _)); exact BK658.out)) : gb666 ≠ gb658))
            have n13_ := ab_ ((by rw [hg]; exact ak_ (blk_lt (g := gb659) (o := .cells #[.int .i64 0, .int .i64 0, .slice none 0 0] 62 (0, 0)) (by (with_reducible repeat (first | refine ac_ ?_ _ | refine ae_ ?_ | refine ad_ ?_ _)); exact BK659.out)) : gb659 ≠ gb666))
            have n14_ := ab_ ((by rw [hg]; exact Nat.ne_of_gt (blk_lt (g := gb659) (o := .cells #[.int .i64 0, .int .i64 0, .slice none 0 0] 62 (0, 0)) (by (with_reducible repeat (first | refine ac_ ?_ _ | refine ae_ ?_ | refine ad_ ?_ _)); exact BK659.out)) : gb666 ≠ gb659))
            clear HO0_2
            clear HO2_2
            clear BK657
            clear BK658
            clear BK659
            clear HB
            have HO0_2 := n0_
            have HO2_2 := n1_
            have BK657 := n2_
            have BK658 := n3_
            have BK659 := n4_
            have HB := n5_
            have BK666 := n6_
            have GW666 := n7_
            have GE666 := n8_
            have NB657_666 := n9_
            have NB666_657 := n10_
            have NB658_666 := n11_
            have NB666_658 := n12_
            have NB659_666 := n13_
            have NB666_659 := n14_
            clear n0_ n1_ n2_ n3_ n4_ n5_ n6_ n7_ n8_ n9_ n10_ n11_ n12_ n13_ n14_
            clear hb hbox hg
            refine hK.out _ _ ⟨(an_ BK657.out 0).trans rfl, (an_ BK657.out 1).trans rfl, (an_ BK657.out 2).trans rfl⟩ (fun hHeld => ?_)
            clear hK K
            refine norm_ (a' := ?_) ?_ ?_
            rotate_left
            · show Act.put _ (some 7) _ = _
              simp only [Act.put, List.setIfInBounds_toArray, List.set_cons_zero, List.set_cons_succ, i64_w, i32_w]
              rfl
            refine one_ (i := 4) (N := some 12) #[true, true, true, true, true, true, true, false, false, true, false] rfl rfl (one_of HT_.out (by kernel_rfl)) (by decide) (fun K hK => ?_)
            refine Kd.N_lit_step k62 _ 62 ?hg (N' := 12) ?hd (xs := ([] : List (S62))) (inner := []) (ok := (fun k_ => ((P0_2_ k_ ∨ P2_2_ k_) ∨ w.heap.size ≤ k_) ∧ k_ ≠ gb657 ∧ k_ ≠ gb658 ∧ k_ ≠ gb659 ∧ k_ ≠ gb666)) (okp := (fun k_ => ((P0_2_ k_ ∨ P2_2_ k_) ∨ w.heap.size ≤ k_) ∧ k_ ≠ gb657 ∧ k_ ≠ gb658 ∧ k_ ≠ gb659 ∧ k_ ≠ gb666)) ?hr ?hp (fun _ hk => hk) ((show ∀ k_, w12.heap.size ≤ k_ → (fun k_ => ((P0_2_ k_ ∨ P2_2_ k_) ∨ w.heap.size ≤ k_) ∧ k_ ≠ gb657 ∧ k_ ≠ gb658 ∧ k_ ≠ gb659 ∧ k_ ≠ gb666) k_ from fun k_ hk => ⟨(.inr (Nat.le_trans (below_size (by repeat (first | (with_reducible first | exact HB.out | apply ai_ | apply ag_ | apply ah_ | refine af_ ?_ GE657.out | refine af_ ?_ GE658.out | refine af_ ?_ GE659.out | refine af_ ?_ GE666.out) | exact HB.out))) hk)), Kd.freshB (g := gb657) (o := .cells #[.int .i64 a0_0, .int .i64 a0_1, .slice A0_2 l0_2.length c0_2] 62 (0, 0)) (by (with_reducible repeat (first | refine ac_ ?_ _ | refine ae_ ?_ | refine ad_ ?_ _)); exact BK657.out) k_ hk, Kd.freshB (g := gb658) (o := .cells #[.int .i64 a2_0, .int .i64 a2_1, .slice A2_2 l2_2.length c2_2] 62 (0, 0)) (by (with_reducible repeat (first | refine ac_ ?_ _ | refine ae_ ?_ | refine ad_ ?_ _)); exact BK658.out) k_ hk, Kd.freshB (g := gb659) (o := .cells #[.int .i64 0, .int .i64 0, .slice none 0 0] 62 (0, 0)) (by (with_reducible repeat (first | refine ac_ ?_ _ | refine ae_ ?_ | refine ad_ ?_ _)); exact BK659.out) k_ hk, Kd.freshB (g := gb666) (o := .cells #[.int .i64 0, .int .i64 0, .slice none 0 0] 62 (0, 0)) (by (with_reducible repeat (first | refine ac_ ?_ _ | refine ae_ ?_ | refine ad_ ?_ _)); exact BK666.out) k_ hk⟩) _ (Nat.le_refl _)) (aq_ _ _) (Nat.le_refl _) (by simp) ?_; (case hd => rfl); (case hg => rfl); (case hr => first | (go_simp; done) | (go_simp; rfl)); (case hp => exact (Reps.none _ _))
            intro v661 w13 ho14 hb hg_ hnew_
            clear hg_ hnew_
            (first | rw [← Ny660.out] at ho14 | (simp only [Int.reduceToNat] at ho14; rw [← Ny660.out] at ho14))
            have n0_ := ab_ (Kd.V_elder' (by (with_reducible repeat (first | apply Kd.V_alloc | apply Kd.V_drewN | apply Kd.V_drew)); exact HO0_2.out) (Kd.N_base ho14) hb)
            have n1_ := ab_ (Kd.V_elder' (by (with_reducible repeat (first | apply Kd.V_alloc | apply Kd.V_drewN | apply Kd.V_drew)); exact HO2_2.out) (Kd.N_base ho14) hb)
            have n2_ := ab_ (Kd.N_lower ho14 (below_size (by repeat (first | (with_reducible first | exact HB.out | apply ai_ | apply ag_ | apply ah_ | refine af_ ?_ GE657.out | refine af_ ?_ GE658.out | refine af_ ?_ GE659.out | refine af_ ?_ GE666.out) | exact HB.out))))
            have n3_ := ab_ (blk_below (g := gb657) (o := .cells #[.int .i64 a0_0, .int .i64 a0_1, .slice A0_2 l0_2.length c0_2] 62 (0, 0)) (by (with_reducible repeat (first | refine ac_ ?_ _ | refine ae_ ?_ | refine ad_ ?_ _)); exact BK657.out) hb)
            have n4_ := ab_ (blk_below (g := gb658) (o := .cells #[.int .i64 a2_0, .int .i64 a2_1, .slice A2_2 l2_2.length c2_2] 62 (0, 0)) (by (with_reducible repeat (first | refine ac_ ?_ _ | refine ae_ ?_ | refine ad_ ?_ _)); exact BK658.out) hb)
            have n5_ := ab_ (blk_below (g := gb659) (o := .cells #[.int .i64 0, .int .i64 0, .slice none 0 0] 62 (0, 0)) (by (with_reducible repeat (first | refine ac_ ?_ _ | refine ae_ ?_ | refine ad_ ?_ _)); exact BK659.out) hb)
            have n6_ := ab_ (blk_below (g := gb666) (o := .cells #[.int .i64 0, .int .i64 0, .slice none 0 0] 62 (0, 0)) (by (with_reducible repeat (first | refine ac_ ?_ _ | refine ae_ ?_ | refine ad_ ?_ _)); exact BK666.out) hb)
            have n7_ := ab_ (ap_ (by repeat (first | (with_reducible first | exact HB.out | apply ai_ | apply ag_ | apply ah_ | refine af_ ?_ GE657.out | refine af_ ?_ GE658.out | refine af_ ?_ GE659.out | refine af_ ?_ GE666.out) | exact HB.out)) hb)
            clear HO0_2
            clear HO2_2
            clear BK657
            clear BK658
            clear BK659
            clear BK666
            clear HB
            have HO0_2 := n0_
            have HO2_2 := n1_
            have HO662 := n2_
            have BK657 := n3_
            have BK658 := n4_
            have BK659 := n5_
            have BK666 := n6_
            have HB := n7_
            clear n0_ n1_ n2_ n3_ n4_ n5_ n6_ n7_
            clear hb ho14
            refine hK.out _ _ ⟨(an_ BK657.out 0).trans rfl, (an_ BK657.out 1).trans rfl, (an_ BK657.out 2).trans rfl⟩ (fun hHeld => ?_)
            clear hK K
            refine norm_ (a' := ?_) ?_ ?_
            rotate_left
            · show Act.put _ (some 12) _ = _
              simp only [Act.put, List.setIfInBounds_toArray, List.set_cons_zero, List.set_cons_succ, i64_w, i32_w]
              rfl
            refine one_ (i := 7) (N := some 15) #[true, true, true, true, true, true, true, true, false, true, false] rfl rfl (one_of HT_.out (by kernel_rfl)) (by decide) (fun K hK => ?_)
            refine Kd.N_append_rows_step k62 (w0 := w) w.heap.size (by rfl) (.tmp 12) (.tmp 14) 60 62 (.agg #[(.int .i64 0), (.int .i64 0), (.slice none 0 0)]) 40 rfl Try.underlying60 info62 rfl (by decide) (by omega) v661 y660 l0_2 _ _ _ (fun k_ => ((P0_2_ k_ ∨ P2_2_ k_) ∨ w.heap.size ≤ k_) ∧ k_ ≠ gb657 ∧ k_ ≠ gb658 ∧ k_ ≠ gb659 ∧ k_ ≠ gb666) (fun k_ => ((fun k_ => ((P0_2_ k_ ∨ P2_2_ k_) ∨ w.heap.size ≤ k_) ∧ k_ ≠ gb657 ∧ k_ ≠ gb658 ∧ k_ ≠ gb659 ∧ k_ ≠ gb666)) k_ ∧ some k_ ≠ (v661 : Value).ownBlock) rfl rfl ?aO ?aR (fun _ hk => hk) ?aF ?aB ?aS ?aL ?_
            (case aR => exact (by skip; exact Kd.V_F (Kd.V_mono (ok' := (fun k_ => ((fun k_ => ((P0_2_ k_ ∨ P2_2_ k_) ∨ w.heap.size ≤ k_) ∧ k_ ≠ gb657 ∧ k_ ≠ gb658 ∧ k_ ≠ gb659 ∧ k_ ≠ gb666)) k_ ∧ some k_ ≠ (v661 : Value).ownBlock)) (HO0_2.out) (fun k_ hk => ⟨⟨hk.1.1.1.1.1, ⟨hk.1.1.1.1.2, ⟨hk.1.1.1.2, ⟨hk.1.1.2, hk.1.2⟩⟩⟩⟩, hk.2⟩))))
            (case aB => exact (by repeat (first | (with_reducible first | exact HB.out | apply ai_ | apply ag_ | apply ah_ | refine af_ ?_ GE657.out | refine af_ ?_ GE658.out | refine af_ ?_ GE659.out | refine af_ ?_ GE666.out) | exact HB.out)))
            (case aF => exact (fun k_ hk => ⟨(.inr (Nat.le_trans (below_size (by repeat (first | (with_reducible first | exact HB.out | apply ai_ | apply ag_ | apply ah_ | refine af_ ?_ GE657.out | refine af_ ?_ GE658.out | refine af_ ?_ GE659.out | refine af_ ?_ GE666.out) | exact HB.out))) hk)), Kd.freshB (g := gb657) (o := .cells #[.int .i64 a0_0, .int .i64 a0_1, .slice A0_2 l0_2.length c0_2] 62 (0, 0)) (by (with_reducible repeat (first | refine ac_ ?_ _ | refine ae_ ?_ | refine ad_ ?_ _)); exact BK657.out) k_ hk, Kd.freshB (g := gb658) (o := .cells #[.int .i64 a2_0, .int .i64 a2_1, .slice A2_2 l2_2.length c2_2] 62 (0, 0)) (by (with_reducible repeat (first | refine ac_ ?_ _ | refine ae_ ?_ | refine ad_ ?_ _)); exact BK658.out) k_ hk, Kd.freshB (g := gb659) (o := .cells #[.int .i64 0, .int .i64 0, .slice none 0 0] 62 (0, 0)) (by (with_reducible repeat (first | refine ac_ ?_ _ | refine ae_ ?_ | refine ad_ ?_ _)); exact BK659.out) k_ hk, Kd.freshB (g := gb666) (o := .cells #[.int .i64 0, .int .i64 0, .slice none 0 0] 62 (0, 0)) (by (with_reducible repeat (first | refine ac_ ?_ _ | refine ae_ ?_ | refine ad_ ?_ _)); exact BK666.out) k_ hk⟩))
            (case aO => exact (by (with_reducible repeat (first | apply Kd.N_alloc | apply Kd.N_drewN | apply Kd.N_drew)); exact HO662.out))
            (case aS => exact (below_size (by repeat (first | (with_reducible first | exact HB.out | apply ai_ | apply ag_ | apply ah_ | refine af_ ?_ GE657.out | refine af_ ?_ GE658.out | refine af_ ?_ GE659.out | refine af_ ?_ GE666.out) | exact HB.out))))
            (case aL => have := LMc4.out; omega)
            intro v664 w15 ho hb hg hat
            rw [← Ny663.out] at ho
            have n0_ := ab_ (Kd.V_afterv (ok := (fun k_ => ((P0_2_ k_ ∨ P2_2_ k_) ∨ w.heap.size ≤ k_) ∧ k_ ≠ gb657 ∧ k_ ≠ gb658 ∧ k_ ≠ gb659 ∧ k_ ≠ gb666)) (by (with_reducible repeat (first | apply Kd.V_alloc | apply Kd.V_drewN | apply Kd.V_drew)); exact Kd.V_mono HO0_2.out (fun _ hk => ⟨⟨hk.1.1.1.1.1, ⟨hk.1.1.1.1.2, ⟨hk.1.1.1.2, ⟨hk.1.1.2, hk.1.2⟩⟩⟩⟩, hk.2⟩)) hg hat)
            have n1_ := ab_ (Kd.V_afterv (ok := (fun k_ => ((P0_2_ k_ ∨ P2_2_ k_) ∨ w.heap.size ≤ k_) ∧ k_ ≠ gb657 ∧ k_ ≠ gb658 ∧ k_ ≠ gb659 ∧ k_ ≠ gb666)) (by (with_reducible repeat (first | apply Kd.V_alloc | apply Kd.V_drewN | apply Kd.V_drew)); exact Kd.V_mono HO2_2.out (fun _ hk => ⟨⟨hk.1.1.1.1.1, ⟨hk.1.1.1.1.2, ⟨hk.1.1.1.2, ⟨hk.1.1.2, hk.1.2⟩⟩⟩⟩, hk.2⟩)) hg hat)
            have n2_ := ab_ (blk_grown (g := gb657) (o := .cells #[.int .i64 a0_0, .int .i64 a0_1, .slice A0_2 l0_2.length c0_2] 62 (0, 0)) (by (with_reducible repeat (first | refine ac_ ?_ _ | refine ae_ ?_ | refine ad_ ?_ _)); exact BK657.out) hg (Kd.N_away HO662.out (fun _ hk => hk.2.1)))
            have n3_ := ab_ (blk_grown (g := gb658) (o := .cells #[.int .i64 a2_0, .int .i64 a2_1, .slice A2_2 l2_2.length c2_2] 62 (0, 0)) (by (with_reducible repeat (first | refine ac_ ?_ _ | refine ae_ ?_ | refine ad_ ?_ _)); exact BK658.out) hg (Kd.N_away HO662.out (fun _ hk => hk.2.2.1)))
            have n4_ := ab_ (blk_grown (g := gb659) (o := .cells #[.int .i64 0, .int .i64 0, .slice none 0 0] 62 (0, 0)) (by (with_reducible repeat (first | refine ac_ ?_ _ | refine ae_ ?_ | refine ad_ ?_ _)); exact BK659.out) hg (Kd.N_away HO662.out (fun _ hk => hk.2.2.2.1)))
            have n5_ := ab_ (blk_grown (g := gb666) (o := .cells #[.int .i64 0, .int .i64 0, .slice none 0 0] 62 (0, 0)) (by (with_reducible repeat (first | refine ac_ ?_ _ | refine ae_ ?_ | refine ad_ ?_ _)); exact BK666.out) hg (Kd.N_away HO662.out (fun _ hk => hk.2.2.2.2)))
            have n6_ := ab_ (hb)
            have n7_ := ab_ (ho)
            clear HO0_2
            clear HO2_2
            clear BK657
            clear BK658
            clear BK659
            clear BK666
            clear HB
            clear HO662
            have HO0_2 := n0_
            have HO2_2 := n1_
            have BK657 := n2_
            have BK658 := n3_
            have BK659 := n4_
            have BK666 := n5_
            have HB := n6_
            have HO665 := n7_
            clear n0_ n1_ n2_ n3_ n4_ n5_ n6_ n7_
            clear ho hb hg hat
            obtain ⟨Ao16, co16, eo16⟩ := Kd.N_slice HO665.out
            (first | subst eo16 | (injection eo16 with f1_ f2_ f3_; have f4_ := f1_.symm; have f5_ := f3_.symm; clear f1_ f2_ f3_; subst f4_; subst f5_))
            refine hK.out _ _ ⟨(an_ BK657.out 0).trans rfl, (an_ BK657.out 1).trans rfl, (an_ BK657.out 2).trans rfl⟩ (fun hHeld => ?_)
            clear hK K
            refine norm_ (a' := ?_) ?_ ?_
            rotate_left
            · show Act.put _ (some 15) _ = _
              simp only [Act.put, List.setIfInBounds_toArray, List.set_cons_zero, List.set_cons_succ, i64_w, i32_w]
              rfl
            refine pure_ (i := 8) (N := some 16) (v := ?_) (a' := ?_) #[true, true, true, true, true, true, true, true, true, true, false] rfl rfl (any_of HT_.out (by kernel_rfl)) (fun _ _ _ h => h) (Or.inl ⟨by rfl, ?_⟩) ?_ ?_
            rotate_left
            · intro w'
              go_simp
              with_reducible rfl
            rotate_left
            · simp only [Act.put, List.setIfInBounds_toArray, List.set_cons_zero, List.set_cons_succ, i64_w, i32_w]
              rfl
            exact norm_ (by simp only [putAll, Act.put, List.setIfInBounds_toArray, List.set_cons_zero, List.set_cons_succ]) (hCont (v661, .slice Ao16 y663.length co16, gb666) _ ⟨hHeld, (by (with_reducible repeat (first | apply Kd.V_alloc | apply Kd.V_drewN | apply Kd.V_drew)); exact Kd.V_mono HO0_2.out (fun _ hk => ⟨hk.1.1, ⟨hk.2, ⟨hk.1.2.1, ⟨hk.1.2.2.1, ⟨hk.1.2.2.2.1, hk.1.2.2.2.2⟩⟩⟩⟩⟩)), (by (with_reducible repeat (first | apply Kd.V_alloc | apply Kd.V_drewN | apply Kd.V_drew)); exact Kd.V_mono HO2_2.out (fun _ hk => ⟨hk.1.1, ⟨hk.2, ⟨hk.1.2.1, ⟨hk.1.2.2.1, ⟨hk.1.2.2.2.1, hk.1.2.2.2.2⟩⟩⟩⟩⟩)), (by (with_reducible repeat (first | apply Kd.N_alloc | apply Kd.N_drewN | apply Kd.N_drew)); exact HO665.out), (by (with_reducible repeat (first | refine ac_ ?_ _ | refine ae_ ?_ | refine ad_ ?_ _)); exact BK657.out), (by (with_reducible repeat (first | refine ac_ ?_ _ | refine ae_ ?_ | refine ad_ ?_ _)); exact BK658.out), (by (with_reducible repeat (first | refine ac_ ?_ _ | refine ae_ ?_ | refine ad_ ?_ _)); exact BK659.out), (by (with_reducible repeat (first | refine ac_ ?_ _ | refine ae_ ?_ | refine ad_ ?_ _)); exact BK666.out), GW666.out, GE666.out, NB657_666.out, NB666_657.out, NB658_666.out, NB666_658.out, NB659_666.out, NB666_659.out, (by repeat (first | (with_reducible first | exact HB.out | apply ai_ | apply ag_ | apply ah_ | refine af_ ?_ GE657.out | refine af_ ?_ GE658.out | refine af_ ?_ GE659.out | refine af_ ?_ GE666.out) | exact HB.out))⟩)
        rintro ⟨v661, v664, gb666⟩ w17 ⟨hS_, h0_, h1_, h2_, h3_, h4_, h5_, h6_, h7_, h8_, h9_, h10_, h11_, h12_, h13_, h14_, h15_⟩
        have n0_ : Aside0 (Kd.V k62 62 w17 w.heap.size (fun k_ => ((P0_2_ k_ ∨ P2_2_ k_) ∨ w.heap.size ≤ k_) ∧ some k_ ≠ (v664 : Value).ownBlock ∧ k_ ≠ gb657 ∧ k_ ≠ gb658 ∧ k_ ≠ gb659 ∧ k_ ≠ gb666) (.slice A0_2 l0_2.length c0_2) l0_2) := ⟨h0_⟩
        have n1_ : Aside0 (Kd.V k62 62 w17 w.heap.size (fun k_ => ((P0_2_ k_ ∨ P2_2_ k_) ∨ w.heap.size ≤ k_) ∧ some k_ ≠ (v664 : Value).ownBlock ∧ k_ ≠ gb657 ∧ k_ ≠ gb658 ∧ k_ ≠ gb659 ∧ k_ ≠ gb666) (.slice A2_2 l2_2.length c2_2) l2_2) := ⟨h1_⟩
        have n2_ : Aside0 (Kd.N k62 62 w17 w.heap.size (fun k_ => ((P0_2_ k_ ∨ P2_2_ k_) ∨ w.heap.size ≤ k_) ∧ k_ ≠ gb657 ∧ k_ ≠ gb658 ∧ k_ ≠ gb659 ∧ k_ ≠ gb666) v664 y663) := ⟨h2_⟩
        have n3_ : Aside0 (w17.heap[gb657]? = some (.cells #[.int .i64 a0_0, .int .i64 a0_1, .slice A0_2 l0_2.length c0_2] 62 (0, 0))) := ⟨h3_⟩
        have n4_ : Aside0 (w17.heap[gb658]? = some (.cells #[.int .i64 a2_0, .int .i64 a2_1, .slice A2_2 l2_2.length c2_2] 62 (0, 0))) := ⟨h4_⟩
        have n5_ : Aside0 (w17.heap[gb659]? = some (.cells #[.int .i64 0, .int .i64 0, .slice none 0 0] 62 (0, 0))) := ⟨h5_⟩
        have n6_ : Aside0 (w17.heap[gb666]? = some (.cells #[.int .i64 0, .int .i64 0, .slice none 0 0] 62 (0, 0))) := ⟨h6_⟩
        have n7_ : Aside0 (w.heap.size ≤ gb666) := ⟨h7_⟩
        have n8_ : Aside0 (w.heap.size ≤ gb666) := ⟨h8_⟩
        have n9_ : Aside0 (gb657 ≠ gb666) := ⟨h9_⟩
        have n10_ : Aside0 (gb666 ≠ gb657) := ⟨h10_⟩
        have n11_ : Aside0 (gb658 ≠ gb666) := ⟨h11_⟩
        have n12_ : Aside0 (gb666 ≠ gb658) := ⟨h12_⟩
        have n13_ : Aside0 (gb659 ≠ gb666) := ⟨h13_⟩
        have n14_ : Aside0 (gb666 ≠ gb659) := ⟨h14_⟩
        have n15_ : Aside0 (Below w.heap.size w w17) := ⟨h15_⟩
        clear HO0_2
        clear HO2_2
        clear BK657
        clear BK658
        clear BK659
        clear HB
        clear h0_ h1_ h2_ h3_ h4_ h5_ h6_ h7_ h8_ h9_ h10_ h11_ h12_ h13_ h14_ h15_
        have HO0_2 := n0_
        have HO2_2 := n1_
        have HO665 := n2_
        have BK657 := n3_
        have BK658 := n4_
        have BK659 := n5_
        have BK666 := n6_
        have GW666 := n7_
        have GE666 := n8_
        have NB657_666 := n9_
        have NB666_657 := n10_
        have NB658_666 := n11_
        have NB666_658 := n12_
        have NB659_666 := n13_
        have NB666_659 := n14_
        have HB := n15_
        clear n0_ n1_ n2_ n3_ n4_ n5_ n6_ n7_ n8_ n9_ n10_ n11_ n12_ n13_ n14_ n15_
        have hHeld : w17.cell? ⟨gb657, 0, none⟩ = some (.int .i64 a0_0) ∧ w17.cell? ⟨gb657, 1, none⟩ = some (.int .i64 a0_1) ∧ w17.cell? ⟨gb657, 2, none⟩ = some (.slice A0_2 l0_2.length c0_2) := hS_
        obtain ⟨Ao18, co18, eo18⟩ := Kd.N_slice HO665.out
        (first | subst eo18 | (injection eo18 with f1_ f2_ f3_; have f4_ := f1_.symm; have f5_ := f3_.symm; clear f1_ f2_ f3_; subst f4_; subst f5_))
        refine norm_ (a' := ?_) ?_ ?_
        rotate_left
        · simp only [putAll, Act.put, List.setIfInBounds_toArray, List.set_cons_zero, List.set_cons_succ]
          rfl
        refine one_ (i := 10) (N := none) #[true, true, true, true, true, true, true, true, true, true, true] rfl rfl (one_of HT_.out (by kernel_rfl)) (by decide) (fun K hK => ?_)
        have hs19 : w17.cell? ⟨gb666, 0, none⟩ = some (.int .i64 0) := (an_ BK666.out 0).trans rfl
        have hfs19 := am_ BK666.out 0
        have hns19_0 := NB657_666.out
        have hns19_1 := NB658_666.out
        have hns19_2 := NB659_666.out
        have hms19_0 := NB666_657.out
        have hms19_1 := NB666_658.out
        have hms19_2 := NB666_659.out
        have hs20 : w17.cell? ⟨gb666, 1, none⟩ = some (.int .i64 0) := (an_ BK666.out 1).trans rfl
        have hfs20 := am_ BK666.out 1
        have hns20_0 := NB657_666.out
        have hns20_1 := NB658_666.out
        have hns20_2 := NB659_666.out
        have hms20_0 := NB666_657.out
        have hms20_1 := NB666_658.out
        have hms20_2 := NB666_659.out
        have hs21 : w17.cell? ⟨gb666, 2, none⟩ = some (.slice none 0 0) := (an_ BK666.out 2).trans rfl
        have hfs21 := am_ BK666.out 2
        have hns21_0 := NB657_666.out
        have hns21_1 := NB658_666.out
        have hns21_2 := NB659_666.out
        have hms21_0 := NB666_657.out
        have hms21_1 := NB666_658.out
        have hms21_2 := NB666_659.out
        refine skip_ (w1 := ?_) (by rfl) rfl ?_ ?_
        rotate_left
        · go_simp
          rfl
        refine hK.out _ _ ⟨((cell_far (p := ⟨gb666, _, none⟩) NB657_666.out _).trans (((cell_far (p := ⟨gb666, _, none⟩) NB657_666.out _).trans (((cell_far (p := ⟨gb666, _, none⟩) NB657_666.out _).trans (hHeld.1)))))), ((cell_far (p := ⟨gb666, _, none⟩) NB657_666.out _).trans (((cell_far (p := ⟨gb666, _, none⟩) NB657_666.out _).trans (((cell_far (p := ⟨gb666, _, none⟩) NB657_666.out _).trans (hHeld.2.1)))))), ((cell_far (p := ⟨gb666, _, none⟩) NB657_666.out _).trans (((cell_far (p := ⟨gb666, _, none⟩) NB657_666.out _).trans (((cell_far (p := ⟨gb666, _, none⟩) NB657_666.out _).trans (hHeld.2.2))))))⟩ (fun hHeld => ?_)
        clear hK K
        refine done_ (done_of HT_.out (by kernel_rfl)) ?_
        have n0_ : Aside0 (Kd.V k62 62 (((w17.setCell ⟨gb666, 0, none⟩ (.int .i64 a0_0)).setCell ⟨gb666, 1, none⟩ (.int .i64 a0_1)).setCell ⟨gb666, 2, none⟩ (.slice Ao18 y663.length co18)) w.heap.size (fun k_ => ((P0_2_ k_ ∨ P2_2_ k_) ∨ w.heap.size ≤ k_) ∧ some k_ ≠ (.slice Ao18 y663.length co18 : Value).ownBlock ∧ k_ ≠ gb657 ∧ k_ ≠ gb658 ∧ k_ ≠ gb659 ∧ k_ ≠ gb666) (.slice A0_2 l0_2.length c0_2) l0_2) := ⟨by (with_reducible repeat (first | apply Kd.V_alloc | apply Kd.V_drewN | apply Kd.V_drew)); exact Kd.V_mono (Kd.V_far (p := ⟨gb666, 2, none⟩) (Kd.V_far (p := ⟨gb666, 1, none⟩) (Kd.V_far (p := ⟨gb666, 0, none⟩) (Kd.V_mono HO0_2.out (fun k_ hk => (⟨hk, hk.2.2.2.2.2⟩ : _ ∧ k_ ≠ gb666))) (fun _ hk => hk.2) (.int .i64 a0_0)) (fun _ hk => hk.2) (.int .i64 a0_1)) (fun _ hk => hk.2) (.slice Ao18 y663.length co18)) (fun _ hk => ⟨hk.1.1, ⟨hk.1.2.1, ⟨hk.1.2.2.1, ⟨hk.1.2.2.2.1, ⟨hk.1.2.2.2.2.1, hk.1.2.2.2.2.2⟩⟩⟩⟩⟩)⟩
        have n1_ : Aside0 (Kd.V k62 62 (((w17.setCell ⟨gb666, 0, none⟩ (.int .i64 a0_0)).setCell ⟨gb666, 1, none⟩ (.int .i64 a0_1)).setCell ⟨gb666, 2, none⟩ (.slice Ao18 y663.length co18)) w.heap.size (fun k_ => ((P0_2_ k_ ∨ P2_2_ k_) ∨ w.heap.size ≤ k_) ∧ some k_ ≠ (.slice Ao18 y663.length co18 : Value).ownBlock ∧ k_ ≠ gb657 ∧ k_ ≠ gb658 ∧ k_ ≠ gb659 ∧ k_ ≠ gb666) (.slice A2_2 l2_2.length c2_2) l2_2) := ⟨by (with_reducible repeat (first | apply Kd.V_alloc | apply Kd.V_drewN | apply Kd.V_drew)); exact Kd.V_mono (Kd.V_far (p := ⟨gb666, 2, none⟩) (Kd.V_far (p := ⟨gb666, 1, none⟩) (Kd.V_far (p := ⟨gb666, 0, none⟩) (Kd.V_mono HO2_2.out (fun k_ hk => (⟨hk, hk.2.2.2.2.2⟩ : _ ∧ k_ ≠ gb666))) (fun _ hk => hk.2) (.int .i64 a0_0)) (fun _ hk => hk.2) (.int .i64 a0_1)) (fun _ hk => hk.2) (.slice Ao18 y663.length co18)) (fun _ hk => ⟨hk.1.1, ⟨hk.1.2.1, ⟨hk.1.2.2.1, ⟨hk.1.2.2.2.1, ⟨hk.1.2.2.2.2.1, hk.1.2.2.2.2.2⟩⟩⟩⟩⟩)⟩
        have n2_ : Aside0 (Kd.N k62 62 (((w17.setCell ⟨gb666, 0, none⟩ (.int .i64 a0_0)).setCell ⟨gb666, 1, none⟩ (.int .i64 a0_1)).setCell ⟨gb666, 2, none⟩ (.slice Ao18 y663.length co18)) w.heap.size (fun k_ => ((P0_2_ k_ ∨ P2_2_ k_) ∨ w.heap.size ≤ k_) ∧ k_ ≠ gb657 ∧ k_ ≠ gb658 ∧ k_ ≠ gb659 ∧ k_ ≠ gb666) (.slice Ao18 y663.length co18) y663) := ⟨by (with_reducible repeat (first | apply Kd.N_alloc | apply Kd.N_drewN | apply Kd.N_drew)); exact Kd.N_mono (Kd.N_far (p := ⟨gb666, 2, none⟩) (Kd.N_far (p := ⟨gb666, 1, none⟩) (Kd.N_far (p := ⟨gb666, 0, none⟩) (Kd.N_mono HO665.out (fun k_ hk => (⟨hk, hk.2.2.2.2⟩ : _ ∧ k_ ≠ gb666))) (fun _ hk => hk.2) (.int .i64 a0_0)) (fun _ hk => hk.2) (.int .i64 a0_1)) (fun _ hk => hk.2) (.slice Ao18 y663.length co18)) (fun _ hk => ⟨hk.1.1, ⟨hk.1.2.1, ⟨hk.1.2.2.1, ⟨hk.1.2.2.2.1, hk.1.2.2.2.2⟩⟩⟩⟩)⟩
        have n3_ : Aside0 ((((w17.setCell ⟨gb666, 0, none⟩ (.int .i64 a0_0)).setCell ⟨gb666, 1, none⟩ (.int .i64 a0_1)).setCell ⟨gb666, 2, none⟩ (.slice Ao18 y663.length co18)).heap[gb657]? = some (.cells #[.int .i64 a0_0, .int .i64 a0_1, .slice A0_2 l0_2.length c0_2] 62 (0, 0))) := ⟨by (with_reducible repeat (first | refine ac_ ?_ _ | refine ae_ ?_ | refine ad_ ?_ _)); refine blk_far ?_ NB657_666.out _; (with_reducible repeat (first | refine ac_ ?_ _ | refine ae_ ?_ | refine ad_ ?_ _)); refine blk_far ?_ NB657_666.out _; (with_reducible repeat (first | refine ac_ ?_ _ | refine ae_ ?_ | refine ad_ ?_ _)); refine blk_far ?_ NB657_666.out _; (with_reducible repeat (first | refine ac_ ?_ _ | refine ae_ ?_ | refine ad_ ?_ _)); exact BK657.out⟩
        have n4_ : Aside0 ((((w17.setCell ⟨gb666, 0, none⟩ (.int .i64 a0_0)).setCell ⟨gb666, 1, none⟩ (.int .i64 a0_1)).setCell ⟨gb666, 2, none⟩ (.slice Ao18 y663.length co18)).heap[gb658]? = some (.cells #[.int .i64 a2_0, .int .i64 a2_1, .slice A2_2 l2_2.length c2_2] 62 (0, 0))) := ⟨by (with_reducible repeat (first | refine ac_ ?_ _ | refine ae_ ?_ | refine ad_ ?_ _)); refine blk_far ?_ NB658_666.out _; (with_reducible repeat (first | refine ac_ ?_ _ | refine ae_ ?_ | refine ad_ ?_ _)); refine blk_far ?_ NB658_666.out _; (with_reducible repeat (first | refine ac_ ?_ _ | refine ae_ ?_ | refine ad_ ?_ _)); refine blk_far ?_ NB658_666.out _; (with_reducible repeat (first | refine ac_ ?_ _ | refine ae_ ?_ | refine ad_ ?_ _)); exact BK658.out⟩
        have n5_ : Aside0 ((((w17.setCell ⟨gb666, 0, none⟩ (.int .i64 a0_0)).setCell ⟨gb666, 1, none⟩ (.int .i64 a0_1)).setCell ⟨gb666, 2, none⟩ (.slice Ao18 y663.length co18)).heap[gb659]? = some (.cells #[.int .i64 0, .int .i64 0, .slice none 0 0] 62 (0, 0))) := ⟨by (with_reducible repeat (first | refine ac_ ?_ _ | refine ae_ ?_ | refine ad_ ?_ _)); refine blk_far ?_ NB659_666.out _; (with_reducible repeat (first | refine ac_ ?_ _ | refine ae_ ?_ | refine ad_ ?_ _)); refine blk_far ?_ NB659_666.out _; (with_reducible repeat (first | refine ac_ ?_ _ | refine ae_ ?_ | refine ad_ ?_ _)); refine blk_far ?_ NB659_666.out _; (with_reducible repeat (first | refine ac_ ?_ _ | refine ae_ ?_ | refine ad_ ?_ _)); exact BK659.out⟩
        have n6_ : Aside0 ((((w17.setCell ⟨gb666, 0, none⟩ (.int .i64 a0_0)).setCell ⟨gb666, 1, none⟩ (.int .i64 a0_1)).setCell ⟨gb666, 2, none⟩ (.slice Ao18 y663.length co18)).heap[gb666]? = some (.cells #[.int .i64 a0_0, .int .i64 a0_1, .slice Ao18 y663.length co18] 62 (0, 0))) := ⟨by (with_reducible repeat (first | refine ac_ ?_ _ | refine ae_ ?_ | refine ad_ ?_ _)); refine blk_put (cs := #[.int .i64 a0_0, .int .i64 a0_1, .slice none 0 0]) ?_ 2 _ rfl; (with_reducible repeat (first | refine ac_ ?_ _ | refine ae_ ?_ | refine ad_ ?_ _)); refine blk_put (cs := #[.int .i64 a0_0, .int .i64 0, .slice none 0 0]) ?_ 1 _ rfl; (with_reducible repeat (first | refine ac_ ?_ _ | refine ae_ ?_ | refine ad_ ?_ _)); refine blk_put (cs := #[.int .i64 0, .int .i64 0, .slice none 0 0]) ?_ 0 _ rfl; (with_reducible repeat (first | refine ac_ ?_ _ | refine ae_ ?_ | refine ad_ ?_ _)); exact BK666.out⟩
        have n7_ : Aside0 (Below w.heap.size w (((w17.setCell ⟨gb666, 0, none⟩ (.int .i64 a0_0)).setCell ⟨gb666, 1, none⟩ (.int .i64 a0_1)).setCell ⟨gb666, 2, none⟩ (.slice Ao18 y663.length co18))) := ⟨by repeat (first | (with_reducible first | exact HB.out | apply ai_ | apply ag_ | apply ah_ | refine af_ ?_ GE657.out | refine af_ ?_ GE658.out | refine af_ ?_ GE659.out | refine af_ ?_ GE666.out) | exact HB.out)⟩
        (try clear HO0_2)
        (try clear HO2_2)
        (try clear HO665)
        (try clear BK657)
        (try clear BK658)
        (try clear BK659)
        (try clear BK666)
        (try clear HB)
        generalize (((w17.setCell ⟨gb666, 0, none⟩ (.int .i64 a0_0)).setCell ⟨gb666, 1, none⟩ (.int .i64 a0_1)).setCell ⟨gb666, 2, none⟩ (.slice Ao18 y663.length co18)) = w22 at n0_ n1_ n2_ n3_ n4_ n5_ n6_ n7_ ⊢
        have HO0_2 := n0_
        have HO2_2 := n1_
        have HO665 := n2_
        have BK657 := n3_
        have BK658 := n4_
        have BK659 := n5_
        have BK666 := n6_
        have HB := n7_
        clear n0_ n1_ n2_ n3_ n4_ n5_ n6_ n7_
        have hnb23 := NB666_657.out
        have hnc23 := NB657_666.out
        have hnb24 := NB666_658.out
        have hnc24 := NB658_666.out
        have hnb25 := NB666_659.out
        have hnc25 := NB659_666.out
        have hcz26_0 : w22.cell? ⟨gb666, 0, none⟩ = some (.int .i64 a0_0) := (an_ BK666.out 0).trans rfl
        have hcz26_1 : w22.cell? ⟨gb666, 1, none⟩ = some (.int .i64 a0_1) := (an_ BK666.out 1).trans rfl
        have hcz26_2 : w22.cell? ⟨gb666, 2, none⟩ = some (.slice Ao18 y663.length co18) := (an_ BK666.out 2).trans rfl
        have hfz26_0 := am_ BK666.out 0
        have hfz26_1 := am_ BK666.out 1
        have hfz26_2 := am_ BK666.out 2
        have hnb27 := NB658_657.out
        have hnc27 := NB657_658.out
        have hnb28 := NB658_659.out
        have hnc28 := NB659_658.out
        have hcz29_0 : w22.cell? ⟨gb658, 0, none⟩ = some (.int .i64 a2_0) := (an_ BK658.out 0).trans rfl
        have hcz29_1 : w22.cell? ⟨gb658, 1, none⟩ = some (.int .i64 a2_1) := (an_ BK658.out 1).trans rfl
        have hcz29_2 : w22.cell? ⟨gb658, 2, none⟩ = some (.slice A2_2 l2_2.length c2_2) := (an_ BK658.out 2).trans rfl
        have hfz29_0 := am_ BK658.out 0
        have hfz29_1 := am_ BK658.out 1
        have hfz29_2 := am_ BK658.out 2
        have p7 : 0 ≤ (a1 : Int) := of_decide_eq_true (by first | (with_reducible assumption) | assumption)
        have q7 : (a1 : Int) < ((y663.length : Int) : Int) := of_decide_eq_true (by first | (with_reducible assumption) | assumption)
        obtain ⟨go7, co7, eo7, gb7, gl7, cl7, HG7⟩ := Kd.N_form HO665.out (by omega)
        (first | cases eo7 | (injection eo7 with ea_ en_ ec_; (first | subst ea_ | (injection ea_ with ea_; subst ea_)); subst ec_; clear en_))
        have GB7 := ab_ gb7
        have GG7 := ab_ HG7
        clear gb7 gl7 HG7
        obtain ⟨ce7, hcl7, hM7, hcc7, hfr7⟩ := Kd.N_elem HO665.out z62 (a1 : Int) p7 q7
        obtain ⟨ua7_2, uc7_2, rfl, ul7_2, ge7_2⟩ := k62_openF hM7
        have hx7_0 : w22.cell? ⟨go7, (a1 : Int).toNat * 3, none⟩ = some (.int .i64 ((rd_T62 y663 a1).f0)) := hcc7 0 _ rfl
        have hx7_1 : w22.cell? ⟨go7, (a1 : Int).toNat * 3 + 1, none⟩ = some (.int .i64 ((rd_T62 y663 a1).f1)) := hcc7 1 _ rfl
        have hx7_2 : w22.cell? ⟨go7, (a1 : Int).toNat * 3 + 2, none⟩ = some (.slice ua7_2 ((rd_T62 y663 a1).f2).length uc7_2) := hcc7 2 _ rfl
        have hf7_0 : w22.frozen? ⟨go7, (a1 : Int).toNat * 3, none⟩ = false := hfr7 0
        have hf7_1 : w22.frozen? ⟨go7, (a1 : Int).toNat * 3 + 1, none⟩ = false := hfr7 1
        have hf7_2 : w22.frozen? ⟨go7, (a1 : Int).toNat * 3 + 2, none⟩ = false := hfr7 2
        (try clear hcl7); (try clear hcc7); (try clear hfr7); (try clear hM7)
        replace p7 := eq_true p7
        replace q7 := eq_true q7
        have HX30 := ab_ (show Kd.N k62 62 w22 w.heap.size (fun k_ => ((P0_2_ k_ ∨ P2_2_ k_) ∨ w.heap.size ≤ k_) ∧ k_ ≠ gb657 ∧ k_ ≠ gb658 ∧ k_ ≠ gb659 ∧ k_ ≠ gb666) (.slice (some ⟨go7, 0, none⟩) y663.length co18) y663 from (by (with_reducible repeat (first | apply Kd.N_alloc | apply Kd.N_drewN | apply Kd.N_drew)); exact HO665.out))
        obtain ⟨ce30, hcl30, hM30, hcc30, hfr30⟩ := Kd.N_elem HX30.out z62 (a1 : Int) (of_decide_eq_true (by first | (with_reducible assumption) | assumption)) (by have h_ : (a1 : Int) < ((y663.length : Int) : Int) := of_decide_eq_true (by first | (with_reducible assumption) | assumption); first | exact h_ | (have e_ := (Kd.N_reads' HO665.out).1; omega) | simpa using h_)
        obtain ⟨ua30_2, uc30_2, rfl, ul30_2, ge30_2⟩ := k62_openF hM30
        have HP30 := Kd.N_seg HX30.out (a1 : Int) (of_decide_eq_true (by first | (with_reducible assumption) | assumption)) (by have h_ : (a1 : Int) < ((y663.length : Int) : Int) := of_decide_eq_true (by first | (with_reducible assumption) | assumption); first | exact h_ | (have e_ := (Kd.N_reads' HO665.out).1; omega) | simpa using h_) (seg := [.int .i64 a2_0, .int .i64 a2_1, .slice A2_2 l2_2.length c2_2]) (j := 0) hcl30 hcc30 (show 3 ≤ 3 from by decide) (x' := (⟨a2_0, a2_1, l2_2⟩ : S62)) (k62_mkF _ _ (⟨a2_0, a2_1, l2_2⟩ : S62) (Kd.V_reads' (Kd.V_mono (ok' := (fun k_ => ((fun k_ => ((P0_2_ k_ ∨ P2_2_ k_) ∨ w.heap.size ≤ k_) ∧ k_ ≠ gb657 ∧ k_ ≠ gb658 ∧ k_ ≠ gb659 ∧ k_ ≠ gb666)) k_ ∧ k_ ≠ go7)) (HO2_2.out) (fun k_ hk => ⟨⟨hk.1, ⟨hk.2.2.1, ⟨hk.2.2.2.1, ⟨hk.2.2.2.2.1, hk.2.2.2.2.2⟩⟩⟩⟩, fun e_ => (hk.2.1) (by rw [e_]; rfl)⟩))).2.1 (Kd.V_F (Kd.V_mono (ok' := (fun k_ => ((fun k_ => ((P0_2_ k_ ∨ P2_2_ k_) ∨ w.heap.size ≤ k_) ∧ k_ ≠ gb657 ∧ k_ ≠ gb658 ∧ k_ ≠ gb659 ∧ k_ ≠ gb666)) k_ ∧ k_ ≠ go7)) (HO2_2.out) (fun k_ hk => ⟨⟨hk.1, ⟨hk.2.2.1, ⟨hk.2.2.2.1, ⟨hk.2.2.2.2.1, hk.2.2.2.2.2⟩⟩⟩⟩, fun e_ => (hk.2.1) (by rw [e_]; rfl)⟩)))) (fun _ hk => hk)
        have hx30_0 := hcc30 0 _ rfl
        (try simp only [show (k62).sz = 3 from rfl, Nat.mul_one, Nat.add_zero] at hx30_0)
        have hf30_0 := hfr30 0
        (try simp only [show (k62).sz = 3 from rfl, Nat.mul_one, Nat.add_zero] at hf30_0)
        have hx30_1 := hcc30 1 _ rfl
        (try simp only [show (k62).sz = 3 from rfl, Nat.mul_one, Nat.add_zero] at hx30_1)
        have hf30_1 := hfr30 1
        (try simp only [show (k62).sz = 3 from rfl, Nat.mul_one, Nat.add_zero] at hf30_1)
        have hx30_2 := hcc30 2 _ rfl
        (try simp only [show (k62).sz = 3 from rfl, Nat.mul_one, Nat.add_zero] at hx30_2)
        have hf30_2 := hfr30 2
        (try simp only [show (k62).sz = 3 from rfl, Nat.mul_one, Nat.add_zero] at hf30_2)
        (try clear hcl30); (try clear hcc30); (try clear hfr30); (try clear hM30)
        try go_wp2_with (first | ((with_reducible refine gate_store (t := 62) (p := 21) rfl ?_); refine store_event (t := 62) (p := 21) (v := ?vo_w31) (w1 := (((w22.setCell ⟨go7, (a1 : Int).toNat * 3, none⟩ (.int .i64 a2_0)).setCell ⟨go7, (a1 : Int).toNat * 3 + 1, none⟩ (.int .i64 a2_1)).setCell ⟨go7, (a1 : Int).toNat * 3 + 2, none⟩ (.slice A2_2 l2_2.length c2_2))) ?hg ?ho ?hn ?hr ?_; (case ho => rfl); (case hg => rfl); (case hn => rfl); (case hr => first | (go_simp; done) | (go_simp; rfl)); intro w31 hw; have hg : w22.grownBy w31 (some go7) := (by rw [hw]; exact HP30.2); have hp_ : Kd.N k62 62 w31 w.heap.size (fun k_ => ((P0_2_ k_ ∨ P2_2_ k_) ∨ w.heap.size ≤ k_) ∧ k_ ≠ gb657 ∧ k_ ≠ gb658 ∧ k_ ≠ gb659 ∧ k_ ≠ gb666) (.slice (some ⟨go7, 0, none⟩) y663.length co18) y667 := (by rw [hw, Ny667.out]; exact HP30.1); clear HP30; have n0_ := ab_ (Kd.V_afterv (v := (.slice (some ⟨go7, 0, none⟩) y663.length co18)) (v1 := (.slice (some ⟨go7, 0, none⟩) y663.length co18)) (ok := (fun k_ => ((P0_2_ k_ ∨ P2_2_ k_) ∨ w.heap.size ≤ k_) ∧ k_ ≠ gb657 ∧ k_ ≠ gb658 ∧ k_ ≠ gb659 ∧ k_ ≠ gb666)) (by (with_reducible repeat (first | apply Kd.V_alloc | apply Kd.V_drewN | apply Kd.V_drew)); exact Kd.V_mono HO0_2.out (fun _ hk => ⟨⟨hk.1, ⟨hk.2.2.1, ⟨hk.2.2.2.1, ⟨hk.2.2.2.2.1, hk.2.2.2.2.2⟩⟩⟩⟩, hk.2.1⟩)) hg (.inl rfl)); have n1_ := ab_ (Kd.V_afterv (v := (.slice (some ⟨go7, 0, none⟩) y663.length co18)) (v1 := (.slice (some ⟨go7, 0, none⟩) y663.length co18)) (ok := (fun k_ => ((P0_2_ k_ ∨ P2_2_ k_) ∨ w.heap.size ≤ k_) ∧ k_ ≠ gb657 ∧ k_ ≠ gb658 ∧ k_ ≠ gb659 ∧ k_ ≠ gb666)) (by (with_reducible repeat (first | apply Kd.V_alloc | apply Kd.V_drewN | apply Kd.V_drew)); exact Kd.V_mono HO2_2.out (fun _ hk => ⟨⟨hk.1, ⟨hk.2.2.1, ⟨hk.2.2.2.1, ⟨hk.2.2.2.2.1, hk.2.2.2.2.2⟩⟩⟩⟩, hk.2.1⟩)) hg (.inl rfl)); have n2_ := ab_ (blk_grown (g := gb657) (o := .cells #[.int .i64 a0_0, .int .i64 a0_1, .slice A0_2 l0_2.length c0_2] 62 (0, 0)) (by (with_reducible repeat (first | refine ac_ ?_ _ | refine ae_ ?_ | refine ad_ ?_ _)); exact BK657.out) hg (Kd.N_away HO665.out (fun _ hk => hk.2.1))); have n3_ := ab_ (blk_grown (g := gb658) (o := .cells #[.int .i64 a2_0, .int .i64 a2_1, .slice A2_2 l2_2.length c2_2] 62 (0, 0)) (by (with_reducible repeat (first | refine ac_ ?_ _ | refine ae_ ?_ | refine ad_ ?_ _)); exact BK658.out) hg (Kd.N_away HO665.out (fun _ hk => hk.2.2.1))); have n4_ := ab_ (blk_grown (g := gb659) (o := .cells #[.int .i64 0, .int .i64 0, .slice none 0 0] 62 (0, 0)) (by (with_reducible repeat (first | refine ac_ ?_ _ | refine ae_ ?_ | refine ad_ ?_ _)); exact BK659.out) hg (Kd.N_away HO665.out (fun _ hk => hk.2.2.2.1))); have n5_ := ab_ (hp_); have n6_ := ab_ (blk_grown (g := gb666) (o := .cells #[.int .i64 a0_0, .int .i64 a0_1, .slice (some ⟨go7, 0, none⟩) y663.length co18] 62 (0, 0)) (by (with_reducible repeat (first | refine ac_ ?_ _ | refine ae_ ?_ | refine ad_ ?_ _)); exact BK666.out) hg (Kd.N_away HO665.out (fun _ hk => hk.2.2.2.2))); have n7_ := ab_ ((by rw [hw]; exact af_ (af_ (af_ (HB.out) GB7.out) GB7.out) GB7.out : Below w.heap.size w w31)); clear HO0_2; clear HO2_2; clear BK657; clear BK658; clear BK659; clear HO665; clear BK666; clear HB; have HO0_2 := n0_; have HO2_2 := n1_; have BK657 := n2_; have BK658 := n3_; have BK659 := n4_; have HO665 := n5_; have BK666 := n6_; have HB := n7_; clear n0_ n1_ n2_ n3_ n4_ n5_ n6_ n7_; clear hg hw hp_; have hcz32_0 : w31.cell? ⟨gb666, 0, none⟩ = some (.int .i64 a0_0) := (an_ BK666.out 0).trans rfl; have hcz32_1 : w31.cell? ⟨gb666, 1, none⟩ = some (.int .i64 a0_1) := (an_ BK666.out 1).trans rfl; have hcz32_2 : w31.cell? ⟨gb666, 2, none⟩ = some (.slice (some ⟨go7, 0, none⟩) y663.length co18) := (an_ BK666.out 2).trans rfl; have hfz32_0 := am_ BK666.out 0; have hfz32_1 := am_ BK666.out 1; have hfz32_2 := am_ BK666.out 2; have hnb33 := NB659_657.out; have hnc33 := NB657_659.out; have hcz34_0 : w31.cell? ⟨gb659, 0, none⟩ = some (.int .i64 0) := (an_ BK659.out 0).trans rfl; have hcz34_1 : w31.cell? ⟨gb659, 1, none⟩ = some (.int .i64 0) := (an_ BK659.out 1).trans rfl; have hcz34_2 : w31.cell? ⟨gb659, 2, none⟩ = some (.slice none 0 0) := (an_ BK659.out 2).trans rfl; have hfz34_0 := am_ BK659.out 0; have hfz34_1 := am_ BK659.out 1; have hfz34_2 := am_ BK659.out 2))
        refine bodyPost_ret (results_cell_row rfl _ _ gb659 62 #[.int .i64 a0_0, .int .i64 a0_1, .slice (some ⟨go7, 0, none⟩) y663.length co18] (0, 0) _ rfl (by (with_reducible repeat (first | refine ac_ ?_ _ | refine ae_ ?_ | refine ad_ ?_ _)); refine blk_put (cs := #[.int .i64 a0_0, .int .i64 a0_1, .slice none 0 0]) ?_ 2 _ rfl; (with_reducible repeat (first | refine ac_ ?_ _ | refine ae_ ?_ | refine ad_ ?_ _)); refine blk_put (cs := #[.int .i64 a0_0, .int .i64 0, .slice none 0 0]) ?_ 1 _ rfl; (with_reducible repeat (first | refine ac_ ?_ _ | refine ae_ ?_ | refine ad_ ?_ _)); refine blk_put (cs := #[.int .i64 0, .int .i64 0, .slice none 0 0]) ?_ 0 _ rfl; (with_reducible repeat (first | refine ac_ ?_ _ | refine ae_ ?_ | refine ad_ ?_ _)); exact BK659.out) Try.underlying62 rfl (by kernel_rfl)) rfl ?_
        exact ⟨_, by first | rfl | (simp [errW_none, errW_some] <;> rfl) | (simp [*, errW_none, errW_some] <;> rfl), by (with_reducible repeat (first | apply Kd.N_alloc | apply Kd.N_drewN | apply Kd.N_drew)); exact Kd.N_mono (Kd.N_far (p := ⟨gb659, 2, none⟩) (Kd.N_far (p := ⟨gb659, 1, none⟩) (Kd.N_far (p := ⟨gb659, 0, none⟩) (Kd.N_mono HO665.out (fun k_ hk => (⟨hk, hk.2.2.2.1⟩ : _ ∧ k_ ≠ gb659))) (fun _ hk => hk.2) (.int .i64 a0_0)) (fun _ hk => hk.2) (.int .i64 a0_1)) (fun _ hk => hk.2) (.slice (some ⟨go7, 0, none⟩) y663.length co18)) (fun _ hk => hk.1.1), by repeat (first | (with_reducible first | exact HB.out | apply ai_ | apply ag_ | apply ah_ | refine af_ ?_ GE657.out | refine af_ ?_ GE658.out | refine af_ ?_ GE659.out | refine af_ ?_ GE666.out) | exact HB.out)⟩
      · rw [if_neg c6] at H
        exact absurd H (by simp)
    · rw [if_neg c5] at H
      exact absurd H (by simp)
  · rw [if_neg c4] at H
    exact absurd H (by simp)
end Go.Proofs.Ytgoiifpimpnlpaa.PAll

end

section
namespace Go.Proofs.Ytgoiifpimpnlpaa.PAll
open Go.RowKit Go.Proofs.YtgoiifpimpnlpaaW.PrintWords Go.Proofs.YtgoiifpimpnlpaaW.PrintLast Go.Proofs.YtgoiifpimpnlpaaW.PrintMore
set_option linter.unusedVariables false
set_option linter.unusedSimpArgs false
def l4in (a0 a1 : Int) (l : List S62) (i : Int) : List S62 → List S62 → Option (List S62)
  | [], acc => some acc
  | y :: ys, acc => (spec_l4With.f a0 a1 l i y.f0 y.f1 y.f2).bind fun t => if acc.length < 1000000000 then l4in a0 a1 l i ys (acc ++ [⟨t.1, t.2.1, t.2.2⟩]) else none
def l4lp (f : Int → Int → List S62 → Option (List S62 × Bool)) (a0 a1 : Int) (l : List S62) : Nat → List S62 → List S62 → Option (List S62 × Bool)
  | _, [], acc => some (acc, true)
  | i, x :: xs, acc => (f x.f0 x.f1 x.f2).bind fun r => if r.2 = true then (if r.1.length < 1000000000 then (l4in a0 a1 l (i : Int) r.1 acc).bind fun acc' => l4lp f a0 a1 l (i + 1) xs acc' else none) else some ([], false)
def l4st : Nat → Int → Int → List S62 → Option (List S62 × Bool)
  | 0, _, _, _ => none
  | k + 1, a0, a1, l => if l.length ≤ 1000 then (spec_l4Is.f a0 a1 l).bind fun b => if b = true then (spec_l4Contract.f k a0 a1 l).bind fun c => if c.2.2.2 = true then l4lp (l4st k) a0 a1 l 0 l [⟨c.1, c.2.1, c.2.2.1⟩] else some ([], false) else l4lp (l4st k) a0 a1 l 0 l [] else none
abbrev T0 (P : Nat → Prop) (n : Nat) : Nat → Prop := fun k => P k ∧ k < n
def OutR (P : Nat → Prop) (n : Nat) (W : World) (v : Value) (acc : List S62) : Prop := Kd.N k62 62 W n (fun k => T0 P n k ∨ n < k) v acc ∧ ∀ k, v.ownBlock = some k → n < k
def InR (P : Nat → Prop) (n a b : Nat) (W : World) (v : Value) (L : List S62) : Prop := Kd.V k62 62 W n (fun k => T0 P n k ∨ (a ≤ k ∧ k < b)) v L
theorem OutR.below {P : Nat → Prop} {n : Nat} {W W1 : World} {v : Value} {acc : List S62} (h : OutR P n W v acc) (hb : Below W.heap.size W W1) : OutR P n W1 v acc := ⟨Kd.N_below h.1 hb, h.2⟩
theorem InR.below {P : Nat → Prop} {n a b : Nat} {W W1 : World} {v : Value} {L : List S62} (h : InR P n a b W v L) (hb : Below W.heap.size W W1) : InR P n a b W1 v L := Kd.V_below h hb
end Go.Proofs.Ytgoiifpimpnlpaa.PAll

end

section
namespace Go.Proofs.Ytgoiifpimpnlpaa.PAll
open Go.RowKit Go.Proofs.YtgoiifpimpnlpaaW.PrintWords Go.Proofs.YtgoiifpimpnlpaaW.PrintLast Go.Proofs.YtgoiifpimpnlpaaW.PrintMore
set_option linter.unusedVariables false
set_option linter.unusedSimpArgs false
def L4Post (P : Nat → Prop) (r1 : List S62) (r2 : Bool) (w : World) (e : Ending) (w' : World) : Prop := ∃ v0_ : Value, e = .returned (.tuple #[v0_, .bool r2]) ∧ Kd.N k62 62 w' w.heap.size (fun k_ => (P k_ ∨ w.heap.size ≤ k_)) v0_ r1 ∧ Below w.heap.size w w'
def L4IH (k : Nat) : Prop := ∀ (a0 a1 : Int) (P : Nat → Prop) (A : Option Addr) (c : Nat) (l : List S62) (r1 : List S62) (r2 : Bool) (w : World), Kd.V k62 62 w w.heap.size (fun k_ => P k_) (.slice A l.length c) l → l4st k a0 a1 l = some (r1, r2) →
  Calls Try.prog 72 #[.agg #[.int .i64 a0, .int .i64 a1, .slice A l.length c]] w (L4Post P r1 r2 w)
theorem V_base {e e' n n' : Nat} {W : World} {T : Nat → Prop} {v : Value} {l : List S62} (h : Kd.V k62 e W n T v l) : Kd.V k62 e' W n' T v l := h
theorem part4 {n : Nat} {W : World} {T : Nat → Prop} {A : Option Addr} {c : Nat} {l : List S62} (h : Kd.V k62 62 W n T (.slice A l.length c) l) (i : Nat) (hi : i < l.length) :
    ∃ ad A2 c2, A = some ad ∧ W.cell? (ad.add (i * 3)) = some (.int .i64 (rd_T62 l (i : Int)).f0) ∧ W.cell? ⟨(ad.add (i * 3)).block, (ad.add (i * 3)).off + 1, none⟩ = some (.int .i64 (rd_T62 l (i : Int)).f1) ∧ W.cell? ⟨(ad.add (i * 3)).block, (ad.add (i * 3)).off + 2, none⟩ = some (.slice A2 (rd_T62 l (i : Int)).f2.length c2) ∧ Kd.V k62 62 W n T (.slice A2 (rd_T62 l (i : Int)).f2.length c2) (rd_T62 l (i : Int)).f2 := by
  obtain ⟨ad, A2, c2, rfl, p0, p1, p2, l2, g2⟩ := at_T62 ((Kd.V_reads' h).2.2) (i : Int) (by omega) (by omega)
  obtain ⟨cs, hcs, hFK, hcc⟩ := Kd.V_get h z62 (i : Int) (by omega) (by omega)
  obtain ⟨A3, c3, rfl, l3, hF⟩ := k62_openF hFK
  rw [Int.toNat_natCast] at p0 p1 p2 hcc
  refine ⟨ad, A3, c3, rfl, hcc 0 _ rfl, ?_, ?_, Kd.V_mk l3 hF⟩
  · rw [← add_field _ _ 1 (by omega)]; exact hcc 1 _ rfl
  · rw [← add_field _ _ 2 (by omega)]; exact hcc 2 _ rfl
theorem rd62_drop' (l : List S62) (i : Nat) (h : i < l.length) : l.drop i = rd_T62 l (i : Int) :: l.drop (i + 1) := by
  rw [List.drop_eq_getElem_cons h]; simp [rd_T62, List.getD_eq_getElem?_getD, List.getElem?_eq_getElem h]
def O4 (k : Nat) (a0 a1 : Int) (P : Nat → Prop) (A : Option Addr) (c : Nat) (l r1 : List S62) (r2 : Bool) (w : World) (i : Nat) (v : Value) (wr : World) : Prop :=
  ∃ acc, OutR P w.heap.size wr v acc ∧ Below w.heap.size w wr ∧ wr.heap[w.heap.size]? = some (.cells #[.int .i64 a0, .int .i64 a1, .slice A l.length c] 62 (0, 0)) ∧ l4lp (l4st k) a0 a1 l i (l.drop i) acc = some (r1, r2)
def I4 (a0 a1 : Int) (P : Nat → Prop) (A : Option Addr) (c : Nat) (l L acc2 : List S62) (w : World) (a b i j : Nat) (v v9 : Value) (wr : World) : Prop :=
  ∃ acc, OutR P w.heap.size wr v acc ∧ (∀ k, v.ownBlock = some k → k < a ∨ b ≤ k) ∧ b ≤ wr.heap.size ∧ InR P w.heap.size a b wr v9 L ∧ Below w.heap.size w wr ∧ wr.heap[w.heap.size]? = some (.cells #[.int .i64 a0, .int .i64 a1, .slice A l.length c] 62 (0, 0)) ∧ l4in a0 a1 l (i : Int) (L.drop j) acc = some acc2
set_option maxHeartbeats 4000000 in
set_option maxRecDepth 100000 in
theorem l4st_calls (k : Nat) : L4IH k := by
  induction k with
  | zero => intro a0 a1 P A c l r1 r2 w _ h; simp [l4st] at h
  | succ k ih =>
    intro a0 a1 P A c l r1 r2 w hV h
    simp only [l4st] at h
    have hl : l.length ≤ 1000 := by
      split at h
      · assumption
      · cases h
    rw [if_pos hl] at h
    obtain ⟨b, hb, h⟩ := Option.bind_eq_some_iff.mp h
    have hC := (Kd.V_reads' hV).2.2
    have hc := (Kd.V_reads' hV).2.1
    have HV := Lib.hid hV
    have HC := Lib.hid hC
    have HBQ := Lib.hid hb
    have IH := Lib.hid ih
    clear hV hC hb ih
    cases b with
    | false =>
      rw [if_neg (by simp)] at h
      have H := Lib.hid h
      clear h
      go_enter Try.func72, Try.ntmps72
      go_wp2_with (go_at_call 96; refine (spec_l4Is.calls a0 a1 A c l false _ (Kd.C_below HC.out (by repeat (first | exact aq_ _ _ | apply ai_))) hc HBQ.out).mono ?_; rintro e w1 ⟨rfl, hb1⟩; have hbx : w1.heap[w.heap.size]? = some (.cells #[.int .i64 a0, .int .i64 a1, .slice A l.length c] 62 (0, 0)) := (hb1.block _ (by simp)).trans (blk_new w _); have bx2 : w1.cell? ⟨w.heap.size, 2, none⟩ = some (.slice A l.length c) := (an_ hbx 2).trans rfl; have HB1 := Lib.hid (ap_ (ai_ (aq_ w.heap.size w) _) hb1); have HBX := Lib.hid hbx; clear hb1 hbx)
      have HST := Lib.hid (show O4 k a0 a1 P A c l r1 r2 w 0 (.slice none 0 0) w1 from ⟨[], ⟨Kd.N_nil _ _ _ _ _, fun k hk => by simp [Value.ownBlock] at hk⟩, HB1.out, HBX.out, H.out⟩)
      clear bx2
      go_loopw [4, 7, 8, 9, 10, 12, 29] (fun v4 v7 v8 v9 v10 v12 v29 wr => ∃ i : Nat, i ≤ l.length ∧ v29 = .int .i64 i ∧ O4 k a0 a1 P A c l r1 r2 w i v4 wr) (fun _ _ _ _ _ _ v29 _ => l.length - (intOf v29).toNat)
      case atStart => exact ⟨0, Nat.zero_le _, rfl, HST.out⟩
      case round =>
        obtain ⟨i, hi, rfl, acc, hO, hB, hbx, hlp⟩ := hrel
        clear HST
        have hVr : Kd.V k62 62 wr w.heap.size (T0 P w.heap.size) (.slice A l.length c) l := Kd.V_old HV.out hB
        have HO := Lib.hid hO
        have HBW := Lib.hid hB
        have HBX2 := Lib.hid hbx
        clear hO hB
        by_cases hlt : i < l.length
        · obtain ⟨ad, A2, c2, hA, f0, f1, f2, hV2⟩ := part4 hVr i hlt
          subst hA
          rw [rd62_drop' l i hlt] at hlp
          simp only [l4lp] at hlp
          obtain ⟨⟨L, b2⟩, hq, hlp⟩ := Option.bind_eq_some_iff.mp hlp
          have C := Lib.hid (fun (W : World) (hb : Below wr.heap.size wr W) => IH.out _ _ (T0 P w.heap.size) A2 c2 _ L b2 W (V_base (Kd.V_below hV2 hb)) hq)
          have HLP := Lib.hid hlp
          clear hV2 hq hlp hbx
          cases b2 with
          | false =>
            go_wp2_with fail
            refine (C.out _ (ai_ (aq_ _ _) _)).mono ?_
            rintro e w2 ⟨v9, rfl, hN, hb2⟩
            have HB2 := Lib.hid (ap_ (ai_ (aq_ wr.heap.size wr) _) hb2)
            have hr := HLP.out
            simp at hr
            obtain ⟨rfl, rfl⟩ := hr
            clear hN hb2
            go_wp2
            go_ret2
            exact ⟨_, rfl, Kd.N_nil _ _ _ _ _, below_then HBW.out HBW.out.size HB2.out⟩
          | true =>
            go_wp2_with fail
            refine (C.out _ (ai_ (aq_ _ _) _)).mono ?_
            rintro e w2 ⟨v9, rfl, hN, hb2⟩
            obtain ⟨A9, c9, hv9⟩ := Kd.N_slice hN
            subst hv9
            have hlp2 := HLP.out
            rw [if_pos trivial] at hlp2
            have hL : L.length < 1000000000 := by
              split at hlp2
              · assumption
              · cases hlp2
            rw [if_pos hL] at hlp2
            obtain ⟨acc2, hin, hrest⟩ := Option.bind_eq_some_iff.mp hlp2
            have hB2 : Below wr.heap.size wr w2 := ap_ (ai_ (aq_ wr.heap.size wr) _) hb2
            have HST := Lib.hid (show I4 a0 a1 P (some ad) c l L acc2 w (wr.heap.size + 1) w2.heap.size i 0 _ (.slice A9 L.length c9) w2 from
              ⟨acc, HO.out.below hB2, fun x hx => .inl (by have := Kd.N_lt HO.out.1 x hx; omega), Nat.le_refl _, Kd.V_mono (Kd.N_V (Kd.N_bound hN)) (fun x hx => hx.1.elim .inl (fun h => .inr ⟨by simpa using h, hx.2⟩)), below_then HBW.out HBW.out.size hB2, (hB2.block _ (blk_lt HBX2.out)).trans HBX2.out, hin⟩)
            have HREST := Lib.hid hrest
            have haw : w.heap.size < wr.heap.size + 1 := by have := HBW.out.size; omega
            have hw2s : wr.heap.size + 1 ≤ w2.heap.size := by have := hb2.size; simpa using this
            generalize hna : wr.heap.size + 1 = na at HST haw hw2s
            clear hN hb2 hB2 hin hrest hlp2 HLP C hna
            go_wp2
            go_loopw [4, 12, 43] (fun v4 v12 v43 wi => ∃ j : Nat, j ≤ L.length ∧ v43 = .int .i64 j ∧ I4 a0 a1 P (some ad) c l L acc2 w na w2.heap.size i j v4 (.slice A9 L.length c9) wi) (fun _ _ v43 _ => L.length - (intOf v43).toNat)
            case atStart => exact ⟨0, Nat.zero_le _, rfl, HST.out⟩
            case round =>
              obtain ⟨j, hj, rfl, acc1, hO1, hown, hbsz, hIn, hB1, hbx1, hin1⟩ := hrel
              clear HST
              by_cases hjl : j < L.length
              · obtain ⟨ad9, A3, c3, hA9, e0, e1, e2, hV3⟩ := part4 hIn j hjl
                subst hA9
                rw [rd62_drop' L j hjl] at hin1
                simp only [l4in] at hin1
                obtain ⟨⟨t1, t2, t3⟩, hw4, hin1⟩ := Option.bind_eq_some_iff.mp hin1
                have hacc : acc1.length < 1000000000 := by
                  split at hin1
                  · assumption
                  · cases hin1
                rw [if_pos hacc] at hin1
                have hVi : Kd.V k62 62 wr w.heap.size (T0 P w.heap.size) (.slice (some ad) l.length c) l := Kd.V_old HV.out hB1
                have g0 : ∀ o, (wr.alloc o).cell? ⟨w.heap.size, 0, none⟩ = some (.int .i64 a0) := fun o => (an_ (((ai_ (aq_ _ wr) o).block _ (blk_lt hbx1)).trans hbx1) 0).trans rfl
                have g1 : ∀ o, (wr.alloc o).cell? ⟨w.heap.size, 1, none⟩ = some (.int .i64 a1) := fun o => (an_ (((ai_ (aq_ _ wr) o).block _ (blk_lt hbx1)).trans hbx1) 1).trans rfl
                have g2 : ∀ o, (wr.alloc o).cell? ⟨w.heap.size, 2, none⟩ = some (.slice (some ad) l.length c) := fun o => (an_ (((ai_ (aq_ _ wr) o).block _ (blk_lt hbx1)).trans hbx1) 2).trans rfl
                have C4 := Lib.hid (fun (W : World) (hb : Below wr.heap.size wr W) => spec_l4With.calls a0 a1 (T0 P w.heap.size) (some ad) c l (i : Int) _ _ (fun k => T0 P w.heap.size k ∨ (na ≤ k ∧ k < w2.heap.size)) A3 c3 _ t1 t2 t3 W (V_base (Kd.V_below hVi hb)) (V_base (Kd.V_below hV3 hb)) hw4)
                have HO1 := Lib.hid hO1
                have HOWN := Lib.hid hown
                have HIN := Lib.hid hIn
                have HBB := Lib.hid hB1
                have HBX3 := Lib.hid hbx1
                have HIN1 := Lib.hid hin1
                have HACC := Lib.hid hacc
                clear hO1 hown hIn hB1 hbx1 hin1 hacc hVi hV3 hw4
                go_wp2_with (first
                  | (go_at_call 114; refine (C4.out _ (ai_ (aq_ _ _) _)).mono ?_; rintro e w3 ⟨v4, rfl, hN4, hb4⟩; obtain ⟨A4, c4, hv4⟩ := Kd.N_slice hN4; subst hv4; have HN4 := Lib.hid hN4; have HB4 := Lib.hid (ap_ (ai_ (aq_ wr.heap.size wr) _) hb4); clear hN4 hb4)
                  | ((with_reducible refine gate_builtin (b := .append) (xs := #[.tmp 47, .tmp 52]) rfl ?_); at_builtin; refine Kd.N_append k62 (w0 := w3) w.heap.size rfl (.tmp 47) (.tmp 52) 60 62 (.agg #[(.int .i64 0), (.int .i64 0), (.slice none 0 0)]) 40 rfl Try.underlying60 info62 rfl (by decide) (by omega) u4 acc1 (⟨t1, t2, t3⟩ : S62) [.int .i64 t1, .int .i64 t2, .slice A4 t3.length c4] (fun k => T0 P w.heap.size k ∨ w.heap.size < k) (fun k => (T0 P w.heap.size k ∨ (T0 P w.heap.size k ∨ (na ≤ k ∧ k < w2.heap.size))) ∨ wr.heap.size ≤ k) rfl rfl ?aP ?aK ?aF ?aO ?aB ?aS ?aL ?_; (case aP => exact k62_mkF _ _ (⟨t1, t2, t3⟩ : S62) (Kd.N_reads' HN4.out).2.1 (Kd.F_mono (Kd.N_F HN4.out) (fun k hk => hk.elim .inl (fun h => .inr (by simp at h; omega))))); (case aK => exact fun k hk => ⟨hk.elim (fun h => h.elim .inl (fun h => h.elim .inl (fun h => .inr (by omega)))) (fun h => .inr (by have := HBB.out.size; have := Kd.N_lt HO1.out.1; omega)), fun he => by have h1 := HO1.out.2 k he.symm; have h2 := HOWN.out k he.symm; have h3 := Kd.N_lt HO1.out.1 k he.symm; rcases hk with (h | h | h) | h <;> (try have := h.2) <;> omega⟩); (case aF => exact fun k hk => .inr (by have := HBB.out.size; have := HB4.out.size; have := blk_lt HBX3.out; omega)); (case aO => exact Kd.N_below HO1.out.1 HB4.out); (case aB => exact aq_ _ _); (case aS => exact Nat.le_trans HBB.out.size HB4.out.size); (case aL => have := HACC.out; omega); intro v6 w6 ho6 hb6 hg6 hat6; have HO6 := Lib.hid ho6; have HB6 := Lib.hid hb6; have HG6 := Lib.hid hg6; have HAT := Lib.hid hat6; clear ho6 hb6 hg6 hat6))
                go_wp2
                go_roundw
                case rel =>
                  refine ⟨j + 1, hjl, by go_num, acc1 ++ [⟨t1, t2, t3⟩], ⟨HO6.out, ?_⟩, ?_, ?_, ?_, ?_, ?_, HIN1.out⟩
                  · intro x hx
                    rcases HAT.out with h | ⟨b, hb, hlb⟩
                    · exact HO1.out.2 x (h ▸ hx)
                    · rw [hb] at hx; cases hx; have := HBB.out.size; have := blk_lt HBX3.out; have := HB4.out.size; omega
                  · intro x hx
                    rcases HAT.out with h | ⟨b, hb, hlb⟩
                    · exact HOWN.out x (h ▸ hx)
                    · rw [hb] at hx; cases hx; have := HB4.out.size; exact .inr (by omega)
                  · have := HB4.out.size; have := HB6.out.size; omega
                  · exact Kd.V_step (HIN.out.below HB4.out) (fun x hx hl => HG6.out.block x hl (fun he => by have h1 := HO1.out.2 x he.symm; have h2 := HOWN.out x he.symm; rcases hx with h | h <;> (have := h.2) <;> omega))
                  · exact (below_then HBB.out HBB.out.size HB4.out).trans HB6.out
                  · exact blk_grown ((HB4.out.block _ (blk_lt HBX3.out)).trans HBX3.out) HG6.out (fun he => by have := HO1.out.2 _ he.symm; omega)
                case measure => simp [intOf]; omega
              · obtain rfl : j = L.length := by omega
                rw [List.drop_eq_nil_of_le (Nat.le_refl _)] at hin1
                simp only [l4in, Option.some.injEq] at hin1
                subst hin1
                have HO1 := Lib.hid hO1
                clear hO1 hIn hown hbsz
                go_wp2
                go_roundw
                case rel => exact ⟨i + 1, by omega, by go_num, acc1, HO1.out, hB1, hbx1, HREST.out⟩
                case measure => simp [intOf]; omega
        · obtain rfl : i = l.length := by omega
          rw [List.drop_eq_nil_of_le (Nat.le_refl _)] at hlp
          simp only [l4lp, Option.some.injEq, Prod.mk.injEq] at hlp
          obtain ⟨rfl, rfl⟩ := hlp
          clear hbx
          go_wp2
          go_ret2
          exact ⟨_, rfl, Kd.N_mono HO.out.1 (fun k hk => hk.elim (fun h => .inl h.1) (fun h => .inr (Nat.le_of_lt h))), HBW.out⟩
    | true =>
      rw [if_pos rfl] at h
      obtain ⟨⟨x1, x2, x3, x4⟩, hq, h⟩ := Option.bind_eq_some_iff.mp h
      have HQ := Lib.hid hq
      have H := Lib.hid h
      clear h hq
      go_enter Try.func72, Try.ntmps72
      go_wp2_with (go_at_call 96; refine (spec_l4Is.calls a0 a1 A c l true _ (Kd.C_below HC.out (by repeat (first | exact aq_ _ _ | apply ai_))) hc HBQ.out).mono ?_; rintro e w1 ⟨rfl, hb1⟩; have hbx : w1.heap[w.heap.size]? = some (.cells #[.int .i64 a0, .int .i64 a1, .slice A l.length c] 62 (0, 0)) := (hb1.block _ (by simp)).trans (blk_new w _); have bx0 : w1.cell? ⟨w.heap.size, 0, none⟩ = some (.int .i64 a0) := (an_ hbx 0).trans rfl; have bx1 : w1.cell? ⟨w.heap.size, 1, none⟩ = some (.int .i64 a1) := (an_ hbx 1).trans rfl; have bx2 : w1.cell? ⟨w.heap.size, 2, none⟩ = some (.slice A l.length c) := (an_ hbx 2).trans rfl; have HB1 := Lib.hid (ap_ (ai_ (aq_ w.heap.size w) _) hb1); have HBX := Lib.hid hbx; clear hb1 hbx)
      refine (spec_l4Contract.calls k a0 a1 (T0 P w.heap.size) A c l x1 x2 x3 x4 w1 (V_base (Kd.V_old HV.out HB1.out)) HQ.out).mono ?_
      rintro e w2 ⟨v2, rfl, hx, hb2⟩
      obtain ⟨Ax, cx, hvx⟩ := Kd.V_slice hx
      subst hvx
      have HB2 := Lib.hid (ap_ HB1.out hb2)
      have HBX2 := Lib.hid ((hb2.block _ (blk_lt HBX.out)).trans HBX.out)
      have HX := Lib.hid hx
      have hw1 : w.heap.size < w1.heap.size := blk_lt HBX.out
      have hw2 : w1.heap.size ≤ w2.heap.size := hb2.size
      clear hb2 hx
      cases x4 with
      | false =>
        have hr := H.out
        simp at hr
        obtain ⟨rfl, rfl⟩ := hr
        clear bx0 bx1 bx2
        go_wp2
        go_ret2
        exact ⟨_, rfl, Kd.N_nil _ _ _ _ _, ai_ HB2.out _⟩
      | true =>
        have hr := H.out
        rw [if_pos rfl] at hr
        have HR := Lib.hid hr
        clear hr H bx0 bx1 bx2
        go_wp2_with ((with_reducible refine gate_builtin (b := .append) (xs := #[.tmp 22, .tmp 24]) rfl ?_); at_builtin; refine Kd.N_append k62 (w0 := w) w.heap.size rfl (.tmp 22) (.tmp 24) 60 62 (.agg #[(.int .i64 0), (.int .i64 0), (.slice none 0 0)]) 40 rfl Try.underlying60 info62 rfl (by decide) (by omega) (.slice none 0 0) ([] : List S62) (⟨x1, x2, x3⟩ : S62) [.int .i64 x1, .int .i64 x2, .slice Ax x3.length cx] (fun k => T0 P w.heap.size k ∨ w.heap.size < k) (fun k_ => T0 P w.heap.size k_ ∨ w1.heap.size ≤ k_) rfl (by show Value.slice (some ⟨w2.heap.size + 1, 0, none⟩) 1 1 = _; simp) ?aP  ?aK ?aF ?aO ?aB ?aS ?aL ?_; (case aP => exact k62_mkF _ _ (⟨x1, x2, x3⟩ : S62) (Kd.V_reads' HX.out).2.1 (Kd.V_F (Kd.V_alloc HX.out _))); (case aK => exact fun k hk => ⟨hk.elim .inl (fun h => .inr (by omega)), by simp [Value.ownBlock]⟩); (case aF => exact fun k hk => .inr (by simp at hk; omega)); (case aO => exact Kd.N_nil _ _ _ _ _); (case aB => exact ai_ HB2.out _); (case aS => exact (ai_ HB2.out _).size); (case aL => simp); intro v6 w6 ho6 hb6 hg6 hat6; have hbx6 : w6.heap[w.heap.size]? = some (.cells #[.int .i64 a0, .int .i64 a1, .slice A l.length c] 62 (0, 0)) := blk_grown (((ai_ (aq_ _ w2) _).block _ (blk_lt HBX2.out)).trans HBX2.out) hg6 (by simp [Value.ownBlock]); have hbx62 : w6.cell? ⟨w.heap.size, 2, none⟩ = some (.slice A l.length c) := (an_ hbx6 2).trans rfl; have HST := Lib.hid (show O4 k a0 a1 P A c l r1 r2 w 0 v6 w6 from ⟨[⟨x1, x2, x3⟩], ⟨ho6, fun k hk => by rcases hat6 with h | ⟨b, hb, hlb⟩ <;> first | (rw [h] at hk; simp [Value.ownBlock] at hk; done) | (rw [hb] at hk; cases hk; simp at hlb; omega)⟩, hb6, hbx6, HR.out⟩); clear ho6 hb6 hg6 hat6 hbx6)
        clear hbx62 HX HB2 HBX2 HR
        go_loopw [4, 7, 8, 9, 10, 12, 29] (fun v4 v7 v8 v9 v10 v12 v29 wr => ∃ i : Nat, i ≤ l.length ∧ v29 = .int .i64 i ∧ O4 k a0 a1 P A c l r1 r2 w i v4 wr) (fun _ _ _ _ _ _ v29 _ => l.length - (intOf v29).toNat)
        case atStart => exact ⟨0, Nat.zero_le _, rfl, HST.out⟩
        case round =>
          obtain ⟨i, hi, rfl, acc, hO, hB, hbx, hlp⟩ := hrel
          clear HST
          have hVr : Kd.V k62 62 wr w.heap.size (T0 P w.heap.size) (.slice A l.length c) l := Kd.V_old HV.out hB
          have HO := Lib.hid hO
          have HBW := Lib.hid hB
          have HBX2 := Lib.hid hbx
          clear hO hB
          by_cases hlt : i < l.length
          · obtain ⟨ad, A2, c2, hA, f0, f1, f2, hV2⟩ := part4 hVr i hlt
            subst hA
            rw [rd62_drop' l i hlt] at hlp
            simp only [l4lp] at hlp
            obtain ⟨⟨L, b2⟩, hq, hlp⟩ := Option.bind_eq_some_iff.mp hlp
            have C := Lib.hid (fun (W : World) (hb : Below wr.heap.size wr W) => IH.out _ _ (T0 P w.heap.size) A2 c2 _ L b2 W (V_base (Kd.V_below hV2 hb)) hq)
            have HLP := Lib.hid hlp
            clear hV2 hq hlp hbx
            cases b2 with
            | false =>
              go_wp2_with fail
              refine (C.out _ (ai_ (aq_ _ _) _)).mono ?_
              rintro e w2 ⟨v9, rfl, hN, hb2⟩
              have HB2 := Lib.hid (ap_ (ai_ (aq_ wr.heap.size wr) _) hb2)
              have hr := HLP.out
              simp at hr
              obtain ⟨rfl, rfl⟩ := hr
              clear hN hb2
              go_wp2
              go_ret2
              exact ⟨_, rfl, Kd.N_nil _ _ _ _ _, below_then HBW.out HBW.out.size HB2.out⟩
            | true =>
              go_wp2_with fail
              refine (C.out _ (ai_ (aq_ _ _) _)).mono ?_
              rintro e w2 ⟨v9, rfl, hN, hb2⟩
              obtain ⟨A9, c9, hv9⟩ := Kd.N_slice hN
              subst hv9
              have hlp2 := HLP.out
              rw [if_pos trivial] at hlp2
              have hL : L.length < 1000000000 := by
                split at hlp2
                · assumption
                · cases hlp2
              rw [if_pos hL] at hlp2
              obtain ⟨acc2, hin, hrest⟩ := Option.bind_eq_some_iff.mp hlp2
              have hB2 : Below wr.heap.size wr w2 := ap_ (ai_ (aq_ wr.heap.size wr) _) hb2
              have HST := Lib.hid (show I4 a0 a1 P (some ad) c l L acc2 w (wr.heap.size + 1) w2.heap.size i 0 _ (.slice A9 L.length c9) w2 from
                ⟨acc, HO.out.below hB2, fun x hx => .inl (by have := Kd.N_lt HO.out.1 x hx; omega), Nat.le_refl _, Kd.V_mono (Kd.N_V (Kd.N_bound hN)) (fun x hx => hx.1.elim .inl (fun h => .inr ⟨by simpa using h, hx.2⟩)), below_then HBW.out HBW.out.size hB2, (hB2.block _ (blk_lt HBX2.out)).trans HBX2.out, hin⟩)
              have HREST := Lib.hid hrest
              have haw : w.heap.size < wr.heap.size + 1 := by have := HBW.out.size; omega
              have hw2s : wr.heap.size + 1 ≤ w2.heap.size := by have := hb2.size; simpa using this
              generalize hna : wr.heap.size + 1 = na at HST haw hw2s
              clear hN hb2 hB2 hin hrest hlp2 HLP C hna
              go_wp2
              go_loopw [4, 12, 43] (fun v4 v12 v43 wi => ∃ j : Nat, j ≤ L.length ∧ v43 = .int .i64 j ∧ I4 a0 a1 P (some ad) c l L acc2 w na w2.heap.size i j v4 (.slice A9 L.length c9) wi) (fun _ _ v43 _ => L.length - (intOf v43).toNat)
              case atStart => exact ⟨0, Nat.zero_le _, rfl, HST.out⟩
              case round =>
                obtain ⟨j, hj, rfl, acc1, hO1, hown, hbsz, hIn, hB1, hbx1, hin1⟩ := hrel
                clear HST
                by_cases hjl : j < L.length
                · obtain ⟨ad9, A3, c3, hA9, e0, e1, e2, hV3⟩ := part4 hIn j hjl
                  subst hA9
                  rw [rd62_drop' L j hjl] at hin1
                  simp only [l4in] at hin1
                  obtain ⟨⟨t1, t2, t3⟩, hw4, hin1⟩ := Option.bind_eq_some_iff.mp hin1
                  have hacc : acc1.length < 1000000000 := by
                    split at hin1
                    · assumption
                    · cases hin1
                  rw [if_pos hacc] at hin1
                  have hVi : Kd.V k62 62 wr w.heap.size (T0 P w.heap.size) (.slice (some ad) l.length c) l := Kd.V_old HV.out hB1
                  have g0 : ∀ o, (wr.alloc o).cell? ⟨w.heap.size, 0, none⟩ = some (.int .i64 a0) := fun o => (an_ (((ai_ (aq_ _ wr) o).block _ (blk_lt hbx1)).trans hbx1) 0).trans rfl
                  have g1 : ∀ o, (wr.alloc o).cell? ⟨w.heap.size, 1, none⟩ = some (.int .i64 a1) := fun o => (an_ (((ai_ (aq_ _ wr) o).block _ (blk_lt hbx1)).trans hbx1) 1).trans rfl
                  have g2 : ∀ o, (wr.alloc o).cell? ⟨w.heap.size, 2, none⟩ = some (.slice (some ad) l.length c) := fun o => (an_ (((ai_ (aq_ _ wr) o).block _ (blk_lt hbx1)).trans hbx1) 2).trans rfl
                  have C4 := Lib.hid (fun (W : World) (hb : Below wr.heap.size wr W) => spec_l4With.calls a0 a1 (T0 P w.heap.size) (some ad) c l (i : Int) _ _ (fun k => T0 P w.heap.size k ∨ (na ≤ k ∧ k < w2.heap.size)) A3 c3 _ t1 t2 t3 W (V_base (Kd.V_below hVi hb)) (V_base (Kd.V_below hV3 hb)) hw4)
                  have HO1 := Lib.hid hO1
                  have HOWN := Lib.hid hown
                  have HIN := Lib.hid hIn
                  have HBB := Lib.hid hB1
                  have HBX3 := Lib.hid hbx1
                  have HIN1 := Lib.hid hin1
                  have HACC := Lib.hid hacc
                  clear hO1 hown hIn hB1 hbx1 hin1 hacc hVi hV3 hw4
                  go_wp2_with (first
                    | (go_at_call 114; refine (C4.out _ (ai_ (aq_ _ _) _)).mono ?_; rintro e w3 ⟨v4, rfl, hN4, hb4⟩; obtain ⟨A4, c4, hv4⟩ := Kd.N_slice hN4; subst hv4; have HN4 := Lib.hid hN4; have HB4 := Lib.hid (ap_ (ai_ (aq_ wr.heap.size wr) _) hb4); clear hN4 hb4)
                    | ((with_reducible refine gate_builtin (b := .append) (xs := #[.tmp 47, .tmp 52]) rfl ?_); at_builtin; refine Kd.N_append k62 (w0 := w3) w.heap.size rfl (.tmp 47) (.tmp 52) 60 62 (.agg #[(.int .i64 0), (.int .i64 0), (.slice none 0 0)]) 40 rfl Try.underlying60 info62 rfl (by decide) (by omega) u4 acc1 (⟨t1, t2, t3⟩ : S62) [.int .i64 t1, .int .i64 t2, .slice A4 t3.length c4] (fun k => T0 P w.heap.size k ∨ w.heap.size < k) (fun k => (T0 P w.heap.size k ∨ (T0 P w.heap.size k ∨ (na ≤ k ∧ k < w2.heap.size))) ∨ wr.heap.size ≤ k) rfl rfl ?aP ?aK ?aF ?aO ?aB ?aS ?aL ?_; (case aP => exact k62_mkF _ _ (⟨t1, t2, t3⟩ : S62) (Kd.N_reads' HN4.out).2.1 (Kd.F_mono (Kd.N_F HN4.out) (fun k hk => hk.elim .inl (fun h => .inr (by simp at h; omega))))); (case aK => exact fun k hk => ⟨hk.elim (fun h => h.elim .inl (fun h => h.elim .inl (fun h => .inr (by omega)))) (fun h => .inr (by have := HBB.out.size; have := Kd.N_lt HO1.out.1; omega)), fun he => by have h1 := HO1.out.2 k he.symm; have h2 := HOWN.out k he.symm; have h3 := Kd.N_lt HO1.out.1 k he.symm; rcases hk with (h | h | h) | h <;> (try have := h.2) <;> omega⟩); (case aF => exact fun k hk => .inr (by have := HBB.out.size; have := HB4.out.size; have := blk_lt HBX3.out; omega)); (case aO => exact Kd.N_below HO1.out.1 HB4.out); (case aB => exact aq_ _ _); (case aS => exact Nat.le_trans HBB.out.size HB4.out.size); (case aL => have := HACC.out; omega); intro v6 w6 ho6 hb6 hg6 hat6; have HO6 := Lib.hid ho6; have HB6 := Lib.hid hb6; have HG6 := Lib.hid hg6; have HAT := Lib.hid hat6; clear ho6 hb6 hg6 hat6))
                  go_wp2
                  go_roundw
                  case rel =>
                    refine ⟨j + 1, hjl, by go_num, acc1 ++ [⟨t1, t2, t3⟩], ⟨HO6.out, ?_⟩, ?_, ?_, ?_, ?_, ?_, HIN1.out⟩
                    · intro x hx
                      rcases HAT.out with h | ⟨b, hb, hlb⟩
                      · exact HO1.out.2 x (h ▸ hx)
                      · rw [hb] at hx; cases hx; have := HBB.out.size; have := blk_lt HBX3.out; have := HB4.out.size; omega
                    · intro x hx
                      rcases HAT.out with h | ⟨b, hb, hlb⟩
                      · exact HOWN.out x (h ▸ hx)
                      · rw [hb] at hx; cases hx; have := HB4.out.size; exact .inr (by omega)
                    · have := HB4.out.size; have := HB6.out.size; omega
                    · exact Kd.V_step (HIN.out.below HB4.out) (fun x hx hl => HG6.out.block x hl (fun he => by have h1 := HO1.out.2 x he.symm; have h2 := HOWN.out x he.symm; rcases hx with h | h <;> (have := h.2) <;> omega))
                    · exact (below_then HBB.out HBB.out.size HB4.out).trans HB6.out
                    · exact blk_grown ((HB4.out.block _ (blk_lt HBX3.out)).trans HBX3.out) HG6.out (fun he => by have := HO1.out.2 _ he.symm; omega)
                  case measure => simp [intOf]; omega
                · obtain rfl : j = L.length := by omega
                  rw [List.drop_eq_nil_of_le (Nat.le_refl _)] at hin1
                  simp only [l4in, Option.some.injEq] at hin1
                  subst hin1
                  have HO1 := Lib.hid hO1
                  clear hO1 hIn hown hbsz
                  go_wp2
                  go_roundw
                  case rel => exact ⟨i + 1, by omega, by go_num, acc1, HO1.out, hB1, hbx1, HREST.out⟩
                  case measure => simp [intOf]; omega
          · obtain rfl : i = l.length := by omega
            rw [List.drop_eq_nil_of_le (Nat.le_refl _)] at hlp
            simp only [l4lp, Option.some.injEq, Prod.mk.injEq] at hlp
            obtain ⟨rfl, rfl⟩ := hlp
            clear hbx
            go_wp2
            go_ret2
            exact ⟨_, rfl, Kd.N_mono HO.out.1 (fun k hk => hk.elim (fun h => .inl h.1) (fun h => .inr (Nat.le_of_lt h))), HBW.out⟩
end Go.Proofs.Ytgoiifpimpnlpaa.PAll

end

section
namespace Go.Proofs.Ytgoiifpimpnlpaa.PAll
open Go.RowKit Go.Proofs.YtgoiifpimpnlpaaW.PrintWords Go.Proofs.YtgoiifpimpnlpaaW.PrintLast Go.Proofs.YtgoiifpimpnlpaaW.PrintMore
attribute [local go_sem] max2_int min2_int max_two min_two max_three min_three max_four min_four   -- for this text's walks alone
set_option linter.unusedVariables false
set_option linter.unusedSimpArgs false
def spec_l4Steps.f (k : Nat) (a0_0 : Int) (a0_1 : Int) (l0_2 : List (S62)) : Option ((List (S62)) × Bool) := l4st k a0_0 a0_1 l0_2
theorem spec_l4Steps.calls (k : Nat) (a0_0 : Int) (a0_1 : Int) (P0_2_ : Nat → Prop) (A0_2 : Option Addr) (c0_2 : Nat) (l0_2 : List (S62)) (r1 : List (S62)) (r2 : Bool) (w : World) (hs0_2 : Kd.V k62 62 w w.heap.size (fun k_ => P0_2_ k_) (.slice A0_2 l0_2.length c0_2) l0_2) (h : spec_l4Steps.f k a0_0 a0_1 l0_2 = some (r1, r2)) :
    Calls Try.prog 72 #[.agg #[.int .i64 a0_0, .int .i64 a0_1, .slice A0_2 l0_2.length c0_2]] w fun e w' => ∃ v0_ : Value, e = .returned (.tuple #[v0_, .bool r2]) ∧ Kd.N k62 62 w' w.heap.size (fun k_ => (P0_2_ k_ ∨ w.heap.size ≤ k_)) v0_ r1 ∧ Below w.heap.size w w' := l4st_calls k a0_0 a0_1 P0_2_ A0_2 c0_2 l0_2 r1 r2 w hs0_2 h
end Go.Proofs.Ytgoiifpimpnlpaa.PAll

end
