/- ruleOk, IndexFunc and ContainsFunc over rules, GoodHandler. -/
import Derived.Test.YtjnaokdncemggaaHcompB
namespace Go.Proofs.Ytjnaokdncemggaa.PAll
open Go.RowKit Go.Proofs.YtjnaokdncemggaaW.PrintWords Go.Proofs.YtjnaokdncemggaaW.PrintLast Go.Proofs.YtjnaokdncemggaaW.PrintMore
set_option linter.unusedVariables false
set_option linter.unusedSimpArgs false

def ruleB (x : S82) : Bool := if x.f0 = 4 then decide (0 ≤ x.f1 ∧ x.f1 ≤ 99) else decide ((1 ≤ x.f0 ∧ x.f0 ≤ 5) ∧ x.f1 = 0)

set_option maxRecDepth 100000 in
theorem ruleOk_calls (x : S82) (w : World) : Calls Try.prog 62 #[.agg #[.int .i64 x.f0, .int .i64 x.f1]] w fun e w' => e = .returned (.bool (ruleB x)) ∧ Below w.heap.size w w' := by
  by_cases h4 : x.f0 = 4
  · have b4 : (x.f0 == 4) = true := by simp [h4]
    by_cases h : 0 ≤ x.f1 ∧ x.f1 ≤ 99
    · have e : ruleB x = true := by simp [ruleB, h4, h]
      rw [e]
      obtain ⟨h0, h1⟩ := h
      clear h4 e
      go_enter Try.func62, Try.ntmps62
      go_wp2_with (go_at_call 59; refine (within_yes _ _ _ _ h0 h1).mono ?_; rintro e w' ⟨rfl, rfl⟩)
      go_ret
      exact ⟨rfl, below_alloc (Below.refl _ _) _⟩
    · have e : ruleB x = false := by simp only [ruleB]; rw [if_pos h4]; simpa using h
      rw [e]
      have H := Lib.hid h
      clear h4 e h
      go_enter Try.func62, Try.ntmps62
      go_wp2_with (go_at_call 59; refine (within_no _ _ _ _ H.out).mono ?_; rintro e w' ⟨rfl, rfl⟩)
      go_ret
      exact ⟨rfl, below_alloc (Below.refl _ _) _⟩
  · have b4 : (x.f0 == 4) = false := by simp [h4]
    by_cases h : 1 ≤ x.f0 ∧ x.f0 ≤ 5
    · have e : ruleB x = (x.f1 == 0) := by simp only [ruleB]; rw [if_neg h4]; by_cases h5 : x.f1 = 0 <;> simp [h, h5]
      obtain ⟨h0, h1⟩ := h
      have E := Lib.hid e
      clear h4 e
      go_enter Try.func62, Try.ntmps62
      go_wp2_with (go_at_call 59; refine (within_yes _ _ _ _ h0 h1).mono ?_; rintro e w' ⟨rfl, rfl⟩)
      go_ret
      exact ⟨by rw [E.out]; rfl, below_alloc (Below.refl _ _) _⟩
    · have e : ruleB x = false := by simp only [ruleB]; rw [if_neg h4]; simp only [decide_eq_false_iff_not]; exact fun z => h z.1
      rw [e]
      have H := Lib.hid h
      clear h4 e h
      go_enter Try.func62, Try.ntmps62
      go_wp2_with (go_at_call 59; refine (within_no _ _ _ _ H.out).mono ?_; rintro e w' ⟨rfl, rfl⟩)
      go_ret
      exact ⟨rfl, below_alloc (Below.refl _ _) _⟩

theorem notRuleOk_calls (x : S82) (w : World) : Calls Try.prog 61 #[.agg #[.int .i64 x.f0, .int .i64 x.f1]] w fun e w' => e = .returned (.bool (!ruleB x)) ∧ Below w.heap.size w w' := by
  go_enter Try.func61, Try.ntmps61
  go_wp2_with (go_at_call 62; refine (ruleOk_calls x _).mono ?_; rintro e w' ⟨rfl, hb⟩)
  go_ret
  exact ⟨rfl, below_step (below_alloc (Below.refl _ _) _) hb⟩

/-- The first place at which a rule is bad. -/
def badAt (l : List S82) : Option Nat := l.findIdx? (fun x => !ruleB x)

set_option maxRecDepth 100000 in
set_option maxHeartbeats 1000000 in
theorem indexRule_calls (l : List S82) (A : Option Addr) (c : Nat) (w : World) (hr : Kd.C k82 w A l.length l) (hc : l.length ≤ c) :
    Calls Try.prog 89 #[.slice A l.length c, .func (.func 61) #[] #[]] w fun e w' => (∃ n : Int, e = .returned (.int .i64 n) ∧ (0 ≤ n ↔ l.any (fun x => !ruleB x) = true)) ∧ Below w.heap.size w w' := by
  have hm := hr.2.1
  have HR := Lib.hid hr
  clear hr
  go_enter Try.func89, Try.ntmps89
  go_wp2
  go_loopw [5, 8] (fun v5 v8 wr => ∃ k : Nat, k ≤ l.length ∧ v8 = .int .i64 k ∧ Hid (∀ x ∈ l.take k, ruleB x = true) ∧ Below w.heap.size w wr) (fun _ v8 _ => l.length - (intOf v8).toNat)
  case atStart => exact ⟨0, Nat.zero_le _, rfl, Lib.hid (by simp), Below.refl _ _⟩
  case round =>
    obtain ⟨k, hk, rfl, HA, HB⟩ := hrel
    by_cases hlt : k < l.length
    · obtain ⟨ad, hA, hc0, hc1⟩ := at_T82 (Kd.C_below HR.out HB) (k : Int) (by omega) (by omega)
      subst hA
      obtain ⟨x, hx⟩ : ∃ x, x = rd_T82 l (k : Int) := ⟨_, rfl⟩
      rw [← hx] at hc0 hc1
      simp only [Int.toNat_natCast] at hc0 hc1
      have hxl : l[k]? = some x := by rw [hx, rd_T82, List.getD_eq_getElem?_getD]; simp [List.getElem?_eq_getElem hlt]
      have HX := Lib.hid hxl
      clear hx hxl
      cases hb : ruleB x with
      | true =>
        have HBX := Lib.hid hb
        clear hb
        go_wp2_with (go_at_call 61; refine (notRuleOk_calls x _).mono ?_; rw [HBX.out]; rintro e w' ⟨rfl, hbw⟩)
        go_roundw
        case rel =>
          refine ⟨k + 1, by omega, by go_num, Lib.hid ?_, below_step HB hbw⟩
          intro y hy
          rw [List.take_add_one, HX.out] at hy
          simp at hy
          rcases hy with hy | rfl
          · exact HA.out y hy
          · exact HBX.out
        case measure => simp [intOf]; omega
      | false =>
        have HBX := Lib.hid hb
        clear hb
        go_wp2_with (go_at_call 61; refine (notRuleOk_calls x _).mono ?_; rw [HBX.out]; rintro e w' ⟨rfl, hbw⟩)
        go_ret
        refine ⟨⟨k, rfl, ?_⟩, below_step HB hbw⟩
        have : x ∈ l := List.mem_of_getElem? HX.out
        simp only [List.any_eq_true]
        exact ⟨fun _ => ⟨x, this, by simp [HBX.out]⟩, fun _ => by omega⟩
    · have : k = l.length := by omega
      subst this
      go_wp2
      go_ret
      refine ⟨⟨-1, rfl, ?_⟩, HB⟩
      have := HA.out
      rw [List.take_length] at this
      simp only [List.any_eq_true]
      constructor
      · intro h; omega
      · rintro ⟨x, hx, h⟩
        rw [this x hx] at h
        cases h

theorem containsRule_calls (l : List S82) (A : Option Addr) (c : Nat) (w : World) (hr : Kd.C k82 w A l.length l) (hc : l.length ≤ c) :
    Calls Try.prog 60 #[.slice A l.length c, .func (.func 61) #[] #[]] w fun e w' => e = .returned (.bool (l.any (fun x => !ruleB x))) ∧ Below w.heap.size w w' := by
  have HR := Lib.hid hr
  clear hr
  cases hb : l.any (fun x => !ruleB x) with
  | true =>
    have H := Lib.hid hb
    clear hb
    go_enter Try.func60, Try.ntmps60
    go_wp2_with (go_at_call 89; refine (indexRule_calls l A c _ HR.out hc).mono ?_; rw [H.out]; rintro e w' ⟨⟨n, rfl, hn⟩, hbw⟩; have hn0 : 0 ≤ n := hn.2 rfl; clear hn)
    go_ret
    exact ⟨by simp [hn0], hbw⟩
  | false =>
    have H := Lib.hid hb
    clear hb
    go_enter Try.func60, Try.ntmps60
    go_wp2_with (go_at_call 89; refine (indexRule_calls l A c _ HR.out hc).mono ?_; rw [H.out]; rintro e w' ⟨⟨n, rfl, hn⟩, hbw⟩; have hn0 : ¬ 0 ≤ n := fun z => Bool.noConfusion (hn.1 z); clear hn)
    go_ret
    exact ⟨by simp; omega, hbw⟩

def goodHB (ret : Int) (l : List S82) : Bool := decide (0 ≤ ret ∧ ret ≤ 99) && decide (l.length = 3) && l.all ruleB

set_option maxRecDepth 100000 in
set_option maxHeartbeats 1000000 in
theorem GoodHandler_calls (ret : Int) (l : List S82) (A : Option Addr) (c : Nat) (w : World) (hr : Kd.C k82 w A l.length l) (hc : l.length ≤ c) :
    Calls Try.prog 16 #[.agg #[.int .i64 ret, .slice A l.length c]] w fun e w' => e = .returned (.bool (goodHB ret l)) ∧ Below w.heap.size w w' := by
  have HR := Lib.hid hr
  clear hr
  by_cases h : 0 ≤ ret ∧ ret ≤ 99
  · obtain ⟨h0, h1⟩ := h
    by_cases h3 : l.length = 3
    · have b3 : ((l.length : Int) != 3) = false := by simp; omega
      have e : goodHB ret l = !(l.any (fun x => !ruleB x)) := by
        simp only [goodHB, h0, h1, h3, and_self, decide_true, Bool.true_and]
        rw [List.not_any_eq_all_not]; simp
      have E := Lib.hid e
      clear e h3
      go_enter Try.func16, Try.ntmps16
      go_wp2_with (first | (go_at_call 59; refine (within_yes _ _ _ _ h0 h1).mono ?_; rintro e w' ⟨rfl, rfl⟩) | (go_at_call 60; refine (containsRule_calls l A c _ (Kd.C_below HR.out (below_alloc (Below.refl _ _) _)) hc).mono ?_; rintro e w' ⟨rfl, hb⟩))
      go_ret
      exact ⟨by rw [E.out]; rfl, below_step (below_alloc (Below.refl _ _) _) hb⟩
    · have b3 : ((l.length : Int) != 3) = true := by simp; omega
      have e : goodHB ret l = false := by simp [goodHB, h3]
      rw [e]
      clear e h3
      go_enter Try.func16, Try.ntmps16
      go_wp2_with (go_at_call 59; refine (within_yes _ _ _ _ h0 h1).mono ?_; rintro e w' ⟨rfl, rfl⟩)
      go_ret
      exact ⟨rfl, below_alloc (Below.refl _ _) _⟩
  · have e : goodHB ret l = false := by simp only [goodHB]; rw [decide_eq_false h]; rfl
    rw [e]
    have H := Lib.hid h
    clear e h
    go_enter Try.func16, Try.ntmps16
    go_wp2_with (go_at_call 59; refine (within_no _ _ _ _ H.out).mono ?_; rintro e w' ⟨rfl, rfl⟩)
    go_ret
    exact ⟨rfl, below_alloc (Below.refl _ _) _⟩
end Go.Proofs.Ytjnaokdncemggaa.PAll
