/- The card of FnExactTokenText: the law's row out of its pure statement and the walk; then the card by the given tie. -/
import Derived.Test.YtkmobaffmlcaiaaDoorRows
import Derived.Test.YtkmobaffmlcaiaaDoorCards
import Derived.Test.YtkmobaffmlcaiaaDoorTie
import Derived.Test.YtkmobaffmlcaiaaDoorQtok
import Derived.Test.YtkmobaffmlcaiaaDoorOpens
import Derived.WalkKit
import Derived.ProofKit
import Derived.OpenShut
import Derived.ShutString
import Derived.ChangeOld
import Derived.Below
import Derived.SizedLaws
import Derived.Deep.DeepHandedRow
import Derived.Lib.LaidTab
namespace Go.Proofs.YtkmobaffmlcaiaaDoor.fnExactTokenText
open Go.ChangeShapes Go.WideShapes Go.ChangeAt Go.RowKit Go.Proofs.YtkmobaffmlcaiaaDoor.PAll Go.Proofs.YtkmobaffmlcaiaaDoorW.PrintWords Go.Proofs.YtkmobaffmlcaiaaDoorW.Opens
open Go.ChangeMaps (open_string shut_string)
set_option linter.unusedVariables false
theorem own : ownKnob Tryd.prog.godebug = none := by kernel_rfl
theorem laidOut : laidOutB Tryd.prog = true := by kernel_rfl
theorem gTab : Tryd.prog.globalNamed "internal/strconv.uint64pow10" = some 0 := by kernel_rfl
theorem gTy : (Tryd.prog.globals[0]?).map (·.type) = some 143 := by kernel_rfl
theorem cellsT : Tryd.prog.cellsOf 143 = 20 := by kernel_rfl
theorem cellsE : Tryd.prog.cellsOf 76 = 1 := by kernel_rfl

/-- What the row's list gives: the table that Itoa reads. -/
theorem table {W : World} (h : laidMetH Tryd.prog Rows.fnExactTokenTextRow.laid W) : Tab W := by
  exact Lib.tabIs_of_head (rest := []) gTab gTy Tryd.underlying143 Tryd.underlying76 cellsE cellsT (laidMetH.filter (fun x => x.1 == "internal/strconv.uint64pow10") h)
theorem tableB {W : World} (h : Tab W) : PreB 1 W ∧ 1 ≤ W.heap.size := by
  have hv := h
  unfold Tab Lib.TabIs World.var? at hv
  rw [gTab] at hv
  simp only [Option.bind_some] at hv
  have hlt : 0 < W.heap.size := by
    rcases Nat.lt_or_ge 0 W.heap.size with h | h
    · exact h
    · rw [Array.getElem?_eq_none h] at hv; cases hv
  refine ⟨fun w' hb => ?_, by omega⟩
  unfold Tab Lib.TabIs World.var?
  rw [gTab]
  simp only [Option.bind_some]
  rw [hb.block 0 (by omega)]
  exact hv

set_option maxRecDepth 100000 in
/-- What the walk gives, for every argument and every world that holds the table. -/
theorem contract (H : Type) (enc : TypeId × Value → H) (W : World) (base : Nat) (args : Array Value) (ds gs : List (DataW H)) (before : List MemPlace)
    (hval0 : ∀ (j : Nat) t v, Tryd.f3.params[j]? = some t → args[j]? = some v → Value.okWide Tryd.prog W .any base t v)
    (hW : DataW.Whole enc Tryd.prog Tryd.f3.params.toList Rows.fnExactTokenTextSpec.vars false W args.toList ds gs before) (hL : laidMetH Tryd.prog Rows.fnExactTokenTextRow.laid W) :
    Calls Tryd.prog 3 args W fun e W' => ∃ v, e = .returned v ∧ Rows.fnExactTokenTextSpec.post enc Tryd.prog Tryd.f3 false true false false W args v W' := by
  have hval : ∀ (j : Nat) t v, Tryd.f3.params[j]? = some t → args[j]? = some v → Value.okWide Tryd.prog W .any base t v := hval0
  have hW' := hW
  obtain ⟨p, q, hA0, hV, rfl, hfz, hnd⟩ := hW
  have hA : DataW.TrodAll enc Tryd.prog W 0 (fun _ => true) true Tryd.f3.params.toList args.toList ds p := hA0
  rw [Tryd.params3] at hA hval
  obtain ⟨v0, vs0, d0, ds0, p0, q0, hargs, rfl, rfl, h0, r0⟩ := trodAll_cons hA
  obtain ⟨rfl, rfl, rfl⟩ := trodAll_nil r0
  obtain rfl : args = #[v0] := by cases args; simp_all
  obtain ⟨rfl, rfl⟩ := trodVars_none hV
  obtain ⟨cs0, rfl, hsz0⟩ := okWide_struct Tryd.underlying23 (hval 0 23 v0 rfl rfl)
  have k0 := h0
  have lt0 : ∀ x ∈ p0, x.block < W.heap.size := by obtain ⟨m, hm⟩ := k0; exact DataW.trod_lt m _ _ _ hm
  obtain ⟨⟨u0_0, u0_1, u0_2, u0_3⟩, ⟨c0_0, r0_0, e0_0, k0_0, ⟨c0_1, r0_1, e0_1, k0_1, ⟨c0_2, c0_3, e0_2, k0_2, k0_3⟩⟩⟩, g0_0, g0_1, g0_2, g0_3⟩ := agg_came (opn_struct4 Tryd.underlying23 (by kernel_rfl) (opn_int Tryd.underlying3) (opn_int Tryd.underlying3) (opn_string Tryd.underlying9) (opn_int Tryd.underlying3)) h0
  obtain rfl : c0_0 = [.int .i64 u0_0] := k0_0
  obtain rfl : c0_1 = [.int .i64 u0_1] := k0_1
  obtain rfl : c0_2 = [.string u0_2] := k0_2
  obtain rfl : c0_3 = [.int .i64 u0_3] := k0_3
  subst e0_1
  subst e0_2
  obtain rfl : cs0 = #[.int .i64 u0_0, .int .i64 u0_1, .string u0_2, .int .i64 u0_3] := by cases cs0; simp_all
  clear hA0 hval0 hsz0
  obtain ⟨k, hk⟩ := FnExactTokenText_pure u0_0 u0_1 u0_2 u0_3 g0_2
  obtain ⟨hTB, hsz⟩ := tableB (table hL)
  refine (laws_FnExactTokenText.calls 1 k u0_0 u0_1 u0_2 u0_3 true W ⟨hsz, hTB⟩ hk).mono fun e W' ⟨he, bel0⟩ => ?_
  have bel : Below W.heap.size W W' := bel0
  subst he
  exact ⟨_, rfl, _, _, _, [], _, [], hW', trodAll_mk1 (shut_bool Tryd.underlying4 _), (trodAll_cons_mk (Below.trod laidOut (by kernel_rfl) (of_decide_eq_true (by kernel_rfl)) k0 bel lt0) trodAll_mk0), rfl, bel.frame _, fun h => by cases h⟩

/-- A world for the witness: the settled one, the tables holding what their initialisers lay. -/
def putC (cs : Array Value) : Obj → Obj
  | .cells _ t frozen => .cells cs t frozen
  | o => o
noncomputable def laidWorld (os : Os) : World :=
  { World.holding Tryd.prog os ⟨#[], #[], []⟩ with heap := (((World.holding Tryd.prog os ⟨#[], #[], []⟩).heap.modify 3 (putC (([0, 1, 28, 2, 29, 14, 24, 3, 30, 22, 20, 15, 25, 17, 4, 8, 31, 27, 13, 23, 21, 19, 16, 7, 26, 12, 18, 6, 11, 5, 10, 9] : List Int).map (Value.int .u8)).toArray)).modify 4 (putC (([0, 1, 56, 2, 57, 49, 28, 3, 61, 58, 42, 50, 38, 29, 17, 4, 62, 47, 59, 36, 45, 43, 51, 22, 53, 39, 33, 30, 24, 18, 12, 5, 63, 55, 48, 27, 60, 41, 37, 16, 46, 35, 44, 21, 52, 32, 23, 11, 54, 26, 40, 15, 34, 20, 31, 10, 25, 14, 19, 9, 13, 8, 7, 6] : List Int).map (Value.int .u8)).toArray)).modify 0 (putC (Lib.pow10Tab.map (Value.int .u64)).toArray) }
theorem laid_met (os : Os) : laidMet Tryd.prog Rows.fnExactTokenTextRow.laid ((laidWorld os).forCall (fun _ _ => 0) ⟨#[], #[.agg #[.int .i64 0, .int .i64 0, .string ByteArray.empty, .int .i64 0]], []⟩).memory :=
  laidMet_of_run' 80 (by kernel_rfl) (by kernel_rfl)
theorem reads (os : Os) {H : Type} (enc : TypeId × Value → H) : ∃ places, DataW.whole enc Tryd.prog ((laidWorld os).forCall (fun _ _ => 0) ⟨#[], #[.agg #[.int .i64 0, .int .i64 0, .string ByteArray.empty, .int .i64 0]], []⟩).memory Tryd.f3.params.toList Rows.fnExactTokenTextSpec.vars false #[Value.agg #[.int .i64 0, .int .i64 0, .string ByteArray.empty, .int .i64 0]].toList 8 = some ([.agg [.lit (.int .i64 0), .lit (.int .i64 0), .lit (.string []), .lit (.int .i64 0)]], [], places) :=
  ⟨[], by kernel_rfl⟩

set_option maxRecDepth 100000 in
theorem lifted (os : Os) (started : os.Started) (H : Type) (enc : TypeId × Value → H) (F : Stop.Interp) :
    ReturnsInHanded {} Tryd.checked os 3 .any ((OpenSpec.ofChange Rows.fnExactTokenTextSpec).preRow enc Tryd.prog Tryd.f3 Rows.fnExactTokenTextRow.domain false Rows.fnExactTokenTextRow.laid) (((OpenSpec.ofChange Rows.fnExactTokenTextSpec).at F).post enc Tryd.prog Tryd.f3 false true false false) := by
  obtain ⟨places, hx⟩ := reads os enc
  refine returnsInHanded_of_row (C := Tryd.checked) (s := OpenSpec.ofChange Rows.fnExactTokenTextSpec) own started (by kernel_rfl) Tryd.func3
    (witness_row_at (enc := enc) (C := Tryd.checked) false (laidWorld os) #[.agg #[.int .i64 0, .int .i64 0, .string ByteArray.empty, .int .i64 0]] rfl (by kernel_rfl) (by kernel_rfl) (by kernel_rfl)
      (OpenSpec.preRow_of_cond 8 hx (by kernel_rfl) (fun k hk => by cases hk) (by kernel_rfl) (laid_met os))) ?_
  intro W base args ds gs before hval hW _ _ _ hL _ _
  exact contract H enc W base args ds gs before hval hW hL

theorem said : Rows.FnExactTokenTextSaid :=
  OpenClaim.holds_of_cond 3 Tryd.f3 rfl rfl rfl rfl rfl rfl rfl ⟨rfl, rfl, rfl, rfl, rfl⟩ rfl rfl rfl rfl rfl (by kernel_rfl) Tryd.func3 (by kernel_rfl)
    (of_decide_eq_true (by kernel_rfl)) (by unfold Func.isWrapper; first | (rw [if_pos (by decide +kernel)]; kernel_rfl) | (rw [if_neg (by decide +kernel)]; exact ⟨rfl, rfl⟩))
    (fun os started H enc _ F => by rw [OpenClaim.pre_eq_preRow]; exact lifted os started H enc F)

/-- No parameter wants a stand-in; the program's own looks are off: what the card asks. -/
theorem plain (f : FuncId) (fn : Func) (hf : Tryd.pinned.checked.prog.funcNamed "loop.example/g00339/laws.FnExactTokenText" = some f) (hfn : Tryd.pinned.checked.prog.funcs[f]? = some fn) :
    true = Tryd.pinned.checked.prog.looks [] ∧ ∀ (j : Nat) t, fn.params[j]? = some t → Tryd.pinned.checked.prog.wantsStandIn t = false := by
  obtain rfl : f = 3 := Option.some.inj ((show Tryd.prog.funcNamed "loop.example/g00339/laws.FnExactTokenText" = some 3 by kernel_rfl).symm.trans hf) |>.symm
  obtain rfl : fn = Tryd.f3 := (Option.some.inj (Tryd.func3.symm.trans hfn)).symm
  refine ⟨by kernel_rfl, fun j t ht => ?_⟩
  rw [Tryd.params3] at ht
  obtain rfl : t = 23 := by simpa using Array.mem_of_getElem? ht
  exact (show Tryd.prog.wantsStandIn 23 = false by kernel_rfl)

theorem card : Rows.FnExactTokenTextCardSaid :=
  Claim7.holds_tied_plain_at .later [] _ _ _ _ said (fun _ h => by cases h) (by kernel_rfl) (fun _ h => by cases h) fnExactTokenText_row_tie rfl ⟨rfl, rfl⟩ (by kernel_rfl) rfl plain (by kernel_rfl)
#print axioms card
end Go.Proofs.YtkmobaffmlcaiaaDoor.fnExactTokenText
namespace Go.Proofs.YtkmobaffmlcaiaaDoor
/-- The card, under a short name, for the claim. -/
theorem fnExactTokenText_holds : Rows.FnExactTokenTextCardSaid := fnExactTokenText.card
end Go.Proofs.YtkmobaffmlcaiaaDoor
