/- The row of FnExactGoodHandler, out of its pure statement and the walk. -/
import Derived.Test.YtjnaokdncemggaaRows
import Derived.Test.YtjnaokdncemggaaPureFnExactGoodHandler
import Derived.Test.YtjnaokdncemggaaOpens
import Derived.WalkKit
import Derived.ProofKit
import Derived.OpenShut
import Derived.ShutString
import Derived.ChangeOld
import Derived.Below
import Derived.SizedLaws
namespace Go.Proofs.Ytjnaokdncemggaa.fnExactGoodHandler
open Go.ChangeShapes Go.WideShapes Go.ChangeAt Go.RowKit Go.Proofs.Ytjnaokdncemggaa.PAll Go.Proofs.YtjnaokdncemggaaW.PrintWords Go.Proofs.YtjnaokdncemggaaW.Opens
open Go.ChangeMaps (open_string shut_string)
set_option linter.unusedVariables false
theorem own : ownKnob Try.prog.godebug = none := by kernel_rfl
theorem laidOut : laidOutB Try.prog = true := by kernel_rfl
set_option maxRecDepth 100000 in
set_option maxHeartbeats 1000000 in
theorem lifted (os : Os) (started : os.Started) (H : Type) (enc : TypeId × Value → H) :
    ReturnsInHanded {} Try.checked os 3 .any (Rows.fnExactGoodHandlerSpec.pre6 enc Try.prog Try.f3 Rows.fnExactGoodHandlerRow.domain false) (Rows.fnExactGoodHandlerSpec.post enc Try.prog Try.f3 false true false false) := by
  refine returnsInHanded_of_change_sized (C := Try.checked) own started (by kernel_rfl) Try.func3
    (ChangeSpec.witness6 (enc := enc) (C := Try.checked) false ⟨#[], #[.agg #[.int .i64 0, .slice none 0 0]], []⟩ 8 (by kernel_rfl) (by kernel_rfl) (by kernel_rfl) (by kernel_rfl)) ?_
  intro W base args ds gs before hval0 hW hcnd hsz0 _
  have hval : ∀ (j : Nat) t v, Try.f3.params[j]? = some t → args[j]? = some v → Value.okWide Try.prog W .any base t v := hval0
  have hW' := hW
  obtain ⟨p, q, hA0, hV, rfl, hfz, hnd⟩ := hW
  have hA : DataW.TrodAll enc Try.prog W 0 (fun _ => true) true Try.f3.params.toList args.toList ds p := hA0
  rw [Try.params3] at hA hval
  obtain ⟨v0, vs0, d0, ds0, p0, q0, hargs, rfl, rfl, h0, r0⟩ := trodAll_cons hA
  obtain ⟨rfl, rfl, rfl⟩ := trodAll_nil r0
  obtain rfl : args = #[v0] := by cases args; simp_all
  obtain ⟨rfl, rfl⟩ := trodVars_none hV
  obtain ⟨cs0, rfl, hsz0⟩ := okWide_struct Try.underlying24 (hval 0 24 v0 rfl rfl)
  have k0 := h0
  have lt0 : ∀ x ∈ p0, x.block < W.heap.size := by obtain ⟨m, hm⟩ := k0; exact DataW.trod_lt m _ _ _ hm
  obtain ⟨⟨u0_0, u0_1⟩, ⟨c0_0, c0_1, e0_0, k0_0, k0_1⟩, g0_0, g0_1⟩ := agg_came (opn_struct2 Try.underlying24 (by kernel_rfl) (opn_int Try.underlying3) (opn_slice Try.underlying22 (by kernel_rfl) (opn_iso (f := fun x : S126 => (x.f0, x.f1)) (fun p => (⟨p.1, p.2⟩ : S126)) (fun _ => rfl) (opn_struct2 Try.underlying126 (by kernel_rfl) (opn_int Try.underlying3) (opn_int Try.underlying3))))) h0
  obtain rfl : c0_0 = [.int .i64 u0_0] := k0_0
  obtain ⟨A0_1, cc0_1, rfl, hc0_1, hr0_1⟩ := k0_1
  obtain rfl : cs0 = #[.int .i64 u0_0, .slice A0_1 u0_1.length cc0_1] := by cases cs0; simp_all
  clear hA0 hval0 hsz0
  obtain ⟨k, hk⟩ := FnExactGoodHandler_pure u0_0 u0_1 g0_0 g0_1
  refine (PAll.laws_FnExactGoodHandler.calls k u0_0 _ _ u0_1 true W hr0_1 hc0_1 hk).mono fun e W' ⟨he, bel0⟩ => ?_
  have bel : Below W.heap.size W W' := bel0
  subst he
  exact ⟨_, rfl, _, _, _, [], _, [], hW', trodAll_mk1 (shut_bool Try.underlying4 _), (trodAll_cons_mk (Below.trod laidOut (by kernel_rfl) (of_decide_eq_true (by kernel_rfl)) k0 bel lt0) trodAll_mk0), rfl, bel.frame _, fun h => by cases h⟩
theorem over : Rows.fnExactGoodHandlerRow.holds Try.pinned (OpenSpec.ofChange Rows.fnExactGoodHandlerSpec) :=
  OpenClaim.holds_of_wide 3 Try.f3 rfl rfl rfl rfl rfl rfl rfl ⟨rfl, rfl, rfl, rfl, rfl⟩ rfl rfl rfl rfl rfl (by kernel_rfl) Try.func3 (by kernel_rfl)
    (of_decide_eq_true (by kernel_rfl)) (by unfold Func.isWrapper; first | (rw [if_pos (by decide +kernel)]; kernel_rfl) | (rw [if_neg (by decide +kernel)]; exact ⟨rfl, rfl⟩))
    (fun os started H enc _ => lifted os started H enc)
theorem proved : Rows.FnExactGoodHandlerSaid := over
#print axioms proved
end Go.Proofs.Ytjnaokdncemggaa.fnExactGoodHandler
namespace Go.Proofs.Ytjnaokdncemggaa
/-- The row, under a short name, for the claim. -/
theorem fnExactGoodHandler_holds : Rows.FnExactGoodHandlerSaid := fnExactGoodHandler.proved
end Go.Proofs.Ytjnaokdncemggaa
