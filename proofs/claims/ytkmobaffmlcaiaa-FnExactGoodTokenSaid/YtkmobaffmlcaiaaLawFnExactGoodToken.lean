/- The row of FnExactGoodToken, out of its pure statement and the walk. -/
import Derived.Test.YtkmobaffmlcaiaaRows
import Derived.Test.YtkmobaffmlcaiaaPureFnExactGoodToken
import Derived.Test.YtkmobaffmlcaiaaOpens
import Derived.WalkKit
import Derived.ProofKit
import Derived.OpenShut
import Derived.ShutString
import Derived.ChangeOld
import Derived.Below
import Derived.SizedLaws
namespace Go.Proofs.Ytkmobaffmlcaiaa.fnExactGoodToken
open Go.ChangeShapes Go.WideShapes Go.ChangeAt Go.RowKit Go.Proofs.Ytkmobaffmlcaiaa.PAll Go.Proofs.YtkmobaffmlcaiaaW.PrintWords Go.Proofs.YtkmobaffmlcaiaaW.Opens
open Go.ChangeMaps (open_string shut_string)
set_option linter.unusedVariables false
theorem own : ownKnob Try.prog.godebug = none := by kernel_rfl
theorem laidOut : laidOutB Try.prog = true := by kernel_rfl
set_option maxRecDepth 100000 in
set_option maxHeartbeats 1000000 in
theorem lifted (os : Os) (started : os.Started) (H : Type) (enc : TypeId × Value → H) :
    ReturnsInHanded {} Try.checked os 5 .any (Rows.fnExactGoodTokenSpec.pre6 enc Try.prog Try.f5 Rows.fnExactGoodTokenRow.domain false) (Rows.fnExactGoodTokenSpec.post enc Try.prog Try.f5 false true false false) := by
  refine returnsInHanded_of_change_sized (C := Try.checked) own started (by kernel_rfl) Try.func5
    (ChangeSpec.witness6 (enc := enc) (C := Try.checked) false ⟨#[], #[.agg #[.int .i64 0, .int .i64 0, .string ByteArray.empty, .int .i64 0]], []⟩ 8 (by kernel_rfl) (by kernel_rfl) (by kernel_rfl) (by kernel_rfl)) ?_
  intro W base args ds gs before hval0 hW hcnd hsz0 _
  have hval : ∀ (j : Nat) t v, Try.f5.params[j]? = some t → args[j]? = some v → Value.okWide Try.prog W .any base t v := hval0
  have hW' := hW
  obtain ⟨p, q, hA0, hV, rfl, hfz, hnd⟩ := hW
  have hA : DataW.TrodAll enc Try.prog W 0 (fun _ => true) true Try.f5.params.toList args.toList ds p := hA0
  rw [Try.params5] at hA hval
  obtain ⟨v0, vs0, d0, ds0, p0, q0, hargs, rfl, rfl, h0, r0⟩ := trodAll_cons hA
  obtain ⟨rfl, rfl, rfl⟩ := trodAll_nil r0
  obtain rfl : args = #[v0] := by cases args; simp_all
  obtain ⟨rfl, rfl⟩ := trodVars_none hV
  obtain ⟨cs0, rfl, hsz0⟩ := okWide_struct Try.underlying31 (hval 0 31 v0 rfl rfl)
  have k0 := h0
  have lt0 : ∀ x ∈ p0, x.block < W.heap.size := by obtain ⟨m, hm⟩ := k0; exact DataW.trod_lt m _ _ _ hm
  obtain ⟨⟨u0_0, u0_1, u0_2, u0_3⟩, ⟨c0_0, r0_0, e0_0, k0_0, ⟨c0_1, r0_1, e0_1, k0_1, ⟨c0_2, c0_3, e0_2, k0_2, k0_3⟩⟩⟩, g0_0, g0_1, g0_2, g0_3⟩ := agg_came (opn_struct4 Try.underlying31 (by kernel_rfl) (opn_int Try.underlying3) (opn_int Try.underlying3) (opn_string Try.underlying9) (opn_int Try.underlying3)) h0
  obtain rfl : c0_0 = [.int .i64 u0_0] := k0_0
  obtain rfl : c0_1 = [.int .i64 u0_1] := k0_1
  obtain rfl : c0_2 = [.string u0_2] := k0_2
  obtain rfl : c0_3 = [.int .i64 u0_3] := k0_3
  subst e0_1
  subst e0_2
  obtain rfl : cs0 = #[.int .i64 u0_0, .int .i64 u0_1, .string u0_2, .int .i64 u0_3] := by cases cs0; simp_all
  clear hA0 hval0 hsz0
  obtain ⟨k, hk⟩ := FnExactGoodToken_pure u0_0 u0_1 u0_2 u0_3 g0_0 g0_1 g0_2 g0_3
  refine (PAll.laws_FnExactGoodToken.calls k u0_0 u0_1 u0_2 u0_3 true W  hk).mono fun e W' ⟨he, bel0⟩ => ?_
  have bel : Below W.heap.size W W' := bel0
  subst he
  exact ⟨_, rfl, _, _, _, [], _, [], hW', trodAll_mk1 (shut_bool Try.underlying4 _), (trodAll_cons_mk (Below.trod laidOut (by kernel_rfl) (of_decide_eq_true (by kernel_rfl)) k0 bel lt0) trodAll_mk0), rfl, bel.frame _, fun h => by cases h⟩
theorem over : Rows.fnExactGoodTokenRow.holds Try.pinned (OpenSpec.ofChange Rows.fnExactGoodTokenSpec) :=
  OpenClaim.holds_of_wide 5 Try.f5 rfl rfl rfl rfl rfl rfl rfl ⟨rfl, rfl, rfl, rfl, rfl⟩ rfl rfl rfl rfl rfl (by kernel_rfl) Try.func5 (by kernel_rfl)
    (of_decide_eq_true (by kernel_rfl)) (by unfold Func.isWrapper; first | (rw [if_pos (by decide +kernel)]; kernel_rfl) | (rw [if_neg (by decide +kernel)]; exact ⟨rfl, rfl⟩))
    (fun os started H enc _ => lifted os started H enc)
theorem proved : Rows.FnExactGoodTokenSaid := over
#print axioms proved
end Go.Proofs.Ytkmobaffmlcaiaa.fnExactGoodToken
namespace Go.Proofs.Ytkmobaffmlcaiaa
/-- The row, under a short name, for the claim. -/
theorem fnExactGoodToken_holds : Rows.FnExactGoodTokenSaid := fnExactGoodToken.proved
end Go.Proofs.Ytkmobaffmlcaiaa
