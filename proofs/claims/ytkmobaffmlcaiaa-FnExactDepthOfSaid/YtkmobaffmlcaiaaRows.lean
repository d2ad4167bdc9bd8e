/-
  No cell of these rows narrows 'for every input' (looked for: loops, veiled, ifaces, maps, wideKeys, modest, calm, conditions, laid).
  DERIVED. THE GIVEN ROWS OF THIS SEAT. 5 by the template 'for every input the law returns true; each argument reads behind the call as it read before'; 0 by the template 'total and deterministic' (their statements: YtkmobaffmlcaiaaTotals.lean).
  GIVEN WITH THE SEED: the statements are not yours to turn. If you find one false, say at which input.
  Laid BY PROGRAM, IN A SANDBOX (cutbox-rows.mjs): the forced cells as the released guide's own fill.sh prints them over the translation cd74346af02f70aa… (all of the seat's roots in one cut). By AI agents, Wed Nov 11 2026. No macro, syntax, notation, axiom, sorry.
-/
import Derived.Test.YtkmobaffmlcaiaaChecked
import GoSem.Claim
import GoSem.ClaimJoined
import GoSem.ClaimMapViews
import Derived.JoinedTies
import Derived.KernelRfl
namespace Go.Proofs.Ytkmobaffmlcaiaa
/- THE CELL 'sum', in the pinned program and in every row, IS THE sha256 OF THE DUMP (.gsa) THAT YtkmobaffmlcaiaaProg.lean LOADS. Nothing in Lean hashes anything: it is a label: what it is worth is what the hold of that sum in a sandbox is worth. -/
noncomputable def Try.pinned : Pinned := { name := "ytkmobaffmlcaiaa", sum := "cd74346af02f70aa49960cef7fae6be8bc6c18cedbb311a8f32eda12187bc283", checked := Try.checked }
namespace Rows
def none {H : Type} : Left H := { results := [], args := [] }

/-- 'laws.FnExactStrengthOf': WHATEVER THE INPUT: true; the input reads as it did. -/
def fnExactStrengthOfSpec : ChangeSpec := { name := "fnExactStrengthOf", fn := fun _ => fun
  | [d] => { results := [.lit (.bool true)], args := [d] }
  | _ => none }
def fnExactStrengthOfRow : OpenClaim := { program := "ytkmobaffmlcaiaa", sum := "cd74346af02f70aa49960cef7fae6be8bc6c18cedbb311a8f32eda12187bc283", func := "loop.example/g00339/laws.FnExactStrengthOf", spec := "fnExactStrengthOf", apart := false }
def FnExactStrengthOfSaid : Prop := fnExactStrengthOfRow.holds Try.pinned (OpenSpec.ofChange fnExactStrengthOfSpec)

/-- ITS FALSE NEIGHBOUR: 'it returns false'. Refute it at one input. -/
def fnExactStrengthOfWrong : ChangeSpec := { name := "fnExactStrengthOf", fn := fun _ => fun
  | [d] => { results := [.lit (.bool false)], args := [d] }
  | _ => none }
def FnExactStrengthOfWrongFalsely : Prop := fnExactStrengthOfRow.holds Try.pinned (OpenSpec.ofChange fnExactStrengthOfWrong)

/-- 'laws.FnExactSignsOf': WHATEVER THE INPUT: true; the input reads as it did. -/
def fnExactSignsOfSpec : ChangeSpec := { name := "fnExactSignsOf", fn := fun _ => fun
  | [] => { results := [.lit (.bool true)], args := [] }
  | _ => none }
def fnExactSignsOfRow : OpenClaim := { program := "ytkmobaffmlcaiaa", sum := "cd74346af02f70aa49960cef7fae6be8bc6c18cedbb311a8f32eda12187bc283", func := "loop.example/g00339/laws.FnExactSignsOf", spec := "fnExactSignsOf", apart := false }
def FnExactSignsOfSaid : Prop := fnExactSignsOfRow.holds Try.pinned (OpenSpec.ofChange fnExactSignsOfSpec)

/-- ITS FALSE NEIGHBOUR: 'it returns false'. Refute it at one input. -/
def fnExactSignsOfWrong : ChangeSpec := { name := "fnExactSignsOf", fn := fun _ => fun
  | [] => { results := [.lit (.bool false)], args := [] }
  | _ => none }
def FnExactSignsOfWrongFalsely : Prop := fnExactSignsOfRow.holds Try.pinned (OpenSpec.ofChange fnExactSignsOfWrong)

/-- 'laws.FnExactGoodToken': WHATEVER THE INPUT: true; the input reads as it did. -/
def fnExactGoodTokenSpec : ChangeSpec := { name := "fnExactGoodToken", fn := fun _ => fun
  | [d] => { results := [.lit (.bool true)], args := [d] }
  | _ => none }
def fnExactGoodTokenRow : OpenClaim := { program := "ytkmobaffmlcaiaa", sum := "cd74346af02f70aa49960cef7fae6be8bc6c18cedbb311a8f32eda12187bc283", func := "loop.example/g00339/laws.FnExactGoodToken", spec := "fnExactGoodToken", unfollowed := true, recurses := true, apart := false }
def FnExactGoodTokenSaid : Prop := fnExactGoodTokenRow.holds Try.pinned (OpenSpec.ofChange fnExactGoodTokenSpec)

/-- ITS FALSE NEIGHBOUR: 'it returns false'. Refute it at one input. -/
def fnExactGoodTokenWrong : ChangeSpec := { name := "fnExactGoodToken", fn := fun _ => fun
  | [d] => { results := [.lit (.bool false)], args := [d] }
  | _ => none }
def FnExactGoodTokenWrongFalsely : Prop := fnExactGoodTokenRow.holds Try.pinned (OpenSpec.ofChange fnExactGoodTokenWrong)

/-- 'laws.FnExactGoodExpr': WHATEVER THE INPUT: true; the input reads as it did. -/
def fnExactGoodExprSpec : ChangeSpec := { name := "fnExactGoodExpr", fn := fun _ => fun
  | [d] => { results := [.lit (.bool true)], args := [d] }
  | _ => none }
def fnExactGoodExprRow : OpenClaim := { program := "ytkmobaffmlcaiaa", sum := "cd74346af02f70aa49960cef7fae6be8bc6c18cedbb311a8f32eda12187bc283", func := "loop.example/g00339/laws.FnExactGoodExpr", spec := "fnExactGoodExpr", unfollowed := true, recurses := true, apart := false }
def FnExactGoodExprSaid : Prop := fnExactGoodExprRow.holds Try.pinned (OpenSpec.ofChange fnExactGoodExprSpec)

/-- ITS FALSE NEIGHBOUR: 'it returns false'. Refute it at one input. -/
def fnExactGoodExprWrong : ChangeSpec := { name := "fnExactGoodExpr", fn := fun _ => fun
  | [d] => { results := [.lit (.bool false)], args := [d] }
  | _ => none }
def FnExactGoodExprWrongFalsely : Prop := fnExactGoodExprRow.holds Try.pinned (OpenSpec.ofChange fnExactGoodExprWrong)

/-- 'laws.FnExactDepthOf': WHATEVER THE INPUT: true; the input reads as it did. -/
def fnExactDepthOfSpec : ChangeSpec := { name := "fnExactDepthOf", fn := fun _ => fun
  | [d] => { results := [.lit (.bool true)], args := [d] }
  | _ => none }
def fnExactDepthOfRow : OpenClaim := { program := "ytkmobaffmlcaiaa", sum := "cd74346af02f70aa49960cef7fae6be8bc6c18cedbb311a8f32eda12187bc283", func := "loop.example/g00339/laws.FnExactDepthOf", spec := "fnExactDepthOf", unfollowed := true, recurses := true, apart := false }
def FnExactDepthOfSaid : Prop := fnExactDepthOfRow.holds Try.pinned (OpenSpec.ofChange fnExactDepthOfSpec)

/-- ITS FALSE NEIGHBOUR: 'it returns false'. Refute it at one input. -/
def fnExactDepthOfWrong : ChangeSpec := { name := "fnExactDepthOf", fn := fun _ => fun
  | [d] => { results := [.lit (.bool false)], args := [d] }
  | _ => none }
def FnExactDepthOfWrongFalsely : Prop := fnExactDepthOfRow.holds Try.pinned (OpenSpec.ofChange fnExactDepthOfWrong)

/- THE SECOND FORM. 'bulk': how many values and letters a reading holds, each counted each time it is reached (what is shared counts as often as it is met; a slice's spare places count too). A statement '..UptoSaid' is the law's where the arguments, and the package variables that the reading takes, are together of bulk at most 1048576: NARROWER than '..Said'. Prove '..Said' where nothing that the law and all that it calls make is longer than what came in: it says more and counts as full. Else prove '..UptoSaid'. A law counts once. -/
mutual
def uptoBulk {H : Type} : DataW H → Nat
  | .lit (.string bytes) => bytes.length + 1
  | .lit _ => 1
  | .nil => 1
  | .ptr d => uptoBulk d + 1
  | .slice elems spare => uptoBulkAll elems + uptoBulkAll spare + 1
  | .agg parts => uptoBulkAll parts + 1
  | .iface _ d => uptoBulk d + 1
  | .map entries => uptoBulkEntries entries + 1
  | .held _ => 1
def uptoBulkAll {H : Type} : List (DataW H) → Nat
  | [] => 0
  | d :: r => uptoBulk d + uptoBulkAll r
def uptoBulkEntries {H : Type} : List (Lit × DataW H) → Nat
  | [] => 0
  | x :: r => uptoBulkEntry x + uptoBulkEntries r
def uptoBulkEntry {H : Type} : Lit × DataW H → Nat
  | (.string bytes, d) => bytes.length + uptoBulk d + 1
  | (_, d) => uptoBulk d + 1
 end
def uptoSmall : (H : Type) → List (DataW H) → Bool := fun _ ds => decide (uptoBulkAll ds ≤ 1048576)
def OpenSpec.upto (s : _root_.Go.ChangeSpec) : _root_.Go.OpenSpec := { _root_.Go.OpenSpec.ofChange s with cond := some uptoSmall }

/-- 'laws.FnExactStrengthOf', WHERE WHAT IT READS IS OF BULK AT MOST 1048576: true; the input reads as it did. -/
def fnExactStrengthOfUptoRow : OpenClaim := { program := "ytkmobaffmlcaiaa", sum := "cd74346af02f70aa49960cef7fae6be8bc6c18cedbb311a8f32eda12187bc283", func := "loop.example/g00339/laws.FnExactStrengthOf", spec := "fnExactStrengthOf", apart := false, narrowed := true }
def FnExactStrengthOfUptoSaid : Prop := fnExactStrengthOfUptoRow.holds Try.pinned (OpenSpec.upto fnExactStrengthOfSpec)

/-- 'laws.FnExactSignsOf', WHERE WHAT IT READS IS OF BULK AT MOST 1048576: true; the input reads as it did. -/
def fnExactSignsOfUptoRow : OpenClaim := { program := "ytkmobaffmlcaiaa", sum := "cd74346af02f70aa49960cef7fae6be8bc6c18cedbb311a8f32eda12187bc283", func := "loop.example/g00339/laws.FnExactSignsOf", spec := "fnExactSignsOf", apart := false, narrowed := true }
def FnExactSignsOfUptoSaid : Prop := fnExactSignsOfUptoRow.holds Try.pinned (OpenSpec.upto fnExactSignsOfSpec)

/-- 'laws.FnExactGoodToken', WHERE WHAT IT READS IS OF BULK AT MOST 1048576: true; the input reads as it did. -/
def fnExactGoodTokenUptoRow : OpenClaim := { program := "ytkmobaffmlcaiaa", sum := "cd74346af02f70aa49960cef7fae6be8bc6c18cedbb311a8f32eda12187bc283", func := "loop.example/g00339/laws.FnExactGoodToken", spec := "fnExactGoodToken", unfollowed := true, recurses := true, apart := false, narrowed := true }
def FnExactGoodTokenUptoSaid : Prop := fnExactGoodTokenUptoRow.holds Try.pinned (OpenSpec.upto fnExactGoodTokenSpec)

/-- 'laws.FnExactGoodExpr', WHERE WHAT IT READS IS OF BULK AT MOST 1048576: true; the input reads as it did. -/
def fnExactGoodExprUptoRow : OpenClaim := { program := "ytkmobaffmlcaiaa", sum := "cd74346af02f70aa49960cef7fae6be8bc6c18cedbb311a8f32eda12187bc283", func := "loop.example/g00339/laws.FnExactGoodExpr", spec := "fnExactGoodExpr", unfollowed := true, recurses := true, apart := false, narrowed := true }
def FnExactGoodExprUptoSaid : Prop := fnExactGoodExprUptoRow.holds Try.pinned (OpenSpec.upto fnExactGoodExprSpec)

/-- 'laws.FnExactDepthOf', WHERE WHAT IT READS IS OF BULK AT MOST 1048576: true; the input reads as it did. -/
def fnExactDepthOfUptoRow : OpenClaim := { program := "ytkmobaffmlcaiaa", sum := "cd74346af02f70aa49960cef7fae6be8bc6c18cedbb311a8f32eda12187bc283", func := "loop.example/g00339/laws.FnExactDepthOf", spec := "fnExactDepthOf", unfollowed := true, recurses := true, apart := false, narrowed := true }
def FnExactDepthOfUptoSaid : Prop := fnExactDepthOfUptoRow.holds Try.pinned (OpenSpec.upto fnExactDepthOfSpec)

end Rows
end Go.Proofs.Ytkmobaffmlcaiaa
