/-
  No cell of these rows narrows 'for every input' (looked for: loops, veiled, ifaces, maps, wideKeys, modest, calm, conditions, laid).
  DERIVED. THE GIVEN ROWS OF THIS SEAT. 10 by the template 'for every input the law returns true; each argument reads behind the call as it read before'; 0 by the template 'total and deterministic' (their statements: YtjobjielgiojhaaTotals.lean).
  GIVEN WITH THE SEED: the statements are not yours to turn. If you find one false, say at which input.
  Laid BY PROGRAM, IN A SANDBOX (cutbox-rows.mjs): the forced cells as the released guide's own fill.sh prints them over the translation 6177491b734ea704… (all of the seat's roots in one cut). By AI agents, Wed Nov 11 2026. No macro, syntax, notation, axiom, sorry.
-/
import Derived.Test.YtjobjielgiojhaaChecked
import GoSem.Claim
import GoSem.ClaimJoined
import GoSem.ClaimMapViews
import Derived.JoinedTies
import Derived.KernelRfl
namespace Go.Proofs.Ytjobjielgiojhaa
/- THE CELL 'sum', in the pinned program and in every row, IS THE sha256 OF THE DUMP (.gsa) THAT YtjobjielgiojhaaProg.lean LOADS. Nothing in Lean hashes anything: it is a label: what it is worth is what the hold of that sum in a sandbox is worth. -/
noncomputable def Try.pinned : Pinned := { name := "ytjobjielgiojhaa", sum := "6177491b734ea70480854902600a1e58f68ee1c6b229e698b830cd119acb35b4", checked := Try.checked }
namespace Rows
def none {H : Type} : Left H := { results := [], args := [] }

/-- 'laws.FnExactConstants': WHATEVER THE INPUT: true; the input reads as it did. -/
def fnExactConstantsSpec : ChangeSpec := { name := "fnExactConstants", fn := fun _ => fun
  | [] => { results := [.lit (.bool true)], args := [] }
  | _ => none }
def fnExactConstantsRow : OpenClaim := { program := "ytjobjielgiojhaa", sum := "6177491b734ea70480854902600a1e58f68ee1c6b229e698b830cd119acb35b4", func := "loop.example/g00339/laws.FnExactConstants", spec := "fnExactConstants", apart := false }
def FnExactConstantsSaid : Prop := fnExactConstantsRow.holds Try.pinned (OpenSpec.ofChange fnExactConstantsSpec)

/-- ITS FALSE NEIGHBOUR: 'it returns false'. Refute it at one input. -/
def fnExactConstantsWrong : ChangeSpec := { name := "fnExactConstants", fn := fun _ => fun
  | [] => { results := [.lit (.bool false)], args := [] }
  | _ => none }
def FnExactConstantsWrongFalsely : Prop := fnExactConstantsRow.holds Try.pinned (OpenSpec.ofChange fnExactConstantsWrong)

/-- 'laws.FnExactGoodData': WHATEVER THE INPUT: true; the input reads as it did. -/
def fnExactGoodDataSpec : ChangeSpec := { name := "fnExactGoodData", fn := fun _ => fun
  | [d] => { results := [.lit (.bool true)], args := [d] }
  | _ => none }
def fnExactGoodDataRow : OpenClaim := { program := "ytjobjielgiojhaa", sum := "6177491b734ea70480854902600a1e58f68ee1c6b229e698b830cd119acb35b4", func := "loop.example/g00339/laws.FnExactGoodData", spec := "fnExactGoodData", unfollowed := true, recurses := true, apart := false }
def FnExactGoodDataSaid : Prop := fnExactGoodDataRow.holds Try.pinned (OpenSpec.ofChange fnExactGoodDataSpec)

/-- ITS FALSE NEIGHBOUR: 'it returns false'. Refute it at one input. -/
def fnExactGoodDataWrong : ChangeSpec := { name := "fnExactGoodData", fn := fun _ => fun
  | [d] => { results := [.lit (.bool false)], args := [d] }
  | _ => none }
def FnExactGoodDataWrongFalsely : Prop := fnExactGoodDataRow.holds Try.pinned (OpenSpec.ofChange fnExactGoodDataWrong)

/-- 'laws.FnExactGoodValue': WHATEVER THE INPUT: true; the input reads as it did. -/
def fnExactGoodValueSpec : ChangeSpec := { name := "fnExactGoodValue", fn := fun _ => fun
  | [d1, d2] => { results := [.lit (.bool true)], args := [d1, d2] }
  | _ => none }
def fnExactGoodValueRow : OpenClaim := { program := "ytjobjielgiojhaa", sum := "6177491b734ea70480854902600a1e58f68ee1c6b229e698b830cd119acb35b4", func := "loop.example/g00339/laws.FnExactGoodValue", spec := "fnExactGoodValue", unfollowed := true, recurses := true, apart := false }
def FnExactGoodValueSaid : Prop := fnExactGoodValueRow.holds Try.pinned (OpenSpec.ofChange fnExactGoodValueSpec)

/-- ITS FALSE NEIGHBOUR: 'it returns false'. Refute it at one input. -/
def fnExactGoodValueWrong : ChangeSpec := { name := "fnExactGoodValue", fn := fun _ => fun
  | [d1, d2] => { results := [.lit (.bool false)], args := [d1, d2] }
  | _ => none }
def FnExactGoodValueWrongFalsely : Prop := fnExactGoodValueRow.holds Try.pinned (OpenSpec.ofChange fnExactGoodValueWrong)

/-- 'laws.FnExactGoodRules': WHATEVER THE INPUT: true; the input reads as it did. -/
def fnExactGoodRulesSpec : ChangeSpec := { name := "fnExactGoodRules", fn := fun _ => fun
  | [d1, d2] => { results := [.lit (.bool true)], args := [d1, d2] }
  | _ => none }
def fnExactGoodRulesRow : OpenClaim := { program := "ytjobjielgiojhaa", sum := "6177491b734ea70480854902600a1e58f68ee1c6b229e698b830cd119acb35b4", func := "loop.example/g00339/laws.FnExactGoodRules", spec := "fnExactGoodRules", unfollowed := true, recurses := true, apart := false }
def FnExactGoodRulesSaid : Prop := fnExactGoodRulesRow.holds Try.pinned (OpenSpec.ofChange fnExactGoodRulesSpec)

/-- ITS FALSE NEIGHBOUR: 'it returns false'. Refute it at one input. -/
def fnExactGoodRulesWrong : ChangeSpec := { name := "fnExactGoodRules", fn := fun _ => fun
  | [d1, d2] => { results := [.lit (.bool false)], args := [d1, d2] }
  | _ => none }
def FnExactGoodRulesWrongFalsely : Prop := fnExactGoodRulesRow.holds Try.pinned (OpenSpec.ofChange fnExactGoodRulesWrong)

/-- 'laws.FnExactFirstMatch': WHATEVER THE INPUT: true; the input reads as it did. -/
def fnExactFirstMatchSpec : ChangeSpec := { name := "fnExactFirstMatch", fn := fun _ => fun
  | [d1, d2, d3] => { results := [.lit (.bool true)], args := [d1, d2, d3] }
  | _ => none }
def fnExactFirstMatchRow : OpenClaim := { program := "ytjobjielgiojhaa", sum := "6177491b734ea70480854902600a1e58f68ee1c6b229e698b830cd119acb35b4", func := "loop.example/g00339/laws.FnExactFirstMatch", spec := "fnExactFirstMatch", unfollowed := true, recurses := true, apart := false }
def FnExactFirstMatchSaid : Prop := fnExactFirstMatchRow.holds Try.pinned (OpenSpec.ofChange fnExactFirstMatchSpec)

/-- ITS FALSE NEIGHBOUR: 'it returns false'. Refute it at one input. -/
def fnExactFirstMatchWrong : ChangeSpec := { name := "fnExactFirstMatch", fn := fun _ => fun
  | [d1, d2, d3] => { results := [.lit (.bool false)], args := [d1, d2, d3] }
  | _ => none }
def FnExactFirstMatchWrongFalsely : Prop := fnExactFirstMatchRow.holds Try.pinned (OpenSpec.ofChange fnExactFirstMatchWrong)

/-- 'laws.FnExactVainIn': WHATEVER THE INPUT: true; the input reads as it did. -/
def fnExactVainInSpec : ChangeSpec := { name := "fnExactVainIn", fn := fun _ => fun
  | [d1, d2] => { results := [.lit (.bool true)], args := [d1, d2] }
  | _ => none }
def fnExactVainInRow : OpenClaim := { program := "ytjobjielgiojhaa", sum := "6177491b734ea70480854902600a1e58f68ee1c6b229e698b830cd119acb35b4", func := "loop.example/g00339/laws.FnExactVainIn", spec := "fnExactVainIn", unfollowed := true, recurses := true, apart := false }
def FnExactVainInSaid : Prop := fnExactVainInRow.holds Try.pinned (OpenSpec.ofChange fnExactVainInSpec)

/-- ITS FALSE NEIGHBOUR: 'it returns false'. Refute it at one input. -/
def fnExactVainInWrong : ChangeSpec := { name := "fnExactVainIn", fn := fun _ => fun
  | [d1, d2] => { results := [.lit (.bool false)], args := [d1, d2] }
  | _ => none }
def FnExactVainInWrongFalsely : Prop := fnExactVainInRow.holds Try.pinned (OpenSpec.ofChange fnExactVainInWrong)

/-- 'laws.FnExactCompileRules': WHATEVER THE INPUT: true; the input reads as it did. -/
def fnExactCompileRulesSpec : ChangeSpec := { name := "fnExactCompileRules", fn := fun _ => fun
  | [d1, d2] => { results := [.lit (.bool true)], args := [d1, d2] }
  | _ => none }
def fnExactCompileRulesRow : OpenClaim := { program := "ytjobjielgiojhaa", sum := "6177491b734ea70480854902600a1e58f68ee1c6b229e698b830cd119acb35b4", func := "loop.example/g00339/laws.FnExactCompileRules", spec := "fnExactCompileRules", unfollowed := true, recurses := true, apart := false }
def FnExactCompileRulesSaid : Prop := fnExactCompileRulesRow.holds Try.pinned (OpenSpec.ofChange fnExactCompileRulesSpec)

/-- ITS FALSE NEIGHBOUR: 'it returns false'. Refute it at one input. -/
def fnExactCompileRulesWrong : ChangeSpec := { name := "fnExactCompileRules", fn := fun _ => fun
  | [d1, d2] => { results := [.lit (.bool false)], args := [d1, d2] }
  | _ => none }
def FnExactCompileRulesWrongFalsely : Prop := fnExactCompileRulesRow.holds Try.pinned (OpenSpec.ofChange fnExactCompileRulesWrong)

/-- 'laws.FnExactGoodType': WHATEVER THE INPUT: true; the input reads as it did. -/
def fnExactGoodTypeSpec : ChangeSpec := { name := "fnExactGoodType", fn := fun _ => fun
  | [d] => { results := [.lit (.bool true)], args := [d] }
  | _ => none }
def fnExactGoodTypeRow : OpenClaim := { program := "ytjobjielgiojhaa", sum := "6177491b734ea70480854902600a1e58f68ee1c6b229e698b830cd119acb35b4", func := "loop.example/g00339/laws.FnExactGoodType", spec := "fnExactGoodType", recurses := true, apart := false }
def FnExactGoodTypeSaid : Prop := fnExactGoodTypeRow.holds Try.pinned (OpenSpec.ofChange fnExactGoodTypeSpec)

/-- ITS FALSE NEIGHBOUR: 'it returns false'. Refute it at one input. -/
def fnExactGoodTypeWrong : ChangeSpec := { name := "fnExactGoodType", fn := fun _ => fun
  | [d] => { results := [.lit (.bool false)], args := [d] }
  | _ => none }
def FnExactGoodTypeWrongFalsely : Prop := fnExactGoodTypeRow.holds Try.pinned (OpenSpec.ofChange fnExactGoodTypeWrong)

/-- 'laws.FnExactIsInstance': WHATEVER THE INPUT: true; the input reads as it did. -/
def fnExactIsInstanceSpec : ChangeSpec := { name := "fnExactIsInstance", fn := fun _ => fun
  | [d1, d2] => { results := [.lit (.bool true)], args := [d1, d2] }
  | _ => none }
def fnExactIsInstanceRow : OpenClaim := { program := "ytjobjielgiojhaa", sum := "6177491b734ea70480854902600a1e58f68ee1c6b229e698b830cd119acb35b4", func := "loop.example/g00339/laws.FnExactIsInstance", spec := "fnExactIsInstance", recurses := true, apart := false }
def FnExactIsInstanceSaid : Prop := fnExactIsInstanceRow.holds Try.pinned (OpenSpec.ofChange fnExactIsInstanceSpec)

/-- ITS FALSE NEIGHBOUR: 'it returns false'. Refute it at one input. -/
def fnExactIsInstanceWrong : ChangeSpec := { name := "fnExactIsInstance", fn := fun _ => fun
  | [d1, d2] => { results := [.lit (.bool false)], args := [d1, d2] }
  | _ => none }
def FnExactIsInstanceWrongFalsely : Prop := fnExactIsInstanceRow.holds Try.pinned (OpenSpec.ofChange fnExactIsInstanceWrong)

/-- 'laws.FnExactTidyType': WHATEVER THE INPUT: true; the input reads as it did. -/
def fnExactTidyTypeSpec : ChangeSpec := { name := "fnExactTidyType", fn := fun _ => fun
  | [d] => { results := [.lit (.bool true)], args := [d] }
  | _ => none }
def fnExactTidyTypeRow : OpenClaim := { program := "ytjobjielgiojhaa", sum := "6177491b734ea70480854902600a1e58f68ee1c6b229e698b830cd119acb35b4", func := "loop.example/g00339/laws.FnExactTidyType", spec := "fnExactTidyType", recurses := true, apart := false }
def FnExactTidyTypeSaid : Prop := fnExactTidyTypeRow.holds Try.pinned (OpenSpec.ofChange fnExactTidyTypeSpec)

/-- ITS FALSE NEIGHBOUR: 'it returns false'. Refute it at one input. -/
def fnExactTidyTypeWrong : ChangeSpec := { name := "fnExactTidyType", fn := fun _ => fun
  | [d] => { results := [.lit (.bool false)], args := [d] }
  | _ => none }
def FnExactTidyTypeWrongFalsely : Prop := fnExactTidyTypeRow.holds Try.pinned (OpenSpec.ofChange fnExactTidyTypeWrong)

/- THE SECOND FORM. 'bulk': how many values and letters a reading holds, each counted each time it is reached (what is shared counts as often as it is met; a slice's spare places count too). A statement '..UptoSaid' is the law's where the arguments, and the package variables that the reading takes, are together of bulk at most 1048576: NARROWER than '..Said'. Prove '..Said' where nothing that the law and all that it calls make is longer than what came in: it says more and counts as full. Else prove '..UptoSaid'. A law counts once. -/
mutual
def uptoBulk {H : Type} : DataW H → Nat
  | .lit (.string bytes) => bytes.length + 1
  | .lit _ => 1
  | .nil => 1
  | .ptr d => uptoBulk d + 1
  | .slice elems spare => uptoBulkAll elems + uptoBulkAll spare + 1
  | .agg parts => uptoBulkAll parts + 1
  | .iface _ d => uptoBulk d + 1
  | .map entries => uptoBulkEntries entries + 1
  | .held _ => 1
def uptoBulkAll {H : Type} : List (DataW H) → Nat
  | [] => 0
  | d :: r => uptoBulk d + uptoBulkAll r
def uptoBulkEntries {H : Type} : List (Lit × DataW H) → Nat
  | [] => 0
  | x :: r => uptoBulkEntry x + uptoBulkEntries r
def uptoBulkEntry {H : Type} : Lit × DataW H → Nat
  | (.string bytes, d) => bytes.length + uptoBulk d + 1
  | (_, d) => uptoBulk d + 1
 end
def uptoSmall : (H : Type) → List (DataW H) → Bool := fun _ ds => decide (uptoBulkAll ds ≤ 1048576)
def OpenSpec.upto (s : _root_.Go.ChangeSpec) : _root_.Go.OpenSpec := { _root_.Go.OpenSpec.ofChange s with cond := some uptoSmall }

/-- 'laws.FnExactConstants', WHERE WHAT IT READS IS OF BULK AT MOST 1048576: true; the input reads as it did. -/
def fnExactConstantsUptoRow : OpenClaim := { program := "ytjobjielgiojhaa", sum := "6177491b734ea70480854902600a1e58f68ee1c6b229e698b830cd119acb35b4", func := "loop.example/g00339/laws.FnExactConstants", spec := "fnExactConstants", apart := false, narrowed := true }
def FnExactConstantsUptoSaid : Prop := fnExactConstantsUptoRow.holds Try.pinned (OpenSpec.upto fnExactConstantsSpec)

/-- 'laws.FnExactGoodData', WHERE WHAT IT READS IS OF BULK AT MOST 1048576: true; the input reads as it did. -/
def fnExactGoodDataUptoRow : OpenClaim := { program := "ytjobjielgiojhaa", sum := "6177491b734ea70480854902600a1e58f68ee1c6b229e698b830cd119acb35b4", func := "loop.example/g00339/laws.FnExactGoodData", spec := "fnExactGoodData", unfollowed := true, recurses := true, apart := false, narrowed := true }
def FnExactGoodDataUptoSaid : Prop := fnExactGoodDataUptoRow.holds Try.pinned (OpenSpec.upto fnExactGoodDataSpec)

/-- 'laws.FnExactGoodValue', WHERE WHAT IT READS IS OF BULK AT MOST 1048576: true; the input reads as it did. -/
def fnExactGoodValueUptoRow : OpenClaim := { program := "ytjobjielgiojhaa", sum := "6177491b734ea70480854902600a1e58f68ee1c6b229e698b830cd119acb35b4", func := "loop.example/g00339/laws.FnExactGoodValue", spec := "fnExactGoodValue", unfollowed := true, recurses := true, apart := false, narrowed := true }
def FnExactGoodValueUptoSaid : Prop := fnExactGoodValueUptoRow.holds Try.pinned (OpenSpec.upto fnExactGoodValueSpec)

/-- 'laws.FnExactGoodRules', WHERE WHAT IT READS IS OF BULK AT MOST 1048576: true; the input reads as it did. -/
def fnExactGoodRulesUptoRow : OpenClaim := { program := "ytjobjielgiojhaa", sum := "6177491b734ea70480854902600a1e58f68ee1c6b229e698b830cd119acb35b4", func := "loop.example/g00339/laws.FnExactGoodRules", spec := "fnExactGoodRules", unfollowed := true, recurses := true, apart := false, narrowed := true }
def FnExactGoodRulesUptoSaid : Prop := fnExactGoodRulesUptoRow.holds Try.pinned (OpenSpec.upto fnExactGoodRulesSpec)

/-- 'laws.FnExactFirstMatch', WHERE WHAT IT READS IS OF BULK AT MOST 1048576: true; the input reads as it did. -/
def fnExactFirstMatchUptoRow : OpenClaim := { program := "ytjobjielgiojhaa", sum := "6177491b734ea70480854902600a1e58f68ee1c6b229e698b830cd119acb35b4", func := "loop.example/g00339/laws.FnExactFirstMatch", spec := "fnExactFirstMatch", unfollowed := true, recurses := true, apart := false, narrowed := true }
def FnExactFirstMatchUptoSaid : Prop := fnExactFirstMatchUptoRow.holds Try.pinned (OpenSpec.upto fnExactFirstMatchSpec)

/-- 'laws.FnExactVainIn', WHERE WHAT IT READS IS OF BULK AT MOST 1048576: true; the input reads as it did. -/
def fnExactVainInUptoRow : OpenClaim := { program := "ytjobjielgiojhaa", sum := "6177491b734ea70480854902600a1e58f68ee1c6b229e698b830cd119acb35b4", func := "loop.example/g00339/laws.FnExactVainIn", spec := "fnExactVainIn", unfollowed := true, recurses := true, apart := false, narrowed := true }
def FnExactVainInUptoSaid : Prop := fnExactVainInUptoRow.holds Try.pinned (OpenSpec.upto fnExactVainInSpec)

/-- 'laws.FnExactCompileRules', WHERE WHAT IT READS IS OF BULK AT MOST 1048576: true; the input reads as it did. -/
def fnExactCompileRulesUptoRow : OpenClaim := { program := "ytjobjielgiojhaa", sum := "6177491b734ea70480854902600a1e58f68ee1c6b229e698b830cd119acb35b4", func := "loop.example/g00339/laws.FnExactCompileRules", spec := "fnExactCompileRules", unfollowed := true, recurses := true, apart := false, narrowed := true }
def FnExactCompileRulesUptoSaid : Prop := fnExactCompileRulesUptoRow.holds Try.pinned (OpenSpec.upto fnExactCompileRulesSpec)

/-- 'laws.FnExactGoodType', WHERE WHAT IT READS IS OF BULK AT MOST 1048576: true; the input reads as it did. -/
def fnExactGoodTypeUptoRow : OpenClaim := { program := "ytjobjielgiojhaa", sum := "6177491b734ea70480854902600a1e58f68ee1c6b229e698b830cd119acb35b4", func := "loop.example/g00339/laws.FnExactGoodType", spec := "fnExactGoodType", recurses := true, apart := false, narrowed := true }
def FnExactGoodTypeUptoSaid : Prop := fnExactGoodTypeUptoRow.holds Try.pinned (OpenSpec.upto fnExactGoodTypeSpec)

/-- 'laws.FnExactIsInstance', WHERE WHAT IT READS IS OF BULK AT MOST 1048576: true; the input reads as it did. -/
def fnExactIsInstanceUptoRow : OpenClaim := { program := "ytjobjielgiojhaa", sum := "6177491b734ea70480854902600a1e58f68ee1c6b229e698b830cd119acb35b4", func := "loop.example/g00339/laws.FnExactIsInstance", spec := "fnExactIsInstance", recurses := true, apart := false, narrowed := true }
def FnExactIsInstanceUptoSaid : Prop := fnExactIsInstanceUptoRow.holds Try.pinned (OpenSpec.upto fnExactIsInstanceSpec)

/-- 'laws.FnExactTidyType', WHERE WHAT IT READS IS OF BULK AT MOST 1048576: true; the input reads as it did. -/
def fnExactTidyTypeUptoRow : OpenClaim := { program := "ytjobjielgiojhaa", sum := "6177491b734ea70480854902600a1e58f68ee1c6b229e698b830cd119acb35b4", func := "loop.example/g00339/laws.FnExactTidyType", spec := "fnExactTidyType", recurses := true, apart := false, narrowed := true }
def FnExactTidyTypeUptoSaid : Prop := fnExactTidyTypeUptoRow.holds Try.pinned (OpenSpec.upto fnExactTidyTypeSpec)

end Rows
end Go.Proofs.Ytjobjielgiojhaa
