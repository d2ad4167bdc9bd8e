/-
  No cell of these rows narrows 'for every input' (looked for: loops, veiled, ifaces, maps, wideKeys, modest, calm, conditions, laid).
  DERIVED. THE GIVEN ROWS OF THIS SEAT. 10 by the template 'for every input the law returns true; each argument reads behind the call as it read before'; 0 by the template 'total and deterministic' (their statements: YtgoiifpimpnlpaaTotals.lean).
  GIVEN WITH THE SEED: the statements are not yours to turn. If you find one false, say at which input.
  Laid BY PROGRAM, IN A SANDBOX (cutbox-rows.mjs): the forced cells as the released guide's own fill.sh prints them over the translation 6b9efaa669744afc… (all of the seat's roots in one cut). By AI agents, Wed Nov 11 2026. No macro, syntax, notation, axiom, sorry.
-/
import Derived.Test.YtgoiifpimpnlpaaChecked
import GoSem.Claim
import GoSem.ClaimJoined
import GoSem.ClaimMapViews
import Derived.JoinedTies
import Derived.KernelRfl
namespace Go.Proofs.Ytgoiifpimpnlpaa
/- THE CELL 'sum', in the pinned program and in every row, IS THE sha256 OF THE DUMP (.gsa) THAT YtgoiifpimpnlpaaProg.lean LOADS. Nothing in Lean hashes anything: it is a label: what it is worth is what the hold of that sum in a sandbox is worth. -/
noncomputable def Try.pinned : Pinned := { name := "ytgoiifpimpnlpaa", sum := "6b9efaa669744afc343a5b05985c5b1c65b168e30c5f051234f5c4320c86476b", checked := Try.checked }
namespace Rows
def none {H : Type} : Left H := { results := [], args := [] }

/-- 'laws.FnExactGoodTerm': WHATEVER THE INPUT: true; the input reads as it did. -/
def fnExactGoodTermSpec : ChangeSpec := { name := "fnExactGoodTerm", fn := fun _ => fun
  | [d] => { results := [.lit (.bool true)], args := [d] }
  | _ => none }
def fnExactGoodTermRow : OpenClaim := { program := "ytgoiifpimpnlpaa", sum := "6b9efaa669744afc343a5b05985c5b1c65b168e30c5f051234f5c4320c86476b", func := "loop.example/g00339/laws.FnExactGoodTerm", spec := "fnExactGoodTerm", recurses := true, apart := false }
def FnExactGoodTermSaid : Prop := fnExactGoodTermRow.holds Try.pinned (OpenSpec.ofChange fnExactGoodTermSpec)

/-- ITS FALSE NEIGHBOUR: 'it returns false'. Refute it at one input. -/
def fnExactGoodTermWrong : ChangeSpec := { name := "fnExactGoodTerm", fn := fun _ => fun
  | [d] => { results := [.lit (.bool false)], args := [d] }
  | _ => none }
def FnExactGoodTermWrongFalsely : Prop := fnExactGoodTermRow.holds Try.pinned (OpenSpec.ofChange fnExactGoodTermWrong)

/-- 'laws.FnExactSizeAt': WHATEVER THE INPUT: true; the input reads as it did. -/
def fnExactSizeAtSpec : ChangeSpec := { name := "fnExactSizeAt", fn := fun _ => fun
  | [d1, d2] => { results := [.lit (.bool true)], args := [d1, d2] }
  | _ => none }
def fnExactSizeAtRow : OpenClaim := { program := "ytgoiifpimpnlpaa", sum := "6b9efaa669744afc343a5b05985c5b1c65b168e30c5f051234f5c4320c86476b", func := "loop.example/g00339/laws.FnExactSizeAt", spec := "fnExactSizeAt", recurses := true, apart := false }
def FnExactSizeAtSaid : Prop := fnExactSizeAtRow.holds Try.pinned (OpenSpec.ofChange fnExactSizeAtSpec)

/-- ITS FALSE NEIGHBOUR: 'it returns false'. Refute it at one input. -/
def fnExactSizeAtWrong : ChangeSpec := { name := "fnExactSizeAt", fn := fun _ => fun
  | [d1, d2] => { results := [.lit (.bool false)], args := [d1, d2] }
  | _ => none }
def FnExactSizeAtWrongFalsely : Prop := fnExactSizeAtRow.holds Try.pinned (OpenSpec.ofChange fnExactSizeAtWrong)

/-- 'laws.FnExactIsHanded': WHATEVER THE INPUT: true; the input reads as it did. -/
def fnExactIsHandedSpec : ChangeSpec := { name := "fnExactIsHanded", fn := fun _ => fun
  | [d] => { results := [.lit (.bool true)], args := [d] }
  | _ => none }
def fnExactIsHandedRow : OpenClaim := { program := "ytgoiifpimpnlpaa", sum := "6b9efaa669744afc343a5b05985c5b1c65b168e30c5f051234f5c4320c86476b", func := "loop.example/g00339/laws.FnExactIsHanded", spec := "fnExactIsHanded", recurses := true, apart := false }
def FnExactIsHandedSaid : Prop := fnExactIsHandedRow.holds Try.pinned (OpenSpec.ofChange fnExactIsHandedSpec)

/-- ITS FALSE NEIGHBOUR: 'it returns false'. Refute it at one input. -/
def fnExactIsHandedWrong : ChangeSpec := { name := "fnExactIsHanded", fn := fun _ => fun
  | [d] => { results := [.lit (.bool false)], args := [d] }
  | _ => none }
def FnExactIsHandedWrongFalsely : Prop := fnExactIsHandedRow.holds Try.pinned (OpenSpec.ofChange fnExactIsHandedWrong)

/-- 'laws.FnExactIsNormal': WHATEVER THE INPUT: true; the input reads as it did. -/
def fnExactIsNormalSpec : ChangeSpec := { name := "fnExactIsNormal", fn := fun _ => fun
  | [d] => { results := [.lit (.bool true)], args := [d] }
  | _ => none }
def fnExactIsNormalRow : OpenClaim := { program := "ytgoiifpimpnlpaa", sum := "6b9efaa669744afc343a5b05985c5b1c65b168e30c5f051234f5c4320c86476b", func := "loop.example/g00339/laws.FnExactIsNormal", spec := "fnExactIsNormal", unfollowed := true, recurses := true, apart := false }
def FnExactIsNormalSaid : Prop := fnExactIsNormalRow.holds Try.pinned (OpenSpec.ofChange fnExactIsNormalSpec)

/-- ITS FALSE NEIGHBOUR: 'it returns false'. Refute it at one input. -/
def fnExactIsNormalWrong : ChangeSpec := { name := "fnExactIsNormal", fn := fun _ => fun
  | [d] => { results := [.lit (.bool false)], args := [d] }
  | _ => none }
def FnExactIsNormalWrongFalsely : Prop := fnExactIsNormalRow.holds Try.pinned (OpenSpec.ofChange fnExactIsNormalWrong)

/-- 'laws.FnExactSubstTerm': WHATEVER THE INPUT: true; the input reads as it did. -/
def fnExactSubstTermSpec : ChangeSpec := { name := "fnExactSubstTerm", fn := fun _ => fun
  | [d1, d2, d3] => { results := [.lit (.bool true)], args := [d1, d2, d3] }
  | _ => none }
def fnExactSubstTermRow : OpenClaim := { program := "ytgoiifpimpnlpaa", sum := "6b9efaa669744afc343a5b05985c5b1c65b168e30c5f051234f5c4320c86476b", func := "loop.example/g00339/laws.FnExactSubstTerm", spec := "fnExactSubstTerm", unfollowed := true, recurses := true, apart := false }
def FnExactSubstTermSaid : Prop := fnExactSubstTermRow.holds Try.pinned (OpenSpec.ofChange fnExactSubstTermSpec)

/-- ITS FALSE NEIGHBOUR: 'it returns false'. Refute it at one input. -/
def fnExactSubstTermWrong : ChangeSpec := { name := "fnExactSubstTerm", fn := fun _ => fun
  | [d1, d2, d3] => { results := [.lit (.bool false)], args := [d1, d2, d3] }
  | _ => none }
def FnExactSubstTermWrongFalsely : Prop := fnExactSubstTermRow.holds Try.pinned (OpenSpec.ofChange fnExactSubstTermWrong)

/-- 'laws.FnExactDevelopTerm': WHATEVER THE INPUT: true; the input reads as it did. -/
def fnExactDevelopTermSpec : ChangeSpec := { name := "fnExactDevelopTerm", fn := fun _ => fun
  | [d] => { results := [.lit (.bool true)], args := [d] }
  | _ => none }
def fnExactDevelopTermRow : OpenClaim := { program := "ytgoiifpimpnlpaa", sum := "6b9efaa669744afc343a5b05985c5b1c65b168e30c5f051234f5c4320c86476b", func := "loop.example/g00339/laws.FnExactDevelopTerm", spec := "fnExactDevelopTerm", unfollowed := true, recurses := true, apart := false }
def FnExactDevelopTermSaid : Prop := fnExactDevelopTermRow.holds Try.pinned (OpenSpec.ofChange fnExactDevelopTermSpec)

/-- ITS FALSE NEIGHBOUR: 'it returns false'. Refute it at one input. -/
def fnExactDevelopTermWrong : ChangeSpec := { name := "fnExactDevelopTerm", fn := fun _ => fun
  | [d] => { results := [.lit (.bool false)], args := [d] }
  | _ => none }
def FnExactDevelopTermWrongFalsely : Prop := fnExactDevelopTermRow.holds Try.pinned (OpenSpec.ofChange fnExactDevelopTermWrong)

/-- 'laws.FnExactLeadsTo': WHATEVER THE INPUT: true; the input reads as it did. -/
def fnExactLeadsToSpec : ChangeSpec := { name := "fnExactLeadsTo", fn := fun _ => fun
  | [d1, d2] => { results := [.lit (.bool true)], args := [d1, d2] }
  | _ => none }
def fnExactLeadsToRow : OpenClaim := { program := "ytgoiifpimpnlpaa", sum := "6b9efaa669744afc343a5b05985c5b1c65b168e30c5f051234f5c4320c86476b", func := "loop.example/g00339/laws.FnExactLeadsTo", spec := "fnExactLeadsTo", unfollowed := true, recurses := true, apart := false }
def FnExactLeadsToSaid : Prop := fnExactLeadsToRow.holds Try.pinned (OpenSpec.ofChange fnExactLeadsToSpec)

/-- ITS FALSE NEIGHBOUR: 'it returns false'. Refute it at one input. -/
def fnExactLeadsToWrong : ChangeSpec := { name := "fnExactLeadsTo", fn := fun _ => fun
  | [d1, d2] => { results := [.lit (.bool false)], args := [d1, d2] }
  | _ => none }
def FnExactLeadsToWrongFalsely : Prop := fnExactLeadsToRow.holds Try.pinned (OpenSpec.ofChange fnExactLeadsToWrong)

/-- 'laws.FnExactStepsOf': WHATEVER THE INPUT: true; the input reads as it did. -/
def fnExactStepsOfSpec : ChangeSpec := { name := "fnExactStepsOf", fn := fun _ => fun
  | [d] => { results := [.lit (.bool true)], args := [d] }
  | _ => none }
def fnExactStepsOfRow : OpenClaim := { program := "ytgoiifpimpnlpaa", sum := "6b9efaa669744afc343a5b05985c5b1c65b168e30c5f051234f5c4320c86476b", func := "loop.example/g00339/laws.FnExactStepsOf", spec := "fnExactStepsOf", unfollowed := true, recurses := true, apart := false }
def FnExactStepsOfSaid : Prop := fnExactStepsOfRow.holds Try.pinned (OpenSpec.ofChange fnExactStepsOfSpec)

/-- ITS FALSE NEIGHBOUR: 'it returns false'. Refute it at one input. -/
def fnExactStepsOfWrong : ChangeSpec := { name := "fnExactStepsOf", fn := fun _ => fun
  | [d] => { results := [.lit (.bool false)], args := [d] }
  | _ => none }
def FnExactStepsOfWrongFalsely : Prop := fnExactStepsOfRow.holds Try.pinned (OpenSpec.ofChange fnExactStepsOfWrong)

/-- 'laws.FnExactFreeIn': WHATEVER THE INPUT: true; the input reads as it did. -/
def fnExactFreeInSpec : ChangeSpec := { name := "fnExactFreeIn", fn := fun _ => fun
  | [d] => { results := [.lit (.bool true)], args := [d] }
  | _ => none }
def fnExactFreeInRow : OpenClaim := { program := "ytgoiifpimpnlpaa", sum := "6b9efaa669744afc343a5b05985c5b1c65b168e30c5f051234f5c4320c86476b", func := "loop.example/g00339/laws.FnExactFreeIn", spec := "fnExactFreeIn", unfollowed := true, recurses := true, apart := false }
def FnExactFreeInSaid : Prop := fnExactFreeInRow.holds Try.pinned (OpenSpec.ofChange fnExactFreeInSpec)

/-- ITS FALSE NEIGHBOUR: 'it returns false'. Refute it at one input. -/
def fnExactFreeInWrong : ChangeSpec := { name := "fnExactFreeIn", fn := fun _ => fun
  | [d] => { results := [.lit (.bool false)], args := [d] }
  | _ => none }
def FnExactFreeInWrongFalsely : Prop := fnExactFreeInRow.holds Try.pinned (OpenSpec.ofChange fnExactFreeInWrong)

/-- 'laws.FnExactStartMachine': WHATEVER THE INPUT: true; the input reads as it did. -/
def fnExactStartMachineSpec : ChangeSpec := { name := "fnExactStartMachine", fn := fun _ => fun
  | [d] => { results := [.lit (.bool true)], args := [d] }
  | _ => none }
def fnExactStartMachineRow : OpenClaim := { program := "ytgoiifpimpnlpaa", sum := "6b9efaa669744afc343a5b05985c5b1c65b168e30c5f051234f5c4320c86476b", func := "loop.example/g00339/laws.FnExactStartMachine", spec := "fnExactStartMachine", unfollowed := true, recurses := true, apart := false }
def FnExactStartMachineSaid : Prop := fnExactStartMachineRow.holds Try.pinned (OpenSpec.ofChange fnExactStartMachineSpec)

/-- ITS FALSE NEIGHBOUR: 'it returns false'. Refute it at one input. -/
def fnExactStartMachineWrong : ChangeSpec := { name := "fnExactStartMachine", fn := fun _ => fun
  | [d] => { results := [.lit (.bool false)], args := [d] }
  | _ => none }
def FnExactStartMachineWrongFalsely : Prop := fnExactStartMachineRow.holds Try.pinned (OpenSpec.ofChange fnExactStartMachineWrong)

/- THE SECOND FORM. 'bulk': how many values and letters a reading holds, each counted each time it is reached (what is shared counts as often as it is met; a slice's spare places count too). A statement '..UptoSaid' is the law's where the arguments, and the package variables that the reading takes, are together of bulk at most 1048576: NARROWER than '..Said'. Prove '..Said' where nothing that the law and all that it calls make is longer than what came in: it says more and counts as full. Else prove '..UptoSaid'. A law counts once. -/
mutual
def uptoBulk {H : Type} : DataW H → Nat
  | .lit (.string bytes) => bytes.length + 1
  | .lit _ => 1
  | .nil => 1
  | .ptr d => uptoBulk d + 1
  | .slice elems spare => uptoBulkAll elems + uptoBulkAll spare + 1
  | .agg parts => uptoBulkAll parts + 1
  | .iface _ d => uptoBulk d + 1
  | .map entries => uptoBulkEntries entries + 1
  | .held _ => 1
def uptoBulkAll {H : Type} : List (DataW H) → Nat
  | [] => 0
  | d :: r => uptoBulk d + uptoBulkAll r
def uptoBulkEntries {H : Type} : List (Lit × DataW H) → Nat
  | [] => 0
  | x :: r => uptoBulkEntry x + uptoBulkEntries r
def uptoBulkEntry {H : Type} : Lit × DataW H → Nat
  | (.string bytes, d) => bytes.length + uptoBulk d + 1
  | (_, d) => uptoBulk d + 1
 end
def uptoSmall : (H : Type) → List (DataW H) → Bool := fun _ ds => decide (uptoBulkAll ds ≤ 1048576)
def OpenSpec.upto (s : _root_.Go.ChangeSpec) : _root_.Go.OpenSpec := { _root_.Go.OpenSpec.ofChange s with cond := some uptoSmall }

/-- 'laws.FnExactGoodTerm', WHERE WHAT IT READS IS OF BULK AT MOST 1048576: true; the input reads as it did. -/
def fnExactGoodTermUptoRow : OpenClaim := { program := "ytgoiifpimpnlpaa", sum := "6b9efaa669744afc343a5b05985c5b1c65b168e30c5f051234f5c4320c86476b", func := "loop.example/g00339/laws.FnExactGoodTerm", spec := "fnExactGoodTerm", recurses := true, apart := false, narrowed := true }
def FnExactGoodTermUptoSaid : Prop := fnExactGoodTermUptoRow.holds Try.pinned (OpenSpec.upto fnExactGoodTermSpec)

/-- 'laws.FnExactSizeAt', WHERE WHAT IT READS IS OF BULK AT MOST 1048576: true; the input reads as it did. -/
def fnExactSizeAtUptoRow : OpenClaim := { program := "ytgoiifpimpnlpaa", sum := "6b9efaa669744afc343a5b05985c5b1c65b168e30c5f051234f5c4320c86476b", func := "loop.example/g00339/laws.FnExactSizeAt", spec := "fnExactSizeAt", recurses := true, apart := false, narrowed := true }
def FnExactSizeAtUptoSaid : Prop := fnExactSizeAtUptoRow.holds Try.pinned (OpenSpec.upto fnExactSizeAtSpec)

/-- 'laws.FnExactIsHanded', WHERE WHAT IT READS IS OF BULK AT MOST 1048576: true; the input reads as it did. -/
def fnExactIsHandedUptoRow : OpenClaim := { program := "ytgoiifpimpnlpaa", sum := "6b9efaa669744afc343a5b05985c5b1c65b168e30c5f051234f5c4320c86476b", func := "loop.example/g00339/laws.FnExactIsHanded", spec := "fnExactIsHanded", recurses := true, apart := false, narrowed := true }
def FnExactIsHandedUptoSaid : Prop := fnExactIsHandedUptoRow.holds Try.pinned (OpenSpec.upto fnExactIsHandedSpec)

/-- 'laws.FnExactIsNormal', WHERE WHAT IT READS IS OF BULK AT MOST 1048576: true; the input reads as it did. -/
def fnExactIsNormalUptoRow : OpenClaim := { program := "ytgoiifpimpnlpaa", sum := "6b9efaa669744afc343a5b05985c5b1c65b168e30c5f051234f5c4320c86476b", func := "loop.example/g00339/laws.FnExactIsNormal", spec := "fnExactIsNormal", unfollowed := true, recurses := true, apart := false, narrowed := true }
def FnExactIsNormalUptoSaid : Prop := fnExactIsNormalUptoRow.holds Try.pinned (OpenSpec.upto fnExactIsNormalSpec)

/-- 'laws.FnExactSubstTerm', WHERE WHAT IT READS IS OF BULK AT MOST 1048576: true; the input reads as it did. -/
def fnExactSubstTermUptoRow : OpenClaim := { program := "ytgoiifpimpnlpaa", sum := "6b9efaa669744afc343a5b05985c5b1c65b168e30c5f051234f5c4320c86476b", func := "loop.example/g00339/laws.FnExactSubstTerm", spec := "fnExactSubstTerm", unfollowed := true, recurses := true, apart := false, narrowed := true }
def FnExactSubstTermUptoSaid : Prop := fnExactSubstTermUptoRow.holds Try.pinned (OpenSpec.upto fnExactSubstTermSpec)

/-- 'laws.FnExactDevelopTerm', WHERE WHAT IT READS IS OF BULK AT MOST 1048576: true; the input reads as it did. -/
def fnExactDevelopTermUptoRow : OpenClaim := { program := "ytgoiifpimpnlpaa", sum := "6b9efaa669744afc343a5b05985c5b1c65b168e30c5f051234f5c4320c86476b", func := "loop.example/g00339/laws.FnExactDevelopTerm", spec := "fnExactDevelopTerm", unfollowed := true, recurses := true, apart := false, narrowed := true }
def FnExactDevelopTermUptoSaid : Prop := fnExactDevelopTermUptoRow.holds Try.pinned (OpenSpec.upto fnExactDevelopTermSpec)

/-- 'laws.FnExactLeadsTo', WHERE WHAT IT READS IS OF BULK AT MOST 1048576: true; the input reads as it did. -/
def fnExactLeadsToUptoRow : OpenClaim := { program := "ytgoiifpimpnlpaa", sum := "6b9efaa669744afc343a5b05985c5b1c65b168e30c5f051234f5c4320c86476b", func := "loop.example/g00339/laws.FnExactLeadsTo", spec := "fnExactLeadsTo", unfollowed := true, recurses := true, apart := false, narrowed := true }
def FnExactLeadsToUptoSaid : Prop := fnExactLeadsToUptoRow.holds Try.pinned (OpenSpec.upto fnExactLeadsToSpec)

/-- 'laws.FnExactStepsOf', WHERE WHAT IT READS IS OF BULK AT MOST 1048576: true; the input reads as it did. -/
def fnExactStepsOfUptoRow : OpenClaim := { program := "ytgoiifpimpnlpaa", sum := "6b9efaa669744afc343a5b05985c5b1c65b168e30c5f051234f5c4320c86476b", func := "loop.example/g00339/laws.FnExactStepsOf", spec := "fnExactStepsOf", unfollowed := true, recurses := true, apart := false, narrowed := true }
def FnExactStepsOfUptoSaid : Prop := fnExactStepsOfUptoRow.holds Try.pinned (OpenSpec.upto fnExactStepsOfSpec)

/-- 'laws.FnExactFreeIn', WHERE WHAT IT READS IS OF BULK AT MOST 1048576: true; the input reads as it did. -/
def fnExactFreeInUptoRow : OpenClaim := { program := "ytgoiifpimpnlpaa", sum := "6b9efaa669744afc343a5b05985c5b1c65b168e30c5f051234f5c4320c86476b", func := "loop.example/g00339/laws.FnExactFreeIn", spec := "fnExactFreeIn", unfollowed := true, recurses := true, apart := false, narrowed := true }
def FnExactFreeInUptoSaid : Prop := fnExactFreeInUptoRow.holds Try.pinned (OpenSpec.upto fnExactFreeInSpec)

/-- 'laws.FnExactStartMachine', WHERE WHAT IT READS IS OF BULK AT MOST 1048576: true; the input reads as it did. -/
def fnExactStartMachineUptoRow : OpenClaim := { program := "ytgoiifpimpnlpaa", sum := "6b9efaa669744afc343a5b05985c5b1c65b168e30c5f051234f5c4320c86476b", func := "loop.example/g00339/laws.FnExactStartMachine", spec := "fnExactStartMachine", unfollowed := true, recurses := true, apart := false, narrowed := true }
def FnExactStartMachineUptoSaid : Prop := fnExactStartMachineUptoRow.holds Try.pinned (OpenSpec.upto fnExactStartMachineSpec)

end Rows
end Go.Proofs.Ytgoiifpimpnlpaa
