/-
  No cell of these rows narrows 'for every input' (looked for: loops, veiled, ifaces, maps, wideKeys, modest, calm, conditions, laid).
  DERIVED. THE GIVEN ROWS OF THIS SEAT. 10 by the template 'for every input the law returns true; each argument reads behind the call as it read before'; 0 by the template 'total and deterministic' (their statements: YtjnaokdncemggaaTotals.lean).
  GIVEN WITH THE SEED: the statements are not yours to turn. If you find one false, say at which input.
  Laid BY PROGRAM, IN A SANDBOX (cutbox-rows.mjs): the forced cells as the released guide's own fill.sh prints them over the translation 885c9cc5623500e8… (all of the seat's roots in one cut). By AI agents, Wed Nov 11 2026. No macro, syntax, notation, axiom, sorry.
-/
import Derived.Test.YtjnaokdncemggaaChecked
import GoSem.Claim
import GoSem.ClaimJoined
import GoSem.ClaimMapViews
import Derived.JoinedTies
import Derived.KernelRfl
namespace Go.Proofs.Ytjnaokdncemggaa
/- THE CELL 'sum', in the pinned program and in every row, IS THE sha256 OF THE DUMP (.gsa) THAT YtjnaokdncemggaaProg.lean LOADS. Nothing in Lean hashes anything: it is a label: what it is worth is what the hold of that sum in a sandbox is worth. -/
noncomputable def Try.pinned : Pinned := { name := "ytjnaokdncemggaa", sum := "885c9cc5623500e8a800c2af36ee7c4f537ac2880e290eab0c60d78cc4800f31", checked := Try.checked }
namespace Rows
def none {H : Type} : Left H := { results := [], args := [] }

/-- 'laws.FnExactGoodHandler': WHATEVER THE INPUT: true; the input reads as it did. -/
def fnExactGoodHandlerSpec : ChangeSpec := { name := "fnExactGoodHandler", fn := fun _ => fun
  | [d] => { results := [.lit (.bool true)], args := [d] }
  | _ => none }
def fnExactGoodHandlerRow : OpenClaim := { program := "ytjnaokdncemggaa", sum := "885c9cc5623500e8a800c2af36ee7c4f537ac2880e290eab0c60d78cc4800f31", func := "loop.example/g00339/laws.FnExactGoodHandler", spec := "fnExactGoodHandler", unfollowed := true, recurses := true, apart := false }
def FnExactGoodHandlerSaid : Prop := fnExactGoodHandlerRow.holds Try.pinned (OpenSpec.ofChange fnExactGoodHandlerSpec)

/-- ITS FALSE NEIGHBOUR: 'it returns false'. Refute it at one input. -/
def fnExactGoodHandlerWrong : ChangeSpec := { name := "fnExactGoodHandler", fn := fun _ => fun
  | [d] => { results := [.lit (.bool false)], args := [d] }
  | _ => none }
def FnExactGoodHandlerWrongFalsely : Prop := fnExactGoodHandlerRow.holds Try.pinned (OpenSpec.ofChange fnExactGoodHandlerWrong)

/-- 'laws.FnExactGoodComp': WHATEVER THE INPUT: true; the input reads as it did. -/
def fnExactGoodCompSpec : ChangeSpec := { name := "fnExactGoodComp", fn := fun _ => fun
  | [d] => { results := [.lit (.bool true)], args := [d] }
  | _ => none }
def fnExactGoodCompRow : OpenClaim := { program := "ytjnaokdncemggaa", sum := "885c9cc5623500e8a800c2af36ee7c4f537ac2880e290eab0c60d78cc4800f31", func := "loop.example/g00339/laws.FnExactGoodComp", spec := "fnExactGoodComp", recurses := true, apart := false }
def FnExactGoodCompSaid : Prop := fnExactGoodCompRow.holds Try.pinned (OpenSpec.ofChange fnExactGoodCompSpec)

/-- ITS FALSE NEIGHBOUR: 'it returns false'. Refute it at one input. -/
def fnExactGoodCompWrong : ChangeSpec := { name := "fnExactGoodComp", fn := fun _ => fun
  | [d] => { results := [.lit (.bool false)], args := [d] }
  | _ => none }
def FnExactGoodCompWrongFalsely : Prop := fnExactGoodCompRow.holds Try.pinned (OpenSpec.ofChange fnExactGoodCompWrong)

/-- 'laws.FnExactAfterBoth': WHATEVER THE INPUT: true; the input reads as it did. -/
def fnExactAfterBothSpec : ChangeSpec := { name := "fnExactAfterBoth", fn := fun _ => fun
  | [d1, d2] => { results := [.lit (.bool true)], args := [d1, d2] }
  | _ => none }
def fnExactAfterBothRow : OpenClaim := { program := "ytjnaokdncemggaa", sum := "885c9cc5623500e8a800c2af36ee7c4f537ac2880e290eab0c60d78cc4800f31", func := "loop.example/g00339/laws.FnExactAfterBoth", spec := "fnExactAfterBoth", unfollowed := true, recurses := true, apart := false }
def FnExactAfterBothSaid : Prop := fnExactAfterBothRow.holds Try.pinned (OpenSpec.ofChange fnExactAfterBothSpec)

/-- ITS FALSE NEIGHBOUR: 'it returns false'. Refute it at one input. -/
def fnExactAfterBothWrong : ChangeSpec := { name := "fnExactAfterBoth", fn := fun _ => fun
  | [d1, d2] => { results := [.lit (.bool false)], args := [d1, d2] }
  | _ => none }
def FnExactAfterBothWrongFalsely : Prop := fnExactAfterBothRow.holds Try.pinned (OpenSpec.ofChange fnExactAfterBothWrong)

/-- 'laws.FnExactRunComp': WHATEVER THE INPUT: true; the input reads as it did. -/
def fnExactRunCompSpec : ChangeSpec := { name := "fnExactRunComp", fn := fun _ => fun
  | [d1, d2] => { results := [.lit (.bool true)], args := [d1, d2] }
  | _ => none }
def fnExactRunCompRow : OpenClaim := { program := "ytjnaokdncemggaa", sum := "885c9cc5623500e8a800c2af36ee7c4f537ac2880e290eab0c60d78cc4800f31", func := "loop.example/g00339/laws.FnExactRunComp", spec := "fnExactRunComp", recurses := true, apart := false }
def FnExactRunCompSaid : Prop := fnExactRunCompRow.holds Try.pinned (OpenSpec.ofChange fnExactRunCompSpec)

/-- ITS FALSE NEIGHBOUR: 'it returns false'. Refute it at one input. -/
def fnExactRunCompWrong : ChangeSpec := { name := "fnExactRunComp", fn := fun _ => fun
  | [d1, d2] => { results := [.lit (.bool false)], args := [d1, d2] }
  | _ => none }
def FnExactRunCompWrongFalsely : Prop := fnExactRunCompRow.holds Try.pinned (OpenSpec.ofChange fnExactRunCompWrong)

/-- 'laws.FnExactResultsOf': WHATEVER THE INPUT: true; the input reads as it did. -/
def fnExactResultsOfSpec : ChangeSpec := { name := "fnExactResultsOf", fn := fun _ => fun
  | [d] => { results := [.lit (.bool true)], args := [d] }
  | _ => none }
def fnExactResultsOfRow : OpenClaim := { program := "ytjnaokdncemggaa", sum := "885c9cc5623500e8a800c2af36ee7c4f537ac2880e290eab0c60d78cc4800f31", func := "loop.example/g00339/laws.FnExactResultsOf", spec := "fnExactResultsOf", recurses := true, apart := false }
def FnExactResultsOfSaid : Prop := fnExactResultsOfRow.holds Try.pinned (OpenSpec.ofChange fnExactResultsOfSpec)

/-- ITS FALSE NEIGHBOUR: 'it returns false'. Refute it at one input. -/
def fnExactResultsOfWrong : ChangeSpec := { name := "fnExactResultsOf", fn := fun _ => fun
  | [d] => { results := [.lit (.bool false)], args := [d] }
  | _ => none }
def FnExactResultsOfWrongFalsely : Prop := fnExactResultsOfRow.holds Try.pinned (OpenSpec.ofChange fnExactResultsOfWrong)

/-- 'laws.FnExactMapComp': WHATEVER THE INPUT: true; the input reads as it did. -/
def fnExactMapCompSpec : ChangeSpec := { name := "fnExactMapComp", fn := fun _ => fun
  | [d1, d2] => { results := [.lit (.bool true)], args := [d1, d2] }
  | _ => none }
def fnExactMapCompRow : OpenClaim := { program := "ytjnaokdncemggaa", sum := "885c9cc5623500e8a800c2af36ee7c4f537ac2880e290eab0c60d78cc4800f31", func := "loop.example/g00339/laws.FnExactMapComp", spec := "fnExactMapComp", unfollowed := true, recurses := true, apart := false }
def FnExactMapCompSaid : Prop := fnExactMapCompRow.holds Try.pinned (OpenSpec.ofChange fnExactMapCompSpec)

/-- ITS FALSE NEIGHBOUR: 'it returns false'. Refute it at one input. -/
def fnExactMapCompWrong : ChangeSpec := { name := "fnExactMapComp", fn := fun _ => fun
  | [d1, d2] => { results := [.lit (.bool false)], args := [d1, d2] }
  | _ => none }
def FnExactMapCompWrongFalsely : Prop := fnExactMapCompRow.holds Try.pinned (OpenSpec.ofChange fnExactMapCompWrong)

/-- 'laws.FnExactThenComp': WHATEVER THE INPUT: true; the input reads as it did. -/
def fnExactThenCompSpec : ChangeSpec := { name := "fnExactThenComp", fn := fun _ => fun
  | [d1, d2] => { results := [.lit (.bool true)], args := [d1, d2] }
  | _ => none }
def fnExactThenCompRow : OpenClaim := { program := "ytjnaokdncemggaa", sum := "885c9cc5623500e8a800c2af36ee7c4f537ac2880e290eab0c60d78cc4800f31", func := "loop.example/g00339/laws.FnExactThenComp", spec := "fnExactThenComp", unfollowed := true, recurses := true, apart := false }
def FnExactThenCompSaid : Prop := fnExactThenCompRow.holds Try.pinned (OpenSpec.ofChange fnExactThenCompSpec)

/-- ITS FALSE NEIGHBOUR: 'it returns false'. Refute it at one input. -/
def fnExactThenCompWrong : ChangeSpec := { name := "fnExactThenComp", fn := fun _ => fun
  | [d1, d2] => { results := [.lit (.bool false)], args := [d1, d2] }
  | _ => none }
def FnExactThenCompWrongFalsely : Prop := fnExactThenCompRow.holds Try.pinned (OpenSpec.ofChange fnExactThenCompWrong)

/-- 'laws.FnThen': WHATEVER THE INPUT: true; the input reads as it did. -/
def fnThenSpec : ChangeSpec := { name := "fnThen", fn := fun _ => fun
  | [d1, d2] => { results := [.lit (.bool true)], args := [d1, d2] }
  | _ => none }
def fnThenRow : OpenClaim := { program := "ytjnaokdncemggaa", sum := "885c9cc5623500e8a800c2af36ee7c4f537ac2880e290eab0c60d78cc4800f31", func := "loop.example/g00339/laws.FnThen", spec := "fnThen", unfollowed := true, recurses := true, apart := false }
def FnThenSaid : Prop := fnThenRow.holds Try.pinned (OpenSpec.ofChange fnThenSpec)

/-- ITS FALSE NEIGHBOUR: 'it returns false'. Refute it at one input. -/
def fnThenWrong : ChangeSpec := { name := "fnThen", fn := fun _ => fun
  | [d1, d2] => { results := [.lit (.bool false)], args := [d1, d2] }
  | _ => none }
def FnThenWrongFalsely : Prop := fnThenRow.holds Try.pinned (OpenSpec.ofChange fnThenWrong)

/-- 'laws.FnHandlers': WHATEVER THE INPUT: true; the input reads as it did. -/
def fnHandlersSpec : ChangeSpec := { name := "fnHandlers", fn := fun _ => fun
  | [d1, d2] => { results := [.lit (.bool true)], args := [d1, d2] }
  | _ => none }
def fnHandlersRow : OpenClaim := { program := "ytjnaokdncemggaa", sum := "885c9cc5623500e8a800c2af36ee7c4f537ac2880e290eab0c60d78cc4800f31", func := "loop.example/g00339/laws.FnHandlers", spec := "fnHandlers", unfollowed := true, recurses := true, apart := false }
def FnHandlersSaid : Prop := fnHandlersRow.holds Try.pinned (OpenSpec.ofChange fnHandlersSpec)

/-- ITS FALSE NEIGHBOUR: 'it returns false'. Refute it at one input. -/
def fnHandlersWrong : ChangeSpec := { name := "fnHandlers", fn := fun _ => fun
  | [d1, d2] => { results := [.lit (.bool false)], args := [d1, d2] }
  | _ => none }
def FnHandlersWrongFalsely : Prop := fnHandlersRow.holds Try.pinned (OpenSpec.ofChange fnHandlersWrong)

/-- 'laws.FnExactHandleComp': WHATEVER THE INPUT: true; the input reads as it did. -/
def fnExactHandleCompSpec : ChangeSpec := { name := "fnExactHandleComp", fn := fun _ => fun
  | [d1, d2] => { results := [.lit (.bool true)], args := [d1, d2] }
  | _ => none }
def fnExactHandleCompRow : OpenClaim := { program := "ytjnaokdncemggaa", sum := "885c9cc5623500e8a800c2af36ee7c4f537ac2880e290eab0c60d78cc4800f31", func := "loop.example/g00339/laws.FnExactHandleComp", spec := "fnExactHandleComp", unfollowed := true, recurses := true, apart := false }
def FnExactHandleCompSaid : Prop := fnExactHandleCompRow.holds Try.pinned (OpenSpec.ofChange fnExactHandleCompSpec)

/-- ITS FALSE NEIGHBOUR: 'it returns false'. Refute it at one input. -/
def fnExactHandleCompWrong : ChangeSpec := { name := "fnExactHandleComp", fn := fun _ => fun
  | [d1, d2] => { results := [.lit (.bool false)], args := [d1, d2] }
  | _ => none }
def FnExactHandleCompWrongFalsely : Prop := fnExactHandleCompRow.holds Try.pinned (OpenSpec.ofChange fnExactHandleCompWrong)

/- THE SECOND FORM. 'bulk': how many values and letters a reading holds, each counted each time it is reached (what is shared counts as often as it is met; a slice's spare places count too). A statement '..UptoSaid' is the law's where the arguments, and the package variables that the reading takes, are together of bulk at most 1048576: NARROWER than '..Said'. Prove '..Said' where nothing that the law and all that it calls make is longer than what came in: it says more and counts as full. Else prove '..UptoSaid'. A law counts once. -/
mutual
def uptoBulk {H : Type} : DataW H → Nat
  | .lit (.string bytes) => bytes.length + 1
  | .lit _ => 1
  | .nil => 1
  | .ptr d => uptoBulk d + 1
  | .slice elems spare => uptoBulkAll elems + uptoBulkAll spare + 1
  | .agg parts => uptoBulkAll parts + 1
  | .iface _ d => uptoBulk d + 1
  | .map entries => uptoBulkEntries entries + 1
  | .held _ => 1
def uptoBulkAll {H : Type} : List (DataW H) → Nat
  | [] => 0
  | d :: r => uptoBulk d + uptoBulkAll r
def uptoBulkEntries {H : Type} : List (Lit × DataW H) → Nat
  | [] => 0
  | x :: r => uptoBulkEntry x + uptoBulkEntries r
def uptoBulkEntry {H : Type} : Lit × DataW H → Nat
  | (.string bytes, d) => bytes.length + uptoBulk d + 1
  | (_, d) => uptoBulk d + 1
 end
def uptoSmall : (H : Type) → List (DataW H) → Bool := fun _ ds => decide (uptoBulkAll ds ≤ 1048576)
def OpenSpec.upto (s : _root_.Go.ChangeSpec) : _root_.Go.OpenSpec := { _root_.Go.OpenSpec.ofChange s with cond := some uptoSmall }

/-- 'laws.FnExactGoodHandler', WHERE WHAT IT READS IS OF BULK AT MOST 1048576: true; the input reads as it did. -/
def fnExactGoodHandlerUptoRow : OpenClaim := { program := "ytjnaokdncemggaa", sum := "885c9cc5623500e8a800c2af36ee7c4f537ac2880e290eab0c60d78cc4800f31", func := "loop.example/g00339/laws.FnExactGoodHandler", spec := "fnExactGoodHandler", unfollowed := true, recurses := true, apart := false, narrowed := true }
def FnExactGoodHandlerUptoSaid : Prop := fnExactGoodHandlerUptoRow.holds Try.pinned (OpenSpec.upto fnExactGoodHandlerSpec)

/-- 'laws.FnExactGoodComp', WHERE WHAT IT READS IS OF BULK AT MOST 1048576: true; the input reads as it did. -/
def fnExactGoodCompUptoRow : OpenClaim := { program := "ytjnaokdncemggaa", sum := "885c9cc5623500e8a800c2af36ee7c4f537ac2880e290eab0c60d78cc4800f31", func := "loop.example/g00339/laws.FnExactGoodComp", spec := "fnExactGoodComp", recurses := true, apart := false, narrowed := true }
def FnExactGoodCompUptoSaid : Prop := fnExactGoodCompUptoRow.holds Try.pinned (OpenSpec.upto fnExactGoodCompSpec)

/-- 'laws.FnExactAfterBoth', WHERE WHAT IT READS IS OF BULK AT MOST 1048576: true; the input reads as it did. -/
def fnExactAfterBothUptoRow : OpenClaim := { program := "ytjnaokdncemggaa", sum := "885c9cc5623500e8a800c2af36ee7c4f537ac2880e290eab0c60d78cc4800f31", func := "loop.example/g00339/laws.FnExactAfterBoth", spec := "fnExactAfterBoth", unfollowed := true, recurses := true, apart := false, narrowed := true }
def FnExactAfterBothUptoSaid : Prop := fnExactAfterBothUptoRow.holds Try.pinned (OpenSpec.upto fnExactAfterBothSpec)

/-- 'laws.FnExactRunComp', WHERE WHAT IT READS IS OF BULK AT MOST 1048576: true; the input reads as it did. -/
def fnExactRunCompUptoRow : OpenClaim := { program := "ytjnaokdncemggaa", sum := "885c9cc5623500e8a800c2af36ee7c4f537ac2880e290eab0c60d78cc4800f31", func := "loop.example/g00339/laws.FnExactRunComp", spec := "fnExactRunComp", recurses := true, apart := false, narrowed := true }
def FnExactRunCompUptoSaid : Prop := fnExactRunCompUptoRow.holds Try.pinned (OpenSpec.upto fnExactRunCompSpec)

/-- 'laws.FnExactResultsOf', WHERE WHAT IT READS IS OF BULK AT MOST 1048576: true; the input reads as it did. -/
def fnExactResultsOfUptoRow : OpenClaim := { program := "ytjnaokdncemggaa", sum := "885c9cc5623500e8a800c2af36ee7c4f537ac2880e290eab0c60d78cc4800f31", func := "loop.example/g00339/laws.FnExactResultsOf", spec := "fnExactResultsOf", recurses := true, apart := false, narrowed := true }
def FnExactResultsOfUptoSaid : Prop := fnExactResultsOfUptoRow.holds Try.pinned (OpenSpec.upto fnExactResultsOfSpec)

/-- 'laws.FnExactMapComp', WHERE WHAT IT READS IS OF BULK AT MOST 1048576: true; the input reads as it did. -/
def fnExactMapCompUptoRow : OpenClaim := { program := "ytjnaokdncemggaa", sum := "885c9cc5623500e8a800c2af36ee7c4f537ac2880e290eab0c60d78cc4800f31", func := "loop.example/g00339/laws.FnExactMapComp", spec := "fnExactMapComp", unfollowed := true, recurses := true, apart := false, narrowed := true }
def FnExactMapCompUptoSaid : Prop := fnExactMapCompUptoRow.holds Try.pinned (OpenSpec.upto fnExactMapCompSpec)

/-- 'laws.FnExactThenComp', WHERE WHAT IT READS IS OF BULK AT MOST 1048576: true; the input reads as it did. -/
def fnExactThenCompUptoRow : OpenClaim := { program := "ytjnaokdncemggaa", sum := "885c9cc5623500e8a800c2af36ee7c4f537ac2880e290eab0c60d78cc4800f31", func := "loop.example/g00339/laws.FnExactThenComp", spec := "fnExactThenComp", unfollowed := true, recurses := true, apart := false, narrowed := true }
def FnExactThenCompUptoSaid : Prop := fnExactThenCompUptoRow.holds Try.pinned (OpenSpec.upto fnExactThenCompSpec)

/-- 'laws.FnThen', WHERE WHAT IT READS IS OF BULK AT MOST 1048576: true; the input reads as it did. -/
def fnThenUptoRow : OpenClaim := { program := "ytjnaokdncemggaa", sum := "885c9cc5623500e8a800c2af36ee7c4f537ac2880e290eab0c60d78cc4800f31", func := "loop.example/g00339/laws.FnThen", spec := "fnThen", unfollowed := true, recurses := true, apart := false, narrowed := true }
def FnThenUptoSaid : Prop := fnThenUptoRow.holds Try.pinned (OpenSpec.upto fnThenSpec)

/-- 'laws.FnHandlers', WHERE WHAT IT READS IS OF BULK AT MOST 1048576: true; the input reads as it did. -/
def fnHandlersUptoRow : OpenClaim := { program := "ytjnaokdncemggaa", sum := "885c9cc5623500e8a800c2af36ee7c4f537ac2880e290eab0c60d78cc4800f31", func := "loop.example/g00339/laws.FnHandlers", spec := "fnHandlers", unfollowed := true, recurses := true, apart := false, narrowed := true }
def FnHandlersUptoSaid : Prop := fnHandlersUptoRow.holds Try.pinned (OpenSpec.upto fnHandlersSpec)

/-- 'laws.FnExactHandleComp', WHERE WHAT IT READS IS OF BULK AT MOST 1048576: true; the input reads as it did. -/
def fnExactHandleCompUptoRow : OpenClaim := { program := "ytjnaokdncemggaa", sum := "885c9cc5623500e8a800c2af36ee7c4f537ac2880e290eab0c60d78cc4800f31", func := "loop.example/g00339/laws.FnExactHandleComp", spec := "fnExactHandleComp", unfollowed := true, recurses := true, apart := false, narrowed := true }
def FnExactHandleCompUptoSaid : Prop := fnExactHandleCompUptoRow.holds Try.pinned (OpenSpec.upto fnExactHandleCompSpec)

end Rows
end Go.Proofs.Ytjnaokdncemggaa
