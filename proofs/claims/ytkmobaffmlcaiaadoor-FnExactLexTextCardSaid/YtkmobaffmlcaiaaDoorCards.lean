/-
  DERIVED. GIVEN WITH THE SEED: THE CARDS: each row of YtkmobaffmlcaiaaDoorRows.lean that lists a variable, with what it lists TIED to the program's text (the seventh form; the later family's looks); each row that meets fmt, with fmt's text TOLD by the authors' own Lean function (tested against real Go, not proved from fmt's source: count such statements apart). THE CARD IS WHAT COUNTS. Prove the row's statement (the work); the ties are given (YtkmobaffmlcaiaaDoorTie.lean); close each card by the builder's one call (the guide's Derived/Test/ToyasCard.lean, 'card_holds'). Laid BY PROGRAM, IN A SANDBOX (cutbox-door.mjs). By AI agents, Wed Nov 11 2026. No macro, syntax, notation, axiom, sorry.
-/
import Derived.Test.YtkmobaffmlcaiaaDoorRows
import GoSem.ClaimSeven
namespace Go.Proofs.YtkmobaffmlcaiaaDoor
namespace Rows

/-- THE TIED CARD OF 'laws.FnExactTokenText'. -/
def fnExactTokenTextCard : Claim7 := { stood := { row := fnExactTokenTextRow, standIns := [], harness := (true, "d15ea0151617a5aee6313f88823cdb64c4131b1d76cb5a8b87b3505221137b5d"), looks := true }, kinds := [], alts := [], laidByText := true, laidKinds := [.data, .data, .data], laidTests := true, laidLooks := .later }
def FnExactTokenTextCardSaid : Prop := Claim7.holds Tryd.pinned (.plain (OpenSpec.ofChange fnExactTokenTextSpec)) fnExactTokenTextCard

/-- THE TIED CARD OF 'laws.FnExactLexText'. -/
def fnExactLexTextCard : Claim7 := { stood := { row := fnExactLexTextRow, standIns := [], harness := (true, "d15ea0151617a5aee6313f88823cdb64c4131b1d76cb5a8b87b3505221137b5d"), looks := true }, kinds := [], alts := [], laidByText := true, laidKinds := [.data, .data, .data, .sentinel, .sentinel], laidTests := true, laidLooks := .later }
def FnExactLexTextCardSaid : Prop := Claim7.holds Tryd.pinned (.plain (OpenSpec.ofChange fnExactLexTextSpec)) fnExactLexTextCard

/-- THE TIED CARD OF 'laws.FnExactNeedsBlank'. -/
def fnExactNeedsBlankCard : Claim7 := { stood := { row := fnExactNeedsBlankRow, standIns := [], harness := (true, "d15ea0151617a5aee6313f88823cdb64c4131b1d76cb5a8b87b3505221137b5d"), looks := true }, kinds := [], alts := [], laidByText := true, laidKinds := [.data, .data, .data, .sentinel, .sentinel], laidTests := true, laidLooks := .later }
def FnExactNeedsBlankCardSaid : Prop := Claim7.holds Tryd.pinned (.plain (OpenSpec.ofChange fnExactNeedsBlankSpec)) fnExactNeedsBlankCard

/-- THE TIED CARD OF 'laws.FnExactJoinTokens'. -/
def fnExactJoinTokensCard : Claim7 := { stood := { row := fnExactJoinTokensRow, standIns := [], harness := (true, "d15ea0151617a5aee6313f88823cdb64c4131b1d76cb5a8b87b3505221137b5d"), looks := true }, kinds := [], alts := [], laidByText := true, laidKinds := [.data, .data, .data, .sentinel, .sentinel], laidTests := true, laidLooks := .later }
def FnExactJoinTokensCardSaid : Prop := Claim7.holds Tryd.pinned (.plain (OpenSpec.ofChange fnExactJoinTokensSpec)) fnExactJoinTokensCard

/-- THE TIED CARD OF 'laws.FnJoin'. -/
def fnJoinCard : Claim7 := { stood := { row := fnJoinRow, standIns := [], harness := (true, "d15ea0151617a5aee6313f88823cdb64c4131b1d76cb5a8b87b3505221137b5d"), looks := true }, kinds := [], alts := [], laidByText := true, laidKinds := [.data, .data, .data, .sentinel, .sentinel], laidTests := true, laidLooks := .later }
def FnJoinCardSaid : Prop := Claim7.holds Tryd.pinned (.plain (OpenSpec.ofChange fnJoinSpec)) fnJoinCard

/-- THE TIED CARD OF 'laws.FnLex'. -/
def fnLexCard : Claim7 := { stood := { row := fnLexRow, standIns := [], harness := (true, "d15ea0151617a5aee6313f88823cdb64c4131b1d76cb5a8b87b3505221137b5d"), looks := true }, kinds := [], alts := [], laidByText := true, laidKinds := [.data, .data, .data, .sentinel, .sentinel], laidTests := true, laidLooks := .later }
def FnLexCardSaid : Prop := Claim7.holds Tryd.pinned (.plain (OpenSpec.ofChange fnLexSpec)) fnLexCard

/-- THE TIED CARD OF 'laws.FnExactExprText'. -/
def fnExactExprTextCard : Claim7 := { stood := { row := fnExactExprTextRow, standIns := [], harness := (true, "d15ea0151617a5aee6313f88823cdb64c4131b1d76cb5a8b87b3505221137b5d"), looks := true }, kinds := [], alts := [], laidByText := true, laidKinds := [.data, .data, .data, .sentinel, .sentinel], laidTests := true, laidLooks := .later }
def FnExactExprTextCardSaid : Prop := Claim7.holds Tryd.pinned (.plain (OpenSpec.ofChange fnExactExprTextSpec)) fnExactExprTextCard

/-- THE SECOND FORM's CARD OF 'laws.FnExactTokenText'. -/
def fnExactTokenTextUptoCard : Claim7 := { stood := { row := fnExactTokenTextUptoRow, standIns := [], harness := (true, "d15ea0151617a5aee6313f88823cdb64c4131b1d76cb5a8b87b3505221137b5d"), looks := true }, kinds := [], alts := [], laidByText := true, laidKinds := [.data, .data, .data], laidTests := true, laidLooks := .later }
def FnExactTokenTextUptoCardSaid : Prop := Claim7.holds Tryd.pinned (.plain (OpenSpec.upto fnExactTokenTextSpec)) fnExactTokenTextUptoCard

/-- THE SECOND FORM's CARD OF 'laws.FnExactLexText'. -/
def fnExactLexTextUptoCard : Claim7 := { stood := { row := fnExactLexTextUptoRow, standIns := [], harness := (true, "d15ea0151617a5aee6313f88823cdb64c4131b1d76cb5a8b87b3505221137b5d"), looks := true }, kinds := [], alts := [], laidByText := true, laidKinds := [.data, .data, .data, .sentinel, .sentinel], laidTests := true, laidLooks := .later }
def FnExactLexTextUptoCardSaid : Prop := Claim7.holds Tryd.pinned (.plain (OpenSpec.upto fnExactLexTextSpec)) fnExactLexTextUptoCard

/-- THE SECOND FORM's CARD OF 'laws.FnExactNeedsBlank'. -/
def fnExactNeedsBlankUptoCard : Claim7 := { stood := { row := fnExactNeedsBlankUptoRow, standIns := [], harness := (true, "d15ea0151617a5aee6313f88823cdb64c4131b1d76cb5a8b87b3505221137b5d"), looks := true }, kinds := [], alts := [], laidByText := true, laidKinds := [.data, .data, .data, .sentinel, .sentinel], laidTests := true, laidLooks := .later }
def FnExactNeedsBlankUptoCardSaid : Prop := Claim7.holds Tryd.pinned (.plain (OpenSpec.upto fnExactNeedsBlankSpec)) fnExactNeedsBlankUptoCard

/-- THE SECOND FORM's CARD OF 'laws.FnExactJoinTokens'. -/
def fnExactJoinTokensUptoCard : Claim7 := { stood := { row := fnExactJoinTokensUptoRow, standIns := [], harness := (true, "d15ea0151617a5aee6313f88823cdb64c4131b1d76cb5a8b87b3505221137b5d"), looks := true }, kinds := [], alts := [], laidByText := true, laidKinds := [.data, .data, .data, .sentinel, .sentinel], laidTests := true, laidLooks := .later }
def FnExactJoinTokensUptoCardSaid : Prop := Claim7.holds Tryd.pinned (.plain (OpenSpec.upto fnExactJoinTokensSpec)) fnExactJoinTokensUptoCard

/-- THE SECOND FORM's CARD OF 'laws.FnJoin'. -/
def fnJoinUptoCard : Claim7 := { stood := { row := fnJoinUptoRow, standIns := [], harness := (true, "d15ea0151617a5aee6313f88823cdb64c4131b1d76cb5a8b87b3505221137b5d"), looks := true }, kinds := [], alts := [], laidByText := true, laidKinds := [.data, .data, .data, .sentinel, .sentinel], laidTests := true, laidLooks := .later }
def FnJoinUptoCardSaid : Prop := Claim7.holds Tryd.pinned (.plain (OpenSpec.upto fnJoinSpec)) fnJoinUptoCard

/-- THE SECOND FORM's CARD OF 'laws.FnLex'. -/
def fnLexUptoCard : Claim7 := { stood := { row := fnLexUptoRow, standIns := [], harness := (true, "d15ea0151617a5aee6313f88823cdb64c4131b1d76cb5a8b87b3505221137b5d"), looks := true }, kinds := [], alts := [], laidByText := true, laidKinds := [.data, .data, .data, .sentinel, .sentinel], laidTests := true, laidLooks := .later }
def FnLexUptoCardSaid : Prop := Claim7.holds Tryd.pinned (.plain (OpenSpec.upto fnLexSpec)) fnLexUptoCard

/-- THE SECOND FORM's CARD OF 'laws.FnExactExprText'. -/
def fnExactExprTextUptoCard : Claim7 := { stood := { row := fnExactExprTextUptoRow, standIns := [], harness := (true, "d15ea0151617a5aee6313f88823cdb64c4131b1d76cb5a8b87b3505221137b5d"), looks := true }, kinds := [], alts := [], laidByText := true, laidKinds := [.data, .data, .data, .sentinel, .sentinel], laidTests := true, laidLooks := .later }
def FnExactExprTextUptoCardSaid : Prop := Claim7.holds Tryd.pinned (.plain (OpenSpec.upto fnExactExprTextSpec)) fnExactExprTextUptoCard
end Rows
end Go.Proofs.YtkmobaffmlcaiaaDoor
