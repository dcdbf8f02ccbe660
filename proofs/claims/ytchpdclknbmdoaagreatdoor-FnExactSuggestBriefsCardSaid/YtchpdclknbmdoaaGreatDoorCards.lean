/-
  DERIVED. GIVEN WITH THE SEED: THE CARDS: each row of YtchpdclknbmdoaaGreatDoorRows.lean that lists a variable, with what it lists TIED to the program's text (the seventh form; the later family's looks); each row that meets fmt, with fmt's text TOLD by the authors' own Lean function (tested against real Go, not proved from fmt's source: count such statements apart). THE CARD IS WHAT COUNTS. Prove the row's statement (the work); the ties are given (YtchpdclknbmdoaaGreatDoorTie.lean); close each card by the builder's one call (the guide's Derived/Test/ToyasCard.lean, 'card_holds'). Laid BY PROGRAM, IN A SANDBOX (cutbox-door.mjs). By AI agents, Wed Nov 11 2026. No macro, syntax, notation, axiom, sorry.
-/
import Derived.Test.YtchpdclknbmdoaaGreatDoorRows
import GoSem.ClaimSeven
namespace Go.Proofs.YtchpdclknbmdoaaGreatDoor
namespace Rows

/-- THE TIED CARD OF 'laws.FnFewest'. -/
def fnFewestCard : Claim7 := { stood := { row := fnFewestRow, standIns := [], harness := (true, "283b847684b3de111861e81711778a3734333b6b172ce0c89c25966378e44e17"), looks := false }, kinds := [], alts := [], laidByText := true, laidKinds := [.data, .pinned], laidTests := true, laidLooks := .later }
def FnFewestCardSaid : Prop := Claim7.holds Tryz.pinned (.plain (OpenSpec.ofChange fnFewestSpec)) fnFewestCard

/-- THE TIED CARD OF 'laws.FnBriefStrokes'. -/
def fnBriefStrokesCard : Claim7 := { stood := { row := fnBriefStrokesRow, standIns := [], harness := (true, "283b847684b3de111861e81711778a3734333b6b172ce0c89c25966378e44e17"), looks := false }, kinds := [], alts := [], laidByText := true, laidKinds := [.data, .pinned], laidTests := true, laidLooks := .later }
def FnBriefStrokesCardSaid : Prop := Claim7.holds Tryz.pinned (.plain (OpenSpec.ofChange fnBriefStrokesSpec)) fnBriefStrokesCard

/-- THE TIED CARD OF 'laws.FnMacroRuns'. -/
def fnMacroRunsCard : Claim7 := { stood := { row := fnMacroRunsRow, standIns := [], harness := (true, "283b847684b3de111861e81711778a3734333b6b172ce0c89c25966378e44e17"), looks := false }, kinds := [], alts := [], laidByText := true, laidKinds := [.data, .pinned], laidTests := true, laidLooks := .later }
def FnMacroRunsCardSaid : Prop := Claim7.holds Tryz.pinned (.plain (OpenSpec.ofChange fnMacroRunsSpec)) fnMacroRunsCard

/-- THE TIED CARD OF 'laws.FnExactTapePieces'. -/
def fnExactTapePiecesCard : Claim7 := { stood := { row := fnExactTapePiecesRow, standIns := [], harness := (true, "283b847684b3de111861e81711778a3734333b6b172ce0c89c25966378e44e17"), looks := false }, kinds := [], alts := [], laidByText := true, laidKinds := [.data, .pinned], laidTests := true, laidLooks := .later }
def FnExactTapePiecesCardSaid : Prop := Claim7.holds Tryz.pinned (.plain (OpenSpec.ofChange fnExactTapePiecesSpec)) fnExactTapePiecesCard

/-- THE TIED CARD OF 'laws.FnSegment'. -/
def fnSegmentCard : Claim7 := { stood := { row := fnSegmentRow, standIns := [], harness := (true, "283b847684b3de111861e81711778a3734333b6b172ce0c89c25966378e44e17"), looks := false }, kinds := [], alts := [], laidByText := true, laidKinds := [.data, .pinned], laidTests := true, laidLooks := .later }
def FnSegmentCardSaid : Prop := Claim7.holds Tryz.pinned (.plain (OpenSpec.ofChange fnSegmentSpec)) fnSegmentCard

/-- THE TIED CARD OF 'laws.FnExactSuggestBriefs'. -/
def fnExactSuggestBriefsCard : Claim7 := { stood := { row := fnExactSuggestBriefsRow, standIns := [], harness := (true, "283b847684b3de111861e81711778a3734333b6b172ce0c89c25966378e44e17"), looks := false }, kinds := [], alts := [], laidByText := true, laidKinds := [.data, .data, .data, .pinned], laidTests := true, laidLooks := .later }
def FnExactSuggestBriefsCardSaid : Prop := Claim7.holds Tryz.pinned (.plain (OpenSpec.ofChange fnExactSuggestBriefsSpec)) fnExactSuggestBriefsCard

/-- THE TIED CARD OF 'laws.FnBriefFree'. -/
def fnBriefFreeCard : Claim7 := { stood := { row := fnBriefFreeRow, standIns := [], harness := (true, "283b847684b3de111861e81711778a3734333b6b172ce0c89c25966378e44e17"), looks := false }, kinds := [], alts := [], laidByText := true, laidKinds := [.data, .data, .data, .pinned], laidTests := true, laidLooks := .later }
def FnBriefFreeCardSaid : Prop := Claim7.holds Tryz.pinned (.plain (OpenSpec.ofChange fnBriefFreeSpec)) fnBriefFreeCard

/-- THE TIED CARD OF 'laws.FnScreen'. -/
def fnScreenCard : Claim7 := { stood := { row := fnScreenRow, standIns := [], harness := (true, "283b847684b3de111861e81711778a3734333b6b172ce0c89c25966378e44e17"), looks := false }, kinds := [], alts := [], laidByText := true, laidKinds := [.data, .pinned], laidTests := true, laidLooks := .later }
def FnScreenCardSaid : Prop := Claim7.holds Tryz.pinned (.plain (OpenSpec.ofChange fnScreenSpec)) fnScreenCard

/-- THE SECOND FORM's CARD OF 'laws.FnFewest'. -/
def fnFewestUptoCard : Claim7 := { stood := { row := fnFewestUptoRow, standIns := [], harness := (true, "283b847684b3de111861e81711778a3734333b6b172ce0c89c25966378e44e17"), looks := false }, kinds := [], alts := [], laidByText := true, laidKinds := [.data, .pinned], laidTests := true, laidLooks := .later }
def FnFewestUptoCardSaid : Prop := Claim7.holds Tryz.pinned (.plain (OpenSpec.upto fnFewestSpec)) fnFewestUptoCard

/-- THE SECOND FORM's CARD OF 'laws.FnBriefStrokes'. -/
def fnBriefStrokesUptoCard : Claim7 := { stood := { row := fnBriefStrokesUptoRow, standIns := [], harness := (true, "283b847684b3de111861e81711778a3734333b6b172ce0c89c25966378e44e17"), looks := false }, kinds := [], alts := [], laidByText := true, laidKinds := [.data, .pinned], laidTests := true, laidLooks := .later }
def FnBriefStrokesUptoCardSaid : Prop := Claim7.holds Tryz.pinned (.plain (OpenSpec.upto fnBriefStrokesSpec)) fnBriefStrokesUptoCard

/-- THE SECOND FORM's CARD OF 'laws.FnMacroRuns'. -/
def fnMacroRunsUptoCard : Claim7 := { stood := { row := fnMacroRunsUptoRow, standIns := [], harness := (true, "283b847684b3de111861e81711778a3734333b6b172ce0c89c25966378e44e17"), looks := false }, kinds := [], alts := [], laidByText := true, laidKinds := [.data, .pinned], laidTests := true, laidLooks := .later }
def FnMacroRunsUptoCardSaid : Prop := Claim7.holds Tryz.pinned (.plain (OpenSpec.upto fnMacroRunsSpec)) fnMacroRunsUptoCard

/-- THE SECOND FORM's CARD OF 'laws.FnExactTapePieces'. -/
def fnExactTapePiecesUptoCard : Claim7 := { stood := { row := fnExactTapePiecesUptoRow, standIns := [], harness := (true, "283b847684b3de111861e81711778a3734333b6b172ce0c89c25966378e44e17"), looks := false }, kinds := [], alts := [], laidByText := true, laidKinds := [.data, .pinned], laidTests := true, laidLooks := .later }
def FnExactTapePiecesUptoCardSaid : Prop := Claim7.holds Tryz.pinned (.plain (OpenSpec.upto fnExactTapePiecesSpec)) fnExactTapePiecesUptoCard

/-- THE SECOND FORM's CARD OF 'laws.FnSegment'. -/
def fnSegmentUptoCard : Claim7 := { stood := { row := fnSegmentUptoRow, standIns := [], harness := (true, "283b847684b3de111861e81711778a3734333b6b172ce0c89c25966378e44e17"), looks := false }, kinds := [], alts := [], laidByText := true, laidKinds := [.data, .pinned], laidTests := true, laidLooks := .later }
def FnSegmentUptoCardSaid : Prop := Claim7.holds Tryz.pinned (.plain (OpenSpec.upto fnSegmentSpec)) fnSegmentUptoCard

/-- THE SECOND FORM's CARD OF 'laws.FnExactSuggestBriefs'. -/
def fnExactSuggestBriefsUptoCard : Claim7 := { stood := { row := fnExactSuggestBriefsUptoRow, standIns := [], harness := (true, "283b847684b3de111861e81711778a3734333b6b172ce0c89c25966378e44e17"), looks := false }, kinds := [], alts := [], laidByText := true, laidKinds := [.data, .data, .data, .pinned], laidTests := true, laidLooks := .later }
def FnExactSuggestBriefsUptoCardSaid : Prop := Claim7.holds Tryz.pinned (.plain (OpenSpec.upto fnExactSuggestBriefsSpec)) fnExactSuggestBriefsUptoCard

/-- THE SECOND FORM's CARD OF 'laws.FnBriefFree'. -/
def fnBriefFreeUptoCard : Claim7 := { stood := { row := fnBriefFreeUptoRow, standIns := [], harness := (true, "283b847684b3de111861e81711778a3734333b6b172ce0c89c25966378e44e17"), looks := false }, kinds := [], alts := [], laidByText := true, laidKinds := [.data, .data, .data, .pinned], laidTests := true, laidLooks := .later }
def FnBriefFreeUptoCardSaid : Prop := Claim7.holds Tryz.pinned (.plain (OpenSpec.upto fnBriefFreeSpec)) fnBriefFreeUptoCard

/-- THE SECOND FORM's CARD OF 'laws.FnScreen'. -/
def fnScreenUptoCard : Claim7 := { stood := { row := fnScreenUptoRow, standIns := [], harness := (true, "283b847684b3de111861e81711778a3734333b6b172ce0c89c25966378e44e17"), looks := false }, kinds := [], alts := [], laidByText := true, laidKinds := [.data, .pinned], laidTests := true, laidLooks := .later }
def FnScreenUptoCardSaid : Prop := Claim7.holds Tryz.pinned (.plain (OpenSpec.upto fnScreenSpec)) fnScreenUptoCard
end Rows
end Go.Proofs.YtchpdclknbmdoaaGreatDoor
