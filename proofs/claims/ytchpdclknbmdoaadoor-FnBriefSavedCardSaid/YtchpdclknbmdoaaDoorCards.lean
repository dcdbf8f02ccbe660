/-
  DERIVED. GIVEN WITH THE SEED: THE CARDS: each row of YtchpdclknbmdoaaDoorRows.lean that lists a variable, with what it lists TIED to the program's text (the seventh form; the later family's looks); each row that meets fmt, with fmt's text TOLD by the authors' own Lean function (tested against real Go, not proved from fmt's source: count such statements apart). THE CARD IS WHAT COUNTS. Prove the row's statement (the work); the ties are given (YtchpdclknbmdoaaDoorTie.lean); close each card by the builder's one call (the guide's Derived/Test/ToyasCard.lean, 'card_holds'). Laid BY PROGRAM, IN A SANDBOX (cutbox-door.mjs). By AI agents, Wed Nov 11 2026. No macro, syntax, notation, axiom, sorry.
-/
import Derived.Test.YtchpdclknbmdoaaDoorRows
import GoSem.ClaimSeven
namespace Go.Proofs.YtchpdclknbmdoaaDoor
namespace Rows

/-- THE TIED CARD OF 'laws.FnExactParseTape'. -/
def fnExactParseTapeCard : Claim7 := { stood := { row := fnExactParseTapeRow, standIns := [], harness := (true, "8083ab7a0584bc54326e8a55d522ea4120a4ad0b74bb1b6a01c1e607df3f7422"), looks := false }, kinds := [], alts := [], laidByText := true, laidKinds := [.data, .pinned], laidTests := true, laidLooks := .later }
def FnExactParseTapeCardSaid : Prop := Claim7.holds Tryd.pinned (.plain (OpenSpec.ofChange fnExactParseTapeSpec)) fnExactParseTapeCard

/-- THE TIED CARD OF 'laws.FnMacroSequence'. -/
def fnMacroSequenceCard : Claim7 := { stood := { row := fnMacroSequenceRow, standIns := [], harness := (true, "8083ab7a0584bc54326e8a55d522ea4120a4ad0b74bb1b6a01c1e607df3f7422"), looks := false }, kinds := [], alts := [], laidByText := true, laidKinds := [.data, .pinned], laidTests := true, laidLooks := .later }
def FnMacroSequenceCardSaid : Prop := Claim7.holds Tryd.pinned (.plain (OpenSpec.ofChange fnMacroSequenceSpec)) fnMacroSequenceCard

/-- THE TIED CARD OF 'laws.FnExactStrokesSaved'. -/
def fnExactStrokesSavedCard : Claim7 := { stood := { row := fnExactStrokesSavedRow, standIns := [], harness := (true, "8083ab7a0584bc54326e8a55d522ea4120a4ad0b74bb1b6a01c1e607df3f7422"), looks := false }, kinds := [], alts := [], laidByText := true, laidKinds := [.data, .pinned], laidTests := true, laidLooks := .later }
def FnExactStrokesSavedCardSaid : Prop := Claim7.holds Tryd.pinned (.plain (OpenSpec.ofChange fnExactStrokesSavedSpec)) fnExactStrokesSavedCard

/-- THE TIED CARD OF 'laws.FnExactIsFreeOutline'. -/
def fnExactIsFreeOutlineCard : Claim7 := { stood := { row := fnExactIsFreeOutlineRow, standIns := [], harness := (true, "8083ab7a0584bc54326e8a55d522ea4120a4ad0b74bb1b6a01c1e607df3f7422"), looks := false }, kinds := [], alts := [], laidByText := true, laidKinds := [.data, .pinned], laidTests := true, laidLooks := .later }
def FnExactIsFreeOutlineCardSaid : Prop := Claim7.holds Tryd.pinned (.plain (OpenSpec.ofChange fnExactIsFreeOutlineSpec)) fnExactIsFreeOutlineCard

/-- THE TIED CARD OF 'laws.FnExactFreeStrokes'. -/
def fnExactFreeStrokesCard : Claim7 := { stood := { row := fnExactFreeStrokesRow, standIns := [], harness := (true, "8083ab7a0584bc54326e8a55d522ea4120a4ad0b74bb1b6a01c1e607df3f7422"), looks := false }, kinds := [], alts := [], laidByText := true, laidKinds := [.data, .pinned], laidTests := true, laidLooks := .later }
def FnExactFreeStrokesCardSaid : Prop := Claim7.holds Tryd.pinned (.plain (OpenSpec.ofChange fnExactFreeStrokesSpec)) fnExactFreeStrokesCard

/-- THE TIED CARD OF 'laws.FnExactPrefixConflicts'. -/
def fnExactPrefixConflictsCard : Claim7 := { stood := { row := fnExactPrefixConflictsRow, standIns := [], harness := (true, "8083ab7a0584bc54326e8a55d522ea4120a4ad0b74bb1b6a01c1e607df3f7422"), looks := false }, kinds := [], alts := [], laidByText := true, laidKinds := [.data, .pinned], laidTests := true, laidLooks := .later }
def FnExactPrefixConflictsCardSaid : Prop := Claim7.holds Tryd.pinned (.plain (OpenSpec.ofChange fnExactPrefixConflictsSpec)) fnExactPrefixConflictsCard

/-- THE TIED CARD OF 'laws.FnBriefSaved'. -/
def fnBriefSavedCard : Claim7 := { stood := { row := fnBriefSavedRow, standIns := [], harness := (true, "8083ab7a0584bc54326e8a55d522ea4120a4ad0b74bb1b6a01c1e607df3f7422"), looks := false }, kinds := [], alts := [], laidByText := true, laidKinds := [.data, .pinned], laidTests := true, laidLooks := .later }
def FnBriefSavedCardSaid : Prop := Claim7.holds Tryd.pinned (.plain (OpenSpec.ofChange fnBriefSavedSpec)) fnBriefSavedCard

/-- THE SECOND FORM's CARD OF 'laws.FnExactParseTape'. -/
def fnExactParseTapeUptoCard : Claim7 := { stood := { row := fnExactParseTapeUptoRow, standIns := [], harness := (true, "8083ab7a0584bc54326e8a55d522ea4120a4ad0b74bb1b6a01c1e607df3f7422"), looks := false }, kinds := [], alts := [], laidByText := true, laidKinds := [.data, .pinned], laidTests := true, laidLooks := .later }
def FnExactParseTapeUptoCardSaid : Prop := Claim7.holds Tryd.pinned (.plain (OpenSpec.upto fnExactParseTapeSpec)) fnExactParseTapeUptoCard

/-- THE SECOND FORM's CARD OF 'laws.FnMacroSequence'. -/
def fnMacroSequenceUptoCard : Claim7 := { stood := { row := fnMacroSequenceUptoRow, standIns := [], harness := (true, "8083ab7a0584bc54326e8a55d522ea4120a4ad0b74bb1b6a01c1e607df3f7422"), looks := false }, kinds := [], alts := [], laidByText := true, laidKinds := [.data, .pinned], laidTests := true, laidLooks := .later }
def FnMacroSequenceUptoCardSaid : Prop := Claim7.holds Tryd.pinned (.plain (OpenSpec.upto fnMacroSequenceSpec)) fnMacroSequenceUptoCard

/-- THE SECOND FORM's CARD OF 'laws.FnExactStrokesSaved'. -/
def fnExactStrokesSavedUptoCard : Claim7 := { stood := { row := fnExactStrokesSavedUptoRow, standIns := [], harness := (true, "8083ab7a0584bc54326e8a55d522ea4120a4ad0b74bb1b6a01c1e607df3f7422"), looks := false }, kinds := [], alts := [], laidByText := true, laidKinds := [.data, .pinned], laidTests := true, laidLooks := .later }
def FnExactStrokesSavedUptoCardSaid : Prop := Claim7.holds Tryd.pinned (.plain (OpenSpec.upto fnExactStrokesSavedSpec)) fnExactStrokesSavedUptoCard

/-- THE SECOND FORM's CARD OF 'laws.FnExactIsFreeOutline'. -/
def fnExactIsFreeOutlineUptoCard : Claim7 := { stood := { row := fnExactIsFreeOutlineUptoRow, standIns := [], harness := (true, "8083ab7a0584bc54326e8a55d522ea4120a4ad0b74bb1b6a01c1e607df3f7422"), looks := false }, kinds := [], alts := [], laidByText := true, laidKinds := [.data, .pinned], laidTests := true, laidLooks := .later }
def FnExactIsFreeOutlineUptoCardSaid : Prop := Claim7.holds Tryd.pinned (.plain (OpenSpec.upto fnExactIsFreeOutlineSpec)) fnExactIsFreeOutlineUptoCard

/-- THE SECOND FORM's CARD OF 'laws.FnExactFreeStrokes'. -/
def fnExactFreeStrokesUptoCard : Claim7 := { stood := { row := fnExactFreeStrokesUptoRow, standIns := [], harness := (true, "8083ab7a0584bc54326e8a55d522ea4120a4ad0b74bb1b6a01c1e607df3f7422"), looks := false }, kinds := [], alts := [], laidByText := true, laidKinds := [.data, .pinned], laidTests := true, laidLooks := .later }
def FnExactFreeStrokesUptoCardSaid : Prop := Claim7.holds Tryd.pinned (.plain (OpenSpec.upto fnExactFreeStrokesSpec)) fnExactFreeStrokesUptoCard

/-- THE SECOND FORM's CARD OF 'laws.FnExactPrefixConflicts'. -/
def fnExactPrefixConflictsUptoCard : Claim7 := { stood := { row := fnExactPrefixConflictsUptoRow, standIns := [], harness := (true, "8083ab7a0584bc54326e8a55d522ea4120a4ad0b74bb1b6a01c1e607df3f7422"), looks := false }, kinds := [], alts := [], laidByText := true, laidKinds := [.data, .pinned], laidTests := true, laidLooks := .later }
def FnExactPrefixConflictsUptoCardSaid : Prop := Claim7.holds Tryd.pinned (.plain (OpenSpec.upto fnExactPrefixConflictsSpec)) fnExactPrefixConflictsUptoCard

/-- THE SECOND FORM's CARD OF 'laws.FnBriefSaved'. -/
def fnBriefSavedUptoCard : Claim7 := { stood := { row := fnBriefSavedUptoRow, standIns := [], harness := (true, "8083ab7a0584bc54326e8a55d522ea4120a4ad0b74bb1b6a01c1e607df3f7422"), looks := false }, kinds := [], alts := [], laidByText := true, laidKinds := [.data, .pinned], laidTests := true, laidLooks := .later }
def FnBriefSavedUptoCardSaid : Prop := Claim7.holds Tryd.pinned (.plain (OpenSpec.upto fnBriefSavedSpec)) fnBriefSavedUptoCard
end Rows
end Go.Proofs.YtchpdclknbmdoaaDoor
