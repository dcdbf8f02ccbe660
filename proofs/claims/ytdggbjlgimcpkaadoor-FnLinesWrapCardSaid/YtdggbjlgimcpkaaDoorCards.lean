/-
  DERIVED. GIVEN WITH THE SEED: THE CARDS: each row of YtdggbjlgimcpkaaDoorRows.lean that lists a variable, with what it lists TIED to the program's text (the seventh form; the later family's looks); each row that meets fmt, with fmt's text TOLD by the authors' own Lean function (tested against real Go, not proved from fmt's source: count such statements apart). THE CARD IS WHAT COUNTS. Prove the row's statement (the work); the ties are given (YtdggbjlgimcpkaaDoorTie.lean); close each card by the builder's one call (the guide's Derived/Test/ToyasCard.lean, 'card_holds'). Laid BY PROGRAM, IN A SANDBOX (cutbox-door.mjs). By AI agents, Wed Nov 11 2026. No macro, syntax, notation, axiom, sorry.
-/
import Derived.Test.YtdggbjlgimcpkaaDoorRows
import GoSem.ClaimSeven
namespace Go.Proofs.YtdggbjlgimcpkaaDoor
namespace Rows

/-- THE TIED CARD OF 'laws.FnExactSplitWords'. -/
def fnExactSplitWordsCard : Claim7 := { stood := { row := fnExactSplitWordsRow, standIns := [], harness := (true, "9f2379ae6ad7fa7400da38df83397b054416ce4c31359ff6c732891ef7a5d1ef"), looks := false }, kinds := [], alts := [], laidByText := true, laidKinds := [.data, .pinned], laidTests := true, laidLooks := .later }
def FnExactSplitWordsCardSaid : Prop := Claim7.holds Tryd.pinned (.plain (OpenSpec.ofChange fnExactSplitWordsSpec)) fnExactSplitWordsCard

/-- THE TIED CARD OF 'laws.FnExactWrapText'. -/
def fnExactWrapTextCard : Claim7 := { stood := { row := fnExactWrapTextRow, standIns := [], harness := (true, "9f2379ae6ad7fa7400da38df83397b054416ce4c31359ff6c732891ef7a5d1ef"), looks := false }, kinds := [], alts := [], laidByText := true, laidKinds := [.data, .pinned], laidTests := true, laidLooks := .later }
def FnExactWrapTextCardSaid : Prop := Claim7.holds Tryd.pinned (.plain (OpenSpec.ofChange fnExactWrapTextSpec)) fnExactWrapTextCard

/-- THE TIED CARD OF 'laws.FnExactParseTape'. -/
def fnExactParseTapeCard : Claim7 := { stood := { row := fnExactParseTapeRow, standIns := [], harness := (true, "9f2379ae6ad7fa7400da38df83397b054416ce4c31359ff6c732891ef7a5d1ef"), looks := false }, kinds := [], alts := [], laidByText := true, laidKinds := [.data, .pinned], laidTests := true, laidLooks := .later }
def FnExactParseTapeCardSaid : Prop := Claim7.holds Tryd.pinned (.plain (OpenSpec.ofChange fnExactParseTapeSpec)) fnExactParseTapeCard

/-- THE TIED CARD OF 'laws.FnLinesWrap'. -/
def fnLinesWrapCard : Claim7 := { stood := { row := fnLinesWrapRow, standIns := [], harness := (true, "9f2379ae6ad7fa7400da38df83397b054416ce4c31359ff6c732891ef7a5d1ef"), looks := false }, kinds := [], alts := [], laidByText := true, laidKinds := [.data, .pinned], laidTests := true, laidLooks := .later }
def FnLinesWrapCardSaid : Prop := Claim7.holds Tryd.pinned (.plain (OpenSpec.ofChange fnLinesWrapSpec)) fnLinesWrapCard

/-- THE TIED CARD OF 'laws.FnMacroSequence'. -/
def fnMacroSequenceCard : Claim7 := { stood := { row := fnMacroSequenceRow, standIns := [], harness := (true, "9f2379ae6ad7fa7400da38df83397b054416ce4c31359ff6c732891ef7a5d1ef"), looks := false }, kinds := [], alts := [], laidByText := true, laidKinds := [.data, .pinned], laidTests := true, laidLooks := .later }
def FnMacroSequenceCardSaid : Prop := Claim7.holds Tryd.pinned (.plain (OpenSpec.ofChange fnMacroSequenceSpec)) fnMacroSequenceCard

/-- THE SECOND FORM's CARD OF 'laws.FnExactSplitWords'. -/
def fnExactSplitWordsUptoCard : Claim7 := { stood := { row := fnExactSplitWordsUptoRow, standIns := [], harness := (true, "9f2379ae6ad7fa7400da38df83397b054416ce4c31359ff6c732891ef7a5d1ef"), looks := false }, kinds := [], alts := [], laidByText := true, laidKinds := [.data, .pinned], laidTests := true, laidLooks := .later }
def FnExactSplitWordsUptoCardSaid : Prop := Claim7.holds Tryd.pinned (.plain (OpenSpec.upto fnExactSplitWordsSpec)) fnExactSplitWordsUptoCard

/-- THE SECOND FORM's CARD OF 'laws.FnExactWrapText'. -/
def fnExactWrapTextUptoCard : Claim7 := { stood := { row := fnExactWrapTextUptoRow, standIns := [], harness := (true, "9f2379ae6ad7fa7400da38df83397b054416ce4c31359ff6c732891ef7a5d1ef"), looks := false }, kinds := [], alts := [], laidByText := true, laidKinds := [.data, .pinned], laidTests := true, laidLooks := .later }
def FnExactWrapTextUptoCardSaid : Prop := Claim7.holds Tryd.pinned (.plain (OpenSpec.upto fnExactWrapTextSpec)) fnExactWrapTextUptoCard

/-- THE SECOND FORM's CARD OF 'laws.FnExactParseTape'. -/
def fnExactParseTapeUptoCard : Claim7 := { stood := { row := fnExactParseTapeUptoRow, standIns := [], harness := (true, "9f2379ae6ad7fa7400da38df83397b054416ce4c31359ff6c732891ef7a5d1ef"), looks := false }, kinds := [], alts := [], laidByText := true, laidKinds := [.data, .pinned], laidTests := true, laidLooks := .later }
def FnExactParseTapeUptoCardSaid : Prop := Claim7.holds Tryd.pinned (.plain (OpenSpec.upto fnExactParseTapeSpec)) fnExactParseTapeUptoCard

/-- THE SECOND FORM's CARD OF 'laws.FnLinesWrap'. -/
def fnLinesWrapUptoCard : Claim7 := { stood := { row := fnLinesWrapUptoRow, standIns := [], harness := (true, "9f2379ae6ad7fa7400da38df83397b054416ce4c31359ff6c732891ef7a5d1ef"), looks := false }, kinds := [], alts := [], laidByText := true, laidKinds := [.data, .pinned], laidTests := true, laidLooks := .later }
def FnLinesWrapUptoCardSaid : Prop := Claim7.holds Tryd.pinned (.plain (OpenSpec.upto fnLinesWrapSpec)) fnLinesWrapUptoCard

/-- THE SECOND FORM's CARD OF 'laws.FnMacroSequence'. -/
def fnMacroSequenceUptoCard : Claim7 := { stood := { row := fnMacroSequenceUptoRow, standIns := [], harness := (true, "9f2379ae6ad7fa7400da38df83397b054416ce4c31359ff6c732891ef7a5d1ef"), looks := false }, kinds := [], alts := [], laidByText := true, laidKinds := [.data, .pinned], laidTests := true, laidLooks := .later }
def FnMacroSequenceUptoCardSaid : Prop := Claim7.holds Tryd.pinned (.plain (OpenSpec.upto fnMacroSequenceSpec)) fnMacroSequenceUptoCard
end Rows
end Go.Proofs.YtdggbjlgimcpkaaDoor
