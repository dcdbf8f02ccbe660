/-
  DERIVED. GIVEN WITH THE SEED: THE CARDS: each row of YtjeffognhcbiaaaDoorRows.lean that lists a variable, with what it lists TIED to the program's text (the seventh form; the later family's looks); each row that meets fmt, with fmt's text TOLD by the authors' own Lean function (tested against real Go, not proved from fmt's source: count such statements apart). THE CARD IS WHAT COUNTS. Prove the row's statement (the work); the ties are given (YtjeffognhcbiaaaDoorTie.lean); close each card by the builder's one call (the guide's Derived/Test/ToyasCard.lean, 'card_holds'). Laid BY PROGRAM, IN A SANDBOX (cutbox-door.mjs). By AI agents, Wed Nov 11 2026. No macro, syntax, notation, axiom, sorry.
-/
import Derived.Test.YtjeffognhcbiaaaDoorRows
import GoSem.ClaimSeven
namespace Go.Proofs.YtjeffognhcbiaaaDoor
namespace Rows

/-- THE TIED CARD OF 'laws.FnExactFreeStrokes'. -/
def fnExactFreeStrokesCard : Claim7 := { stood := { row := fnExactFreeStrokesRow, standIns := [], harness := (true, "a1571c5fc9bb5f14c20b7e7ed6ad962ea4316b6d672629e6e9c074ae53b488fd"), looks := false }, kinds := [], alts := [], laidByText := true, laidKinds := [.data, .pinned], laidTests := true, laidLooks := .later }
def FnExactFreeStrokesCardSaid : Prop := Claim7.holds Tryd.pinned (.plain (OpenSpec.ofChange fnExactFreeStrokesSpec)) fnExactFreeStrokesCard

/-- THE TIED CARD OF 'laws.FnExactPrefixConflicts'. -/
def fnExactPrefixConflictsCard : Claim7 := { stood := { row := fnExactPrefixConflictsRow, standIns := [], harness := (true, "a1571c5fc9bb5f14c20b7e7ed6ad962ea4316b6d672629e6e9c074ae53b488fd"), looks := false }, kinds := [], alts := [], laidByText := true, laidKinds := [.data, .pinned], laidTests := true, laidLooks := .later }
def FnExactPrefixConflictsCardSaid : Prop := Claim7.holds Tryd.pinned (.plain (OpenSpec.ofChange fnExactPrefixConflictsSpec)) fnExactPrefixConflictsCard

/-- THE SECOND FORM's CARD OF 'laws.FnExactFreeStrokes'. -/
def fnExactFreeStrokesUptoCard : Claim7 := { stood := { row := fnExactFreeStrokesUptoRow, standIns := [], harness := (true, "a1571c5fc9bb5f14c20b7e7ed6ad962ea4316b6d672629e6e9c074ae53b488fd"), looks := false }, kinds := [], alts := [], laidByText := true, laidKinds := [.data, .pinned], laidTests := true, laidLooks := .later }
def FnExactFreeStrokesUptoCardSaid : Prop := Claim7.holds Tryd.pinned (.plain (OpenSpec.upto fnExactFreeStrokesSpec)) fnExactFreeStrokesUptoCard

/-- THE SECOND FORM's CARD OF 'laws.FnExactPrefixConflicts'. -/
def fnExactPrefixConflictsUptoCard : Claim7 := { stood := { row := fnExactPrefixConflictsUptoRow, standIns := [], harness := (true, "a1571c5fc9bb5f14c20b7e7ed6ad962ea4316b6d672629e6e9c074ae53b488fd"), looks := false }, kinds := [], alts := [], laidByText := true, laidKinds := [.data, .pinned], laidTests := true, laidLooks := .later }
def FnExactPrefixConflictsUptoCardSaid : Prop := Claim7.holds Tryd.pinned (.plain (OpenSpec.upto fnExactPrefixConflictsSpec)) fnExactPrefixConflictsUptoCard
end Rows
end Go.Proofs.YtjeffognhcbiaaaDoor
