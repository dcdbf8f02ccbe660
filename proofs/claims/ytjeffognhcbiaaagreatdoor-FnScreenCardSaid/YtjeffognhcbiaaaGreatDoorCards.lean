/-
  DERIVED. GIVEN WITH THE SEED: THE CARDS: each row of YtjeffognhcbiaaaGreatDoorRows.lean that lists a variable, with what it lists TIED to the program's text (the seventh form; the later family's looks); each row that meets fmt, with fmt's text TOLD by the authors' own Lean function (tested against real Go, not proved from fmt's source: count such statements apart). THE CARD IS WHAT COUNTS. Prove the row's statement (the work); the ties are given (YtjeffognhcbiaaaGreatDoorTie.lean); close each card by the builder's one call (the guide's Derived/Test/ToyasCard.lean, 'card_holds'). Laid BY PROGRAM, IN A SANDBOX (cutbox-door.mjs). By AI agents, Wed Nov 11 2026. No macro, syntax, notation, axiom, sorry.
-/
import Derived.Test.YtjeffognhcbiaaaGreatDoorRows
import GoSem.ClaimSeven
namespace Go.Proofs.YtjeffognhcbiaaaGreatDoor
namespace Rows

/-- THE TIED CARD OF 'laws.FnExactTapePieces'. -/
def fnExactTapePiecesCard : Claim7 := { stood := { row := fnExactTapePiecesRow, standIns := [], harness := (true, "8d60e17fd512f0cd68e45ca0486683e0f812d1b2cdefdeaaf43f6284bc731564"), looks := false }, kinds := [], alts := [], laidByText := true, laidKinds := [.data, .pinned], laidTests := true, laidLooks := .later }
def FnExactTapePiecesCardSaid : Prop := Claim7.holds Tryz.pinned (.plain (OpenSpec.ofChange fnExactTapePiecesSpec)) fnExactTapePiecesCard

/-- THE TIED CARD OF 'laws.FnScreen'. -/
def fnScreenCard : Claim7 := { stood := { row := fnScreenRow, standIns := [], harness := (true, "8d60e17fd512f0cd68e45ca0486683e0f812d1b2cdefdeaaf43f6284bc731564"), looks := false }, kinds := [], alts := [], laidByText := true, laidKinds := [.data, .pinned], laidTests := true, laidLooks := .later }
def FnScreenCardSaid : Prop := Claim7.holds Tryz.pinned (.plain (OpenSpec.ofChange fnScreenSpec)) fnScreenCard

/-- THE SECOND FORM's CARD OF 'laws.FnExactTapePieces'. -/
def fnExactTapePiecesUptoCard : Claim7 := { stood := { row := fnExactTapePiecesUptoRow, standIns := [], harness := (true, "8d60e17fd512f0cd68e45ca0486683e0f812d1b2cdefdeaaf43f6284bc731564"), looks := false }, kinds := [], alts := [], laidByText := true, laidKinds := [.data, .pinned], laidTests := true, laidLooks := .later }
def FnExactTapePiecesUptoCardSaid : Prop := Claim7.holds Tryz.pinned (.plain (OpenSpec.upto fnExactTapePiecesSpec)) fnExactTapePiecesUptoCard

/-- THE SECOND FORM's CARD OF 'laws.FnScreen'. -/
def fnScreenUptoCard : Claim7 := { stood := { row := fnScreenUptoRow, standIns := [], harness := (true, "8d60e17fd512f0cd68e45ca0486683e0f812d1b2cdefdeaaf43f6284bc731564"), looks := false }, kinds := [], alts := [], laidByText := true, laidKinds := [.data, .pinned], laidTests := true, laidLooks := .later }
def FnScreenUptoCardSaid : Prop := Claim7.holds Tryz.pinned (.plain (OpenSpec.upto fnScreenSpec)) fnScreenUptoCard
end Rows
end Go.Proofs.YtjeffognhcbiaaaGreatDoor
