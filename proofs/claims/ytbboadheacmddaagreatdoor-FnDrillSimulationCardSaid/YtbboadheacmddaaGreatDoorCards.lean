/-
  DERIVED. GIVEN WITH THE SEED: THE CARDS: each row of YtbboadheacmddaaGreatDoorRows.lean that lists a variable, with what it lists TIED to the program's text (the seventh form; the later family's looks); each row that meets fmt, with fmt's text TOLD by the authors' own Lean function (tested against real Go, not proved from fmt's source: count such statements apart). THE CARD IS WHAT COUNTS. Prove the row's statement (the work); the ties are given (YtbboadheacmddaaGreatDoorTie.lean); close each card by the builder's one call (the guide's Derived/Test/ToyasCard.lean, 'card_holds'). Laid BY PROGRAM, IN A SANDBOX (cutbox-door.mjs). By AI agents, Wed Nov 11 2026. No macro, syntax, notation, axiom, sorry.
-/
import Derived.Test.YtbboadheacmddaaGreatDoorRows
import GoSem.ClaimSeven
namespace Go.Proofs.YtbboadheacmddaaGreatDoor
namespace Rows

/-- THE TIED CARD OF 'laws.FnDrillSimulation'. -/
def fnDrillSimulationCard : Claim7 := { stood := { row := fnDrillSimulationRow, standIns := [], harness := (true, "cebd8a705b58e0fc44cdae578e07ecb7be7326397cc764703ac0e4d2bf0010e2"), looks := true }, kinds := [], alts := [], laidByText := true, laidKinds := [.data, .data, .data, .data, .sentinel, .sentinel, .pinned], laidTests := true, laidLooks := .later }
def FnDrillSimulationCardSaid : Prop := Claim7.holds Tryz.pinned (.plain (OpenSpec.ofChange fnDrillSimulationSpec)) fnDrillSimulationCard

/-- THE SECOND FORM's CARD OF 'laws.FnDrillSimulation'. -/
def fnDrillSimulationUptoCard : Claim7 := { stood := { row := fnDrillSimulationUptoRow, standIns := [], harness := (true, "cebd8a705b58e0fc44cdae578e07ecb7be7326397cc764703ac0e4d2bf0010e2"), looks := true }, kinds := [], alts := [], laidByText := true, laidKinds := [.data, .data, .data, .data, .sentinel, .sentinel, .pinned], laidTests := true, laidLooks := .later }
def FnDrillSimulationUptoCardSaid : Prop := Claim7.holds Tryz.pinned (.plain (OpenSpec.upto fnDrillSimulationSpec)) fnDrillSimulationUptoCard
end Rows
end Go.Proofs.YtbboadheacmddaaGreatDoor
