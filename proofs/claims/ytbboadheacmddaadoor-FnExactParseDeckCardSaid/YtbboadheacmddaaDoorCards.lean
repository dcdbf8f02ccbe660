/-
  DERIVED. GIVEN WITH THE SEED: THE CARDS: each row of YtbboadheacmddaaDoorRows.lean that lists a variable, with what it lists TIED to the program's text (the seventh form; the later family's looks); each row that meets fmt, with fmt's text TOLD by the authors' own Lean function (tested against real Go, not proved from fmt's source: count such statements apart). THE CARD IS WHAT COUNTS. Prove the row's statement (the work); the ties are given (YtbboadheacmddaaDoorTie.lean); close each card by the builder's one call (the guide's Derived/Test/ToyasCard.lean, 'card_holds'). Laid BY PROGRAM, IN A SANDBOX (cutbox-door.mjs). By AI agents, Wed Nov 11 2026. No macro, syntax, notation, axiom, sorry.
-/
import Derived.Test.YtbboadheacmddaaDoorRows
import GoSem.ClaimSeven
namespace Go.Proofs.YtbboadheacmddaaDoor
namespace Rows

/-- THE TIED CARD OF 'laws.FnExactFormatDeck'. -/
def fnExactFormatDeckCard : Claim7 := { stood := { row := fnExactFormatDeckRow, standIns := [], harness := (true, "c413f6d28c01e0a7c79e8baeb890ee77acd2197a148f31dc72c90bd5ccb62d28"), looks := true }, kinds := [], alts := [], laidByText := true, laidKinds := [.data, .data, .data], laidTests := true, laidLooks := .later }
def FnExactFormatDeckCardSaid : Prop := Claim7.holds Tryd.pinned (.plain (OpenSpec.ofChange fnExactFormatDeckSpec)) fnExactFormatDeckCard

/-- THE TIED CARD OF 'laws.FnExactParseDeck'. -/
def fnExactParseDeckCard : Claim7 := { stood := { row := fnExactParseDeckRow, standIns := [], harness := (true, "c413f6d28c01e0a7c79e8baeb890ee77acd2197a148f31dc72c90bd5ccb62d28"), looks := true }, kinds := [], alts := [], laidByText := true, laidKinds := [.data, .data, .data, .data, .sentinel, .sentinel, .pinned], laidTests := true, laidLooks := .later }
def FnExactParseDeckCardSaid : Prop := Claim7.holds Tryd.pinned (.plain (OpenSpec.ofChange fnExactParseDeckSpec)) fnExactParseDeckCard

/-- THE SECOND FORM's CARD OF 'laws.FnExactFormatDeck'. -/
def fnExactFormatDeckUptoCard : Claim7 := { stood := { row := fnExactFormatDeckUptoRow, standIns := [], harness := (true, "c413f6d28c01e0a7c79e8baeb890ee77acd2197a148f31dc72c90bd5ccb62d28"), looks := true }, kinds := [], alts := [], laidByText := true, laidKinds := [.data, .data, .data], laidTests := true, laidLooks := .later }
def FnExactFormatDeckUptoCardSaid : Prop := Claim7.holds Tryd.pinned (.plain (OpenSpec.upto fnExactFormatDeckSpec)) fnExactFormatDeckUptoCard

/-- THE SECOND FORM's CARD OF 'laws.FnExactParseDeck'. -/
def fnExactParseDeckUptoCard : Claim7 := { stood := { row := fnExactParseDeckUptoRow, standIns := [], harness := (true, "c413f6d28c01e0a7c79e8baeb890ee77acd2197a148f31dc72c90bd5ccb62d28"), looks := true }, kinds := [], alts := [], laidByText := true, laidKinds := [.data, .data, .data, .data, .sentinel, .sentinel, .pinned], laidTests := true, laidLooks := .later }
def FnExactParseDeckUptoCardSaid : Prop := Claim7.holds Tryd.pinned (.plain (OpenSpec.upto fnExactParseDeckSpec)) fnExactParseDeckUptoCard
end Rows
end Go.Proofs.YtbboadheacmddaaDoor
