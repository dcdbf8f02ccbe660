/- Texts as cards in order: what NewDeck makes. No conditions. -/
import Derived.Test.YtbboadheacmddaaGreatDoorCmpA
import Derived.Test.YtbboadheacmddaaGreatDoorDkR
namespace Go.Proofs.YtbboadheacmddaaGreatDoor
open Go Go.RowKit
def cardT (l : List UInt8) : CardD := ⟨l, 0, 0⟩
def deckT (ws : List (List UInt8)) : List CardD := stab ltT (ws.map cardT)
theorem deckT_len (ws : List (List UInt8)) : (deckT ws).length = ws.length := by rw [deckT, stab_len, List.length_map]
theorem deckT_mem {ws : List (List UInt8)} {c : CardD} (h : c ∈ deckT ws) : ∃ l ∈ ws, c = cardT l := by
  rw [deckT, stab_mem, List.mem_map] at h
  obtain ⟨l, h1, h2⟩ := h
  exact ⟨l, h1, h2.symm⟩
def newOut (ws : List (List UInt8)) : List AObj := if deckOk (deckT ws) then [⟨42, 3, (deckT ws).map encCard⟩] else []
def newRes (ws : List (List UInt8)) : AVal := if deckOk (deckT ws) then .tup [.agg [.ref 0 0 ws.length], .c (boo true)] else .tup [.agg [.nil], .c (boo false)]
end Go.Proofs.YtbboadheacmddaaGreatDoor
