/- Texts as cards in order: what NewDeck makes. No conditions. -/
import Derived.Test.YtbboadheacmddaaCmpA
import Derived.Test.YtbboadheacmddaaDkR
namespace Go.Proofs.Ytbboadheacmddaa
open Go Go.RowKit
def cardT (l : List UInt8) : CardD := ⟨l, 0, 0⟩
def deckT (ws : List (List UInt8)) : List CardD := stab ltT (ws.map cardT)
theorem deckT_len (ws : List (List UInt8)) : (deckT ws).length = ws.length := by rw [deckT, stab_len, List.length_map]
theorem deckT_mem {ws : List (List UInt8)} {c : CardD} (h : c ∈ deckT ws) : ∃ l ∈ ws, c = cardT l := by
  rw [deckT, stab_mem, List.mem_map] at h
  obtain ⟨l, h1, h2⟩ := h
  exact ⟨l, h1, h2.symm⟩
theorem deckT_B {ws : List (List UInt8)} (h : ws.length ≤ 4000000 ∧ ∀ l ∈ ws, l.length ≤ 4000000) : DeckB (deckT ws) := by
  refine ⟨by rw [deckT_len]; omega, fun c hc => ?_⟩
  obtain ⟨l, hl, rfl⟩ := deckT_mem hc
  exact h.2 l hl
def newOut (ws : List (List UInt8)) : List AObj := if deckOk (deckT ws) then [⟨40, 3, (deckT ws).map encCard⟩] else []
def newRes (ws : List (List UInt8)) : AVal := if deckOk (deckT ws) then .tup [.agg [.ref 0 0 ws.length], .c (boo true)] else .tup [.agg [.nil], .c (boo false)]
end Go.Proofs.Ytbboadheacmddaa
