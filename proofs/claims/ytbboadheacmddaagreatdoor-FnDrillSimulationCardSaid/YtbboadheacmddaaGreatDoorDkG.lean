/- The functions of package laws that copy and compare cards and decks. No conditions but bounds of lengths. -/
import Derived.Test.YtbboadheacmddaaGreatDoorDkF
import Derived.Test.YtbboadheacmddaaGreatDoorAbs4
namespace Go.Proofs.YtbboadheacmddaaGreatDoor
open Go Go.RowKit
theorem encCards_sc (cs : List CardD) : AllSc (cs.map encCard) := by
  intro x hx
  obtain ⟨c, _, rfl⟩ := List.mem_map.1 hx
  exact encCard_sc c
end Go.Proofs.YtbboadheacmddaaGreatDoor
