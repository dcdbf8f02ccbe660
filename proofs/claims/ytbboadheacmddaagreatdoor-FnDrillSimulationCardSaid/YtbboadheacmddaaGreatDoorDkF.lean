/- The functions of package laws that measure, copy and compare cards and decks. No conditions but bounds of lengths. -/
import Derived.Test.YtbboadheacmddaaGreatDoorDkE
namespace Go.Proofs.YtbboadheacmddaaGreatDoor
open Go Go.RowKit
end Go.Proofs.YtbboadheacmddaaGreatDoor
