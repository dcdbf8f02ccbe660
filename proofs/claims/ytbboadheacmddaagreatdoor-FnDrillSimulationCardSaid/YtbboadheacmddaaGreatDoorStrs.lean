/- Lists of texts: what package laws does with them. No conditions but bounds. -/
import Derived.Test.YtbboadheacmddaaGreatDoorAbs4
namespace Go.Proofs.YtbboadheacmddaaGreatDoor
open Go Go.RowKit
end Go.Proofs.YtbboadheacmddaaGreatDoor
