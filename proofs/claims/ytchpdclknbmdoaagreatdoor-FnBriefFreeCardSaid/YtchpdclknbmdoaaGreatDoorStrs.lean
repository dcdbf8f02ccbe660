/- Lists of texts: what package laws does with them. -/
import Derived.Test.YtchpdclknbmdoaaGreatDoorAbs4
namespace Go.Proofs.YtchpdclknbmdoaaGreatDoor
open Go Go.RowKit
end Go.Proofs.YtchpdclknbmdoaaGreatDoor
