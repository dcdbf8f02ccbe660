/- What is drawn for FreeStrokes. -/
import Derived.Test.YtchpdclknbmdoaaGreatDoorBsA
import Derived.Test.YtchpdclknbmdoaaGreatDoorFrB
namespace Go.Proofs.YtchpdclknbmdoaaGreatDoor
open Go Go.RowKit
end Go.Proofs.YtchpdclknbmdoaaGreatDoor
