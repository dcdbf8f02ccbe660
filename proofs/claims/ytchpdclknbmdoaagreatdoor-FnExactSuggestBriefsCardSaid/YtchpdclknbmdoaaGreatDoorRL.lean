/- rBig and rInts of package laws; the cursor at the start. -/
import Derived.Test.YtchpdclknbmdoaaGreatDoorCur2
namespace Go.Proofs.YtchpdclknbmdoaaGreatDoor
open Go Go.RowKit
end Go.Proofs.YtchpdclknbmdoaaGreatDoor
