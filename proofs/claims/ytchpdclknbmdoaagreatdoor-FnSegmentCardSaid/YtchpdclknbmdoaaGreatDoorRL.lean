/- rBig and rInts of package laws; the cursor at the start. -/
import Derived.Test.YtchpdclknbmdoaaGreatDoorCur2
namespace Go.Proofs.YtchpdclknbmdoaaGreatDoor
open Go Go.RowKit
def c00 : Cur := ⟨0, 0⟩
end Go.Proofs.YtchpdclknbmdoaaGreatDoor
