/- A list of integers is copied, qT of texts are held: package laws. -/
import Derived.Test.YtchpdclknbmdoaaGreatDoorStrs
namespace Go.Proofs.YtchpdclknbmdoaaGreatDoor
open Go Go.RowKit
end Go.Proofs.YtchpdclknbmdoaaGreatDoor
