/- Segment, MatchAt, IsSegmentation of both programs. No conditions but bounds of lengths. -/
import Derived.Test.YtjeffognhcbiaaaGreatDoorSgB
namespace Go.Proofs.YtjeffognhcbiaaaGreatDoor
open Go Go.RowKit
end Go.Proofs.YtjeffognhcbiaaaGreatDoor
