/- The small tests of strokes: both programs' bounds. No conditions. -/
import Derived.Test.YtjeffognhcbiaaaGreatDoorOld
namespace Go.Proofs.YtjeffognhcbiaaaGreatDoor
open Go.RowKit
def inB (x a b : Int) : Bool := decide (a ≤ x) && decide (x ≤ b)
def good (s : Int) : Bool := inB s 1 8388607

end Go.Proofs.YtjeffognhcbiaaaGreatDoor
