/- The small tests of strokes: both programs' bounds. No conditions. -/
import Derived.Test.YtjeffognhcbiaaaDoorOld
namespace Go.Proofs.YtjeffognhcbiaaaDoor
open Go.RowKit
def inB (x a b : Int) : Bool := decide (a ≤ x) && decide (x ≤ b)
def good (s : Int) : Bool := inB s 1 8388607

end Go.Proofs.YtjeffognhcbiaaaDoor
