/- The small tests of strokes: both programs' bounds. No conditions. -/
import Derived.Test.YtjeffognhcbiaaaOld
namespace Go.Proofs.Ytjeffognhcbiaaa
open Go.RowKit

end Go.Proofs.Ytjeffognhcbiaaa
