/- Words and widths that are drawn. No conditions but bounds. -/
import Derived.Test.YtdggbjlgimcpkaaDoorCur
import Derived.Test.YtdggbjlgimcpkaaDoorWdB
namespace Go.Proofs.YtdggbjlgimcpkaaDoor
open Go Go.RowKit
def l3 : List (List UInt8) := [[], [120, 32, 121], [1]]
end Go.Proofs.YtdggbjlgimcpkaaDoor
