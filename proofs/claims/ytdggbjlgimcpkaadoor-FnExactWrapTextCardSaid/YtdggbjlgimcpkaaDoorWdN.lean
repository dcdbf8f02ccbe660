/- A width that is drawn, the arguments of the laws on lines, rBig and rInts. No conditions but bounds. -/
import Derived.Test.YtdggbjlgimcpkaaDoorWdM
import Derived.Test.YtdggbjlgimcpkaaDoorIntS
import Derived.Test.YtdggbjlgimcpkaaDoorRL
namespace Go.Proofs.YtdggbjlgimcpkaaDoor
open Go Go.RowKit
end Go.Proofs.YtdggbjlgimcpkaaDoor
