/- rBig and rInts of package laws; the cursor at the start. No conditions but bounds. -/
import Derived.Test.YtdggbjlgimcpkaaDoorCur2
namespace Go.Proofs.YtdggbjlgimcpkaaDoor
open Go Go.RowKit
end Go.Proofs.YtdggbjlgimcpkaaDoor
