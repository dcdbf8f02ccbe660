/- What readable lists of texts and of integers look like. No conditions. -/
import Derived.Test.YtdggbjlgimcpkaaDoorStrs
import Derived.Test.YtdggbjlgimcpkaaDoorAbsRead
namespace Go.Proofs.YtdggbjlgimcpkaaDoor
open Go Go.RowKit Go.ChangeShapes Go.WideShapes Go.ChangeAt Go.Deep
end Go.Proofs.YtdggbjlgimcpkaaDoor
