/- A list of integers is copied, marks of texts are held: package laws. No conditions but bounds. -/
import Derived.Test.YtdggbjlgimcpkaaDoorStrs
namespace Go.Proofs.YtdggbjlgimcpkaaDoor
open Go Go.RowKit
end Go.Proofs.YtdggbjlgimcpkaaDoor
