/- strings.Join, as a contract of the abstract machine. No conditions but bounds of lengths. -/
import Derived.Test.YtdggbjlgimcpkaaDoorAbs4
import Derived.Shelf.Lays
import Derived.Shelf.Strings.OnBuilder
namespace Go.Proofs.YtdggbjlgimcpkaaDoor
open Go Go.Shelf Go.RowKit
end Go.Proofs.YtdggbjlgimcpkaaDoor
