/- Lists of texts: what package laws does with them. No conditions but bounds. -/
import Derived.Test.YtchpdclknbmdoaaDoorAbs4
namespace Go.Proofs.YtchpdclknbmdoaaDoor
open Go Go.RowKit
end Go.Proofs.YtchpdclknbmdoaaDoor
