/- Tapes that package laws marks. No conditions but bounds. -/
import Derived.Test.YtchpdclknbmdoaaDoorTpA
namespace Go.Proofs.YtchpdclknbmdoaaDoor
open Go Go.RowKit
end Go.Proofs.YtchpdclknbmdoaaDoor
