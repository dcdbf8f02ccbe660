/- rBig and rInts of package laws; the cursor at the start. No conditions but bounds. -/
import Derived.Test.YtchpdclknbmdoaaDoorCur2
namespace Go.Proofs.YtchpdclknbmdoaaDoor
open Go Go.RowKit
end Go.Proofs.YtchpdclknbmdoaaDoor
