/- IsFreeOutline of both programs; FnExactIsFreeOutline returns true. No conditions but bounds of lengths. -/
import Derived.Test.YtchpdclknbmdoaaDoorDvE
namespace Go.Proofs.YtchpdclknbmdoaaDoor
open Go Go.RowKit
end Go.Proofs.YtchpdclknbmdoaaDoor
