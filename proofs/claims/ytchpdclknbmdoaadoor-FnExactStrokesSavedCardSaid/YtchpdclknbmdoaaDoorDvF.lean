/- IsFreeOutline of both programs; FnExactIsFreeOutline returns true. No conditions but bounds of lengths. -/
import Derived.Test.YtchpdclknbmdoaaDoorDvE
namespace Go.Proofs.YtchpdclknbmdoaaDoor
open Go Go.RowKit
theorem szDi_len {es : List Ent} (h : 0 ≤ szDi es 1048576) : DicB es := szDi_ok h (by omega)
end Go.Proofs.YtchpdclknbmdoaaDoor
