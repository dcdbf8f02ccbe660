/- Draws one after another; texts that are spoilt. No conditions but bounds. -/
import Derived.Test.YtchpdclknbmdoaaDoorCur2
namespace Go.Proofs.YtchpdclknbmdoaaDoor
open Go Go.RowKit
section
variable (code : List UInt8) (c : Cur) (hl : code.length ≤ 65536) (hc : c.a ≤ 9000000)
include hl hc
end
end Go.Proofs.YtchpdclknbmdoaaDoor
