/- Drawn outlines that may be invalid. No conditions but bounds. -/
import Derived.Test.YtchpdclknbmdoaaDoorDcA
namespace Go.Proofs.YtchpdclknbmdoaaDoor
open Go Go.RowKit
section
variable (code : List UInt8) (c : Cur) (hl : code.length ≤ 65536) (hc : c.a ≤ 5000000)
include hl hc
end
end Go.Proofs.YtchpdclknbmdoaaDoor
