/- The cursor out of which the draws are made, and the draws of one number or one choice. No conditions but bounds. -/
import Derived.Test.YtchpdclknbmdoaaDoorAbs4
import Derived.Test.YtchpdclknbmdoaaDoorAbs3
namespace Go.Proofs.YtchpdclknbmdoaaDoor
open Go Go.RowKit
structure Cur where
  a : Nat
  s : Int
section
variable (code : List UInt8) (c : Cur) (hl : code.length ≤ 65536) (hc : c.a ≤ 100000000)
include hl hc
end
end Go.Proofs.YtchpdclknbmdoaaDoor
