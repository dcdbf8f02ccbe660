/- The cursor out of which the draws are made, and the draws of one number or one choice. -/
import Derived.Test.YtjeffognhcbiaaaDoorAbs4
import Derived.Test.YtjeffognhcbiaaaDoorAbs3
namespace Go.Proofs.YtjeffognhcbiaaaDoor
open Go Go.RowKit
structure Cur where
  a : Nat
  s : Int
section
variable (code : List UInt8) (c : Cur) (hl : code.length ≤ 65536) (hc : c.a ≤ 100000000)
include hl hc
end
end Go.Proofs.YtjeffognhcbiaaaDoor
