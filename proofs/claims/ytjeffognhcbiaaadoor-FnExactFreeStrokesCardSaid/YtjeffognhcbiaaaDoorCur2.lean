/- Draws of which the bounds alone matter. -/
import Derived.Test.YtjeffognhcbiaaaDoorCur
namespace Go.Proofs.YtjeffognhcbiaaaDoor
open Go Go.RowKit
section
variable (code : List UInt8) (c : Cur) (hl : code.length ≤ 65536) (hc : c.a ≤ 10000000)
include hl hc
end
end Go.Proofs.YtjeffognhcbiaaaDoor
