/- Draws one after another; texts that are spoilt. -/
import Derived.Test.YtjeffognhcbiaaaDoorCur2
namespace Go.Proofs.YtjeffognhcbiaaaDoor
open Go Go.RowKit
section
variable (code : List UInt8) (c : Cur) (hl : code.length ≤ 65536) (hc : c.a ≤ 9000000)
include hl hc
end
end Go.Proofs.YtjeffognhcbiaaaDoor
