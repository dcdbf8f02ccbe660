/- Drawn translations and entries. -/
import Derived.Test.YtjeffognhcbiaaaDoorDcD
namespace Go.Proofs.YtjeffognhcbiaaaDoor
open Go Go.RowKit
section
variable (code : List UInt8) (c : Cur) (hl : code.length ≤ 65536) (hc : c.a ≤ 4000000)
include hl hc
end
section
variable (code : List UInt8) (c : Cur) (hl : code.length ≤ 65536) (hc : c.a ≤ 3900000)
include hl hc
end
end Go.Proofs.YtjeffognhcbiaaaDoor
