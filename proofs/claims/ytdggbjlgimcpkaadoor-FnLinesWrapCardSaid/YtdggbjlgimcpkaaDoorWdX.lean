/- Line starts and the lines that they mean, by both programs. No conditions but bounds of lengths. -/
import Derived.Test.YtdggbjlgimcpkaaDoorWdC
import Derived.Test.YtdggbjlgimcpkaaDoorWdZ
namespace Go.Proofs.YtdggbjlgimcpkaaDoor
open Go Go.RowKit
/-! starts -/
def riseAt (is : List Int) (hi : Int) (j : Nat) : Bool := match is[j]? with
  | some x => decide (0 ≤ x ∧ x ≤ hi) && (j == 0 || (match is[j - 1]? with | some y => decide (y < x) | none => false))
  | none => false
def rise (is : List Int) (hi : Int) : Bool := (List.range is.length).all (riseAt is hi)
/-- the starts of lines of n words -/
def stOk (is : List Int) (n : Nat) : Bool := bif n == 0 then is.length == 0 else is.head? == some 0 && rise is ((n : Int) - 1)
end Go.Proofs.YtdggbjlgimcpkaaDoor
