/- EncodeNumber of both programs. No conditions but bounds. -/
import Derived.Test.YtdggbjlgimcpkaaNuE
namespace Go.Proofs.Ytdggbjlgimcpkaa
open Go Go.RowKit
/-- a row that is filled from its end: place i holds x, what lies behind it T -/
def arr (i x : Nat) (T : List Nat) : List Nat := List.replicate i 0 ++ x :: T
section
variable (l : List UInt8)
variable (hl : l.all digB = true)
include hl
end
section
variable (l : List UInt8) (hk : allD l = true)
include hk
end
end Go.Proofs.Ytdggbjlgimcpkaa
