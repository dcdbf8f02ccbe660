/- Digits and strokes that are drawn. No conditions but bounds. -/
import Derived.Test.YtdggbjlgimcpkaaNuH
namespace Go.Proofs.Ytdggbjlgimcpkaa
open Go Go.RowKit
end Go.Proofs.Ytdggbjlgimcpkaa
