/- What both programs compute of number strokes: their digits. No conditions but bounds. -/
import Derived.Test.YtdggbjlgimcpkaaNuB
namespace Go.Proofs.Ytdggbjlgimcpkaa
open Go Go.RowKit
end Go.Proofs.Ytdggbjlgimcpkaa
