/- What both programs compute of number strokes. No conditions but bounds. -/
import Derived.Test.YtdggbjlgimcpkaaNuA
import Derived.Test.YtdggbjlgimcpkaaReverse
namespace Go.Proofs.Ytdggbjlgimcpkaa
open Go Go.RowKit
end Go.Proofs.Ytdggbjlgimcpkaa

