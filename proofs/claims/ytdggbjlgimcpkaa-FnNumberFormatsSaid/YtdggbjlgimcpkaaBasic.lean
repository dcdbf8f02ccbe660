/- The small tests of strokes: both programs' bounds. No conditions. -/
import Derived.Test.YtdggbjlgimcpkaaOld
namespace Go.Proofs.Ytdggbjlgimcpkaa
open Go.RowKit

end Go.Proofs.Ytdggbjlgimcpkaa
