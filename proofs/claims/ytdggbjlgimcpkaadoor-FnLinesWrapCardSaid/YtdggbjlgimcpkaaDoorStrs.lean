/- Lists of texts: what package laws does with them. No conditions but bounds. -/
import Derived.Test.YtdggbjlgimcpkaaDoorAbs4
namespace Go.Proofs.YtdggbjlgimcpkaaDoor
open Go Go.RowKit
def StrM (ws : List (List UInt8)) : Prop := ws.length ≤ 9223372036854775807 ∧ ∀ l ∈ ws, l.length ≤ 9223372036854775807
def StrB (ws : List (List UInt8)) : Prop := ws.length ≤ 4000000 ∧ ∀ l ∈ ws, l.length ≤ 4000000
end Go.Proofs.YtdggbjlgimcpkaaDoor
