/- Lists of texts: what package laws does with them. -/
import Derived.Test.YtjeffognhcbiaaaAbs4
namespace Go.Proofs.Ytjeffognhcbiaaa
open Go Go.RowKit
end Go.Proofs.Ytjeffognhcbiaaa
