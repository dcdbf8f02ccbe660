/- A list of integers is copied, wG of texts are held: package laws. -/
import Derived.Test.YtjeffognhcbiaaaStrs
namespace Go.Proofs.Ytjeffognhcbiaaa
open Go Go.RowKit
end Go.Proofs.Ytjeffognhcbiaaa
