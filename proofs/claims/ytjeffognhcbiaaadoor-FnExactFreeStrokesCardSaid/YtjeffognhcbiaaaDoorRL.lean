/- rBig and rInts of package laws; the cursor at the start. -/
import Derived.Test.YtjeffognhcbiaaaDoorCur2
namespace Go.Proofs.YtjeffognhcbiaaaDoor
open Go Go.RowKit
end Go.Proofs.YtjeffognhcbiaaaDoor
