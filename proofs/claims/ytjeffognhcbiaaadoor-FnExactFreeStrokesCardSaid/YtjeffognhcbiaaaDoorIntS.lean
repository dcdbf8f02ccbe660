/- A list of integers is copied, vU of texts are held: package laws. -/
import Derived.Test.YtjeffognhcbiaaaDoorStrs
namespace Go.Proofs.YtjeffognhcbiaaaDoor
open Go Go.RowKit
end Go.Proofs.YtjeffognhcbiaaaDoor
