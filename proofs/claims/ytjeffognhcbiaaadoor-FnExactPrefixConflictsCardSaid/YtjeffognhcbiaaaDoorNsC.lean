/- Functions that the abstract machine knows, called in a concrete walk. -/
import Derived.Test.YtjeffognhcbiaaaDoorNsG
namespace Go.Proofs.YtjeffognhcbiaaaDoor
open Go Go.RowKit
end Go.Proofs.YtjeffognhcbiaaaDoor
