/- FnExactParseTape returns true, given what slices.Clip does. -/
import Derived.Test.YtchpdclknbmdoaaDoorPtF
import Derived.Test.YtchpdclknbmdoaaDoorTpK
import Derived.Test.YtchpdclknbmdoaaDoorTpL
namespace Go.Proofs.YtchpdclknbmdoaaDoor
open Go Go.RowKit
end Go.Proofs.YtchpdclknbmdoaaDoor
