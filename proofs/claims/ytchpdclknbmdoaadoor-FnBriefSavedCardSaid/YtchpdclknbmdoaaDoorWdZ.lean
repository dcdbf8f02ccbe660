/- What readable lists of texts and of integers look like. No conditions. -/
import Derived.Test.YtchpdclknbmdoaaDoorStrs
import Derived.Test.YtchpdclknbmdoaaDoorAbsRead
namespace Go.Proofs.YtchpdclknbmdoaaDoor
open Go Go.RowKit Go.ChangeShapes Go.WideShapes Go.ChangeAt Go.Deep
end Go.Proofs.YtchpdclknbmdoaaDoor
