/- The functions of package laws on tapes; FormatTape's law as a contract; what a readable tape looks like. No conditions but bounds. -/
import Derived.Test.YtchpdclknbmdoaaDoorTpJ
import Derived.Test.YtchpdclknbmdoaaDoorAbsRead
namespace Go.Proofs.YtchpdclknbmdoaaDoor
open Go Go.RowKit Go.ChangeShapes Go.WideShapes Go.ChangeAt Go.Deep
end Go.Proofs.YtchpdclknbmdoaaDoor
