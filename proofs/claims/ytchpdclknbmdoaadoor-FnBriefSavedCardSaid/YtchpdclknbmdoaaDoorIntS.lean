/- A list of integers is copied, marks of texts are held: package laws. No conditions but bounds. -/
import Derived.Test.YtchpdclknbmdoaaDoorStrs
namespace Go.Proofs.YtchpdclknbmdoaaDoor
open Go Go.RowKit
end Go.Proofs.YtchpdclknbmdoaaDoor
