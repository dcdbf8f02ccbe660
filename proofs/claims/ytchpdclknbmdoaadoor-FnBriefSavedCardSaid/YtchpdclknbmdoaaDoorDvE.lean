/- The functions of package laws that measure, copy and compare dictionaries; what a readable one looks like. No conditions but bounds of lengths. -/
import Derived.Test.YtchpdclknbmdoaaDoorDvB
import Derived.Test.YtchpdclknbmdoaaDoorIntS
import Derived.Test.YtchpdclknbmdoaaDoorWdZ
namespace Go.Proofs.YtchpdclknbmdoaaDoor
open Go Go.RowKit Go.ChangeShapes Go.WideShapes Go.ChangeAt Go.Deep
theorem i0D : ∀ obj : AObj, some obj ∈ ([] : List (Option AObj)) → ∀ x ∈ obj.els, ∀ c ∈ x, Imm c := fun _ h => by cases h
end Go.Proofs.YtchpdclknbmdoaaDoor
