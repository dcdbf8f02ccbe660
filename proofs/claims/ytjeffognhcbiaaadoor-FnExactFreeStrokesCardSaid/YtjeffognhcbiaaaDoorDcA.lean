/- Drawn strokes and outlines, of which the bounds alone matter. -/
import Derived.Test.YtjeffognhcbiaaaDoorCur3
import Derived.Test.YtjeffognhcbiaaaDoorRL
namespace Go.Proofs.YtjeffognhcbiaaaDoor
open Go Go.RowKit
section
variable (code : List UInt8) (c : Cur) (hl : code.length ≤ 65536) (hc : c.a ≤ 7000000)
include hl hc
end
theorem ints_snoc (l : List Int) (y : Int) : (l ++ [y]).map yO = l.map yO ++ [[int y]] := by rw [List.map_append]; rfl
def DS (l : List Int) : Prop := ∀ x ∈ l, -1 ≤ x ∧ x ≤ 1099511627776
section
variable (code : List UInt8) (c : Cur) (hl : code.length ≤ 65536) (hc : c.a ≤ 6000000)
include hl hc
end
end Go.Proofs.YtjeffognhcbiaaaDoor
