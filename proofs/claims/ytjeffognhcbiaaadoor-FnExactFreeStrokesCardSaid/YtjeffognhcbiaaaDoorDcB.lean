/- Drawn outlines that may be invalid. -/
import Derived.Test.YtjeffognhcbiaaaDoorDcA
namespace Go.Proofs.YtjeffognhcbiaaaDoor
open Go Go.RowKit
theorem DS.snoc {l : List Int} {y : Int} (h : DS l) (hy : -1 ≤ y ∧ y ≤ 1099511627776) : DS (l ++ [y]) := fun x hx => by
  rcases List.mem_append.1 hx with hx | hx
  · exact h x hx
  · rw [List.mem_singleton.1 hx]; exact hy
section
variable (code : List UInt8) (c : Cur) (hl : code.length ≤ 65536) (hc : c.a ≤ 5000000)
include hl hc
end
end Go.Proofs.YtjeffognhcbiaaaDoor
