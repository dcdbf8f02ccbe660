/- Drawn outlines that may be invalid. -/
import Derived.Test.YtjeffognhcbiaaaDoorAbs4
import Derived.Test.YtjeffognhcbiaaaDoorAbs3
namespace Go.Proofs.YtjeffognhcbiaaaDoor
open Go Go.RowKit
structure Cur where
  a : Nat
  s : Int
section
variable (code : List UInt8) (c : Cur) (hl : code.length ≤ 65536) (hc : c.a ≤ 100000000)
include hl hc
end
end Go.Proofs.YtjeffognhcbiaaaDoor
namespace Go.Proofs.YtjeffognhcbiaaaDoor
open Go Go.RowKit
section
variable (code : List UInt8) (c : Cur) (hl : code.length ≤ 65536) (hc : c.a ≤ 10000000)
include hl hc
end
end Go.Proofs.YtjeffognhcbiaaaDoor
namespace Go.Proofs.YtjeffognhcbiaaaDoor
open Go Go.RowKit
end Go.Proofs.YtjeffognhcbiaaaDoor
namespace Go.Proofs.YtjeffognhcbiaaaDoor
open Go Go.RowKit
section
variable (code : List UInt8) (c : Cur) (hl : code.length ≤ 65536) (hc : c.a ≤ 9000000)
include hl hc
end
end Go.Proofs.YtjeffognhcbiaaaDoor
namespace Go.Proofs.YtjeffognhcbiaaaDoor
open Go Go.RowKit
section
variable (code : List UInt8) (c : Cur) (hl : code.length ≤ 65536) (hc : c.a ≤ 7000000)
include hl hc
end
def DS (l : List Int) : Prop := ∀ x ∈ l, -1 ≤ x ∧ x ≤ 1099511627776
section
variable (code : List UInt8) (c : Cur) (hl : code.length ≤ 65536) (hc : c.a ≤ 6000000)
include hl hc
end
end Go.Proofs.YtjeffognhcbiaaaDoor
namespace Go.Proofs.YtjeffognhcbiaaaDoor
open Go Go.RowKit
theorem DS.snoc {l : List Int} {y : Int} (h : DS l) (hy : -1 ≤ y ∧ y ≤ 1099511627776) : DS (l ++ [y]) := fun x hx => by
  rcases List.mem_append.1 hx with hx | hx
  · exact h x hx
  · rw [List.mem_singleton.1 hx]; exact hy
section
variable (code : List UInt8) (c : Cur) (hl : code.length ≤ 65536) (hc : c.a ≤ 5000000)
include hl hc
end
end Go.Proofs.YtjeffognhcbiaaaDoor
