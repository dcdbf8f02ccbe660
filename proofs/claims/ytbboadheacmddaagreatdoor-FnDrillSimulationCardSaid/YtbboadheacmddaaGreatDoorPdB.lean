/- spec.ParseDeck. No conditions but bounds of lengths. -/
import Derived.Test.YtbboadheacmddaaGreatDoorPdA
import Derived.Test.YtbboadheacmddaaGreatDoorSpl
namespace Go.Proofs.YtbboadheacmddaaGreatDoor
open Go Go.RowKit
def pdOut (r : Option (List CardD)) : List AObj := match r with | some cs => [⟨42, 3, cs.map encCard⟩] | none => []
def pdRes (r : Option (List CardD)) : AVal := match r with | some cs => .tup [.agg [.ref 0 0 cs.length], .c (boo true)] | none => .tup [.agg [.nil], .c (boo false)]
end Go.Proofs.YtbboadheacmddaaGreatDoor
