/- What is known of package-level variables: an integer, two errors, the table of powers of ten. No conditions. -/
import Derived.Calls
import Derived.Lib.ItoaNum
namespace Go.Proofs.YtbboadheacmddaaGreatDoor
open Go
def gMax (arr : Array Value) : Prop := ∃ v, arr[0]? = some v ∧ ∃ m, v = .int .i64 m
def gErr (arr : Array Value) : Prop := ∃ v, arr[0]? = some v ∧ (v = .nilIface ∨ ∃ te pe, v = .iface te pe)
def gtab : List (Nat × (Array Value → Prop)) := [(3, fun arr => arr = (Lib.pow10Tab.map fun z => Value.int .u64 z).toArray), (0, gMax), (1, gErr), (2, gErr)]
end Go.Proofs.YtbboadheacmddaaGreatDoor
