/- One package-level variable is known: the library's table of powers of ten. No conditions. -/
import Derived.Calls
import Derived.Lib.ItoaNum
namespace Go.Proofs.YtbboadheacmddaaDoor
open Go
def gtab : List (Nat × (Array Value → Prop)) := [(3, fun arr => arr = (Lib.pow10Tab.map fun z => Value.int .u64 z).toArray)]
end Go.Proofs.YtbboadheacmddaaDoor
