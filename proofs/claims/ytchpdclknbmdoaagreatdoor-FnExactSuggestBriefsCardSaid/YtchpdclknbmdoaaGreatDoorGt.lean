/- Two package-level variables are known: the library's table for trailing zeros, and one that is an integer. No conditions. -/
import Derived.Calls
import Derived.Lib.TrailingZeros
namespace Go.Proofs.YtchpdclknbmdoaaGreatDoor
open Go
def gMax (arr : Array Value) : Prop := ∃ v, arr[0]? = some v ∧ ∃ m, v = .int .i64 m
def gTz (arr : Array Value) : Prop := arr = (Lib.deBruijn64tab.map fun z : Nat => Value.int .u8 z).toArray
def gtab : List (Nat × (Array Value → Prop)) := [(1, gTz), (2, gMax)]
end Go.Proofs.YtchpdclknbmdoaaGreatDoor
