/- One package-level variable is known to be an integer. No conditions. -/
import Derived.Calls
namespace Go.Proofs.YtchpdclknbmdoaaGreatDoor
open Go
def gMax (arr : Array Value) : Prop := ∃ v, arr[0]? = some v ∧ ∃ m, v = .int .i64 m
def gtab : List (Nat × (Array Value → Prop)) := [(2, gMax)]
end Go.Proofs.YtchpdclknbmdoaaGreatDoor
