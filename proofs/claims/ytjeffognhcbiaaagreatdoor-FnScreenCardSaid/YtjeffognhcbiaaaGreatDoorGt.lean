/- One package-level variable is known to be an integer. No conditions. -/
import Derived.Calls
namespace Go.Proofs.YtjeffognhcbiaaaGreatDoor
open Go
def gMax (arr : Array Value) : Prop := ∃ v, arr[0]? = some v ∧ ∃ m, v = .int .i64 m
def gtab : List (Nat × (Array Value → Prop)) := [(0, gMax)]
end Go.Proofs.YtjeffognhcbiaaaGreatDoor
