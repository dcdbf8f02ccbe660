/- No package-level variable is known here. No conditions. -/
import Derived.Calls
namespace Go.Proofs.Ytjeffognhcbiaaa
open Go
def gtab : List (Nat × (Array Value → Prop)) := []
end Go.Proofs.Ytjeffognhcbiaaa
