/- No package-level variable is known here. No conditions. -/
import Derived.Calls
namespace Go.Proofs.Ytdggbjlgimcpkaa
open Go
def gtab : List (Nat × (Array Value → Prop)) := []
end Go.Proofs.Ytdggbjlgimcpkaa
