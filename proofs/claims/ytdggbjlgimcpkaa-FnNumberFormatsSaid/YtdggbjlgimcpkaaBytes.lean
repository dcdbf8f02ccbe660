/- A string as the list of its bytes, each a number. No conditions. -/
import Derived.Test.YtdggbjlgimcpkaaBasic
namespace Go.Proofs.Ytdggbjlgimcpkaa
open Go.RowKit

/-- the bytes of a string -/
def bs (s : ByteArray) : List Int := s.data.toList.map fun b => (b.toNat : Int)
end Go.Proofs.Ytdggbjlgimcpkaa
