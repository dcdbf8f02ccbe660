/- A string as the list of its bytes, each a number. No conditions. -/
import Derived.Test.YtdggbjlgimcpkaaBasic
namespace Go.Proofs.Ytdggbjlgimcpkaa
open Go.RowKit

/-- the bytes of a string -/
def bs (s : ByteArray) : List Int := s.data.toList.map fun b => (b.toNat : Int)
theorem bs_len (s : ByteArray) : (bs s).length = s.size := by unfold bs; rw [List.length_map, Array.length_toList]; rfl
theorem bs_at (s : ByteArray) (k : Nat) (h : k < s.size) : (bs s)[k]? = some ((s[k].toNat : Nat) : Int) := by
  unfold bs
  rw [List.getElem?_map, Array.getElem?_toList, Array.getElem?_eq_getElem (by exact h)]
  rfl
end Go.Proofs.Ytdggbjlgimcpkaa
