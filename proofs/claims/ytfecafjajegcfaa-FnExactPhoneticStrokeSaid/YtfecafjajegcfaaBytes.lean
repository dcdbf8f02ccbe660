/- A string as the list of its bytes, each a number. No conditions. -/
import Derived.Test.YtfecafjajegcfaaBasic
namespace Go.Proofs.Ytfecafjajegcfaa
open Go.RowKit

/-- the bytes of a string -/
def bs (s : ByteArray) : List Int := s.data.toList.map fun b => (b.toNat : Int)
theorem bs_len (s : ByteArray) : (bs s).length = s.size := by unfold bs; rw [List.length_map, Array.length_toList]; rfl
theorem bs_at (s : ByteArray) (k : Nat) (h : k < s.size) : (bs s)[k]? = some ((s[k].toNat : Nat) : Int) := by
  unfold bs
  rw [List.getElem?_map, Array.getElem?_toList, Array.getElem?_eq_getElem (by exact h)]
  rfl
theorem bs_byte {s : ByteArray} {k : Nat} {x : Int} (h : (bs s)[k]? = some x) : 0 ≤ x ∧ x < 256 := by
  unfold bs at h
  rw [List.getElem?_map] at h
  cases hb : s.data.toList[k]? with
  | none => rw [hb] at h; cases h
  | some b =>
    rw [hb] at h
    simp only [Option.map_some, Option.some.injEq] at h
    have := b.toNat_lt
    omega
/-- a byte of a string, by a name of its own -/
theorem byte_of {s : ByteArray} {k : Nat} (h : k < s.size) : ∃ x : Int, ((s[k].toNat : Nat) : Int) = x ∧ (bs s)[k]? = some x ∧ 0 ≤ x ∧ x < 256 :=
  ⟨_, rfl, bs_at s k h, bs_byte (bs_at s k h)⟩
end Go.Proofs.Ytfecafjajegcfaa
