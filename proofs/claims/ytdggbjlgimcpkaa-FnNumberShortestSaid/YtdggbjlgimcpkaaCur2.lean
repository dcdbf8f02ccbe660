/- Draws of which the bounds alone matter. No conditions but bounds. -/
import Derived.Test.YtdggbjlgimcpkaaCur
namespace Go.Proofs.Ytdggbjlgimcpkaa
open Go Go.RowKit
section
variable (code : List UInt8) (c : Cur) (hl : code.length ≤ 65536) (hc : c.a ≤ 10000000)
include hl hc
theorem one_ex (n : Nat) (hn : 1 ≤ n ∧ n ≤ 200) : ∃ (c' : Cur) (b : Bool), c'.a ≤ c.a + 1 ∧ PFM Try.prog 66 [curO code c] [.c (.ptr 0 0 0), .c (int n)] [some (curO code c')] (.c (boo b)) :=
  ⟨_, _, pkC_a code c n, one_pfm code c hl (by omega) n hn.2⟩
theorem among_ex (l : List Int) (m : Nat) (hn : 1 ≤ m ∧ m ≤ 200) (hm : m ≤ l.length) : ∃ (c' : Cur) (x : Int), c'.a ≤ c.a + 1 ∧ x ∈ l ∧ PFM Try.prog 68 [curO code c, ⟨3, 1, l.map eInt⟩] [.c (.ptr 0 0 0), .c (.ref 1 0 m)] [some (curO code c'), some ⟨3, 1, l.map eInt⟩] (.c (int x)) := by
  refine ⟨_, _, pkC_a code c m, ?_, among_pfm code c hl (by omega) l m hn hm⟩
  have hv := pkV_in code c hn.1
  obtain ⟨x, hx⟩ := at_lt (show (pkV code c m).toNat < l.length by omega)
  rw [amV, hx]
  exact List.mem_of_getElem? hx
end
end Go.Proofs.Ytdggbjlgimcpkaa
