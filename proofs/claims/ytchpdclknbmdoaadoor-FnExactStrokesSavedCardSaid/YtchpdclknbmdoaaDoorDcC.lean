/- Drawn atoms. No conditions but bounds. -/
import Derived.Test.YtchpdclknbmdoaaDoorDcB
namespace Go.Proofs.YtchpdclknbmdoaaDoor
open Go Go.RowKit
structure Atm where
  k : Int
  t : List UInt8
instance : Inhabited Atm := ⟨⟨0, []⟩⟩
def encAtm (a : Atm) : List Cell := [int a.k, str a.t]
theorem encAtm_sc (a : Atm) : ∀ x ∈ encAtm a, Imm x ∧ Flat x := by
  intro x hx
  simp only [encAtm, List.mem_cons, List.not_mem_nil, or_false] at hx
  rcases hx with rfl | rfl
  · exact ⟨Imm.v _, Flat.v _⟩
  · exact ⟨Imm.v _, Flat.v _⟩
theorem atms_sc (l : List Atm) : AllSc (l.map encAtm) := map_sc encAtm_sc l
theorem atm_snoc (l : List Atm) (y : Atm) : (l ++ [y]).map encAtm = l.map encAtm ++ [encAtm y] := by rw [List.map_append]; rfl
section
variable (code : List UInt8) (c : Cur) (hl : code.length ≤ 65536) (hc : c.a ≤ 5000000)
include hl hc
end
section
variable (code : List UInt8) (c : Cur) (hl : code.length ≤ 65536) (hc : c.a ≤ 4900000)
include hl hc
end
end Go.Proofs.YtchpdclknbmdoaaDoor
