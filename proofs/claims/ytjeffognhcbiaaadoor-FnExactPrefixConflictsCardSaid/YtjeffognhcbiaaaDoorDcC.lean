/- Drawn atoms. -/
import Derived.Test.YtjeffognhcbiaaaDoorDcB
namespace Go.Proofs.YtjeffognhcbiaaaDoor
open Go Go.RowKit
structure Atm where
  k : Int
  t : List UInt8
instance : Inhabited Atm := ⟨⟨0, []⟩⟩
def xB (a : Atm) : List Cell := [int a.k, str a.t]
theorem encAtm_sc (a : Atm) : ∀ x ∈ xB a, Imm x ∧ Flat x := by
  intro x hx
  simp only [xB, List.mem_cons, List.not_mem_nil, or_false] at hx
  rcases hx with rfl | rfl
  · exact ⟨Imm.v _, Flat.v _⟩
  · exact ⟨Imm.v _, Flat.v _⟩
theorem wP (l : List Atm) : AllSc (l.map xB) := map_sc encAtm_sc l
theorem atm_snoc (l : List Atm) (y : Atm) : (l ++ [y]).map xB = l.map xB ++ [xB y] := by rw [List.map_append]; rfl
section
variable (code : List UInt8) (c : Cur) (hl : code.length ≤ 65536) (hc : c.a ≤ 5000000)
include hl hc
end
section
variable (code : List UInt8) (c : Cur) (hl : code.length ≤ 65536) (hc : c.a ≤ 4900000)
include hl hc
set_option maxRecDepth 8000 in
end
end Go.Proofs.YtjeffognhcbiaaaDoor
