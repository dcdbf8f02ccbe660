/- Drawn atoms. -/
import Derived.Test.YtjeffognhcbiaaaGreatDoorDcB
namespace Go.Proofs.YtjeffognhcbiaaaGreatDoor
open Go Go.RowKit
structure Atm where
  k : Int
  t : List UInt8
instance : Inhabited Atm := ⟨⟨0, []⟩⟩
def xQ (a : Atm) : List Cell := [int a.k, str a.t]
theorem encAtm_sc (a : Atm) : ∀ x ∈ xQ a, Imm x ∧ Flat x := by
  intro x hx
  simp only [xQ, List.mem_cons, List.not_mem_nil, or_false] at hx
  rcases hx with rfl | rfl
  · exact ⟨Imm.v _, Flat.v _⟩
  · exact ⟨Imm.v _, Flat.v _⟩
theorem vB (l : List Atm) : AllSc (l.map xQ) := map_sc encAtm_sc l
theorem atm_snoc (l : List Atm) (y : Atm) : (l ++ [y]).map xQ = l.map xQ ++ [xQ y] := by rw [List.map_append]; rfl
section
variable (code : List UInt8) (c : Cur) (hl : code.length ≤ 65536) (hc : c.a ≤ 5000000)
include hl hc
end
section
variable (code : List UInt8) (c : Cur) (hl : code.length ≤ 65536) (hc : c.a ≤ 4900000)
include hl hc
end
end Go.Proofs.YtjeffognhcbiaaaGreatDoor
