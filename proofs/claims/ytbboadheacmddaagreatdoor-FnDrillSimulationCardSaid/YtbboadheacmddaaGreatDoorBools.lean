/- Lists of booleans: what package laws does with them. No conditions but bounds. -/
import Derived.Test.YtbboadheacmddaaGreatDoorAbs4
import Derived.Test.YtbboadheacmddaaGreatDoorAbsRead
namespace Go.Proofs.YtbboadheacmddaaGreatDoor
open Go Go.RowKit Go.ChangeShapes Go.WideShapes Go.ChangeAt Go.Deep
def eBoo (b : Bool) : List Cell := [boo b]
theorem eBoo_sc (b : Bool) : ∀ x ∈ eBoo b, Imm x ∧ Flat x := by
  intro x hx
  simp only [eBoo, List.mem_cons, List.not_mem_nil, or_false] at hx
  subst hx
  exact ⟨Imm.v _, Flat.v _⟩
theorem boos_sc (l : List Bool) : AllSc (l.map eBoo) := map_sc eBoo_sc l
end Go.Proofs.YtbboadheacmddaaGreatDoor
