/- ApplyMacro of both programs; rTape. -/
import Derived.Test.YtchpdclknbmdoaaGreatDoorTpA
namespace Go.Proofs.YtchpdclknbmdoaaGreatDoor
open Go Go.RowKit
def kA (t : List Itm) : Itm := (t[t.length - 1]?).getD ⟨0, false⟩
theorem last_at {t : List Itm} (h : t.length ≠ 0) : t[t.length - 1]? = some (kA t) := by
  obtain ⟨x, hx⟩ := xP (show t.length - 1 < t.length by omega)
  rw [kA, hx]; rfl
theorem itm_snoc (l : List Itm) (y : Itm) : (l ++ [y]).map xA = l.map xA ++ [xA y] := by rw [List.map_append]; rfl
end Go.Proofs.YtchpdclknbmdoaaGreatDoor
