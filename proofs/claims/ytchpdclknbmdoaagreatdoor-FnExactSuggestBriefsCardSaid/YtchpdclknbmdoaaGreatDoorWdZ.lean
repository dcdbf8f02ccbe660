/- What readable lists of texts and of integers look like. No conditions. -/
import Derived.Test.YtchpdclknbmdoaaGreatDoorStrs
import Derived.Test.YtchpdclknbmdoaaGreatDoorAbsRead
namespace Go.Proofs.YtchpdclknbmdoaaGreatDoor
open Go Go.RowKit Go.ChangeShapes Go.WideShapes Go.ChangeAt Go.Deep
def IntM (l : List Int) : Prop := l.length ≤ 9223372036854775807 ∧ ∀ n ∈ l, -9223372036854775808 ≤ n ∧ n ≤ 9223372036854775807
theorem reads_Ints (w : World) : Reads Tryz.prog w 27 (fun cells => ∃ l, cells = [.sl (l.map yQ)] ∧ IntM l) := by
  refine (reads_slice Tryz.underlying27 (of_decide_eq_true (by kernel_rfl)) (reads_int Tryz.underlying3)).mono ?_
  rintro cells ⟨xs, rfl, hl, hx⟩
  obtain ⟨ws, rfl, hws⟩ := lift_list (enc := yQ) hx
  exact ⟨ws, rfl, by simpa using hl, hws⟩
end Go.Proofs.YtchpdclknbmdoaaGreatDoor
