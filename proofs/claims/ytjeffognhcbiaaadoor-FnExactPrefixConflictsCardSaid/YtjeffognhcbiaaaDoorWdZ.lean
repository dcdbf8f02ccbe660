/- What readable lists of texts and of integers look like. No conditions. -/
import Derived.Test.YtjeffognhcbiaaaDoorStrs
import Derived.Test.YtjeffognhcbiaaaDoorAbsRead
namespace Go.Proofs.YtjeffognhcbiaaaDoor
open Go Go.RowKit Go.ChangeShapes Go.WideShapes Go.ChangeAt Go.Deep
def IntM (l : List Int) : Prop := l.length ≤ 9223372036854775807 ∧ ∀ n ∈ l, -9223372036854775808 ≤ n ∧ n ≤ 9223372036854775807
theorem reads_Ints (w : World) : Reads Tryd.prog w 26 (fun cells => ∃ l, cells = [.sl (l.map yG)] ∧ IntM l) := by
  refine (reads_slice Tryd.underlying26 (of_decide_eq_true (by kernel_rfl)) (reads_int Tryd.underlying3)).mono ?_
  rintro cells ⟨xs, rfl, hl, hx⟩
  obtain ⟨ws, rfl, hws⟩ := lift_list (enc := yG) hx
  exact ⟨ws, rfl, by simpa using hl, hws⟩
end Go.Proofs.YtjeffognhcbiaaaDoor
