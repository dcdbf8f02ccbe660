/- What readable lists of texts and of integers look like. No conditions. -/
import Derived.Test.YtbboadheacmddaaStrs
import Derived.Test.YtbboadheacmddaaAbsRead
namespace Go.Proofs.Ytbboadheacmddaa
open Go Go.RowKit Go.ChangeShapes Go.WideShapes Go.ChangeAt Go.Deep
theorem reads_Strs (w : World) : Reads Try.prog w 48 (fun cells => ∃ ws, cells = [.sl (ws.map eStr)] ∧ StrM ws) := by
  refine (reads_slice Try.underlying48 (of_decide_eq_true (by kernel_rfl)) (reads_str Try.underlying9)).mono ?_
  rintro cells ⟨xs, rfl, hl, hx⟩
  obtain ⟨ws, rfl, hws⟩ := lift_list (enc := eStr) hx
  exact ⟨ws, rfl, by simpa using hl, hws⟩
def IntM (l : List Int) : Prop := l.length ≤ 9223372036854775807 ∧ ∀ n ∈ l, -9223372036854775808 ≤ n ∧ n ≤ 9223372036854775807
theorem reads_Ints (w : World) : Reads Try.prog w 41 (fun cells => ∃ l, cells = [.sl (l.map eInt)] ∧ IntM l) := by
  refine (reads_slice Try.underlying41 (of_decide_eq_true (by kernel_rfl)) (reads_int Try.underlying3)).mono ?_
  rintro cells ⟨xs, rfl, hl, hx⟩
  obtain ⟨ws, rfl, hws⟩ := lift_list (enc := eInt) hx
  exact ⟨ws, rfl, by simpa using hl, hws⟩
end Go.Proofs.Ytbboadheacmddaa
