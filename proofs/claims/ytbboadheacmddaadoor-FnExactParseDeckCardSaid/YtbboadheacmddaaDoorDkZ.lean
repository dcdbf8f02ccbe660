/- What a readable deck looks like. No conditions. -/
import Derived.Test.YtbboadheacmddaaDoorDkF
import Derived.Test.YtbboadheacmddaaDoorAbsRead
namespace Go.Proofs.YtbboadheacmddaaDoor
open Go Go.RowKit Go.ChangeShapes Go.WideShapes Go.ChangeAt Go.Deep
theorem reads_Card (w : World) : Reads Tryd.prog w 59 (fun cells => ∃ c : CardD, cells = encCard c ∧ c.text.length ≤ 9223372036854775807) := by
  refine (reads_struct3 Tryd.underlying59 rfl (by kernel_rfl) (by kernel_rfl) (by kernel_rfl) (reads_str Tryd.underlying9) (reads_int Tryd.underlying3) (reads_int Tryd.underlying3)).mono ?_
  rintro cs ⟨a, b, c, rfl, ⟨l, rfl, hl⟩, ⟨m, rfl, _⟩, ⟨n, rfl, _⟩⟩
  exact ⟨⟨l, m, n⟩, rfl, hl⟩
theorem reads_Deck (w : World) : Reads Tryd.prog w 24 (fun cells => ∃ cs, cells = encDeck cs ∧ DeckM cs) := by
  refine (reads_struct1 Tryd.underlying24 rfl (by kernel_rfl) (reads_slice Tryd.underlying22 (of_decide_eq_true (by kernel_rfl)) (reads_Card w))).mono ?_
  rintro cells ⟨xs, rfl, hl, hx⟩
  obtain ⟨cs, rfl, hcs⟩ := lift_list hx
  exact ⟨cs, rfl, by simpa using hl, hcs⟩
end Go.Proofs.YtbboadheacmddaaDoor
