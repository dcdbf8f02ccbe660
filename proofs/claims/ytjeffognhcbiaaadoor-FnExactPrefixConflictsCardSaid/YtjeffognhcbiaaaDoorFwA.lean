/- Segmentations with the fewest pieces: what both programs compute, and that it is best. qA lists. -/
import Derived.Test.YtjeffognhcbiaaaDoorSgA
namespace Go.Proofs.YtjeffognhcbiaaaDoor
open Go Go.RowKit
structure Ct where
  u : Nat
  q : Nat
  t : Nat
def c0 : Ct := ⟨0, 0, 0⟩
def lx (u q u' q' : Nat) : Prop := u < u' ∨ u = u' ∧ q ≤ q'
instance (u q u' q' : Nat) : Decidable (lx u q u' q') := by unfold lx; exact inferInstance
theorem lx.trans {a b c d e f : Nat} (h : lx a b c d) (k : lx c d e f) : lx a b e f := by unfold lx at *; omega
theorem lx.refl (a b : Nat) : lx a b a b := by unfold lx; omega
end Go.Proofs.YtjeffognhcbiaaaDoor
