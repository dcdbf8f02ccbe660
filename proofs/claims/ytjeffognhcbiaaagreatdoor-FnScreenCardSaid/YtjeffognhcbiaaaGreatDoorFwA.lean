/- Segmentations with the fewest pieces: what both programs compute, and that it is best. Plain lists. -/
import Derived.Test.YtjeffognhcbiaaaGreatDoorSgA
namespace Go.Proofs.YtjeffognhcbiaaaGreatDoor
open Go Go.RowKit
structure Ct where
  u : Nat
  q : Nat
  t : Nat
def c0 : Ct := ⟨0, 0, 0⟩
def lx (u q u' q' : Nat) : Prop := u < u' ∨ u = u' ∧ q ≤ q'
instance (u q u' q' : Nat) : Decidable (lx u q u' q') := by unfold lx; exact inferInstance
theorem lx.trans {a b c d e f : Nat} (h : lx a b c d) (k : lx c d e f) : lx a b e f := by unfold lx at *; omega
theorem lx.refl (a b : Nat) : lx a b a b := by unfold lx; omega
theorem cut_len {l : List Int} {f n : Nat} (h : f + n ≤ l.length) : (cut l f n).length = n := by simp [cut]; omega
end Go.Proofs.YtjeffognhcbiaaaGreatDoor
