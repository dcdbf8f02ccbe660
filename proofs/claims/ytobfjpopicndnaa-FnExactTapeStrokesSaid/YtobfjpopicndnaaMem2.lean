/- More words for memory. No conditions but those stated. -/
import Derived.Test.YtobfjpopicndnaaMem
namespace Go.Proofs.Ytobfjpopicndnaa
open Go.RowKit
theorem Own.lit {α : Type} {enc : α → List Value} {size : Nat} {w : World} {base : Nat} {e : TypeId} {n : Nat} (hn : n = w.heap.size) (hb : base ≤ n) : Own enc size (w.alloc (.cells #[] e)) base e (.slice (some ⟨n, 0, none⟩) 0 0) [] := by
  subst hn; exact Own.lit0 hb
theorem below1 (w : World) (o : Obj) : Below w.heap.size w (w.alloc o) := (Below.refl _ _).alloc (Nat.le_refl _) _
theorem below2 (w : World) (o o' : Obj) : Below w.heap.size w ((w.alloc o).alloc o') := (below1 w o).alloc (by simp) _
theorem below3 (w : World) (o o' o'' : Obj) : Below w.heap.size w (((w.alloc o).alloc o').alloc o'') := (below2 w o o').alloc (by simp; omega) _
end Go.Proofs.Ytobfjpopicndnaa
