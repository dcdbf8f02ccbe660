/- The shortest lists of number strokes: plain Lean. No conditions but those stated. -/
import Derived.Test.YtdggbjlgimcpkaaNuA
namespace Go.Proofs.Ytdggbjlgimcpkaa
open Go Go.RowKit
section
variable (l : List UInt8)
def seg (i k : Nat) : List UInt8 := (l.drop i).take (k - i)
def okS (i k : Nat) : Bool := decide (pick (seg l i k) ≠ 0)
/-- the least number behind the first s sizes from place i, T the numbers from place i + 1 on -/
def least (i : Nat) (T : List Nat) : Nat → Nat
  | 0 => l.length + 1
  | s + 1 => if okS l i (i + s + 1) = true ∧ 1 + T.getD s 0 < least i T s then 1 + T.getD s 0 else least i T s
def size (i : Nat) (T : List Nat) : Nat → Nat
  | 0 => 0
  | s + 1 => if okS l i (i + s + 1) = true ∧ T.getD s 0 + 1 ≤ least l i T s then s + 1 else size i T s
/-- the numbers from place l.length - j on -/
def tbl : Nat → List Nat
  | 0 => [0]
  | j + 1 => least l (l.length - (j + 1)) (tbl j) (j + 1) :: tbl j
variable (hl : l.all digB = true)
include hl
omit hl in
/-- the size that both take at place i -/
def tk (i : Nat) : Nat := size l i (tbl l (l.length - (i + 1))) (l.length - i)
omit hl in
/-- the strokes from place i on -/
def enc (l : List UInt8) : Nat → Nat → List Nat
  | 0, _ => []
  | f + 1, i => if i < l.length then pick (seg l i (i + tk l i)) :: enc l f (i + tk l i) else []
end
end Go.Proofs.Ytdggbjlgimcpkaa
