/- Number strokes and their digits: plain Lean. No conditions but those stated. -/
import Derived.Test.YtdggbjlgimcpkaaAbs4
namespace Go.Proofs.Ytdggbjlgimcpkaa
open Go Go.RowKit
/-- the digits' keys in steno order, each with its digit -/
def kd : List (Nat × UInt8) := [(1, 49), (2, 50), (4, 51), (6, 52), (8, 53), (9, 48), (13, 54), (15, 55), (17, 56), (19, 57)]
/-- the digits of the first k keys that are pressed -/
def hk (s k : Nat) : List UInt8 := ((kd.take k).filter fun p => s.testBit p.1).map (·.2)
def dbl (l : List UInt8) : List UInt8 := l.flatMap fun b => [b, b]
/-- the digits of the first k keys, as they are written -/
def dgK (s k : Nat) : List UInt8 := let h := if s.testBit 21 then dbl (hk s k) else hk s k; if s &&& 6144 = 0 then h else h.reverse
def dg (s : Nat) : List UInt8 := dgK s 10
/-- the key of a digit -/
def keyOf (c : UInt8) : Nat := ((kd.find? fun p => p.2 == c).map (·.1)).getD 0
def digB (c : UInt8) : Bool := decide (48 ≤ (c.toNat : Int) ∧ (c.toNat : Int) ≤ 57)
def allD (l : List UInt8) : Bool := l.all digB && decide (1 ≤ (l.length : Int) ∧ (l.length : Int) ≤ 30)
theorem digB_mem {c : UInt8} (h : digB c = true) : c ∈ kd.map (·.2) := by
  simp only [digB, decide_eq_true_eq] at h
  have hc : c = UInt8.ofNat c.toNat := by simp
  rw [hc]
  generalize c.toNat = n at h
  have : n = 48 ∨ n = 49 ∨ n = 50 ∨ n = 51 ∨ n = 52 ∨ n = 53 ∨ n = 54 ∨ n = 55 ∨ n = 56 ∨ n = 57 := by omega
  rcases this with rfl | rfl | rfl | rfl | rfl | rfl | rfl | rfl | rfl | rfl <;> decide
/-- the stroke of the digits of a text -/
def strokeOf (l : List UInt8) : Nat := l.foldl (fun s c => s ||| 2 ^ keyOf c) 1
section
variable {l : List UInt8} (hl : l.all digB = true)
include hl
end
/-- the stroke that writes digits: the tries of the one program, and of the other -/
def pick (l : List UInt8) : Nat :=
  if dg (strokeOf l) = l then strokeOf l else if dg (strokeOf l ||| 6144) = l then strokeOf l ||| 6144 else if dg (strokeOf l ||| 2097152) = l then strokeOf l ||| 2097152 else if dg (strokeOf l ||| 2103296) = l then strokeOf l ||| 2103296 else 0
end Go.Proofs.Ytdggbjlgimcpkaa
