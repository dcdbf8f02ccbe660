/- l18Int: a number of at most seven digits. No conditions but bounds of lengths. -/
import Derived.Test.YtbboadheacmddaaGreatDoorFdA
namespace Go.Proofs.YtbboadheacmddaaGreatDoor
open Go Go.RowKit
def dig (c : UInt8) : Bool := decide (48 ≤ (c.toNat : Int) ∧ (c.toNat : Int) ≤ 57)
def decN (l : List UInt8) : Nat := l.foldl (fun n c => 10 * n + (c.toNat - 48)) 0
end Go.Proofs.YtbboadheacmddaaGreatDoor
