/- l1Num: the numeral of a number. No conditions but bounds. -/
import Derived.Test.YtbboadheacmddaaGreatDoorAbs4
import Derived.Lib.ItoaNum
namespace Go.Proofs.YtbboadheacmddaaGreatDoor
open Go Go.RowKit
theorem dec_len (n : Nat) : (Lib.decDigits n).length ≤ n + 1 := by
  induction n using Nat.strongRecOn with
  | _ n ih =>
    rw [Lib.decDigits]
    split
    · simp
    · have := ih (n / 10) (by omega)
      simp only [List.length_append, List.length_singleton]
      omega
theorem itoa_len {z : Int} (h0 : 0 ≤ z) : ((Lib.itoa z).length : Int) ≤ z + 1 := by
  rw [Lib.itoa, if_neg (by omega)]
  have := dec_len z.toNat
  omega
theorem itoa_nat (n : Nat) : Lib.itoa n = Lib.decDigits n := by
  rw [Lib.itoa, if_neg (by omega), Int.toNat_natCast]
end Go.Proofs.YtbboadheacmddaaGreatDoor
