/- EncodeNumber of both programs. No conditions but bounds. -/
import Derived.Test.YtdggbjlgimcpkaaNuE
namespace Go.Proofs.Ytdggbjlgimcpkaa
open Go Go.RowKit
/-- a row that is filled from its end: place i holds x, what lies behind it T -/
def arr (i x : Nat) (T : List Nat) : List Nat := List.replicate i 0 ++ x :: T
theorem arr_at (i x : Nat) (T : List Nat) : (arr i x T)[i]? = some x := by simp [arr]
theorem arr_set (i x y : Nat) (T : List Nat) : (arr i x T).set i y = arr i y T := by simp [arr]
theorem arr_len (i x : Nat) (T : List Nat) : (arr i x T).length = i + 1 + T.length := by simp [arr]; omega
theorem arr_up (i x s : Nat) (T : List Nat) : (arr i x T)[i + s + 1]? = T[s]? := by
  rw [arr, List.getElem?_append_right (by simp; omega), List.length_replicate, show i + s + 1 - i = s + 1 by omega]; rfl
theorem arr_zero (i : Nat) (T : List Nat) : List.replicate (i + 1) 0 ++ T = arr i 0 T := by
  rw [arr, List.replicate_succ', List.append_assoc]; rfl
theorem nEls_set {l : List Nat} {i y : Nat} : (nEls l).set i [int (y : Int)] = nEls (l.set i y) := by rw [nEls, nEls, List.map_set]
theorem nEls_len (l : List Nat) : (nEls l).length = l.length := List.length_map _
theorem nEls_app (l : List Nat) (y : Nat) : nEls l ++ [[int (y : Int)]] = nEls (l ++ [y]) := by rw [nEls, nEls, List.map_append]; rfl
theorem zeros_nat (n : Nat) : List.replicate n [int 0] = nEls (List.replicate n 0) := by rw [nEls, List.map_replicate]; rfl
section
variable (l : List UInt8)
/-- the sizes of the places from l.length - j on -/
def szl : Nat → List Nat
  | 0 => []
  | j + 1 => size l (l.length - (j + 1)) (tbl l j) (j + 1) :: szl j
theorem szl_len : ∀ j, (szl l j).length = j
  | 0 => rfl
  | j + 1 => by rw [szl, List.length_cons, szl_len j]
theorem szl_at : ∀ j s, j ≤ l.length → s < j → (szl l j)[s]? = some (tk l (l.length - j + s))
  | 0, s, _, h => by omega
  | j + 1, 0, hj, _ => by
    rw [szl, tk, show l.length - (j + 1) + 0 = l.length - (j + 1) by omega, show l.length - (l.length - (j + 1) + 1) = j by omega, show l.length - (l.length - (j + 1)) = j + 1 by omega]; rfl
  | j + 1, s + 1, hj, h => by
    rw [szl, List.getElem?_cons_succ, szl_at j s (by omega) (by omega)]
    congr 2; omega
variable (hl : l.all digB = true)
include hl
theorem tbl_le_all {j s : Nat} {x : Nat} (hj : j ≤ l.length) (hx : (tbl l j)[s]? = some x) : x ≤ j := by
  have := tbl_le l hl j hj s
  rw [List.getD_eq_getElem?_getD, hx, Option.getD_some] at this
  omega
omit hl in
theorem least_le (i : Nat) (T : List Nat) (s : Nat) : least l i T s ≤ l.length + 1 := least_mono l i T (Nat.zero_le s)
end
section
variable (l : List UInt8) (hk : allD l = true)
include hk
end
end Go.Proofs.Ytdggbjlgimcpkaa
