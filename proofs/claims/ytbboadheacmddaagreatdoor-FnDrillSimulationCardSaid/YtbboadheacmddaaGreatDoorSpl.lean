/- l1Split: a text cut at a byte. No conditions but bounds of lengths. -/
import Derived.Test.YtbboadheacmddaaGreatDoorStrs
namespace Go.Proofs.YtbboadheacmddaaGreatDoor
open Go Go.RowKit
def joinHd (p : List UInt8) : List (List UInt8) → List (List UInt8)
  | [] => []
  | h :: t => (p ++ h) :: t
/-- the pieces between the bytes b -/
def spl (b : UInt8) : List UInt8 → List (List UInt8)
  | [] => [[]]
  | c :: r => if c = b then [] :: spl b r else joinHd [c] (spl b r)
theorem joinHd_len (p : List UInt8) (x : List (List UInt8)) : (joinHd p x).length = x.length := by cases x <;> simp [joinHd]
theorem spl_len (b : UInt8) : ∀ l : List UInt8, 1 ≤ (spl b l).length ∧ (spl b l).length ≤ l.length + 1
  | [] => by simp [spl]
  | c :: r => by
    have := spl_len b r
    rw [spl]
    split
    · simp only [List.length_cons]; omega
    · simp only [joinHd_len, List.length_cons]; omega
theorem spl_mem (b : UInt8) : ∀ (l : List UInt8), ∀ x ∈ spl b l, x.length ≤ l.length
  | [], x, hx => by simp [spl] at hx; simp [hx]
  | c :: r, x, hx => by
    have ih := spl_mem b r
    rw [spl] at hx
    split at hx
    · rcases List.mem_cons.1 hx with rfl | hx
      · simp
      · have := ih x hx; simp only [List.length_cons]; omega
    · cases hs : spl b r with
      | nil => rw [hs] at hx; simp [joinHd] at hx
      | cons h t =>
        rw [hs] at hx ih
        rcases List.mem_cons.1 hx with rfl | hx
        · have := ih h (by simp); simp only [List.length_append, List.length_nil, List.length_cons]; omega
        · have := ih x (by simp [hx]); simp only [List.length_cons]; omega
theorem spl_no {b : UInt8} : ∀ {p : List UInt8}, b ∉ p → spl b p = [p]
  | [], _ => rfl
  | c :: p, h => by
    simp only [List.mem_cons, not_or] at h
    rw [spl, if_neg (fun e => h.1 e.symm), spl_no h.2]
    rfl
theorem spl_hit {b : UInt8} (r : List UInt8) : ∀ {p : List UInt8}, b ∉ p → spl b (p ++ b :: r) = p :: spl b r
  | [], _ => by rw [List.nil_append, spl, if_pos rfl]
  | c :: p, h => by
    simp only [List.mem_cons, not_or] at h
    rw [List.cons_append, spl, if_neg (fun e => h.1 e.symm), spl_hit r h.2]
    rfl
end Go.Proofs.YtbboadheacmddaaGreatDoor
