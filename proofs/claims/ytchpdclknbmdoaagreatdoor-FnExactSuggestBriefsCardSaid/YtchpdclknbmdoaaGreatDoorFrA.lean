/- The subsets of some keys in ascending order, and the free strokes among them. Plain Lean but for the reading of the machine's 'and'. -/
import Derived.Test.YtchpdclknbmdoaaGreatDoorDvB
namespace Go.Proofs.YtchpdclknbmdoaaGreatDoor
open Go Go.RowKit
def nx (m s : Nat) : Nat := ((18446744073709551616 - (m - s)) % 18446744073709551616) &&& m
theorem and_half (a b : Nat) : a &&& b = 2 * (a / 2 &&& b / 2) + (if a % 2 = 1 ∧ b % 2 = 1 then 1 else 0) := by
  have h1 := Nat.and_div_two (a := a) (b := b)
  have h2 := Nat.and_mod_two_eq_one (a := a) (b := b)
  split
  · next h => have := h2.2 h; omega
  · next h =>
    have : ¬ (a &&& b) % 2 = 1 := fun e => h (h2.1 e)
    omega
theorem sub_half {c m : Nat} (h : c &&& m = c) : c / 2 &&& m / 2 = c / 2 ∧ (c % 2 = 1 → m % 2 = 1) ∧ c ≤ m := by
  have e := and_half c m
  rw [h] at e
  have hle : c ≤ m := by rw [← h]; exact Nat.and_le_right
  have h1 := Nat.and_div_two (a := c) (b := m)
  rw [h] at h1
  refine ⟨h1.symm, fun hc => ?_, hle⟩
  have h2 := (Nat.and_mod_two_eq_one (a := c) (b := m)).1 (by rw [h]; exact hc)
  exact h2.2
theorem and_not : ∀ (j c m : Nat), m < 2 ^ j → c &&& m = c → (2 ^ j - 1 - c) &&& m = m - c
  | 0, c, m, hm, h => by
    have : m = 0 := by rw [Nat.pow_zero] at hm; omega
    subst this
    rw [Nat.and_zero]; omega
  | j + 1, c, m, hm, h => by
    obtain ⟨h1, h2, h3⟩ := sub_half h
    have hp : 2 ^ (j + 1) = 2 * 2 ^ j := by rw [Nat.pow_succ]; omega
    have hm' : m / 2 < 2 ^ j := by omega
    have ih := and_not j (c / 2) (m / 2) hm' h1
    obtain ⟨_, _, h4⟩ := sub_half h1
    rw [and_half]
    have e : (2 ^ (j + 1) - 1 - c) / 2 = 2 ^ j - 1 - c / 2 := by omega
    rw [e, ih]
    have e2 : (2 ^ (j + 1) - 1 - c) % 2 = 1 ↔ c % 2 = 0 := by omega
    split
    · next hh => have := e2.1 hh.1; omega
    · next hh =>
      have : ¬ (c % 2 = 0 ∧ m % 2 = 1) := fun x => hh ⟨e2.2 x.1, x.2⟩
      omega
end Go.Proofs.YtchpdclknbmdoaaGreatDoor
