/- The small tests of strokes: both programs' bounds. No conditions. -/
import Derived.Test.YtfecafjajegcfaaMem
namespace Go.Proofs.Ytfecafjajegcfaa
open Go.RowKit

/-- x lies between a and b -/
def inB (x a b : Int) : Bool := decide (a ≤ x) && decide (x ≤ b)
theorem inB_true {x a b : Int} : inB x a b = true ↔ a ≤ x ∧ x ≤ b := by simp [inB]
theorem inB_false {x a b : Int} : inB x a b = false ↔ x < a ∨ b < x := by unfold inB; rw [Bool.and_eq_false_iff]; simp
/-- a valid stroke -/
def good (s : Int) : Bool := inB s 1 8388607

theorem l1In_any (x a b : Int) (w : World) :
    Calls Try.prog 57 #[.int .i64 x, .int .i64 a, .int .i64 b] w fun e w' => e = .returned (.bool (inB x a b)) ∧ w = w' := by
  by_cases h1 : a ≤ x
  all_goals
    go_enter Try.func57, Try.ntmps57
    go_wp2
    go_ret
    exact ⟨ret_bool (by simp [inB]; omega), rfl⟩
theorem in_any (x a b : Int) (w : World) :
    Calls Try.prog 56 #[.int .i64 x, .int .i64 a, .int .i64 b] w fun e w' => e = .returned (.bool (inB x a b)) ∧ w = w' := by
  by_cases h1 : a ≤ x
  all_goals
    go_enter Try.func56, Try.ntmps56
    go_wp2
    go_ret
    exact ⟨ret_bool (by simp [inB]; omega), rfl⟩
theorem l2Good_any (s : Int) (w : World) : Calls Try.prog 74 #[.int .i64 s] w fun e w' => e = .returned (.bool (good s)) ∧ w = w' := by
  go_enter Try.func74, Try.ntmps74
  go_wp2_with (go_at_call 57; refine (l1In_any _ _ _ _).mono ?_; rintro e w' ⟨rfl, rfl⟩)
  go_ret
  exact ⟨rfl, rfl⟩
theorem IsValidStroke_any (s : Int) (w : World) : Calls Try.prog 71 #[.int .i64 s] w fun e w' => e = .returned (.bool (good s)) ∧ w = w' := by
  go_enter Try.func71, Try.ntmps71
  go_wp2_with (go_at_call 56; refine (in_any _ _ _ _).mono ?_; rintro e w' ⟨rfl, rfl⟩)
  go_ret
  exact ⟨rfl, rfl⟩
/-- the place of the first element that p holds for, or -1 -/
def idx {α : Type} (p : α → Bool) : List α → Int
  | [] => -1
  | x :: xs => if p x then 0 else if idx p xs < 0 then -1 else idx p xs + 1
theorem idx_cons {α : Type} (p : α → Bool) (x : α) (xs : List α) : idx p (x :: xs) = if p x then 0 else if idx p xs < 0 then -1 else idx p xs + 1 := rfl
theorem idx_ge {α : Type} (p : α → Bool) : ∀ xs, -1 ≤ idx p xs
  | [] => by simp [idx]
  | x :: xs => by
    have := idx_ge p xs
    rw [idx_cons]
    split
    · omega
    · split <;> omega
theorem idx_at {α : Type} (p : α → Bool) : ∀ (xs : List α) (k : Nat) (x : α), xs[k]? = some x → (∀ j y, j < k → xs[j]? = some y → p y = false) → p x = true → idx p xs = k
  | [], k, x, h, _, _ => by simp at h
  | y :: ys, 0, x, h, _, hp => by simp at h; subst h; simp [idx, hp]
  | y :: ys, k + 1, x, h, hn, hp => by
    have h0 := hn 0 y (by omega) rfl
    have := idx_at p ys k x (by simpa using h) (fun j z hj hz => hn (j + 1) z (by omega) (by simpa using hz)) hp
    rw [idx, h0, this]
    simp
    omega
theorem idx_none {α : Type} (p : α → Bool) : ∀ (xs : List α), (∀ (j : Nat) y, xs[j]? = some y → p y = false) → idx p xs = -1
  | [], _ => rfl
  | y :: ys, h => by
    have h0 := h 0 y rfl
    have := idx_none p ys (fun j z hz => h (j + 1) z (by simpa using hz))
    simp [idx, h0, this]
theorem idx_nonneg {α : Type} (p : α → Bool) : ∀ xs : List α, decide (0 ≤ idx p xs) = xs.any p
  | [] => by simp [idx]
  | y :: ys => by
    have := idx_nonneg p ys
    rw [List.any_cons, ← this, idx_cons]
    cases p y
    · have := idx_ge p ys
      by_cases h : idx p ys < 0
      · simp [h]
      · simp [h]; omega
    · simp
theorem any_not {α : Type} (p : α → Bool) (xs : List α) : (!xs.any fun x => !p x) = xs.all p := by
  induction xs with
  | nil => rfl
  | cons y ys ih => simp [List.any_cons, ← ih]
end Go.Proofs.Ytfecafjajegcfaa
