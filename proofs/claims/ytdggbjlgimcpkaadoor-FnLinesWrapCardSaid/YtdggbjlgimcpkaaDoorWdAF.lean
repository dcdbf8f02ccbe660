/- The starts that are drawn; and FnLinesOptimal returns true. No conditions but the bounds that every argument keeps. -/
import Derived.Test.YtdggbjlgimcpkaaDoorWdJ
namespace Go.Proofs.YtdggbjlgimcpkaaDoor
open Go Go.RowKit
/-! the cost of a break, from its front -/
section
variable {ls : List Nat} {w : Nat}
theorem endAt_cons {a : Nat} {ks : List Nat} {n j : Nat} : endAt (a :: ks) n (j + 1) = endAt ks n j := by rw [endAt, endAt, List.getElem?_cons_succ]
theorem bc_cons {a : Nat} {ks : List Nat} : ∀ c, bc ls w (a :: ks) (c + 1) = if lineC ls w a (endAt (a :: ks) ls.length 0) < 0 then none else (bc ls w ks c).map fun s => (lineC ls w a (endAt (a :: ks) ls.length 0)).toNat + s
  | 0 => by
    rw [bc, bc, bc]
    simp
  | c + 1 => by
    have ih := bc_cons (a := a) (ks := ks) c
    rw [bc, ih, bc.eq_2 ls w ks c, endAt_cons]
    simp only [List.getElem?_cons_succ]
    by_cases h : lineC ls w a (endAt (a :: ks) ls.length 0) < 0
    · rw [if_pos h, if_pos h]
    · rw [if_neg h, if_neg h]
      cases bc ls w ks c with
      | none => rfl
      | some s =>
        simp only [Option.map_some]
        split
        · rfl
        · simp only [Option.map_some]; rw [Nat.add_assoc]
theorem run_ok (hf : ∀ j, j < ls.length → len ls j (j + 1) ≤ w) : ∀ {f i : Nat}, i < ls.length → ls.length ≤ i + f → (∀ (j k : Nat), (run ls w f i)[j]? = some k → k < ls.length) ∧ (∀ (j x y : Nat), (run ls w f i)[j]? = some x → (run ls w f i)[j + 1]? = some y → x < y) ∧ (run ls w f i)[0]? = some i ∧ (run ls w f i).length ≤ ls.length - i ∧ bc ls w (run ls w f i) (run ls w f i).length = some (bB ls w i).toNat := by
  intro f
  induction f with
  | zero => intro i h1 h2; omega
  | succ f ih =>
    intro i hi hfi
    obtain ⟨h1, h2, h3, _⟩ := nx_spec hf hi
    have hb0 := (bB_min hf (d := ls.length - nx ls w i) (i := nx ls w i) (by omega)).1
    rw [run_lt hi]
    simp only [goodK, Bool.and_eq_true, decide_eq_true_eq] at h3
    obtain ⟨g1, g2⟩ := h3
    rcases Nat.lt_or_ge (nx ls w i) ls.length with h | h
    · obtain ⟨i1, i2, i3, i4, i5⟩ := ih h (by omega)
      generalize run ls w f (nx ls w i) = r at i1 i2 i3 i4 i5
      have he : endAt (i :: r) ls.length 0 = nx ls w i := endAt_next (by simpa using i3)
      refine ⟨fun j k hk => ?_, fun j x y hx hy => ?_, rfl, by simp only [List.length_cons]; omega, ?_⟩
      · cases j with
        | zero => cases hk; exact hi
        | succ j => exact i1 j k (by simpa using hk)
      · cases j with
        | zero =>
          cases hx
          have hy' : r[0]? = some y := by simpa using hy
          rw [i3] at hy'
          cases hy'
          exact h1
        | succ j => exact i2 j x y (by simpa using hx) (by simpa using hy)
      · rw [List.length_cons, bc_cons, he, if_neg (by omega), i5, Option.map_some]
        congr 1
        omega
    · have e : nx ls w i = ls.length := by omega
      rw [run_ge (by omega)]
      have he : endAt [i] ls.length 0 = ls.length := endAt_last (by simp)
      rw [e] at g1 g2 hb0
      rw [bB_end] at g2
      refine ⟨fun j k hk => ?_, fun j x y hx hy => ?_, rfl, by simp only [List.length_cons, List.length_nil]; omega, ?_⟩
      · cases j with
        | zero => cases hk; exact hi
        | succ j => simp at hk
      · simp at hy
      · show bc ls w [i] (0 + 1) = _
        rw [bc_cons, he, if_neg (by omega)]
        show some ((lineC ls w i ls.length).toNat + 0) = _
        congr 1
        omega
theorem path_asc (hf : ∀ j, j < ls.length → len ls j (j + 1) ≤ w) : Asc (path ls w) ls.length := by
  rcases Nat.eq_zero_or_pos ls.length with h | h
  · rw [path, run_ge (by omega)]
    exact ⟨fun j k e => by simp at e, fun j a b e => by simp at e, Nat.zero_le _, .inl h⟩
  · obtain ⟨h1, h2, h3, h4, _⟩ := run_ok hf h (f := ls.length) (by omega)
    exact ⟨h1, h2, by rw [path]; omega, .inr h3⟩
end
/-! the starts that are drawn -/
end Go.Proofs.YtdggbjlgimcpkaaDoor
