/- A string turned round, as impl does it: bytes, slices.Reverse, and back. No conditions but those stated. -/
import Derived.Test.YtdggbjlgimcpkaaBytes
import Derived.Test.YtdggbjlgimcpkaaSched2
import Derived.Lib.ConvBytes
import Derived.Laws.BytesArg
namespace Go.Proofs.Ytdggbjlgimcpkaa
open Go.RowKit

/-- block g holds the bytes xs, and they may be written -/
def RB (w : World) (g : Nat) (xs : List Int) : Prop := ∀ (j : Nat) x, xs[j]? = some x → w.cell? ⟨g, j, none⟩ = some (.int .u8 x) ∧ w.frozen? ⟨g, j, none⟩ = false
theorem RB.same {w w' : World} {g : Nat} {xs : List Int} (h : RB w g xs) (hs : Same w w') : RB w' g xs := fun j x hx => ⟨(hs.cell _).trans (h j x hx).1, (hs.frozen _).trans (h j x hx).2⟩
theorem RB.set {w : World} {g : Nat} {xs : List Int} (h : RB w g xs) {i : Nat} (hi : i < xs.length) (x : Int) : RB (w.setCell ⟨g, i, none⟩ (.int .u8 x)) g (xs.set i x) := by
  intro j y hy
  obtain ⟨z, hz⟩ := at_of_lt hi
  rw [List.getElem?_set] at hy
  by_cases hji : i = j
  · subst hji
    rw [if_pos rfl, if_pos hi] at hy
    cases hy
    exact ⟨World.cell?_setCell_same _ _ _ (h _ _ hz).1, (World.frozen?_setCell _ _ _ _).trans (h _ _ hz).2⟩
  · rw [if_neg hji] at hy
    exact ⟨(World.cell?_setCell_other _ _ _ _ (by simp only [ne_eq, Addr.mk.injEq, and_true, true_and]; exact hji)).trans (h _ _ hy).1, (World.frozen?_setCell _ _ _ _).trans (h _ _ hy).2⟩
/-- a list turned round from both ends, i steps -/
def Rev (xs ys : List Int) (i : Nat) : Prop := ys.length = xs.length ∧ ∀ p, ys[p]? = if p < i ∨ xs.length - 1 - i < p then xs.reverse[p]? else xs[p]?
theorem Rev.zero (xs : List Int) : Rev xs xs 0 := by
  refine ⟨rfl, fun p => ?_⟩
  split
  · rename_i h
    rw [List.getElem?_eq_none (by omega), List.getElem?_eq_none (by simp; omega)]
  · rfl
theorem Rev.done {xs ys : List Int} {i : Nat} (h : Rev xs ys i) (hi : xs.length ≤ 2 * i + 1) : ys = xs.reverse := by
  apply List.ext_getElem?
  intro p
  rw [h.2]
  split
  · rfl
  · rename_i hp
    rcases Nat.lt_or_ge p xs.length with h1 | h1
    · have : p = xs.length - 1 - p := by omega
      rw [List.getElem?_reverse h1, ← this]
    · rw [List.getElem?_eq_none h1, List.getElem?_eq_none (by simp; omega)]
theorem Rev.step {xs ys : List Int} {i : Nat} (h : Rev xs ys i) (hi : 2 * i + 1 < xs.length) {a b : Int} (ha : ys[i]? = some a) (hb : ys[xs.length - 1 - i]? = some b) : Rev xs ((ys.set i b).set (xs.length - 1 - i) a) (i + 1) := by
  have hl := h.1
  have e1 : xs[i]? = some a := by rw [h.2, if_neg (by omega)] at ha; exact ha
  have e2 : xs[xs.length - 1 - i]? = some b := by rw [h.2, if_neg (by omega)] at hb; exact hb
  refine ⟨by simp [hl], fun p => ?_⟩
  rw [List.getElem?_set, List.getElem?_set]
  by_cases h1 : xs.length - 1 - i = p
  · subst h1
    rw [if_pos rfl, if_pos (by simp; omega), if_pos (by omega), List.getElem?_reverse (by omega), show xs.length - 1 - (xs.length - 1 - i) = i by omega, e1]
  · rw [if_neg h1]
    by_cases h2 : i = p
    · subst h2
      rw [if_pos rfl, if_pos (by omega), if_pos (by omega), List.getElem?_reverse (by omega), e2]
    · rw [if_neg h2, h.2]
      by_cases h3 : p < i ∨ xs.length - 1 - i < p
      · rw [if_pos h3, if_pos (by omega)]
      · rw [if_neg h3, if_neg (by omega)]

end Go.Proofs.Ytdggbjlgimcpkaa
