/- Lists that are filled from the end. Plain lists. -/
import Derived.Test.YtchpdclknbmdoaaGreatDoorFwA
namespace Go.Proofs.YtchpdclknbmdoaaGreatDoor
open Go Go.RowKit
def vN {α : Type} (n : Nat) (f : Nat → α) : List α := (List.range n).map f
def gfi {α : Type} (i : Nat) (x : α) (g : Nat → α) (z : α) : Nat → α := fun j => if j = i then x else if i < j then g j else z
def gok {α : Type} (k : Nat) (g : Nat → α) (z : α) : Nat → α := fun j => if k ≤ j then g j else z
section
variable {α : Type} {β : Type}
theorem wT (n : Nat) (f : Nat → α) : (vN n f).length = n := by simp [vN]
theorem wW {n j : Nat} (f : Nat → α) (h : j < n) : (vN n f)[j]? = some (f j) := by simp [vN, h]
theorem tabA_ext {n : Nat} {f g : Nat → α} (h : ∀ j, j < n → f j = g j) : vN n f = vN n g := by
  apply List.ext_getElem?
  intro j
  by_cases hj : j < n
  · rw [wW f hj, wW g hj, h j hj]
  · rw [List.getElem?_eq_none (by rw [wT]; omega), List.getElem?_eq_none (by rw [wT]; omega)]
theorem tabA_set {n i : Nat} (f : Nat → α) (x : α) : (vN n f).set i x = vN n (fun j => if j = i then x else f j) := by
  apply List.ext_getElem?
  intro j
  rw [List.getElem?_set]
  by_cases hj : j < n
  · rw [wW f hj, wW (fun j => if j = i then x else f j) hj, wT]
    by_cases hi : i = j
    · subst hi; rw [if_pos rfl, if_pos hj, if_pos rfl]
    · rw [if_neg hi, if_neg (fun e => hi e.symm)]
  · rw [List.getElem?_eq_none (show (vN n f).length ≤ j by rw [wT]; omega), List.getElem?_eq_none (show (vN n (fun j => if j = i then x else f j)).length ≤ j by rw [wT]; omega)]
    split
    · rw [if_neg (by rw [wT]; omega)]
    · rfl
theorem tabA_new {n i : Nat} (g : Nat → α) (z x : α) : (vN n (gok (i + 1) g z)).set i x = vN n (gfi i x g z) := by
  rw [tabA_set]
  apply tabA_ext
  intro j _
  unfold gok gfi
  split
  · rfl
  · split <;> split <;> first | rfl | omega
theorem tabA_again {n i : Nat} (g : Nat → α) (z x y : α) : (vN n (gfi i x g z)).set i y = vN n (gfi i y g z) := by
  rw [tabA_set]
  apply tabA_ext
  intro j _
  unfold gfi
  split
  · rfl
  · rfl
theorem tabA_done {n i : Nat} (g : Nat → α) (z : α) : vN n (gfi i (g i) g z) = vN n (gok i g z) := by
  apply tabA_ext
  intro j _
  unfold gok gfi
  split
  · next h => subst h; rw [if_pos (Nat.le_refl _)]
  · split <;> split <;> first | rfl | omega
theorem tabA_zero {n k : Nat} (g : Nat → α) (z : α) (h : ∀ j, j < n → k ≤ j → g j = z) : List.replicate n z = vN n (gok k g z) := by
  apply List.ext_getElem?
  intro j
  by_cases hj : j < n
  · rw [wW _ hj, List.getElem?_replicate, if_pos hj]
    unfold gok
    split
    · next hk => rw [h j hj hk]
    · rfl
  · rw [List.getElem?_eq_none (by simp; omega), List.getElem?_eq_none (by rw [wT]; omega)]
theorem gfi_at (i : Nat) (x : α) (g : Nat → α) (z : α) : gfi i x g z i = x := by unfold gfi; rw [if_pos rfl]
theorem gfi_up {i j : Nat} (x : α) (g : Nat → α) (z : α) (h : i < j) : gfi i x g z j = g j := by unfold gfi; rw [if_neg (by omega), if_pos h]
theorem gok_up {k j : Nat} (g : Nat → α) (z : α) (h : k ≤ j) : gok k g z j = g j := by unfold gok; rw [if_pos h]
end
def ctW (W : Nat) (es : List Ent) (l : List Int) (j : Nat) : Int := ((wt W (pC es l j) : Nat) : Int)
theorem wt_bd {W u q : Nat} (h1 : u ≤ 60) (h2 : q ≤ 60) (hW : W ≤ 1000) (c : Ct) (hu : c.u = u) (hq : c.q = q) : wt W c ≤ 60060 := by
  have : W * c.u ≤ 1000 * 60 := Nat.mul_le_mul hW (by omega)
  unfold wt
  omega
theorem ctW_end (W : Nat) {es : List Ent} {l : List Int} {j : Nat} (h : l.length ≤ j) : ctW W es l j = 0 := by
  rw [ctW, pC_end h]
  simp [wt, c0]
def inW (W : Nat) (es : List Ent) (l : List Int) (i n : Nat) : Int := ((wt W (inC es l i (pC es l) n) : Nat) : Int)
theorem inW_zero {W : Nat} (es : List Ent) (l : List Int) (i : Nat) : inW W es l i 0 = ctW W es l (i + 1) + ((W : Int) + 1) := by
  rw [inW, ctW, inC]
  unfold wt
  dsimp only
  rw [Nat.mul_succ]
  omega
theorem inC_no {es : List Ent} {l : List Int} {i n : Nat} (h : hasE es (cut l i (n + 1)) = false) : inC es l i (pC es l) (n + 1) = inC es l i (pC es l) n := by
  rw [inC, if_neg (fun e => by rw [h] at e; cases e.1.2)]
theorem inC_le {W : Nat} {es : List Ent} {l : List Int} {i n : Nat} (hi : i < l.length) (hl : l.length ≤ 60) (hW : 100 ≤ W) (hn : i + (n + 1) ≤ l.length) : lx (pC es l (i + (n + 1))).u ((pC es l (i + (n + 1))).q + 1) (inC es l i (pC es l) n).u (inC es l i (pC es l) n).q ↔ ctW W es l (i + (n + 1)) + 1 ≤ inW W es l i n := by
  have h1 := q8 es l hn
  have h2 := inC_bd (es := es) (l := l) (i := i) (n := n) hi
  rw [wt_lx (W := W) (by omega) (by omega), ctW, inW]
  unfold wt
  omega
theorem inC_gt {W : Nat} {es : List Ent} {l : List Int} {i n : Nat} (hi : i < l.length) (hl : l.length ≤ 60) (hW : 100 ≤ W) (hn : i + (n + 1) ≤ l.length) (h : ¬ ctW W es l (i + (n + 1)) + 1 ≤ inW W es l i n) : inC es l i (pC es l) (n + 1) = inC es l i (pC es l) n := by
  rw [inC, if_neg (fun e => h ((inC_le hi hl hW hn).1 e.2))]
theorem inC_yes {W : Nat} {es : List Ent} {l : List Int} {i n : Nat} (hi : i < l.length) (hl : l.length ≤ 60) (hW : 100 ≤ W) (hn : i + (n + 1) ≤ l.length) (hh : hasE es (cut l i (n + 1)) = true) (h : ctW W es l (i + (n + 1)) + 1 ≤ inW W es l i n) : inW W es l i (n + 1) = ctW W es l (i + (n + 1)) + 1 ∧ (inC es l i (pC es l) (n + 1)).t = n + 1 := by
  have e : inC es l i (pC es l) (n + 1) = ⟨(pC es l (i + (n + 1))).u, (pC es l (i + (n + 1))).q + 1, n + 1⟩ := by
    rw [inC, if_pos ⟨⟨hn, hh⟩, (inC_le hi hl hW hn).2 h⟩]
  refine ⟨?_, by rw [e]⟩
  rw [inW, ctW, e]
  unfold wt
  dsimp only
  omega
theorem ctW_bd {W : Nat} {es : List Ent} {l : List Int} {j : Nat} (hl : l.length ≤ 60) (hW : W ≤ 1000) (hj : j ≤ l.length) : 0 ≤ ctW W es l j ∧ ctW W es l j ≤ 60060 := by
  have h1 := q8 es l hj
  have := wt_bd (W := W) (u := (pC es l j).u) (q := (pC es l j).q) (by omega) (by omega) hW _ rfl rfl
  rw [ctW]; omega
theorem inW_bd {W : Nat} {es : List Ent} {l : List Int} {i n : Nat} (hi : i < l.length) (hl : l.length ≤ 60) (hW : W ≤ 1000) : 0 ≤ inW W es l i n ∧ inW W es l i n ≤ 60060 := by
  have h2 := inC_bd (es := es) (l := l) (i := i) (n := n) hi
  have := wt_bd (W := W) (u := (inC es l i (pC es l) n).u) (q := (inC es l i (pC es l) n).q) (by omega) (by omega) hW _ rfl rfl
  rw [inW]; omega
end Go.Proofs.YtchpdclknbmdoaaGreatDoor
