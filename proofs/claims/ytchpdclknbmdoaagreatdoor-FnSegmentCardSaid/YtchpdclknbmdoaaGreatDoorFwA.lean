/- Segmentations with the fewest pieces: what both programs compute, and that it is best. Plain lists. -/
import Derived.Test.YtchpdclknbmdoaaGreatDoorSgA
namespace Go.Proofs.YtchpdclknbmdoaaGreatDoor
open Go Go.RowKit
structure Ct where
  u : Nat
  q : Nat
  t : Nat
def c0 : Ct := ⟨0, 0, 0⟩
def lx (u q u' q' : Nat) : Prop := u < u' ∨ u = u' ∧ q ≤ q'
instance (u q u' q' : Nat) : Decidable (lx u q u' q') := by unfold lx; exact inferInstance
theorem lx.trans {a b c d e f : Nat} (h : lx a b c d) (k : lx c d e f) : lx a b e f := by unfold lx at *; omega
theorem lx.refl (a b : Nat) : lx a b a b := by unfold lx; omega
def inC (es : List Ent) (l : List Int) (i : Nat) (g : Nat → Ct) : Nat → Ct
  | 0 => ⟨(g (i + 1)).u + 1, (g (i + 1)).q + 1, 0⟩
  | n + 1 => if (i + (n + 1) ≤ l.length ∧ hasE es (cut l i (n + 1)) = true) ∧ lx (g (i + (n + 1))).u ((g (i + (n + 1))).q + 1) (inC es l i g n).u (inC es l i g n).q then ⟨(g (i + (n + 1))).u, (g (i + (n + 1))).q + 1, n + 1⟩ else inC es l i g n
def pF (es : List Ent) (l : List Int) : Nat → Nat → Ct
  | 0, _ => c0
  | k + 1, i => if i < l.length then inC es l i (pF es l k) 6 else c0
theorem inC_congr {es : List Ent} {l : List Int} {i : Nat} (hi : i < l.length) {g g' : Nat → Ct} (h : ∀ j, i < j → j ≤ l.length → g j = g' j) : ∀ n, inC es l i g n = inC es l i g' n
  | 0 => by rw [inC, inC, h (i + 1) (by omega) (by omega)]
  | n + 1 => by
    rw [inC, inC, inC_congr hi h n]
    by_cases hn : i + (n + 1) ≤ l.length
    · rw [h (i + (n + 1)) (by omega) hn]
    · rw [if_neg (fun e => hn e.1.1), if_neg (fun e => hn e.1.1)]
theorem pF_fuel {es : List Ent} {l : List Int} : ∀ (k k' i : Nat), l.length ≤ i + k → l.length ≤ i + k' → pF es l k i = pF es l k' i
  | 0, 0, _, _, _ => rfl
  | 0, k' + 1, i, h, _ => by rw [pF, pF, if_neg (by omega)]
  | k + 1, 0, i, _, h => by rw [pF, pF, if_neg (by omega)]
  | k + 1, k' + 1, i, h, h' => by
    rw [pF, pF]
    split
    · rename_i hi
      exact inC_congr hi (fun j hj _ => pF_fuel k k' j (by omega) (by omega)) 6
    · rfl
def pC (es : List Ent) (l : List Int) (i : Nat) : Ct := pF es l l.length i
theorem pC_end {es : List Ent} {l : List Int} {i : Nat} (h : l.length ≤ i) : pC es l i = c0 := by
  rw [pC]
  cases l.length with
  | zero => rfl
  | succ n => rw [pF, if_neg (by omega)]
theorem pC_step {es : List Ent} {l : List Int} {i : Nat} (h : i < l.length) : pC es l i = inC es l i (pC es l) 6 := by
  have e : pF es l l.length i = pF es l (l.length + 1) i := pF_fuel _ _ _ (by omega) (by omega)
  rw [pC, e, pF, if_pos h]
  rfl
theorem inC_skip {es : List Ent} {l : List Int} {i n : Nat} {g : Nat → Ct} (h : l.length < i + (n + 1)) : inC es l i g (n + 1) = inC es l i g n := by
  rw [inC, if_neg (fun e => by omega)]
theorem inC_low {es : List Ent} {l : List Int} {i : Nat} {g : Nat → Ct} : ∀ (k n : Nat), l.length ≤ i + n → inC es l i g (n + k) = inC es l i g n
  | 0, _, _ => rfl
  | k + 1, n, h => by rw [← Nat.add_assoc, inC_skip (by omega), inC_low k n h]
theorem inC_end {es : List Ent} {l : List Int} {i n : Nat} {g : Nat → Ct} (hn : n ≤ 6) (h : n = 6 ∨ l.length ≤ i + n) : inC es l i g n = inC es l i g 6 := by
  rcases h with rfl | h
  · rfl
  · obtain ⟨k, hk⟩ : ∃ k, 6 = n + k := ⟨6 - n, by omega⟩
    rw [hk, inC_low k n h]
theorem inC_ok {es : List Ent} {l : List Int} {i : Nat} {g : Nat → Ct} (hi : i < l.length) (hg : ∀ j, i < j → j ≤ l.length → (g j).u ≤ l.length - j ∧ (g j).q ≤ l.length - j) :
    ∀ n, (inC es l i g n).u ≤ l.length - i ∧ (inC es l i g n).q ≤ l.length - i ∧ (inC es l i g n).t ≤ n ∧ i + (inC es l i g n).t ≤ l.length ∧ (0 < (inC es l i g n).t → hasE es (cut l i (inC es l i g n).t) = true)
  | 0 => by
    have h := hg (i + 1) (by omega) (by omega)
    rw [inC]
    exact ⟨by dsimp only; omega, by dsimp only; omega, Nat.le_refl _, by dsimp only; omega, fun h => absurd h (Nat.lt_irrefl _)⟩
  | n + 1 => by
    have ih := inC_ok (es := es) hi hg n
    rw [inC]
    split
    · rename_i h
      have h2 := hg (i + (n + 1)) (by omega) h.1.1
      exact ⟨by dsimp only; omega, by dsimp only; omega, Nat.le_refl _, h.1.1, fun _ => h.1.2⟩
    · exact ⟨ih.1, ih.2.1, by omega, ih.2.2.2⟩
theorem pC_ok {es : List Ent} {l : List Int} : ∀ (k i : Nat), l.length ≤ i + k → i ≤ l.length → (pC es l i).u ≤ l.length - i ∧ (pC es l i).q ≤ l.length - i ∧ (pC es l i).t ≤ 6 ∧ i + (pC es l i).t ≤ l.length ∧ (0 < (pC es l i).t → hasE es (cut l i (pC es l i).t) = true)
  | 0, i, h, h' => by
    rw [pC_end (by omega)]
    exact ⟨Nat.zero_le _, Nat.zero_le _, Nat.zero_le _, h', fun h => absurd h (Nat.lt_irrefl _)⟩
  | k + 1, i, h, h' => by
    by_cases hi : i < l.length
    · rw [pC_step hi]
      exact inC_ok hi (fun j hj hj' => by have := pC_ok (es := es) k j (by omega) hj'; exact ⟨this.1, this.2.1⟩) 6
    · rw [pC_end (by omega)]
      exact ⟨Nat.zero_le _, Nat.zero_le _, Nat.zero_le _, h', fun h => absurd h (Nat.lt_irrefl _)⟩
theorem q8 (es : List Ent) (l : List Int) {i : Nat} (h : i ≤ l.length) : (pC es l i).u ≤ l.length - i ∧ (pC es l i).q ≤ l.length - i ∧ (pC es l i).t ≤ 6 ∧ i + (pC es l i).t ≤ l.length ∧ (0 < (pC es l i).t → hasE es (cut l i (pC es l i).t) = true) := pC_ok l.length i (by omega) h
theorem inC_bd {es : List Ent} {l : List Int} {i n : Nat} (hi : i < l.length) : (inC es l i (pC es l) n).u ≤ l.length - i ∧ (inC es l i (pC es l) n).q ≤ l.length - i ∧ (inC es l i (pC es l) n).t ≤ n ∧ i + (inC es l i (pC es l) n).t ≤ l.length ∧ (0 < (inC es l i (pC es l) n).t → hasE es (cut l i (inC es l i (pC es l) n).t) = true) :=
  inC_ok hi (fun j _ hj' => by have := q8 es l hj'; exact ⟨this.1, this.2.1⟩) n
def wt (W : Nat) (c : Ct) : Nat := W * c.u + c.q
theorem wt_lx {W u q u' q' : Nat} (h1 : q < W) (h2 : q' < W) : lx u q u' q' ↔ W * u + q ≤ W * u' + q' := by
  unfold lx
  constructor
  · rintro (h | ⟨rfl, h⟩)
    · have : W * (u + 1) ≤ W * u' := Nat.mul_le_mul_left _ h
      rw [Nat.mul_succ] at this; omega
    · omega
  · intro h
    rcases Nat.lt_trichotomy u u' with h3 | rfl | h3
    · exact .inl h3
    · exact .inr ⟨rfl, by omega⟩
    · have : W * (u' + 1) ≤ W * u := Nat.mul_le_mul_left _ h3
      rw [Nat.mul_succ] at this; omega
def pcC (es : List Ent) (l : List Int) (i : Nat) (t : Nat) : Pc := if 0 < t then ⟨i, t, qC es (cut l i t)⟩ else ⟨i, 1, []⟩
def kT (es : List Ent) (l : List Int) (i : Nat) : Pc := pcC es l i (pC es l i).t
def ct1 (es : List Ent) (l : List Int) (i : Nat) : Nat := max (pC es l i).t 1
def fwL (es : List Ent) (l : List Int) : Nat → Nat → List Pc
  | 0, _ => []
  | k + 1, f => if f < l.length then kT es l f :: fwL es l k (f + ct1 es l f) else []
theorem q9 (es : List Ent) (l : List Int) (i : Nat) : 1 ≤ ct1 es l i ∧ (i < l.length → i + ct1 es l i ≤ l.length) ∧ (i ≤ l.length → ct1 es l i ≤ 6) ∧ (kT es l i).n = (ct1 es l i : Nat) := by
  refine ⟨by unfold ct1; omega, fun h => ?_, fun h => ?_, ?_⟩
  · have := q8 es l (Nat.le_of_lt h); unfold ct1; omega
  · have := q8 es l h; unfold ct1; omega
  · unfold ct1 kT pcC
    split
    · dsimp only; omega
    · dsimp only; omega
theorem fwL_fuel {es : List Ent} {l : List Int} : ∀ (k k' f : Nat), l.length ≤ f + k → l.length ≤ f + k' → fwL es l k f = fwL es l k' f
  | 0, 0, _, _, _ => rfl
  | 0, k' + 1, f, h, _ => by rw [fwL, fwL, if_neg (by omega)]
  | k + 1, 0, f, _, h => by rw [fwL, fwL, if_neg (by omega)]
  | k + 1, k' + 1, f, h, h' => by
    have hc := q9 es l f
    rw [fwL, fwL]
    split
    · rw [fwL_fuel k k' _ (by omega) (by omega)]
    · rfl
def fwF (es : List Ent) (l : List Int) (f : Nat) : List Pc := fwL es l l.length f
def few (es : List Ent) (l : List Int) : List Pc := fwF es l 0
theorem fwF_step {es : List Ent} {l : List Int} {f : Nat} (h : f < l.length) : fwF es l f = kT es l f :: fwF es l (f + ct1 es l f) := by
  rw [fwF, show l.length = (l.length - 1) + 1 by omega, fwL, if_pos h]
  congr 1
  have hc := q9 es l f
  exact fwL_fuel _ _ _ (by omega) (by omega)
theorem fwF_end {es : List Ent} {l : List Int} {f : Nat} (h : l.length ≤ f) : fwF es l f = [] := by
  rw [fwF]
  cases l.length with
  | zero => rfl
  | succ n => rw [fwL, if_neg (by omega)]
theorem fwL_len (es : List Ent) (l : List Int) : ∀ k f, (fwL es l k f).length ≤ l.length - f
  | 0, _ => Nat.zero_le _
  | k + 1, f => by
    have hc := q9 es l f
    have ih := fwL_len es l k (f + ct1 es l f)
    rw [fwL]
    split
    · rw [List.length_cons]; omega
    · exact Nat.zero_le _
theorem fwF_len (es : List Ent) (l : List Int) (f : Nat) : (fwF es l f).length ≤ l.length - f := fwL_len es l _ f
def DiN (es : List Ent) : Prop := ∀ e ∈ es, e.t ≠ [] ∧ e.o.length ≤ 6
theorem DiN.txt {es : List Ent} (h : DiN es) {o : List Int} (ho : hasE es o = true) : qC es o ≠ [] ∧ o.length ≤ 6 := by
  obtain ⟨e, h1, h2, h3⟩ := hasE_at ho
  have := h e (List.mem_of_getElem? h1)
  rw [h3, ← h2]; exact this
theorem qL {l : List Int} {f n : Nat} (h : f + n ≤ l.length) : (cut l f n).length = n := by simp [cut]; omega
end Go.Proofs.YtchpdclknbmdoaaGreatDoor
