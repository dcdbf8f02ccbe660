/- Segmentations with the fewest pieces: what both programs compute, and that it is best. Plain lists. -/
import Derived.Test.YtchpdclknbmdoaaGreatDoorSgA
namespace Go.Proofs.YtchpdclknbmdoaaGreatDoor
open Go Go.RowKit
structure Ct where
  u : Nat
  q : Nat
  t : Nat
def c0 : Ct := ⟨0, 0, 0⟩
def lx (u q u' q' : Nat) : Prop := u < u' ∨ u = u' ∧ q ≤ q'
instance (u q u' q' : Nat) : Decidable (lx u q u' q') := by unfold lx; exact inferInstance
theorem lx.trans {a b c d e f : Nat} (h : lx a b c d) (k : lx c d e f) : lx a b e f := by unfold lx at *; omega
theorem lx.refl (a b : Nat) : lx a b a b := by unfold lx; omega
def inC (es : List Ent) (l : List Int) (i : Nat) (g : Nat → Ct) : Nat → Ct
  | 0 => ⟨(g (i + 1)).u + 1, (g (i + 1)).q + 1, 0⟩
  | n + 1 => if (i + (n + 1) ≤ l.length ∧ hasE es (cut l i (n + 1)) = true) ∧ lx (g (i + (n + 1))).u ((g (i + (n + 1))).q + 1) (inC es l i g n).u (inC es l i g n).q then ⟨(g (i + (n + 1))).u, (g (i + (n + 1))).q + 1, n + 1⟩ else inC es l i g n
def pF (es : List Ent) (l : List Int) : Nat → Nat → Ct
  | 0, _ => c0
  | k + 1, i => if i < l.length then inC es l i (pF es l k) 6 else c0
theorem inC_congr {es : List Ent} {l : List Int} {i : Nat} (hi : i < l.length) {g g' : Nat → Ct} (h : ∀ j, i < j → j ≤ l.length → g j = g' j) : ∀ n, inC es l i g n = inC es l i g' n
  | 0 => by rw [inC, inC, h (i + 1) (by omega) (by omega)]
  | n + 1 => by
    rw [inC, inC, inC_congr hi h n]
    by_cases hn : i + (n + 1) ≤ l.length
    · rw [h (i + (n + 1)) (by omega) hn]
    · rw [if_neg (fun e => hn e.1.1), if_neg (fun e => hn e.1.1)]
theorem pF_fuel {es : List Ent} {l : List Int} : ∀ (k k' i : Nat), l.length ≤ i + k → l.length ≤ i + k' → pF es l k i = pF es l k' i
  | 0, 0, _, _, _ => rfl
  | 0, k' + 1, i, h, _ => by rw [pF, pF, if_neg (by omega)]
  | k + 1, 0, i, _, h => by rw [pF, pF, if_neg (by omega)]
  | k + 1, k' + 1, i, h, h' => by
    rw [pF, pF]
    split
    · rename_i hi
      exact inC_congr hi (fun j hj _ => pF_fuel k k' j (by omega) (by omega)) 6
    · rfl
def pC (es : List Ent) (l : List Int) (i : Nat) : Ct := pF es l l.length i
theorem qP {es : List Ent} {l : List Int} {i : Nat} (h : l.length ≤ i) : pC es l i = c0 := by
  rw [pC]
  cases l.length with
  | zero => rfl
  | succ n => rw [pF, if_neg (by omega)]
theorem pC_step {es : List Ent} {l : List Int} {i : Nat} (h : i < l.length) : pC es l i = inC es l i (pC es l) 6 := by
  have e : pF es l l.length i = pF es l (l.length + 1) i := pF_fuel _ _ _ (by omega) (by omega)
  rw [pC, e, pF, if_pos h]
  rfl
theorem inC_skip {es : List Ent} {l : List Int} {i n : Nat} {g : Nat → Ct} (h : l.length < i + (n + 1)) : inC es l i g (n + 1) = inC es l i g n := by
  rw [inC, if_neg (fun e => by omega)]
theorem inC_low {es : List Ent} {l : List Int} {i : Nat} {g : Nat → Ct} : ∀ (k n : Nat), l.length ≤ i + n → inC es l i g (n + k) = inC es l i g n
  | 0, _, _ => rfl
  | k + 1, n, h => by rw [← Nat.add_assoc, inC_skip (by omega), inC_low k n h]
theorem inC_end {es : List Ent} {l : List Int} {i n : Nat} {g : Nat → Ct} (hn : n ≤ 6) (h : n = 6 ∨ l.length ≤ i + n) : inC es l i g n = inC es l i g 6 := by
  rcases h with rfl | h
  · rfl
  · obtain ⟨k, hk⟩ : ∃ k, 6 = n + k := ⟨6 - n, by omega⟩
    rw [hk, inC_low k n h]
theorem inC_ok {es : List Ent} {l : List Int} {i : Nat} {g : Nat → Ct} (hi : i < l.length) (hg : ∀ j, i < j → j ≤ l.length → (g j).u ≤ l.length - j ∧ (g j).q ≤ l.length - j) :
    ∀ n, (inC es l i g n).u ≤ l.length - i ∧ (inC es l i g n).q ≤ l.length - i ∧ (inC es l i g n).t ≤ n ∧ i + (inC es l i g n).t ≤ l.length ∧ (0 < (inC es l i g n).t → hasE es (cut l i (inC es l i g n).t) = true)
  | 0 => by
    have h := hg (i + 1) (by omega) (by omega)
    rw [inC]
    exact ⟨by dsimp only; omega, by dsimp only; omega, Nat.le_refl _, by dsimp only; omega, fun h => absurd h (Nat.lt_irrefl _)⟩
  | n + 1 => by
    have ih := inC_ok (es := es) hi hg n
    rw [inC]
    split
    · rename_i h
      have h2 := hg (i + (n + 1)) (by omega) h.1.1
      exact ⟨by dsimp only; omega, by dsimp only; omega, Nat.le_refl _, h.1.1, fun _ => h.1.2⟩
    · exact ⟨ih.1, ih.2.1, by omega, ih.2.2.2⟩
theorem pC_ok {es : List Ent} {l : List Int} : ∀ (k i : Nat), l.length ≤ i + k → i ≤ l.length → (pC es l i).u ≤ l.length - i ∧ (pC es l i).q ≤ l.length - i ∧ (pC es l i).t ≤ 6 ∧ i + (pC es l i).t ≤ l.length ∧ (0 < (pC es l i).t → hasE es (cut l i (pC es l i).t) = true)
  | 0, i, h, h' => by
    rw [qP (by omega)]
    exact ⟨Nat.zero_le _, Nat.zero_le _, Nat.zero_le _, h', fun h => absurd h (Nat.lt_irrefl _)⟩
  | k + 1, i, h, h' => by
    by_cases hi : i < l.length
    · rw [pC_step hi]
      exact inC_ok hi (fun j hj hj' => by have := pC_ok (es := es) k j (by omega) hj'; exact ⟨this.1, this.2.1⟩) 6
    · rw [qP (by omega)]
      exact ⟨Nat.zero_le _, Nat.zero_le _, Nat.zero_le _, h', fun h => absurd h (Nat.lt_irrefl _)⟩
theorem qC (es : List Ent) (l : List Int) {i : Nat} (h : i ≤ l.length) : (pC es l i).u ≤ l.length - i ∧ (pC es l i).q ≤ l.length - i ∧ (pC es l i).t ≤ 6 ∧ i + (pC es l i).t ≤ l.length ∧ (0 < (pC es l i).t → hasE es (cut l i (pC es l i).t) = true) := pC_ok l.length i (by omega) h
theorem inC_bd {es : List Ent} {l : List Int} {i n : Nat} (hi : i < l.length) : (inC es l i (pC es l) n).u ≤ l.length - i ∧ (inC es l i (pC es l) n).q ≤ l.length - i ∧ (inC es l i (pC es l) n).t ≤ n ∧ i + (inC es l i (pC es l) n).t ≤ l.length ∧ (0 < (inC es l i (pC es l) n).t → hasE es (cut l i (inC es l i (pC es l) n).t) = true) :=
  inC_ok hi (fun j _ hj' => by have := qC es l hj'; exact ⟨this.1, this.2.1⟩) n
def wt (W : Nat) (c : Ct) : Nat := W * c.u + c.q
theorem wt_lx {W u q u' q' : Nat} (h1 : q < W) (h2 : q' < W) : lx u q u' q' ↔ W * u + q ≤ W * u' + q' := by
  unfold lx
  constructor
  · rintro (h | ⟨rfl, h⟩)
    · have : W * (u + 1) ≤ W * u' := Nat.mul_le_mul_left _ h
      rw [Nat.mul_succ] at this; omega
    · omega
  · intro h
    rcases Nat.lt_trichotomy u u' with h3 | rfl | h3
    · exact .inl h3
    · exact .inr ⟨rfl, by omega⟩
    · have : W * (u' + 1) ≤ W * u := Nat.mul_le_mul_left _ h3
      rw [Nat.mul_succ] at this; omega
def pcC (es : List Ent) (l : List Int) (i : Nat) (t : Nat) : Pc := if 0 < t then ⟨i, t, qE es (cut l i t)⟩ else ⟨i, 1, []⟩
def fst1 (es : List Ent) (l : List Int) (i : Nat) : Pc := pcC es l i (pC es l i).t
def ct1 (es : List Ent) (l : List Int) (i : Nat) : Nat := max (pC es l i).t 1
def fwL (es : List Ent) (l : List Int) : Nat → Nat → List Pc
  | 0, _ => []
  | k + 1, f => if f < l.length then fst1 es l f :: fwL es l k (f + ct1 es l f) else []
theorem qQ (es : List Ent) (l : List Int) (i : Nat) : 1 ≤ ct1 es l i ∧ (i < l.length → i + ct1 es l i ≤ l.length) ∧ (i ≤ l.length → ct1 es l i ≤ 6) ∧ (fst1 es l i).n = (ct1 es l i : Nat) := by
  refine ⟨by unfold ct1; omega, fun h => ?_, fun h => ?_, ?_⟩
  · have := qC es l (Nat.le_of_lt h); unfold ct1; omega
  · have := qC es l h; unfold ct1; omega
  · unfold ct1 fst1 pcC
    split
    · dsimp only; omega
    · dsimp only; omega
theorem fwL_fuel {es : List Ent} {l : List Int} : ∀ (k k' f : Nat), l.length ≤ f + k → l.length ≤ f + k' → fwL es l k f = fwL es l k' f
  | 0, 0, _, _, _ => rfl
  | 0, k' + 1, f, h, _ => by rw [fwL, fwL, if_neg (by omega)]
  | k + 1, 0, f, _, h => by rw [fwL, fwL, if_neg (by omega)]
  | k + 1, k' + 1, f, h, h' => by
    have hc := qQ es l f
    rw [fwL, fwL]
    split
    · rw [fwL_fuel k k' _ (by omega) (by omega)]
    · rfl
def fwF (es : List Ent) (l : List Int) (f : Nat) : List Pc := fwL es l l.length f
def few (es : List Ent) (l : List Int) : List Pc := fwF es l 0
theorem fwF_step {es : List Ent} {l : List Int} {f : Nat} (h : f < l.length) : fwF es l f = fst1 es l f :: fwF es l (f + ct1 es l f) := by
  rw [fwF, show l.length = (l.length - 1) + 1 by omega, fwL, if_pos h]
  congr 1
  have hc := qQ es l f
  exact fwL_fuel _ _ _ (by omega) (by omega)
theorem qL {es : List Ent} {l : List Int} {f : Nat} (h : l.length ≤ f) : fwF es l f = [] := by
  rw [fwF]
  cases l.length with
  | zero => rfl
  | succ n => rw [fwL, if_neg (by omega)]
theorem fwL_len (es : List Ent) (l : List Int) : ∀ k f, (fwL es l k f).length ≤ l.length - f
  | 0, _ => Nat.zero_le _
  | k + 1, f => by
    have hc := qQ es l f
    have ih := fwL_len es l k (f + ct1 es l f)
    rw [fwL]
    split
    · rw [List.length_cons]; omega
    · exact Nat.zero_le _
theorem fwF_len (es : List Ent) (l : List Int) (f : Nat) : (fwF es l f).length ≤ l.length - f := fwL_len es l _ f
def DiN (es : List Ent) : Prop := ∀ e ∈ es, e.t ≠ [] ∧ e.o.length ≤ 6
theorem DiN.txt {es : List Ent} (h : DiN es) {o : List Int} (ho : hasE es o = true) : qE es o ≠ [] ∧ o.length ≤ 6 := by
  obtain ⟨e, h1, h2, h3⟩ := hasE_at ho
  have := h e (List.mem_of_getElem? h1)
  rw [h3, ← h2]; exact this
theorem vX {l : List Int} {f n : Nat} (h : f + n ≤ l.length) : (cut l f n).length = n := by simp [cut]; omega
theorem fit_fst {es : List Ent} {l : List Int} {f : Nat} (h : f < l.length) : qW es l f (fst1 es l f) = true := by
  have hp := qC es l (Nat.le_of_lt h)
  rw [fst1, pcC]
  split
  · rename_i h0
    rw [qW, decide_eq_true rfl, decide_eq_true (by dsimp only; omega), Int.toNat_natCast, hp.2.2.2.2 h0, decide_eq_true rfl]; rfl
  · rw [qW, decide_eq_true rfl, decide_eq_true (by dsimp only; omega), Bool.true_and, Bool.true_and, Bool.or_eq_true]
    exact .inr (by rw [decide_eq_true_eq]; exact ⟨rfl, rfl⟩)
theorem isSg_fwF {es : List Ent} {l : List Int} : ∀ (k f : Nat), l.length ≤ f + k → f ≤ l.length → isSg es l f (fwF es l f) = true
  | 0, f, h, h' => by rw [qL (by omega), isSg, decide_eq_true_eq]; omega
  | k + 1, f, h, h' => by
    by_cases hf : f < l.length
    · have hc := qQ es l f
      have e : (fst1 es l f).n.toNat = ct1 es l f := by omega
      rw [fwF_step hf, isSg, fit_fst hf, Bool.true_and, e]
      exact isSg_fwF k _ (by omega) (hc.2.1 hf)
    · rw [qL (by omega), isSg, decide_eq_true_eq]; omega
theorem isSg_few (es : List Ent) (l : List Int) : isSg es l 0 (few es l) = true := isSg_fwF l.length 0 (by omega) (Nat.zero_le _)
theorem unT_cons (p : Pc) (ps : List Pc) : unT (p :: ps) = (if p.t = [] then 1 else 0) + unT ps := by
  unfold unT
  by_cases h : p.t = []
  · rw [List.filter_cons_of_pos (by simpa using h), List.length_cons, if_pos h]; omega
  · rw [List.filter_cons_of_neg (by simpa using h), if_neg h]; omega
theorem inC_eq {es : List Ent} {l : List Int} {i : Nat} : ∀ n, let c := inC es l i (pC es l) n; c.u = (if c.t = 0 then 1 else 0) + (pC es l (i + max c.t 1)).u ∧ c.q = 1 + (pC es l (i + max c.t 1)).q
  | 0 => by dsimp only; rw [inC]; dsimp only; rw [if_pos rfl, show max 0 1 = 1 from rfl]; omega
  | n + 1 => by
    have ih := inC_eq (es := es) (l := l) (i := i) n
    dsimp only at ih ⊢
    rw [inC]
    split
    · dsimp only; rw [if_neg (by omega), show max (n + 1) 1 = n + 1 by omega]; omega
    · exact ih
theorem few_cost {es : List Ent} {l : List Int} (hd : DiN es) : ∀ (k f : Nat), l.length ≤ f + k → f ≤ l.length → unT (fwF es l f) = (pC es l f).u ∧ (fwF es l f).length = (pC es l f).q
  | 0, f, h, h' => by rw [qL (by omega), qP (by omega)]; exact ⟨rfl, rfl⟩
  | k + 1, f, h, h' => by
    by_cases hf : f < l.length
    · have hc := qQ es l f
      obtain ⟨h1, h2⟩ := few_cost hd k (f + ct1 es l f) (by omega) (hc.2.1 hf)
      have he := inC_eq (es := es) (l := l) (i := f) 6
      dsimp only at he
      rw [← pC_step hf] at he
      have hm : max (pC es l f).t 1 = ct1 es l f := rfl
      rw [hm] at he
      have ht : (if (fst1 es l f).t = [] then 1 else 0) = if (pC es l f).t = 0 then 1 else 0 := by
        rw [fst1, pcC]
        by_cases h0 : 0 < (pC es l f).t
        · rw [if_pos h0, if_neg (hd.txt ((qC es l h').2.2.2.2 h0)).1, if_neg (by omega)]
        · rw [if_neg h0, if_pos rfl, if_pos (by omega)]
      rw [fwF_step hf, unT_cons, List.length_cons, h1, h2, ht]
      omega
    · rw [qL (by omega), qP (by omega)]; exact ⟨rfl, rfl⟩
theorem inC_mono {es : List Ent} {l : List Int} {i : Nat} {g : Nat → Ct} (m : Nat) : ∀ k, lx (inC es l i g (m + k)).u (inC es l i g (m + k)).q (inC es l i g m).u (inC es l i g m).q
  | 0 => lx.refl _ _
  | k + 1 => by
    have ih := inC_mono (es := es) (l := l) (i := i) (g := g) m k
    rw [← Nat.add_assoc, inC]
    split
    · rename_i h; exact h.2.trans ih
    · exact ih
theorem inC_hit {es : List Ent} {l : List Int} {i n : Nat} {g : Nat → Ct} (h : i + (n + 1) ≤ l.length) (hh : hasE es (cut l i (n + 1)) = true) : lx (inC es l i g (n + 1)).u (inC es l i g (n + 1)).q (g (i + (n + 1))).u ((g (i + (n + 1))).q + 1) := by
  rw [inC]
  split
  · exact lx.refl _ _
  · rename_i hn
    have : ¬ lx (g (i + (n + 1))).u ((g (i + (n + 1))).q + 1) (inC es l i g n).u (inC es l i g n).q := fun e => hn ⟨⟨h, hh⟩, e⟩
    unfold lx at this ⊢; omega
theorem few_best {es : List Ent} {l : List Int} (hd : DiN es) : ∀ (ps : List Pc) (f : Nat), f ≤ l.length → isSg es l f ps = true → lx (pC es l f).u (pC es l f).q (unT ps) ps.length
  | [], f, hf, h => by
    rw [isSg, decide_eq_true_eq] at h
    rw [qP (by omega)]
    exact .inr ⟨rfl, Nat.le_refl _⟩
  | p :: ps, f, hf, h => by
    rw [isSg, Bool.and_eq_true] at h
    obtain ⟨h1, h2⟩ := h
    rw [qW, Bool.and_eq_true, Bool.and_eq_true, decide_eq_true_eq, decide_eq_true_eq, Bool.or_eq_true, Bool.and_eq_true, decide_eq_true_eq, decide_eq_true_eq] at h1
    obtain ⟨⟨h3, h4⟩, h5⟩ := h1
    obtain ⟨k, hk⟩ : ∃ k : Nat, p.n = ((k + 1 : Nat) : Int) := ⟨p.n.toNat - 1, by omega⟩
    rw [hk, Int.toNat_natCast] at h2 h5
    have hlt : f < l.length := by omega
    have ih := few_best hd ps (f + (k + 1)) (by omega) h2
    have hst := pC_step (es := es) hlt
    rw [unT_cons, List.length_cons]
    rcases h5 with ⟨h5, h6⟩ | ⟨h5, h6⟩
    · have hx := hd.txt h5
      rw [vX (by omega)] at hx
      have hm := inC_hit (g := pC es l) (show f + (k + 1) ≤ l.length by omega) h5
      have hmo := inC_mono (es := es) (l := l) (i := f) (g := pC es l) (k + 1) (6 - (k + 1))
      rw [show k + 1 + (6 - (k + 1)) = 6 by omega, ← hst] at hmo
      rw [if_neg (by rw [h6]; exact hx.1)]
      have := hmo.trans hm
      unfold lx at this ih ⊢; omega
    · obtain rfl : k = 0 := by omega
      have hmo := inC_mono (es := es) (l := l) (i := f) (g := pC es l) 0 6
      rw [Nat.zero_add, ← hst, inC] at hmo
      rw [if_pos h6]
      unfold lx at hmo ih ⊢
      dsimp only at hmo
      simp only [Nat.zero_add] at ih
      omega
theorem few_law {es : List Ent} {l : List Int} (hd : DiN es) : unT (few es l) < unT (seg es l) ∨ unT (few es l) = unT (seg es l) ∧ (few es l).length ≤ (seg es l).length := by
  have h1 := few_cost (l := l) hd l.length 0 (by omega) (Nat.zero_le _)
  have h2 := few_best hd (seg es l) 0 (Nat.zero_le _) (isSg_seg es l)
  rw [few, h1.1, h1.2]
  exact h2
end Go.Proofs.YtchpdclknbmdoaaGreatDoor
