/- Segmentations: the longest match at each place, what a segmentation is. Plain lists. -/
import Derived.Test.YtjeffognhcbiaaaGreatDoorDcF
namespace Go.Proofs.YtjeffognhcbiaaaGreatDoor
open Go Go.RowKit
structure Pc where
  f : Int
  n : Int
  t : List UInt8
deriving DecidableEq
def wM (p : Pc) : List Cell := [int p.f, int p.n, str p.t]
theorem encP_sc (p : Pc) : ∀ x ∈ wM p, Imm x ∧ Flat x := by
  intro x hx
  simp only [wM, List.mem_cons, List.not_mem_nil, or_false] at hx
  rcases hx with rfl | rfl | rfl
  all_goals exact ⟨Imm.v _, Flat.v _⟩
theorem vS (l : List Pc) : AllSc (l.map wM) := map_sc encP_sc l
theorem pc_snoc (l : List Pc) (y : Pc) : (l ++ [y]).map wM = l.map wM ++ [wM y] := by rw [List.map_append]; rfl
def isO (o : List Int) (e : Ent) : Bool := decide (e.o = o)
def hasE (es : List Ent) (o : List Int) : Bool := es.any (isO o)
def idxE (es : List Ent) (o : List Int) : Nat := es.findIdx (isO o)
def atE (es : List Ent) (o : List Int) : Int := if hasE es o then ((idxE es o : Nat) : Int) else -1
def txtE (es : List Ent) (o : List Int) : List UInt8 := match es[idxE es o]? with | some e => e.t | none => []
theorem hasE_at {es : List Ent} {o : List Int} (h : hasE es o = true) : ∃ e, es[idxE es o]? = some e ∧ e.o = o ∧ txtE es o = e.t := by
  have h1 : idxE es o < es.length := by
    rw [idxE, List.findIdx_lt_length]
    rw [hasE, List.any_eq_true] at h
    exact h
  have h2 : isO o es[idxE es o] = true := List.findIdx_getElem (w := h1)
  refine ⟨es[idxE es o], List.getElem?_eq_getElem h1, of_decide_eq_true h2, ?_⟩
  · rw [txtE, List.getElem?_eq_getElem h1]
theorem hasE_no {es : List Ent} {o : List Int} (h : hasE es o = false) : txtE es o = [] := by
  have h1 : idxE es o = es.length := by
    rw [idxE, List.findIdx_eq_length]
    rw [hasE, List.any_eq_false] at h
    intro x hx
    have := h x hx
    simpa using this
  rw [txtE, h1, List.getElem?_eq_none (Nat.le_refl _)]
def cut (l : List Int) (f n : Nat) : List Int := (l.drop f).take n
def mtL (es : List Ent) (l : List Int) (f : Nat) : Nat → Pc
  | 0 => ⟨f, 1, []⟩
  | n + 1 => if f + (n + 1) ≤ l.length ∧ hasE es (cut l f (n + 1)) = true then ⟨f, (n + 1 : Nat), txtE es (cut l f (n + 1))⟩ else mtL es l f n
def mtc (es : List Ent) (l : List Int) (f : Nat) : Pc := mtL es l f 6
theorem mtL_skip {es : List Ent} {l : List Int} {f n : Nat} (h : l.length < f + (n + 1)) : mtL es l f (n + 1) = mtL es l f n := by
  rw [mtL, if_neg (by omega)]
theorem mtL_low {es : List Ent} {l : List Int} {f : Nat} : ∀ (k n : Nat), l.length ≤ f + n → mtL es l f (n + k) = mtL es l f n
  | 0, _, _ => rfl
  | k + 1, n, h => by
    rw [← Nat.add_assoc, mtL_skip (by omega), mtL_low k n h]
theorem mtL_min {es : List Ent} {l : List Int} {f : Nat} (hf : f ≤ l.length) : mtL es l f (min 6 (l.length - f)) = mtc es l f := by
  rw [mtc]
  by_cases h : 6 ≤ l.length - f
  · rw [Nat.min_eq_left h]
  · rw [Nat.min_eq_right (by omega)]
    obtain ⟨k, hk⟩ : ∃ k, 6 = (l.length - f) + k := ⟨6 - (l.length - f), by omega⟩
    rw [hk, mtL_low k _ (by omega)]
theorem mtL_parts (es : List Ent) (l : List Int) (f : Nat) : ∀ n, (mtL es l f n).f = f ∧ 1 ≤ (mtL es l f n).n ∧ (mtL es l f n).n ≤ max 1 n ∧ ((mtL es l f n).n = 1 ∧ (mtL es l f n).t = [] ∨ ∃ k : Nat, (mtL es l f n).n = (k : Int) ∧ f + k ≤ l.length ∧ hasE es (cut l f k) = true ∧ (mtL es l f n).t = txtE es (cut l f k))
  | 0 => by rw [mtL]; exact ⟨rfl, by dsimp only; omega, by dsimp only; omega, .inl ⟨rfl, rfl⟩⟩
  | n + 1 => by
    rw [mtL]
    split
    · rename_i h
      exact ⟨rfl, by dsimp only; omega, by dsimp only; omega, .inr ⟨n + 1, rfl, h.1, h.2, rfl⟩⟩
    · obtain ⟨h1, h2, h3, h4⟩ := mtL_parts es l f n
      exact ⟨h1, h2, by omega, h4⟩
def cnt1 (es : List Ent) (l : List Int) (f : Nat) : Nat := (mtc es l f).n.toNat
theorem q9 (es : List Ent) (l : List Int) (f : Nat) : 1 ≤ cnt1 es l f ∧ cnt1 es l f ≤ 6 ∧ (mtc es l f).n = (cnt1 es l f : Nat) ∧ (mtc es l f).f = f ∧ (f < l.length → f + cnt1 es l f ≤ l.length) := by
  obtain ⟨h1, h2, h3, h4⟩ := mtL_parts es l f 6
  have e : mtc es l f = mtL es l f 6 := rfl
  rw [cnt1, e]
  refine ⟨by omega, by omega, by omega, h1, fun hf => ?_⟩
  rcases h4 with ⟨h4, _⟩ | ⟨k, h4, h5, _⟩ <;> omega
def segL (es : List Ent) (l : List Int) : Nat → Nat → List Pc
  | 0, _ => []
  | k + 1, f => if f < l.length then mtc es l f :: segL es l k (f + cnt1 es l f) else []
theorem segL_fuel {es : List Ent} {l : List Int} : ∀ (k k' f : Nat), l.length ≤ f + k → l.length ≤ f + k' → segL es l k f = segL es l k' f
  | 0, 0, _, _, _ => rfl
  | 0, k' + 1, f, h, _ => by rw [segL, segL, if_neg (by omega)]
  | k + 1, 0, f, _, h => by rw [segL, segL, if_neg (by omega)]
  | k + 1, k' + 1, f, h, h' => by
    have hc := q9 es l f
    rw [segL, segL]
    split
    · rw [segL_fuel k k' _ (by omega) (by omega)]
    · rfl
def segF (es : List Ent) (l : List Int) (f : Nat) : List Pc := segL es l l.length f
def seg (es : List Ent) (l : List Int) : List Pc := segF es l 0
theorem segF_step {es : List Ent} {l : List Int} {f : Nat} (h : f < l.length) : segF es l f = mtc es l f :: segF es l (f + cnt1 es l f) := by
  rw [segF, show l.length = (l.length - 1) + 1 by omega, segL, if_pos h]
  congr 1
  have hc := q9 es l f
  exact segL_fuel _ _ _ (by omega) (by omega)
theorem segF_end {es : List Ent} {l : List Int} {f : Nat} (h : l.length ≤ f) : segF es l f = [] := by
  rw [segF]
  cases l.length with
  | zero => rfl
  | succ n => rw [segL, if_neg (by omega)]
theorem segL_len (es : List Ent) (l : List Int) : ∀ k f, (segL es l k f).length ≤ l.length - f
  | 0, _ => Nat.zero_le _
  | k + 1, f => by
    have hc := q9 es l f
    have ih := segL_len es l k (f + cnt1 es l f)
    rw [segL]
    split
    · rw [List.length_cons]; omega
    · exact Nat.zero_le _
theorem segF_len (es : List Ent) (l : List Int) (f : Nat) : (segF es l f).length ≤ l.length - f := segL_len es l _ f
theorem segF_mem {es : List Ent} {l : List Int} : ∀ (k f : Nat), l.length ≤ f + k → ∀ p ∈ segF es l f, ∃ a : Nat, p.f = a ∧ a < l.length ∧ p = mtc es l a
  | 0, f, h, p, hp => by rw [segF_end (by omega)] at hp; cases hp
  | k + 1, f, h, p, hp => by
    by_cases hf : f < l.length
    · have hc := q9 es l f
      rw [segF_step hf] at hp
      rcases List.mem_cons.1 hp with rfl | hp
      · exact ⟨f, hc.2.2.2.1, hf, rfl⟩
      · exact segF_mem k _ (by omega) p hp
    · rw [segF_end (by omega)] at hp; cases hp
end Go.Proofs.YtjeffognhcbiaaaGreatDoor
