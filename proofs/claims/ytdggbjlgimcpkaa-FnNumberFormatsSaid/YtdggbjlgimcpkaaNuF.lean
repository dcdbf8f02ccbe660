/- Digits in groups of three: plain Lean. No conditions. -/
import Derived.Test.YtdggbjlgimcpkaaNuA
namespace Go.Proofs.Ytdggbjlgimcpkaa
open Go Go.RowKit
/-- digits with commas -/
def grp : List UInt8 → List UInt8
  | [] => []
  | c :: r => c :: (if r ≠ [] ∧ r.length % 3 = 0 then 44 :: grp r else grp r)
theorem grp_short : ∀ {l : List UInt8}, l.length ≤ 3 → grp l = l
  | [], _ => rfl
  | [_], _ => by simp [grp]
  | [_, _], _ => by simp [grp]
  | [_, _, _], _ => by simp [grp]
  | _ :: _ :: _ :: _ :: _, h => by simp at h
theorem grp_app {b : List UInt8} (hb : b.length = 3) : ∀ {a : List UInt8}, a ≠ [] → grp (a ++ b) = grp a ++ 44 :: b
  | [], h => absurd rfl h
  | [c], _ => by
    have hne : b ≠ [] := by intro e; rw [e] at hb; cases hb
    rw [List.singleton_append, grp, if_pos ⟨hne, by rw [hb]⟩, grp_short (by omega)]
    simp [grp]
  | c :: d :: a, _ => by
    have ih := grp_app hb (a := d :: a) (by simp)
    rw [List.cons_append, grp, ih]
    have e : (d :: a ++ b ≠ [] ∧ (d :: a ++ b).length % 3 = 0) ↔ (d :: a ≠ [] ∧ (d :: a).length % 3 = 0) := by
      simp only [List.length_append, hb, List.length_cons, ne_eq, List.cons_append, reduceCtorEq, not_false_eq_true, true_and]
      omega
    rw [show grp (c :: d :: a) = c :: (if d :: a ≠ [] ∧ (d :: a).length % 3 = 0 then 44 :: grp (d :: a) else grp (d :: a)) from rfl]
    by_cases h : d :: a ≠ [] ∧ (d :: a).length % 3 = 0
    · rw [if_pos h, if_pos (e.2 h)]; rfl
    · rw [if_neg h, if_neg (fun x => h (e.1 x))]; rfl
theorem grp_len (l : List UInt8) : l.length ≤ (grp l).length ∧ (grp l).length ≤ 2 * l.length := by
  induction l with
  | nil => simp [grp]
  | cons c r ih =>
    rw [grp]
    split <;> simp only [List.length_cons] <;> omega
/-- what follows behind the first i digits -/
def tailG (l : List UInt8) (i : Nat) : List UInt8 := if 0 < i ∧ i < l.length ∧ (l.length - i) % 3 = 0 then 44 :: grp (l.drop i) else grp (l.drop i)
theorem tailG_zero (l : List UInt8) : tailG l 0 = grp l := by simp [tailG]
theorem tailG_end (l : List UInt8) {i : Nat} (h : l.length ≤ i) : tailG l i = [] := by
  rw [tailG, if_neg (by omega), List.drop_eq_nil_of_le h]; rfl
theorem grp_at {l : List UInt8} {i : Nat} {c : UInt8} (h : l[i]? = some c) : grp (l.drop i) = c :: tailG l (i + 1) := by
  obtain ⟨h1, h2⟩ := List.getElem?_eq_some_iff.1 h
  have hd : l.drop i = c :: l.drop (i + 1) := by rw [List.drop_eq_getElem_cons h1, h2]
  rw [hd, grp, tailG]
  have e : (l.drop (i + 1) ≠ [] ∧ (l.drop (i + 1)).length % 3 = 0) ↔ (0 < i + 1 ∧ i + 1 < l.length ∧ (l.length - (i + 1)) % 3 = 0) := by
    rw [List.length_drop, ← List.length_pos_iff, List.length_drop]
    omega
  by_cases h : l.drop (i + 1) ≠ [] ∧ (l.drop (i + 1)).length % 3 = 0
  · rw [if_pos h, if_pos (e.1 h)]
  · rw [if_neg h, if_neg (fun x => h (e.2 x))]
theorem grp_plain {l : List UInt8} (h : l.all digB = true) : (grp l).filter (· != 44) = l := by
  induction l with
  | nil => rfl
  | cons c r ih =>
    simp only [List.all_cons, Bool.and_eq_true] at h
    have hc : (c != 44) = true := by
      have := h.1
      simp only [digB, decide_eq_true_eq] at this
      rw [bne_iff_ne]
      intro e; subst e
      simp at this
    have e : ∀ x : List UInt8, ((44 : UInt8) :: x).filter (· != 44) = x.filter (· != 44) := fun x => by simp
    rw [grp, List.filter_cons, if_pos hc]
    split
    · rw [e, ih h.2]
    · rw [ih h.2]
/-- digits of at least three places -/
def pad3 (l : List UInt8) : List UInt8 := List.replicate (3 - l.length) 48 ++ l
theorem pad3_step {l : List UInt8} (h : l.length < 3) : pad3 (48 :: l) = pad3 l := by
  rw [pad3, pad3, List.length_cons, show 3 - l.length = (3 - (l.length + 1)) + 1 by omega, List.replicate_succ', List.append_assoc]
  rfl
theorem pad3_end {l : List UInt8} (h : ¬ l.length < 3) : pad3 l = l := by
  rw [pad3, show 3 - l.length = 0 by omega]; rfl
/-- a number without leading zeros -/
def numB (l : List UInt8) : Bool := allD l && (decide (l.length = 1) || decide (l[0]? ≠ some 48))
def moneyT (l : List UInt8) (cents : Bool) : List UInt8 := if cents then 36 :: grp ((pad3 l).take ((pad3 l).length - 2)) ++ 46 :: (pad3 l).drop ((pad3 l).length - 2) else 36 :: grp l
def ordS (c b : Int) (two : Prop) [Decidable two] : List UInt8 := if c = 49 ∧ ¬ (two ∧ b = 49) then [115, 116] else if c = 50 ∧ ¬ (two ∧ b = 49) then [110, 100] else if c = 51 ∧ ¬ (two ∧ b = 49) then [114, 100] else [116, 104]
def byteI (l : List UInt8) (k : Nat) : Int := ((l[k]?).map fun c : UInt8 => (c.toNat : Int)).getD 0
def ordT (l : List UInt8) : List UInt8 := l ++ ordS (byteI l (l.length - 1)) (byteI l (l.length - 2)) (2 ≤ l.length)
end Go.Proofs.Ytdggbjlgimcpkaa
