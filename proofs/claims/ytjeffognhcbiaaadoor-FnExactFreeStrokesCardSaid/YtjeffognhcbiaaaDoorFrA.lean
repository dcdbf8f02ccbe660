/- The subsets of some keys in ascending order, and the free strokes among them. Plain Lean but for the reading of the machine's 'and'. -/
import Derived.Test.YtjeffognhcbiaaaDoorDvB
namespace Go.Proofs.YtjeffognhcbiaaaDoor
open Go Go.RowKit
def nx (m s : Nat) : Nat := ((18446744073709551616 - (m - s)) % 18446744073709551616) &&& m
theorem nx_le (m s : Nat) : nx m s ≤ m := Nat.and_le_right
theorem nx_sub (m s : Nat) : nx m s &&& m = nx m s := by rw [nx, Nat.and_assoc, Nat.and_self]
theorem nx_bits {m s : Nat} (hs : s ≤ m) (hm : m ≤ 8388607) : bits .and .i64 ((s : Int) - (m : Int)) (m : Int) = ((nx m s : Nat) : Int) := by
  show IntKind.i64.wrap ((BitVec.ofInt 64 ((s : Int) - (m : Int)) &&& BitVec.ofInt 64 (m : Int)).toNat : Int) = _
  have e1 : (BitVec.ofInt 64 ((s : Int) - (m : Int))).toNat = (18446744073709551616 - (m - s)) % 18446744073709551616 := by
    rw [BitVec.toNat_ofInt]
    have : ((2 ^ 64 : Nat) : Int) = 18446744073709551616 := by decide
    rw [this]
    omega
  have e2 : (BitVec.ofInt 64 (m : Int)).toNat = m := by
    rw [BitVec.ofInt_natCast, BitVec.toNat_ofNat, Nat.mod_eq_of_lt (by omega)]
  rw [BitVec.toNat_and, e1, e2]
  have := nx_le m s
  exact small64 (nx m s) (by omega)
theorem and_half (a b : Nat) : a &&& b = 2 * (a / 2 &&& b / 2) + (if a % 2 = 1 ∧ b % 2 = 1 then 1 else 0) := by
  have h1 := Nat.and_div_two (a := a) (b := b)
  have h2 := Nat.and_mod_two_eq_one (a := a) (b := b)
  split
  · next h => have := h2.2 h; omega
  · next h =>
    have : ¬ (a &&& b) % 2 = 1 := fun e => h (h2.1 e)
    omega
theorem sub_half {c m : Nat} (h : c &&& m = c) : c / 2 &&& m / 2 = c / 2 ∧ (c % 2 = 1 → m % 2 = 1) ∧ c ≤ m := by
  have e := and_half c m
  rw [h] at e
  have hle : c ≤ m := by rw [← h]; exact Nat.and_le_right
  have h1 := Nat.and_div_two (a := c) (b := m)
  rw [h] at h1
  refine ⟨h1.symm, fun hc => ?_, hle⟩
  have h2 := (Nat.and_mod_two_eq_one (a := c) (b := m)).1 (by rw [h]; exact hc)
  exact h2.2
theorem and_not : ∀ (j c m : Nat), m < 2 ^ j → c &&& m = c → (2 ^ j - 1 - c) &&& m = m - c
  | 0, c, m, hm, h => by
    have : m = 0 := by rw [Nat.pow_zero] at hm; omega
    subst this
    rw [Nat.and_zero]; omega
  | j + 1, c, m, hm, h => by
    obtain ⟨h1, h2, h3⟩ := sub_half h
    have hp : 2 ^ (j + 1) = 2 * 2 ^ j := by rw [Nat.pow_succ]; omega
    have hm' : m / 2 < 2 ^ j := by omega
    have ih := and_not j (c / 2) (m / 2) hm' h1
    obtain ⟨_, _, h4⟩ := sub_half h1
    rw [and_half]
    have e : (2 ^ (j + 1) - 1 - c) / 2 = 2 ^ j - 1 - c / 2 := by omega
    rw [e, ih]
    have e2 : (2 ^ (j + 1) - 1 - c) % 2 = 1 ↔ c % 2 = 0 := by omega
    split
    · next hh => have := e2.1 hh.1; omega
    · next hh =>
      have : ¬ (c % 2 = 0 ∧ m % 2 = 1) := fun x => hh ⟨e2.2 x.1, x.2⟩
      omega
theorem and_neg : ∀ (j c m : Nat), m < 2 ^ j → c &&& m = c → 0 < c → m - c < (2 ^ j - c) &&& m
  | 0, c, m, hm, h, h0 => by
    obtain ⟨_, _, h3⟩ := sub_half h
    rw [Nat.pow_zero] at hm; omega
  | j + 1, c, m, hm, h, h0 => by
    obtain ⟨h1, h2, h3⟩ := sub_half h
    have hp : 2 ^ (j + 1) = 2 * 2 ^ j := by rw [Nat.pow_succ]; omega
    have hm' : m / 2 < 2 ^ j := by omega
    obtain ⟨_, _, h4⟩ := sub_half h1
    rw [and_half]
    by_cases hc : c % 2 = 1
    · have e : (2 ^ (j + 1) - c) / 2 = 2 ^ j - 1 - c / 2 := by omega
      have e2 : (2 ^ (j + 1) - c) % 2 = 1 := by omega
      rw [e, and_not j (c / 2) (m / 2) hm' h1, if_pos ⟨e2, h2 hc⟩]
      have := h2 hc
      omega
    · have e : (2 ^ (j + 1) - c) / 2 = 2 ^ j - c / 2 := by omega
      have ih := and_neg j (c / 2) (m / 2) hm' h1 (by omega)
      rw [e]
      split <;> omega
theorem sub_rest {s m : Nat} (hm : m < 2 ^ 64) (h : s &&& m = s) : (m - s) &&& m = m - s := by
  rw [← and_not 64 s m hm h, Nat.and_assoc, Nat.and_self]
theorem nx_up {m s : Nat} (hm : m ≤ 8388607) (h : s &&& m = s) (hs : s < m) : s < nx m s := by
  have h64 : (2 : Nat) ^ 64 = 18446744073709551616 := by decide
  have h1 := and_neg 64 (m - s) m (by omega) (sub_rest (by omega) h) (by omega)
  rw [nx, Nat.mod_eq_of_lt (by omega), ← h64]
  omega
theorem nx_end (m : Nat) : nx m m = 0 := by
  rw [nx, Nat.sub_self]
  exact Nat.zero_and m
def frS (es : List Ent) (m s n : Nat) : List Int :=
  if n = 0 then [] else if h : s < nx m s then (if hasE es [((nx m s : Nat) : Int)] then frS es m (nx m s) n else ((nx m s : Nat) : Int) :: frS es m (nx m s) (n - 1)) else []
termination_by m - s
decreasing_by all_goals (have := nx_le m s; omega)
theorem frS_stop (es : List Ent) (m s : Nat) : frS es m s 0 = [] := by rw [frS, if_pos rfl]
theorem frS_end {es : List Ent} {m s n : Nat} (h : ¬ s < nx m s) : frS es m s n = [] := by rw [frS, dif_neg h]; split <;> rfl
theorem frS_has {es : List Ent} {m s n : Nat} (h : s < nx m s) (he : hasE es [((nx m s : Nat) : Int)] = true) : frS es m s n = frS es m (nx m s) n := by
  by_cases hn : n = 0
  · subst hn; rw [frS_stop, frS_stop]
  · rw [frS, if_neg hn, dif_pos h, if_pos he]
theorem frS_new {es : List Ent} {m s n : Nat} (h : s < nx m s) (he : hasE es [((nx m s : Nat) : Int)] = false) (hn : n ≠ 0) : frS es m s n = ((nx m s : Nat) : Int) :: frS es m (nx m s) (n - 1) := by
  rw [frS, if_neg hn, dif_pos h, if_neg (by rw [he]; exact Bool.noConfusion)]
def ascF (es : List Ent) (m : Nat) : Nat → List Int → Prop
  | _, [] => True
  | s, x :: l => ∃ t : Nat, x = (t : Int) ∧ s < t ∧ t ≤ m ∧ t &&& m = t ∧ hasE es [x] = false ∧ ascF es m t l
theorem ascF_mono {es : List Ent} {m : Nat} : ∀ {l : List Int} {s s' : Nat}, s ≤ s' → ascF es m s' l → ascF es m s l
  | [], _, _, _, _ => trivial
  | _ :: _, _, _, h, ⟨t, h1, h2, h3⟩ => ⟨t, h1, by omega, h3⟩
theorem frS_asc (es : List Ent) (m : Nat) : ∀ (k s n : Nat), m - s ≤ k → ascF es m s (frS es m s n) ∧ (frS es m s n).length ≤ n
  | k, s, n, hk => by
    by_cases hn : n = 0
    · subst hn; rw [frS_stop]; exact ⟨trivial, Nat.le_refl _⟩
    · by_cases h : s < nx m s
      · have hle := nx_le m s
        match k, hk with
        | 0, hk => omega
        | k + 1, hk =>
          have ih1 := frS_asc es m k (nx m s) n (by omega)
          have ih2 := frS_asc es m k (nx m s) (n - 1) (by omega)
          cases he : hasE es [((nx m s : Nat) : Int)] with
          | true => rw [frS_has h he]; exact ⟨ascF_mono (by omega) ih1.1, ih1.2⟩
          | false =>
            rw [frS_new h he hn]
            exact ⟨⟨nx m s, rfl, h, hle, nx_sub m s, he, ih2.1⟩, by rw [List.length_cons]; omega⟩
      · rw [frS_end h]; exact ⟨trivial, Nat.zero_le _⟩
end Go.Proofs.YtjeffognhcbiaaaDoor
