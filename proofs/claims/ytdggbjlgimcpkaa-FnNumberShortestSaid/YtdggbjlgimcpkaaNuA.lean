/- Number strokes and their digits: plain Lean. No conditions but those stated. -/
import Derived.Test.YtdggbjlgimcpkaaAbs4
namespace Go.Proofs.Ytdggbjlgimcpkaa
open Go Go.RowKit
/-- the digits' keys in steno order, each with its digit -/
def kd : List (Nat × UInt8) := [(1, 49), (2, 50), (4, 51), (6, 52), (8, 53), (9, 48), (13, 54), (15, 55), (17, 56), (19, 57)]
/-- the digits of the first k keys that are pressed -/
def hk (s k : Nat) : List UInt8 := ((kd.take k).filter fun p => s.testBit p.1).map (·.2)
theorem hk_succ {s k : Nat} {p : Nat × UInt8} (h : kd[k]? = some p) : hk s (k + 1) = hk s k ++ if s.testBit p.1 then [p.2] else [] := by
  rw [hk, take_succ h, List.filter_append, List.map_append]
  congr 1
  by_cases hp : s.testBit p.1 = true <;> simp [hp]
theorem hk_len (s k : Nat) : (hk s k).length ≤ k := by
  rw [hk, List.length_map]
  refine Nat.le_trans (List.length_filter_le _ _) ?_
  simp only [List.length_take]; omega
def dbl (l : List UInt8) : List UInt8 := l.flatMap fun b => [b, b]
theorem dbl_append (a b : List UInt8) : dbl (a ++ b) = dbl a ++ dbl b := by simp [dbl]
theorem dbl_len (l : List UInt8) : (dbl l).length = 2 * l.length := by
  induction l with
  | nil => rfl
  | cons b l ih => rw [show dbl (b :: l) = b :: b :: dbl l from rfl, List.length_cons, List.length_cons, ih, List.length_cons]; omega
theorem dbl_rev (l : List UInt8) : dbl l.reverse = (dbl l).reverse := by
  induction l with
  | nil => rfl
  | cons b l ih => rw [List.reverse_cons, dbl_append, ih, show dbl (b :: l) = b :: b :: dbl l from rfl, List.reverse_cons, List.reverse_cons]; simp [dbl]
/-- the digits of the first k keys, as they are written -/
def dgK (s k : Nat) : List UInt8 := let h := if s.testBit 21 then dbl (hk s k) else hk s k; if s &&& 6144 = 0 then h else h.reverse
def dg (s : Nat) : List UInt8 := dgK s 10
theorem dgK_len (s k : Nat) : (dgK s k).length ≤ 2 * k := by
  have h := hk_len s k
  have h2 := dbl_len (hk s k)
  unfold dgK
  dsimp only
  split <;> split <;> (try rw [List.length_reverse]) <;> omega
def maskK (k : Nat) : Nat := (kd.take k).foldl (fun m p => m ||| 2 ^ p.1) 0
theorem maskK_succ {k : Nat} {p : Nat × UInt8} (h : kd[k]? = some p) : maskK (k + 1) = maskK k ||| 2 ^ p.1 := by
  rw [maskK, take_succ h, List.foldl_append]; rfl
def mask : Nat := 697174
def MM : Nat := 2800471
theorem mask_bits : ∀ j, mask.testBit j = true → ∃ p ∈ kd, p.1 = j := by
  intro j h
  have hj : j < 20 := by
    apply Decidable.byContradiction
    intro hn
    have : mask < 2 ^ j := Nat.lt_of_lt_of_le (show mask < 2 ^ 20 by decide) (Nat.pow_le_pow_right (by omega) (by omega))
    rw [Nat.testBit_lt_two_pow this] at h
    cases h
  have all : ∀ j : Fin 20, mask.testBit j.1 = true → kd.any (fun p => p.1 == j.1) = true := by decide
  have := all ⟨j, hj⟩ h
  rw [List.any_eq_true] at this
  obtain ⟨p, hp, e⟩ := this
  exact ⟨p, hp, by simpa using e⟩
theorem and_mask (s : Nat) : s &&& mask = 0 ↔ hk s 10 = [] := by
  have e : hk s 10 = (kd.filter fun p => s.testBit p.1).map (·.2) := rfl
  rw [e, List.map_eq_nil_iff, List.filter_eq_nil_iff]
  constructor
  · intro h p hp
    have := congrArg (fun x => Nat.testBit x p.1) h
    have hm : mask.testBit p.1 = true := by
      have all : ∀ p ∈ kd, mask.testBit p.1 = true := by decide
      exact all p hp
    simp only [Nat.testBit_and, hm, Bool.and_true, Nat.zero_testBit] at this
    simp [this]
  · intro h
    apply Nat.eq_of_testBit_eq
    intro j
    rw [Nat.testBit_and, Nat.zero_testBit]
    cases hm : mask.testBit j with
    | false => simp
    | true =>
      obtain ⟨p, hp, rfl⟩ := mask_bits j hm
      have := h p hp
      simpa using this
/-- a number stroke -/
def isN (s : Nat) : Bool := s.testBit 0 && decide (s &&& mask ≠ 0) && decide (andN s MM = 0) && (decide (s &&& 6144 = 0) || decide (s &&& 6144 = 6144))
def writ (s : Nat) : List UInt8 := if isN s then dg s else []
theorem dgK_nil (s k : Nat) : dgK s k = [] ↔ hk s k = [] := by
  have h2 := dbl_len (hk s k)
  have e : dbl (hk s k) = [] ↔ hk s k = [] := by
    rw [← List.length_eq_zero_iff, h2, ← List.length_eq_zero_iff]; omega
  unfold dgK
  dsimp only
  split <;> split <;> (try rw [List.reverse_eq_nil_iff]) <;> first | exact e | exact Iff.rfl
theorem writ_nil (s : Nat) : writ s = [] ↔ isN s = false := by
  unfold writ
  cases h : isN s with
  | false => simp
  | true =>
    simp only [if_true, Bool.true_eq_false, iff_false]
    rw [dg, dgK_nil, ← and_mask]
    simp only [isN, Bool.and_eq_true, decide_eq_true_eq] at h
    exact h.1.1.2
/-- the key of a digit -/
def keyOf (c : UInt8) : Nat := ((kd.find? fun p => p.2 == c).map (·.1)).getD 0
def digB (c : UInt8) : Bool := decide (48 ≤ (c.toNat : Int) ∧ (c.toNat : Int) ≤ 57)
def allD (l : List UInt8) : Bool := l.all digB && decide (1 ≤ (l.length : Int) ∧ (l.length : Int) ≤ 30)
theorem digB_mem {c : UInt8} (h : digB c = true) : c ∈ kd.map (·.2) := by
  simp only [digB, decide_eq_true_eq] at h
  have hc : c = UInt8.ofNat c.toNat := by simp
  rw [hc]
  generalize c.toNat = n at h
  have : n = 48 ∨ n = 49 ∨ n = 50 ∨ n = 51 ∨ n = 52 ∨ n = 53 ∨ n = 54 ∨ n = 55 ∨ n = 56 ∨ n = 57 := by omega
  rcases this with rfl | rfl | rfl | rfl | rfl | rfl | rfl | rfl | rfl | rfl <;> decide
theorem keyOf_mem {c : UInt8} (h : digB c = true) : (keyOf c, c) ∈ kd := by
  have h1 := digB_mem h
  have all : ∀ c ∈ kd.map (·.2), (keyOf c, c) ∈ kd := by decide
  exact all c h1
theorem keyOf_kd {p : Nat × UInt8} (h : p ∈ kd) : keyOf p.2 = p.1 ∧ digB p.2 = true := by
  have all : ∀ p ∈ kd, keyOf p.2 = p.1 ∧ digB p.2 = true := by decide
  exact all p h
/-- the stroke of the digits of a text -/
def strokeOf (l : List UInt8) : Nat := l.foldl (fun s c => s ||| 2 ^ keyOf c) 1
theorem strokeOf_bit (l : List UInt8) (j : Nat) : (strokeOf l).testBit j = (decide (j = 0) || l.any fun c => keyOf c == j) := by
  have gen : ∀ (l : List UInt8) (s : Nat), (l.foldl (fun s c => s ||| 2 ^ keyOf c) s).testBit j = (s.testBit j || l.any fun c => keyOf c == j) := by
    intro l
    induction l with
    | nil => intro s; simp
    | cons c l ih =>
      intro s
      rw [List.foldl_cons, ih, Nat.testBit_or, testBit_pow, List.any_cons, Bool.or_assoc]
      congr 1
  rw [strokeOf, gen]
  congr 1
  rw [show (1 : Nat) = 2 ^ 0 from rfl, testBit_pow]
  by_cases h : j = 0
  · simp [h]
  · simp [h]; omega
theorem strokeOf_lt {l : List UInt8} (h : l.all digB = true) : strokeOf l < 1048576 := by
  have : (1048576 : Nat) = 2 ^ 20 := by decide
  rw [this]
  apply Nat.lt_pow_two_of_testBit
  intro j hj
  rw [strokeOf_bit]
  simp only [Bool.or_eq_false_iff, decide_eq_false_iff_not, List.any_eq_false]
  refine ⟨by omega, fun c hc => ?_⟩
  have hm := keyOf_mem (List.all_eq_true.1 h c hc)
  have all : ∀ p ∈ kd, p.1 < 20 := by decide
  have := all _ hm
  simp only [beq_iff_eq] at *
  omega
theorem strokeOf_succ {l : List UInt8} {k : Nat} {c : UInt8} (h : l[k]? = some c) : strokeOf (l.take (k + 1)) = strokeOf (l.take k) ||| 2 ^ keyOf c := by
  rw [strokeOf, take_succ h, List.foldl_append]; rfl
/-- what the four tries have in common -/
theorem hk_or {s a : Nat} (h : ∀ p ∈ kd, a.testBit p.1 = false) (k : Nat) : hk (s ||| a) k = hk s k := by
  rw [hk, hk]
  congr 1
  apply List.filter_congr
  intro p hp
  rw [Nat.testBit_or, h p (List.mem_of_mem_take hp), Bool.or_false]
section
variable {l : List UInt8} (hl : l.all digB = true)
include hl
theorem st_bit {j : Nat} (h0 : j ≠ 0) (h : ∀ p ∈ kd, p.1 ≠ j) : (strokeOf l).testBit j = false := by
  rw [strokeOf_bit, decide_eq_false h0, Bool.false_or, List.any_eq_false]
  intro c hc
  have := h _ (keyOf_mem (List.all_eq_true.1 hl c hc))
  simpa using this
theorem st_6144 : strokeOf l &&& 6144 = 0 := by
  apply Nat.eq_of_testBit_eq
  intro j
  rw [Nat.testBit_and, Nat.zero_testBit]
  by_cases h11 : j = 11
  · subst h11; rw [st_bit hl (by omega) (by decide)]; rfl
  by_cases h12 : j = 12
  · subst h12; rw [st_bit hl (by omega) (by decide)]; rfl
  have : (6144 : Nat).testBit j = false := by
    by_cases hj : j < 13
    · have all : ∀ j : Fin 13, j.1 ≠ 11 → j.1 ≠ 12 → (6144 : Nat).testBit j.1 = false := by decide
      exact all ⟨j, hj⟩ h11 h12
    · exact Nat.testBit_lt_two_pow (Nat.lt_of_lt_of_le (show (6144 : Nat) < 2 ^ 13 by decide) (Nat.pow_le_pow_right (by omega) (by omega)))
  rw [this, Bool.and_false]
theorem st_21 : (strokeOf l).testBit 21 = false := st_bit hl (by omega) (by decide)
theorem dg_rev : dg (strokeOf l ||| 6144) = (hk (strokeOf l) 10).reverse := by
  have e : (strokeOf l ||| 6144) &&& 6144 = 6144 := by rw [Nat.and_or_distrib_right, st_6144 hl]; rfl
  have e2 : (strokeOf l ||| 6144).testBit 21 = false := by rw [Nat.testBit_or, st_21 hl]; decide
  rw [dg, dgK, e, e2, hk_or (by decide)]; rfl
theorem dg_dbl : dg (strokeOf l ||| 2097152) = dbl (hk (strokeOf l) 10) := by
  have e : (strokeOf l ||| 2097152) &&& 6144 = 0 := by rw [Nat.and_or_distrib_right, st_6144 hl]; rfl
  have e2 : (strokeOf l ||| 2097152).testBit 21 = true := by rw [Nat.testBit_or, st_21 hl]; decide
  rw [dg, dgK, e, e2, hk_or (by decide)]; rfl
theorem st_isN (hne : l ≠ []) {a : Nat} (ha : a = 0 ∨ a = 6144 ∨ a = 2097152 ∨ a = 2103296) : isN (strokeOf l ||| a) = true := by
  have hb : ∀ j, (strokeOf l ||| a).testBit j = ((strokeOf l).testBit j || a.testBit j) := fun j => Nat.testBit_or ..
  have h0 : (strokeOf l ||| a).testBit 0 = true := by rw [hb, strokeOf_bit]; simp
  have h1 : (strokeOf l ||| a) &&& mask ≠ 0 := by
    obtain ⟨c, r, rfl⟩ := List.exists_cons_of_ne_nil hne
    have hm := keyOf_mem (List.all_eq_true.1 hl c (by simp))
    intro e
    have e2 := congrArg (fun x => Nat.testBit x (keyOf c)) e
    have hmk : mask.testBit (keyOf c) = true := by
      have all : ∀ p ∈ kd, mask.testBit p.1 = true := by decide
      exact all _ hm
    simp only [Nat.testBit_and, hb, strokeOf_bit, hmk, Nat.zero_testBit] at e2
    simp at e2
  have h2 : andN (strokeOf l ||| a) MM = 0 := by
    have hlt := strokeOf_lt hl
    have hlt2 : strokeOf l ||| a < 2 ^ 22 := Nat.or_lt_two_pow (Nat.lt_trans hlt (by decide)) (by rcases ha with rfl | rfl | rfl | rfl <;> decide)
    apply Nat.eq_of_testBit_eq
    intro j
    rw [andN_bit (by decide) j (Nat.lt_trans hlt2 (by decide)), Nat.zero_testBit, hb]
    cases hM : MM.testBit j with
    | true => simp
    | false =>
      have ha' : a.testBit j = false := by
        by_cases hj : j < 22
        · have all : ∀ j : Fin 22, MM.testBit j.1 = false → (0 : Nat).testBit j.1 = false ∧ (6144 : Nat).testBit j.1 = false ∧ (2097152 : Nat).testBit j.1 = false ∧ (2103296 : Nat).testBit j.1 = false := by decide
          have := all ⟨j, hj⟩ hM
          rcases ha with rfl | rfl | rfl | rfl
          · exact this.1
          · exact this.2.1
          · exact this.2.2.1
          · exact this.2.2.2
        · exact Nat.testBit_lt_two_pow (Nat.lt_of_lt_of_le (show a < 2 ^ 22 by rcases ha with rfl | rfl | rfl | rfl <;> decide) (Nat.pow_le_pow_right (by omega) (by omega)))
      have hs : (strokeOf l).testBit j = false := by
        refine st_bit hl (fun e => ?_) (fun p hp e => ?_)
        · subst e; revert hM; decide
        · subst e
          have all : ∀ p ∈ kd, MM.testBit p.1 = true := by decide
          rw [all p hp] at hM
          cases hM
      rw [hs, ha']; rfl
  have h3 : (strokeOf l ||| a) &&& 6144 = 0 ∨ (strokeOf l ||| a) &&& 6144 = 6144 := by
    rw [Nat.and_or_distrib_right, st_6144 hl]
    rcases ha with rfl | rfl | rfl | rfl
    · exact .inl rfl
    · exact .inr rfl
    · exact .inl rfl
    · exact .inr rfl
  simp only [isN, h0, h2, Bool.true_and, Bool.and_eq_true, decide_eq_true_eq, Bool.or_eq_true, decide_true, Bool.and_true]
  exact ⟨h1, h3⟩
theorem writ_st (hne : l ≠ []) {a : Nat} (ha : a = 0 ∨ a = 6144 ∨ a = 2097152 ∨ a = 2103296) : writ (strokeOf l ||| a) = dg (strokeOf l ||| a) := by
  rw [writ, st_isN hl hne ha, if_pos rfl]
end
/-- the stroke that writes digits: the tries of the one program, and of the other -/
def pick (l : List UInt8) : Nat :=
  if dg (strokeOf l) = l then strokeOf l else if dg (strokeOf l ||| 6144) = l then strokeOf l ||| 6144 else if dg (strokeOf l ||| 2097152) = l then strokeOf l ||| 2097152 else if dg (strokeOf l ||| 2103296) = l then strokeOf l ||| 2103296 else 0
def pickI (l : List UInt8) : Nat :=
  if writ (strokeOf l) = l then strokeOf l else if writ (strokeOf l ||| 2097152) = l then strokeOf l ||| 2097152 else if writ (strokeOf l ||| 6144) = l then strokeOf l ||| 6144 else if writ (strokeOf l ||| 2103296) = l then strokeOf l ||| 2103296 else 0
theorem pick_same {l : List UInt8} (hl : l.all digB = true) (hne : l ≠ []) : pickI l = pick l := by
  have w0 := writ_st hl hne (a := 0) (by simp)
  have w1 := writ_st hl hne (a := 6144) (by simp)
  have w2 := writ_st hl hne (a := 2097152) (by simp)
  have w3 := writ_st hl hne (a := 2103296) (by simp)
  rw [Nat.or_zero] at w0
  unfold pick pickI
  rw [w0, w1, w2, w3]
  by_cases h0 : dg (strokeOf l) = l
  · simp [h0]
  by_cases h1 : dg (strokeOf l ||| 6144) = l
  · have h2 : dg (strokeOf l ||| 2097152) ≠ l := by
      intro h2
      rw [dg_rev hl] at h1
      rw [dg_dbl hl] at h2
      have e1 := congrArg List.length h1
      have e2 := congrArg List.length h2
      rw [List.length_reverse] at e1
      rw [dbl_len] at e2
      have := List.length_pos_iff.2 hne
      omega
    simp [h0, h1, h2]
  · simp [h0, h1]
end Go.Proofs.Ytdggbjlgimcpkaa
