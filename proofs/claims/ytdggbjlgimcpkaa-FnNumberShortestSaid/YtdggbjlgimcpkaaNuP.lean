/- The shortest lists of number strokes: plain Lean. No conditions but those stated. -/
import Derived.Test.YtdggbjlgimcpkaaNuA
namespace Go.Proofs.Ytdggbjlgimcpkaa
open Go Go.RowKit
theorem pick_dg {l : List UInt8} (h : pick l ≠ 0) : dg (pick l) = l := by
  unfold pick at h ⊢
  split
  · assumption
  split
  · assumption
  split
  · assumption
  split
  · assumption
  · simp_all
theorem pick_form {l : List UInt8} (h : pick l ≠ 0) : ∃ a, (a = 0 ∨ a = 6144 ∨ a = 2097152 ∨ a = 2103296) ∧ pick l = strokeOf l ||| a := by
  unfold pick at h ⊢
  split
  · exact ⟨0, by simp, by simp⟩
  split
  · exact ⟨_, by simp, rfl⟩
  split
  · exact ⟨_, by simp, rfl⟩
  split
  · exact ⟨_, by simp, rfl⟩
  · simp_all
theorem strokeOf_pos (l : List UInt8) : strokeOf l ≠ 0 := by
  intro e
  have := strokeOf_bit l 0
  rw [e] at this
  simp at this
theorem or_pos {a b : Nat} (h : a ≠ 0) : a ||| b ≠ 0 := by
  have := Nat.left_le_or (n := a) (m := b)
  omega
theorem pick_lt {l : List UInt8} (hl : l.all digB = true) : pick l < 4194304 := by
  have h1 : strokeOf l < 2 ^ 22 := Nat.lt_trans (strokeOf_lt hl) (by decide)
  have h2 : ∀ a, a < 2 ^ 22 → strokeOf l ||| a < 4194304 := fun a ha => Nat.or_lt_two_pow h1 ha
  unfold pick
  split
  · exact h1
  split
  · exact h2 _ (by decide)
  split
  · exact h2 _ (by decide)
  split
  · exact h2 _ (by decide)
  · decide
theorem pick_isN {l : List UInt8} (hl : l.all digB = true) (hne : l ≠ []) (h : pick l ≠ 0) : isN (pick l) = true := by
  obtain ⟨a, ha, e⟩ := pick_form h
  rw [e]
  exact st_isN hl hne ha
theorem dg_len (s : Nat) : (dg s).length ≤ 20 := dgK_len s 10
theorem dg_mem {s : Nat} {c : UInt8} : c ∈ dg s ↔ ∃ p ∈ kd, s.testBit p.1 = true ∧ p.2 = c := by
  have hd : ∀ l : List UInt8, c ∈ dbl l ↔ c ∈ l := by
    intro l
    rw [dbl, List.mem_flatMap]
    constructor
    · rintro ⟨b, hb, h⟩; simp at h; subst h; exact hb
    · intro h; exact ⟨c, h, by simp⟩
  have h1 : c ∈ dg s ↔ c ∈ hk s 10 := by
    unfold dg dgK
    dsimp only
    split <;> split <;> simp only [List.mem_reverse, hd]
  rw [h1, show hk s 10 = (kd.filter fun p => s.testBit p.1).map (·.2) from rfl, List.mem_map]
  constructor
  · rintro ⟨p, hp, e⟩
    rw [List.mem_filter] at hp
    exact ⟨p, hp.1, hp.2, e⟩
  · rintro ⟨p, hp, h, e⟩
    exact ⟨p, List.mem_filter.2 ⟨hp, h⟩, e⟩
theorem dg_dig (s : Nat) : (dg s).all digB = true := by
  rw [List.all_eq_true]
  intro c hc
  obtain ⟨p, hp, _, rfl⟩ := dg_mem.1 hc
  exact (keyOf_kd hp).2
theorem and_pow_one {s k : Nat} (h : s.testBit k = true) : s &&& 2 ^ k = 2 ^ k := by
  apply Nat.eq_of_testBit_eq
  intro j
  rw [Nat.testBit_and, testBit_pow]
  by_cases e : k = j
  · subst e; simp [h]
  · simp [e]
/-- a number stroke is found again from its digits -/
theorem pick_of {s : Nat} (hs : s < 8388608) (h : isN s = true) : pick (dg s) ≠ 0 := by
  simp only [isN, Bool.and_eq_true, Bool.or_eq_true, decide_eq_true_eq] at h
  obtain ⟨⟨⟨h0, h1⟩, h2⟩, h3⟩ := h
  have hbit : ∀ j, s.testBit j = ((strokeOf (dg s)).testBit j || (s &&& 2103296).testBit j) := by
    intro j
    have hM := congrArg (fun x => Nat.testBit x j) h2
    simp only [andN_bit (show MM < 18446744073709551616 by decide) j (show s < 18446744073709551616 by omega), Nat.zero_testBit] at hM
    rw [strokeOf_bit, Nat.testBit_and]
    by_cases hj0 : j = 0
    · subst hj0; simp [h0]
    have hany : ((dg s).any fun c => keyOf c == j) = (s.testBit j && mask.testBit j) := by
      rw [Bool.eq_iff_iff, List.any_eq_true]
      simp only [Bool.and_eq_true, beq_iff_eq]
      constructor
      · rintro ⟨c, hc, e⟩
        obtain ⟨p, hp, hb, rfl⟩ := dg_mem.1 hc
        rw [(keyOf_kd hp).1] at e
        subst e
        have all : ∀ p ∈ kd, mask.testBit p.1 = true := by decide
        exact ⟨hb, all p hp⟩
      · rintro ⟨hb, hm⟩
        obtain ⟨p, hp, rfl⟩ := mask_bits j hm
        exact ⟨p.2, dg_mem.2 ⟨p, hp, hb, rfl⟩, (keyOf_kd hp).1⟩
    rw [hany, decide_eq_false hj0, Bool.false_or]
    have hMM : MM.testBit j = (decide (j = 0) || mask.testBit j || (2103296 : Nat).testBit j) := by
      rw [show MM = 1 ||| mask ||| 2103296 by decide, Nat.testBit_or, Nat.testBit_or]
      congr 2
      rw [show (1 : Nat) = 2 ^ 0 from rfl, testBit_pow]
      by_cases e : j = 0 <;> simp [e]
      omega
    rw [hMM, decide_eq_false hj0, Bool.false_or] at hM
    revert hM
    cases s.testBit j <;> cases mask.testBit j <;> cases (2103296 : Nat).testBit j <;> simp
  have e : strokeOf (dg s) ||| (s &&& 2103296) = s := by
    apply Nat.eq_of_testBit_eq
    intro j
    rw [Nat.testBit_or, ← hbit]
  have ha : s &&& 2103296 = 0 ∨ s &&& 2103296 = 6144 ∨ s &&& 2103296 = 2097152 ∨ s &&& 2103296 = 2103296 := by
    have e1 : s &&& 2103296 = (s &&& 6144) ||| (s &&& 2097152) := by rw [← Nat.and_or_distrib_left]; rfl
    have e2 : s &&& 2097152 = 0 ∨ s &&& 2097152 = 2097152 := by
      cases h21 : s.testBit 21 with
      | false => exact .inl ((and_pow_zero s 21).2 h21)
      | true => exact .inr (and_pow_one h21)
    rw [e1]
    rcases h3 with h3 | h3 <;> rcases e2 with e2 | e2 <;> rw [h3, e2]
    · exact .inl rfl
    · exact .inr (.inr (.inl rfl))
    · exact .inr (.inl rfl)
    · exact .inr (.inr (.inr rfl))
  have hne := strokeOf_pos (dg s)
  unfold pick
  split
  · exact hne
  split
  · exact or_pos hne
  split
  · exact or_pos hne
  split
  · exact or_pos hne
  · rename_i n0 n1 n2 n3
    rcases ha with a | a | a | a <;> rw [a] at e
    · rw [Nat.or_zero] at e; rw [e] at n0; exact absurd rfl n0
    · rw [e] at n1; exact absurd rfl n1
    · rw [e] at n2; exact absurd rfl n2
    · rw [e] at n3; exact absurd rfl n3
/-- one digit has a stroke -/
theorem pick_one {c : UInt8} (h : digB c = true) : pick [c] ≠ 0 := by
  have h1 := digB_mem h
  have all : ∀ c ∈ kd.map (·.2), dg (strokeOf [c]) = [c] := by decide
  have := all c h1
  unfold pick
  rw [if_pos this]
  exact strokeOf_pos _
section
variable (l : List UInt8)
def seg (i k : Nat) : List UInt8 := (l.drop i).take (k - i)
def okS (i k : Nat) : Bool := decide (pick (seg l i k) ≠ 0)
/-- the least number behind the first s sizes from place i, T the numbers from place i + 1 on -/
def least (i : Nat) (T : List Nat) : Nat → Nat
  | 0 => l.length + 1
  | s + 1 => if okS l i (i + s + 1) = true ∧ 1 + T.getD s 0 < least i T s then 1 + T.getD s 0 else least i T s
def size (i : Nat) (T : List Nat) : Nat → Nat
  | 0 => 0
  | s + 1 => if okS l i (i + s + 1) = true ∧ T.getD s 0 + 1 ≤ least l i T s then s + 1 else size i T s
/-- the numbers from place l.length - j on -/
def tbl : Nat → List Nat
  | 0 => [0]
  | j + 1 => least l (l.length - (j + 1)) (tbl j) (j + 1) :: tbl j
theorem tbl_len : ∀ j, (tbl l j).length = j + 1
  | 0 => rfl
  | j + 1 => by rw [tbl, List.length_cons, tbl_len j]
theorem least_up (i : Nat) (T : List Nat) (s : Nat) : least l i T s = if okS l i (i + s) = true ∧ T.getD (s - 1) 0 + 1 ≤ least l i T (s - 1) ∧ s ≠ 0 then T.getD (s - 1) 0 + 1 else if s = 0 then l.length + 1 else least l i T (s - 1) := by
  cases s with
  | zero => simp [least]
  | succ s =>
    rw [least, show i + (s + 1) = i + s + 1 from rfl, Nat.add_sub_cancel]
    by_cases h1 : okS l i (i + s + 1) = true
    · by_cases h2 : 1 + T.getD s 0 < least l i T s
      · simp only [h1, h2, true_and, and_self, if_true]
        rw [if_pos ⟨by omega, by omega⟩]; omega
      · by_cases h3 : T.getD s 0 + 1 ≤ least l i T s
        · simp only [h1, h2, true_and, and_false, if_false]
          rw [if_pos ⟨h3, by omega⟩]; omega
        · rw [if_neg (fun h => h2 h.2), if_neg (fun h => h3 h.2.1), if_neg (by omega)]
    · rw [if_neg (fun h => h1 h.1), if_neg (fun h => h1 h.1), if_neg (by omega)]
theorem seg_len {i k : Nat} (hk : k ≤ l.length) (hi : i ≤ k) : (seg l i k).length = k - i := by
  simp only [seg, List.length_take, List.length_drop]; omega
theorem seg_dig (hl : l.all digB = true) (i k : Nat) : (seg l i k).all digB = true := by
  rw [List.all_eq_true] at hl ⊢
  intro c hc
  exact hl c (List.mem_of_mem_drop (List.mem_of_mem_take hc))
variable (hl : l.all digB = true)
include hl
theorem okS_one {i : Nat} (hi : i < l.length) : okS l i (i + 1) = true := by
  obtain ⟨c, hc⟩ := at_lt hi
  have e : seg l i (i + 1) = [c] := by
    obtain ⟨h1, h2⟩ := List.getElem?_eq_some_iff.1 hc
    rw [seg, List.drop_eq_getElem_cons h1, h2, show i + 1 - i = 1 by omega]; rfl
  rw [okS, e]
  exact decide_eq_true (pick_one (List.all_eq_true.1 hl c (List.mem_of_getElem? hc)))
omit hl in
theorem least_anti (i : Nat) (T : List Nat) (s : Nat) : least l i T (s + 1) ≤ least l i T s := by
  rw [least]; split <;> omega
omit hl in
theorem least_mono (i : Nat) (T : List Nat) {s s' : Nat} (h : s ≤ s') : least l i T s' ≤ least l i T s := by
  induction h with
  | refl => exact Nat.le_refl _
  | step _ ih => exact Nat.le_trans (least_anti l i T _) ih
theorem tbl_le : ∀ j, j ≤ l.length → ∀ s, (tbl l j).getD s 0 ≤ j - s
  | 0, _, s => by cases s <;> simp [tbl]
  | j + 1, hj, s => by
    have ih := tbl_le j (by omega)
    cases s with
    | succ s => rw [tbl, List.getD_cons_succ]; have := ih s; omega
    | zero =>
      rw [tbl, List.getD_cons_zero]
      refine Nat.le_trans (least_mono l _ _ (show 1 ≤ j + 1 by omega)) ?_
      have h1 := okS_one l hl (i := l.length - (j + 1)) (by omega)
      have h0 := ih 0
      rw [show (1 : Nat) = 0 + 1 from rfl, least, if_pos ⟨h1, by show 1 + (tbl l j).getD 0 0 < l.length + 1; omega⟩]
      omega
/-- the size that the one program keeps -/
theorem size_spec {j : Nat} (hj : j + 1 ≤ l.length) : ∀ s, 1 ≤ s → s ≤ j + 1 → let i := l.length - (j + 1); let t := size l i (tbl l j) s; 1 ≤ t ∧ t ≤ s ∧ okS l i (i + t) = true ∧ 1 + (tbl l j).getD (t - 1) 0 = least l i (tbl l j) s ∧ ∀ s', t < s' → s' ≤ s → okS l i (i + s') = true → 1 + (tbl l j).getD (s' - 1) 0 ≠ least l i (tbl l j) s := by
  intro s h1 h2
  dsimp only
  generalize hi : l.length - (j + 1) = i
  induction s with
  | zero => omega
  | succ s ih =>
   by_cases hs0 : s = 0
   · subst hs0
     have ho := okS_one l hl (i := i) (by omega)
     have h0 := tbl_le l hl j (by omega) 0
     have e : size l i (tbl l j) 1 = 1 := by
       rw [show (1 : Nat) = 0 + 1 from rfl, size, if_pos ⟨ho, by show (tbl l j).getD 0 0 + 1 ≤ l.length + 1; omega⟩]
     have e2 : least l i (tbl l j) 1 = 1 + (tbl l j).getD 0 0 := by
       rw [show (1 : Nat) = 0 + 1 from rfl, least, if_pos ⟨ho, by show 1 + (tbl l j).getD 0 0 < l.length + 1; omega⟩]
     rw [e, e2]
     exact ⟨Nat.le_refl _, Nat.le_refl _, ho, rfl, fun s' h h' => by omega⟩
   · obtain ⟨a1, a2, a3, a4, a5⟩ := ih (by omega) (by omega)
     by_cases hc : okS l i (i + s + 1) = true ∧ (tbl l j).getD s 0 + 1 ≤ least l i (tbl l j) s
     · have e : size l i (tbl l j) (s + 1) = s + 1 := by rw [size, if_pos hc]
       have e2 : least l i (tbl l j) (s + 1) = 1 + (tbl l j).getD s 0 := by
         rw [least_up, if_pos ⟨hc.1, hc.2, by omega⟩, Nat.add_sub_cancel]; omega
       rw [e, e2]
       exact ⟨by omega, Nat.le_refl _, hc.1, rfl, fun s' h h' => by omega⟩
     · have e : size l i (tbl l j) (s + 1) = size l i (tbl l j) s := by rw [size, if_neg hc]
       have e2 : least l i (tbl l j) (s + 1) = least l i (tbl l j) s := by
         rw [least_up, if_neg (fun h => hc ⟨h.1, h.2.1⟩), if_neg (by omega), Nat.add_sub_cancel]
       rw [e, e2]
       refine ⟨a1, by omega, a3, a4, fun s' h h' ho he => ?_⟩
       rcases Nat.lt_or_ge s' (s + 1) with hlt | hge
       · exact a5 s' h (by omega) ho he
       · obtain rfl : s' = s + 1 := by omega
         rw [Nat.add_sub_cancel] at he
         exact hc ⟨ho, by omega⟩
omit hl in
/-- the size that both take at place i -/
def tk (i : Nat) : Nat := size l i (tbl l (l.length - (i + 1))) (l.length - i)
omit hl in
def nd (i : Nat) : Nat := (tbl l (l.length - i)).getD 0 0
omit hl in
theorem tbl_at : ∀ j s, j ≤ l.length → s ≤ j → (tbl l j).getD s 0 = nd l (l.length - j + s)
  | j, 0, hj, _ => by rw [nd, show l.length - (l.length - j + 0) = j by omega]
  | 0, s + 1, _, h => by omega
  | j + 1, s + 1, hj, h => by
    rw [tbl, List.getD_cons_succ, tbl_at j s (by omega) (by omega)]
    congr 1; omega
omit hl in
theorem nd_end : nd l l.length = 0 := by rw [nd, Nat.sub_self]; rfl
omit hl in
theorem nd_step {i : Nat} (hi : i < l.length) : nd l i = least l i (tbl l (l.length - (i + 1))) (l.length - i) := by
  obtain ⟨j, hj⟩ : ∃ j, l.length - i = j + 1 := ⟨l.length - i - 1, by omega⟩
  rw [nd, hj, tbl, List.getD_cons_zero, show l.length - (j + 1) = i by omega, show l.length - (i + 1) = j by omega]
theorem tk_spec {i : Nat} (hi : i < l.length) : 1 ≤ tk l i ∧ i + tk l i ≤ l.length ∧ okS l i (i + tk l i) = true ∧ 1 + nd l (i + tk l i) = nd l i ∧ ∀ k, i + tk l i < k → k ≤ l.length → okS l i k = true → 1 + nd l k ≠ nd l i := by
  obtain ⟨j, hj⟩ : ∃ j, l.length - i = j + 1 := ⟨l.length - i - 1, by omega⟩
  have h := size_spec l hl (j := j) (by omega) (j + 1) (by omega) (Nat.le_refl _)
  dsimp only at h
  rw [show l.length - (j + 1) = i by omega] at h
  have ht : tk l i = size l i (tbl l j) (j + 1) := by rw [tk, hj, show l.length - (i + 1) = j by omega]
  have hn : nd l i = least l i (tbl l j) (j + 1) := by rw [nd_step l hi, hj, show l.length - (i + 1) = j by omega]
  rw [← ht, ← hn] at h
  obtain ⟨a1, a2, a3, a4, a5⟩ := h
  refine ⟨a1, by omega, a3, ?_, fun k h1 h2 h3 => ?_⟩
  · rw [← a4, tbl_at l j _ (by omega) (by omega)]
    congr 2; omega
  · have := a5 (k - i) (by omega) (by omega) (by rw [show i + (k - i) = k by omega]; exact h3)
    rw [tbl_at l j _ (by omega) (by omega), show l.length - j + (k - i - 1) = k by omega] at this
    exact this
omit hl in
theorem nd_le {i k : Nat} (hik : i < k) (hk : k ≤ l.length) (h : okS l i k = true) : nd l i ≤ 1 + nd l k := by
  obtain ⟨j, hj⟩ : ∃ j, l.length - i = j + 1 := ⟨l.length - i - 1, by omega⟩
  rw [nd_step l (by omega), hj, show l.length - (i + 1) = j by omega]
  refine Nat.le_trans (least_mono l i _ (show k - i ≤ j + 1 by omega)) ?_
  obtain ⟨s, hs⟩ : ∃ s, k - i = s + 1 := ⟨k - i - 1, by omega⟩
  rw [hs, least]
  have e : (tbl l j).getD s 0 = nd l k := by
    rw [tbl_at l j _ (by omega) (by omega)]
    congr 1; omega
  rw [show i + s + 1 = k by omega, e]
  split
  · exact Nat.le_refl _
  · rename_i hn
    have : ¬ 1 + nd l k < least l i (tbl l j) s := fun x => hn ⟨h, x⟩
    omega
omit hl in
/-- the strokes from place i on -/
def enc (l : List UInt8) : Nat → Nat → List Nat
  | 0, _ => []
  | f + 1, i => if i < l.length then pick (seg l i (i + tk l i)) :: enc l f (i + tk l i) else []
theorem enc_fuel : ∀ (f f' i : Nat), l.length ≤ i + f → l.length ≤ i + f' → enc l f i = enc l f' i := by
  intro f
  induction f with
  | zero =>
    intro f' i h h'
    cases f' with
    | zero => rfl
    | succ f' => rw [enc, enc, if_neg (by omega)]
  | succ f ih =>
    intro f' i h h'
    cases f' with
    | zero => rw [enc, enc, if_neg (by omega)]
    | succ f' =>
      rw [enc, enc]
      split
      · rename_i hi
        have := (tk_spec l hl hi).1
        rw [ih f' _ (by omega) (by omega)]
      · rfl
omit hl in
def en (i : Nat) : List Nat := enc l (l.length - i) i
theorem en_step {i : Nat} (hi : i < l.length) : en l i = pick (seg l i (i + tk l i)) :: en l (i + tk l i) := by
  have h1 := (tk_spec l hl hi).1
  obtain ⟨f, hf⟩ : ∃ f, l.length - i = f + 1 := ⟨l.length - i - 1, by omega⟩
  rw [en, hf, enc, if_pos hi, en, enc_fuel l hl f (l.length - (i + tk l i)) _ (by omega) (by omega)]
omit hl in
theorem en_end {i : Nat} (hi : l.length ≤ i) : en l i = [] := by
  rw [en, show l.length - i = 0 by omega]; rfl
omit hl in
theorem seg_app {i k : Nat} (hik : i ≤ k) : seg l i k ++ l.drop k = l.drop i := by
  rw [seg, show l.drop k = (l.drop i).drop (k - i) by rw [List.drop_drop]; congr 1; omega, List.take_append_drop]
theorem en_all : ∀ f i, l.length ≤ i + f → i ≤ l.length → ((en l i).map dg).flatten = l.drop i ∧ (en l i).length = nd l i ∧ (∀ x ∈ en l i, isN x = true ∧ x < 4194304 ∧ pick (dg x) = x) ∧ (en l i).length ≤ l.length - i := by
  intro f
  induction f with
  | zero =>
    intro i h1 h2
    obtain rfl : i = l.length := by omega
    rw [en_end l (Nat.le_refl _), nd_end]
    simp
  | succ f ih =>
    intro i h1 h2
    rcases Nat.lt_or_ge i l.length with hi | hi
    · obtain ⟨a1, a2, a3, a4, _⟩ := tk_spec l hl hi
      obtain ⟨b1, b2, b3, b4⟩ := ih (i + tk l i) (by omega) a2
      rw [en_step l hl hi]
      have hp := of_decide_eq_true a3
      have hd := pick_dg hp
      refine ⟨?_, ?_, ?_, ?_⟩
      · rw [List.map_cons, List.flatten_cons, b1, hd, seg_app l (i := i) (k := i + tk l i) (by omega)]
      · rw [List.length_cons, b2]; omega
      · intro x hx
        rcases List.mem_cons.1 hx with rfl | hx
        · have hsl := seg_len l (i := i) a2 (by omega)
          refine ⟨pick_isN (seg_dig l hl _ _) (fun e => ?_) hp, pick_lt (seg_dig l hl _ _), by rw [hd]⟩
          rw [e] at hsl
          simp at hsl; omega
        · exact b3 x hx
      · rw [List.length_cons]; omega
    · obtain rfl : i = l.length := by omega
      rw [en_end l (Nat.le_refl _), nd_end]
      simp
omit hl in
/-- no list of number strokes is shorter -/
theorem nd_least : ∀ (ss : List Nat) (i : Nat), i ≤ l.length → (∀ s ∈ ss, isN s = true ∧ s < 8388608) → (ss.map dg).flatten = l.drop i → nd l i ≤ ss.length
  | [], i, hi, _, h => by
    have : (l.drop i).length = 0 := by rw [← h]; rfl
    rw [List.length_drop] at this
    obtain rfl : i = l.length := by omega
    rw [nd_end]; exact Nat.zero_le _
  | s :: ss, i, hi, hs, h => by
    obtain ⟨h1, h2⟩ := hs s (by simp)
    rw [List.map_cons, List.flatten_cons] at h
    have hne : dg s ≠ [] := by
      intro e
      have := (writ_nil s).1 (by rw [writ, if_pos h1, e])
      rw [h1] at this; cases this
    have hpos := List.length_pos_iff.2 hne
    have hlen := congrArg List.length h
    rw [List.length_append, List.length_drop] at hlen
    have hsg : seg l i (i + (dg s).length) = dg s := by
      rw [seg, ← h, show i + (dg s).length - i = (dg s).length by omega, List.take_left' rfl]
    have hrest : (ss.map dg).flatten = l.drop (i + (dg s).length) := by
      rw [← List.drop_drop, ← h, List.drop_left' rfl]
    have ih := nd_least ss (i + (dg s).length) (by omega) (fun x hx => hs x (by simp [hx])) hrest
    have hok : okS l i (i + (dg s).length) = true := by rw [okS, hsg]; exact decide_eq_true (pick_of h2 h1)
    have := nd_le l (show i < i + (dg s).length by omega) (by omega) hok
    rw [List.length_cons]
    omega
end
end Go.Proofs.Ytdggbjlgimcpkaa
