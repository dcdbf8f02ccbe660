/- Stable sorting and merging of lists, with no program in sight. -/
import Derived.Test.YtbboadheacmddaaGreatDoorAbs4
import Derived.Test.YtbboadheacmddaaGreatDoorAbs3
namespace Go.Proofs.YtbboadheacmddaaGreatDoor
/-- an order by which lists are sorted: of two elements neither may be before the other -/
structure Wk {α : Type} (lt : α → α → Bool) : Prop where
  irr : ∀ a, lt a a = false
  tr : ∀ a b c, lt a b = true → lt b c = true → lt a c = true
  nt : ∀ a b c, lt a c = true → lt a b = true ∨ lt b c = true
section
variable {α : Type} (lt : α → α → Bool)
def mrg : List α → List α → List α
  | [], B => B
  | a :: A, [] => a :: A
  | a :: A, b :: B => if lt b a then b :: mrg (a :: A) B else a :: mrg A (b :: B)
termination_by A B => A.length + B.length
theorem mrg_nil (B : List α) : mrg lt [] B = B := by rw [mrg.eq_def]
theorem mrg_nilR (A : List α) : mrg lt A [] = A := by cases A <;> rw [mrg.eq_def]
theorem mrg_cons (a b : α) (A B : List α) : mrg lt (a :: A) (b :: B) = if lt b a then b :: mrg lt (a :: A) B else a :: mrg lt A (b :: B) := by rw [mrg.eq_def]
theorem mrg_len : ∀ (n : Nat) (A B : List α), A.length + B.length ≤ n → (mrg lt A B).length = A.length + B.length
  | n, [], B, _ => by rw [mrg_nil]; simp
  | n, a :: A, [], _ => by rw [mrg_nilR]; rfl
  | 0, a :: A, b :: B, h => by simp at h
  | n + 1, a :: A, b :: B, h => by
    simp only [List.length_cons] at h
    rw [mrg_cons]
    split
    · rw [List.length_cons, mrg_len n (a :: A) B (by simp only [List.length_cons]; omega)]; simp only [List.length_cons]; omega
    · rw [List.length_cons, mrg_len n A (b :: B) (by simp only [List.length_cons]; omega)]; simp only [List.length_cons]; omega
/-- a merge falls apart where what is behind is not before what is ahead -/
theorem mrg_split : ∀ (n : Nat) (L1 R1 L2 R2 : List α), L1.length + R1.length ≤ n → (∀ r ∈ R1, ∀ l ∈ L2, lt r l = true) → (∀ l ∈ L1, ∀ r ∈ R2, lt r l = false) → mrg lt (L1 ++ L2) (R1 ++ R2) = mrg lt L1 R1 ++ mrg lt L2 R2
  | n, [], [], L2, R2, _, _, _ => by rw [mrg_nil]; rfl
  | 0, a :: L1, R1, L2, R2, h, _, _ => by simp at h
  | 0, [], b :: R1, L2, R2, h, _, _ => by simp at h
  | n + 1, [], b :: R1, L2, R2, h, h1, h2 => by
    have ih := mrg_split n [] R1 L2 R2 (by simp at h ⊢; omega) (fun r hr => h1 r (List.mem_cons_of_mem _ hr)) h2
    rw [mrg_nil, List.nil_append] at ih ⊢
    cases L2 with
    | nil => rw [mrg_nil, mrg_nil]
    | cons a L2 =>
      rw [List.cons_append, mrg_cons, if_pos (h1 b List.mem_cons_self a List.mem_cons_self), ih]
      rfl
  | n + 1, a :: L1, [], L2, R2, h, h1, h2 => by
    have ih := mrg_split n L1 [] L2 R2 (by simp at h ⊢; omega) h1 (fun l hl => h2 l (List.mem_cons_of_mem _ hl))
    rw [mrg_nilR, List.nil_append] at ih ⊢
    cases R2 with
    | nil => rw [mrg_nilR, mrg_nilR]
    | cons b R2 =>
      rw [List.cons_append, mrg_cons, if_neg (by rw [h2 a List.mem_cons_self b List.mem_cons_self]; simp), ih]
      rfl
  | n + 1, a :: L1, b :: R1, L2, R2, h, h1, h2 => by
    simp only [List.length_cons] at h
    rw [List.cons_append, List.cons_append, mrg_cons, mrg_cons]
    split
    · have ih := mrg_split n (a :: L1) R1 L2 R2 (by simp only [List.length_cons]; omega) (fun r hr => h1 r (List.mem_cons_of_mem _ hr)) h2
      rw [List.cons_append, ← ih, List.cons_append]
    · have ih := mrg_split n L1 (b :: R1) L2 R2 (by simp only [List.length_cons]; omega) h1 (fun l hl => h2 l (List.mem_cons_of_mem _ hl))
      rw [List.cons_append, ← ih, List.cons_append]
variable {lt} (hw : Wk lt)
include hw
theorem mrg_assoc : ∀ (n : Nat) (A B C : List α), A.length + B.length + C.length ≤ n → mrg lt (mrg lt A B) C = mrg lt A (mrg lt B C)
  | n, [], B, C, _ => by rw [mrg_nil, mrg_nil]
  | n, a :: A, [], C, _ => by rw [mrg_nilR, mrg_nil]
  | n, a :: A, b :: B, [], _ => by rw [mrg_nilR, mrg_nilR]
  | 0, a :: A, b :: B, c :: C, h => by simp at h
  | n + 1, a :: A, b :: B, c :: C, h => by
    simp only [List.length_cons] at h
    have i1 := mrg_assoc n A (b :: B) (c :: C) (by simp only [List.length_cons]; omega)
    have i2 := mrg_assoc n (a :: A) B (c :: C) (by simp only [List.length_cons]; omega)
    have i3 := mrg_assoc n (a :: A) (b :: B) C (by simp only [List.length_cons]; omega)
    rw [mrg_cons lt a b A B] at i3 ⊢
    rw [mrg_cons lt b c B C] at i1 ⊢
    cases hba : lt b a with
    | true =>
      rw [hba] at i3
      simp only [if_true] at i3 ⊢
      rw [mrg_cons]
      cases hcb : lt c b with
      | true =>
        simp only [if_true]
        rw [mrg_cons lt a c, hw.tr c b a hcb hba, if_pos rfl, i3]
      | false =>
        simp only [Bool.false_eq_true, if_false]
        rw [mrg_cons lt a b, hba, if_pos rfl, i2]
    | false =>
      rw [hba] at i3
      simp only [Bool.false_eq_true, if_false] at i3 ⊢
      rw [mrg_cons]
      cases hca : lt c a with
      | true =>
        have hcb : lt c b = true := by
          rcases hw.nt c b a hca with h | h
          · exact h
          · rw [hba] at h; cases h
        simp only [if_true, hcb]
        rw [mrg_cons lt a c, hca, if_pos rfl, i3]
      | false =>
        simp only [Bool.false_eq_true, if_false]
        cases hcb : lt c b with
        | true =>
          rw [hcb] at i1
          simp only [if_true] at i1 ⊢
          rw [mrg_cons lt a c, hca, if_neg (by simp), i1]
        | false =>
          rw [hcb] at i1
          simp only [Bool.false_eq_true, if_false] at i1 ⊢
          rw [mrg_cons lt a b, hba, if_neg (by simp), i1]
end
section
variable {α : Type} (lt : α → α → Bool)
/-- the stable order of a list: its elements merged in one by one -/
def stab (l : List α) : List α := l.foldl (fun s x => mrg lt s [x]) []
theorem stab_snoc (l : List α) (x : α) : stab lt (l ++ [x]) = mrg lt (stab lt l) [x] := by simp [stab, List.foldl_append]
theorem stab_len : ∀ l : List α, (stab lt l).length = l.length := by
  intro l
  induction h : l.length generalizing l with
  | zero => obtain rfl := List.length_eq_zero_iff.1 h; rfl
  | succ n ih =>
    have hne : l ≠ [] := by rintro rfl; cases h
    rw [← List.dropLast_concat_getLast hne, stab_snoc, mrg_len lt _ _ _ (Nat.le_refl _), ih _ (by simp; omega)]
    rfl
theorem stab_append (hw : Wk lt) (A : List α) : ∀ B : List α, stab lt (A ++ B) = mrg lt (stab lt A) (stab lt B) := by
  intro B
  induction h : B.length generalizing B with
  | zero => obtain rfl := List.length_eq_zero_iff.1 h; rw [List.append_nil]; exact (mrg_nilR lt _).symm
  | succ n ih =>
    have hne : B ≠ [] := by rintro rfl; cases h
    rw [← List.dropLast_concat_getLast hne, ← List.append_assoc, stab_snoc, stab_snoc, ih _ (by simp; omega), mrg_assoc hw _ _ _ _ (Nat.le_refl _)]
/-- sorted: nothing is before what is ahead of it -/
def Srt (l : List α) : Prop := l.Pairwise (fun a b => lt b a = false)
variable {lt}
theorem mrg_mem : ∀ (n : Nat) (A B : List α), A.length + B.length ≤ n → ∀ x, x ∈ mrg lt A B ↔ x ∈ A ∨ x ∈ B
  | n, [], B, _, x => by rw [mrg_nil]; simp
  | n, a :: A, [], _, x => by rw [mrg_nilR]; simp
  | 0, a :: A, b :: B, h, x => by simp at h
  | n + 1, a :: A, b :: B, h, x => by
    simp only [List.length_cons] at h
    have i1 := mrg_mem n (a :: A) B (by simp only [List.length_cons]; omega) x
    have i2 := mrg_mem n A (b :: B) (by simp only [List.length_cons]; omega) x
    rw [mrg_cons]
    split
    · rw [List.mem_cons, i1]; simp only [List.mem_cons]; constructor
      · rintro (h | h | h)
        · exact .inr (.inl h)
        · exact .inl h
        · exact .inr (.inr h)
      · rintro (h | h | h)
        · exact .inr (.inl h)
        · exact .inl h
        · exact .inr (.inr h)
    · rw [List.mem_cons, i2]; simp only [List.mem_cons]; constructor
      · rintro (h | h | h)
        · exact .inl (.inl h)
        · exact .inl (.inr h)
        · exact .inr h
      · rintro ((h | h) | h)
        · exact .inl h
        · exact .inr (.inl h)
        · exact .inr (.inr h)
theorem mrg_srt (hw : Wk lt) : ∀ (n : Nat) (A B : List α), A.length + B.length ≤ n → Srt lt A → Srt lt B → Srt lt (mrg lt A B)
  | n, [], B, _, _, h => by rw [mrg_nil]; exact h
  | n, a :: A, [], _, h, _ => by rw [mrg_nilR]; exact h
  | 0, a :: A, b :: B, h, _, _ => by simp at h
  | n + 1, a :: A, b :: B, h, hA, hB => by
    simp only [List.length_cons] at h
    have hA' := List.pairwise_cons.1 hA
    have hB' := List.pairwise_cons.1 hB
    rw [mrg_cons]
    split
    · rename_i hba
      refine List.pairwise_cons.2 ⟨fun x hx => ?_, mrg_srt hw n (a :: A) B (by simp only [List.length_cons]; omega) hA hB'.2⟩
      rcases (mrg_mem _ _ _ (Nat.le_refl _) x).1 hx with hx | hx
      · rcases List.mem_cons.1 hx with rfl | hx
        · cases hxb : lt x b with
          | false => rfl
          | true => have := hw.tr _ _ _ hxb hba; rw [hw.irr] at this; cases this
        · cases hxb : lt x b with
          | false => rfl
          | true => have := hw.tr _ _ _ hxb hba; rw [hA'.1 x hx] at this; cases this
      · exact hB'.1 x hx
    · rename_i hba
      refine List.pairwise_cons.2 ⟨fun x hx => ?_, mrg_srt hw n A (b :: B) (by simp only [List.length_cons]; omega) hA'.2 hB⟩
      rcases (mrg_mem _ _ _ (Nat.le_refl _) x).1 hx with hx | hx
      · exact hA'.1 x hx
      · rcases List.mem_cons.1 hx with rfl | hx
        · simpa using hba
        · cases hxa : lt x a with
          | false => rfl
          | true =>
            rcases hw.nt _ b _ hxa with h1 | h1
            · rw [hB'.1 x hx] at h1; cases h1
            · exact absurd h1 hba
theorem stab_srt (hw : Wk lt) : ∀ l : List α, Srt lt (stab lt l) := by
  intro l
  induction h : l.length generalizing l with
  | zero => obtain rfl := List.length_eq_zero_iff.1 h; exact List.Pairwise.nil
  | succ n ih =>
    have hne : l ≠ [] := by rintro rfl; cases h
    rw [← List.dropLast_concat_getLast hne, stab_snoc]
    exact mrg_srt hw _ _ _ (Nat.le_refl _) (ih _ (by simp; omega)) (List.pairwise_singleton _ _)
/-- one element merged in from behind: behind all that it is not before -/
theorem mrg_one {P Q : List α} {x : α} (hP : ∀ p ∈ P, lt x p = false) (hQ : ∀ q, Q.head? = some q → lt x q = true) : mrg lt (P ++ Q) [x] = P ++ x :: Q := by
  induction P with
  | nil =>
    cases Q with
    | nil => rw [List.nil_append, mrg_nil]; rfl
    | cons q Q => rw [List.nil_append, mrg_cons, if_pos (hQ q rfl), mrg_nilR]; rfl
  | cons p P ih =>
    rw [List.cons_append, mrg_cons, if_neg (by rw [hP p List.mem_cons_self]; simp), ih fun p hp => hP p (List.mem_cons_of_mem _ hp)]
    rfl
/-- one element merged in from ahead: behind all that are before it -/
theorem one_mrg {P Q : List α} {x : α} (hP : ∀ p ∈ P, lt p x = true) (hQ : ∀ q, Q.head? = some q → lt q x = false) : mrg lt [x] (P ++ Q) = P ++ x :: Q := by
  induction P with
  | nil =>
    cases Q with
    | nil => rw [List.nil_append, mrg_nilR]; rfl
    | cons q Q => rw [List.nil_append, mrg_cons, if_neg (by rw [hQ q rfl]; simp), mrg_nil]; rfl
  | cons p P ih =>
    rw [List.cons_append, mrg_cons, if_pos (hP p List.mem_cons_self), ih fun p hp => hP p (List.mem_cons_of_mem _ hp)]
    rfl
theorem srt_at {l : List α} (h : Srt lt l) (hw : Wk lt) {i j : Nat} {x y : α} (hi : l[i]? = some x) (hj : l[j]? = some y) (hij : i ≤ j) : lt y x = false := by
  obtain ⟨h1, rfl⟩ := List.getElem?_eq_some_iff.1 hi
  obtain ⟨h2, rfl⟩ := List.getElem?_eq_some_iff.1 hj
  rcases Nat.eq_or_lt_of_le hij with rfl | h3
  · exact hw.irr _
  · exact List.pairwise_iff_getElem.1 h i j h1 h2 h3
/-- where a search in both halves ends, the merge falls apart -/
theorem sym_split (hw : Wk lt) {L R : List α} (hL : Srt lt L) (hR : Srt lt R) {s k : Nat} (h1 : ∀ x y, 0 < k → R[k - 1]? = some x → L[s]? = some y → lt x y = true) (h2 : ∀ x y, 0 < s → R[k]? = some x → L[s - 1]? = some y → lt x y = false)
    (hs : s ≤ L.length) (hk : k ≤ R.length) : mrg lt L R = mrg lt (L.take s) (R.take k) ++ mrg lt (L.drop s) (R.drop k) := by
  have h := mrg_split lt _ (L.take s) (R.take k) (L.drop s) (R.drop k) (Nat.le_refl _) (fun r hr l hl => ?_) (fun l hl r hr => ?_)
  · rwa [List.take_append_drop, List.take_append_drop] at h
  · obtain ⟨i, hi⟩ := List.getElem?_of_mem hr
    obtain ⟨j, hj⟩ := List.getElem?_of_mem hl
    have hik : i < k := by have := (List.getElem?_eq_some_iff.1 hi).1; rw [List.length_take] at this; omega
    rw [List.getElem?_take_of_lt hik] at hi
    rw [List.getElem?_drop] at hj
    have hjl := (List.getElem?_eq_some_iff.1 hj).1
    have hx := List.getElem?_eq_getElem (show k - 1 < R.length by omega)
    have hy := List.getElem?_eq_getElem (show s < L.length by omega)
    have h3 := h1 _ _ (by omega) hx hy
    have h4 := srt_at hR hw hi hx (by omega)
    have h5 := srt_at hL hw hy hj (by omega)
    have h6 : lt r (L[s]'(by omega)) = true := by
      rcases hw.nt _ r _ h3 with h | h
      · rw [h4] at h; cases h
      · exact h
    rcases hw.nt _ l _ h6 with h | h
    · exact h
    · rw [h5] at h; cases h
  · obtain ⟨i, hi⟩ := List.getElem?_of_mem hl
    obtain ⟨j, hj⟩ := List.getElem?_of_mem hr
    have his : i < s := by have := (List.getElem?_eq_some_iff.1 hi).1; rw [List.length_take] at this; omega
    rw [List.getElem?_take_of_lt his] at hi
    rw [List.getElem?_drop] at hj
    have hjl := (List.getElem?_eq_some_iff.1 hj).1
    have hx := List.getElem?_eq_getElem (show k < R.length by omega)
    have hy := List.getElem?_eq_getElem (show s - 1 < L.length by omega)
    have h3 := h2 _ _ (by omega) hx hy
    have h4 := srt_at hR hw hx hj (by omega)
    have h5 := srt_at hL hw hi hy (by omega)
    cases hrl : lt r l with
    | false => rfl
    | true =>
      rcases hw.nt _ (R[k]'(by omega)) _ hrl with h | h
      · rw [h4] at h; cases h
      · rcases hw.nt _ (L[s - 1]'(by omega)) _ h with h | h
        · rw [h3] at h; cases h
        · rw [h5] at h; cases h
end
section
variable {α : Type} (lt : α → α → Bool)
/-- each block of n put in order by itself -/
def blk (n : Nat) : Nat → List α → List α
  | 0, l => l
  | f + 1, l => if l.length ≤ n then stab lt l else stab lt (l.take n) ++ blk n f (l.drop n)
theorem blk_short {n f : Nat} {l : List α} (h : l.length ≤ n) : blk lt n (f + 1) l = stab lt l := by rw [blk, if_pos h]
theorem blk_long {n f : Nat} {l : List α} (h : n < l.length) : blk lt n (f + 1) l = stab lt (l.take n) ++ blk lt n f (l.drop n) := by rw [blk, if_neg (by omega)]
theorem blk_nil (n : Nat) : ∀ f, blk lt n f [] = []
  | 0 => rfl
  | f + 1 => by rw [blk_short lt (Nat.zero_le _)]; rfl
theorem blk_len {n : Nat} : ∀ {f : Nat} {l : List α}, (blk lt n f l).length = l.length
  | 0, l => rfl
  | f + 1, l => by
    rw [blk]
    split
    · exact stab_len lt l
    · rw [List.length_append, stab_len, blk_len, List.length_take, List.length_drop]; omega
theorem blk_fuel {n : Nat} (hn : 0 < n) : ∀ {f g : Nat} {l : List α}, l.length < f → l.length < g → blk lt n f l = blk lt n g l
  | 0, g, l, h, _ => by omega
  | f + 1, 0, l, _, h => by omega
  | f + 1, g + 1, l, h1, h2 => by
    rw [blk, blk]
    split
    · rfl
    · rw [blk_fuel hn (f := f) (g := g) (l := l.drop n) (by rw [List.length_drop]; omega) (by rw [List.length_drop]; omega)]
/-- two blocks merged are a block of twice their size -/
theorem blk_two (hw : Wk lt) {n : Nat} (l : List α) : mrg lt (stab lt (l.take n)) (stab lt ((l.drop n).take n)) = stab lt (l.take (2 * n)) := by
  have e : l.take (2 * n) = l.take n ++ (l.drop n).take n := by
    rw [show 2 * n = n + n by omega, List.take_add]
  rw [e, stab_append lt hw]
end
end Go.Proofs.YtbboadheacmddaaGreatDoor

namespace Go.Proofs.YtbboadheacmddaaGreatDoor
section
variable {α : Type} {enc : α → List Cell}
theorem set_ne {β : Type} {l : List β} {i j : Nat} {y z : β} (h : l[j]? = some y) (hij : i ≠ j) : (l.set i z)[j]? = some y := by rw [List.getElem?_set_ne hij, h]
theorem set_two : ∀ (U : List α) (p x : α) (V : List α), ((U ++ p :: x :: V).set (U.length + 1) p).set U.length x = U ++ x :: p :: V
  | [], _, _, _ => rfl
  | u :: U, p, x, V => by
    rw [List.cons_append, List.length_cons, List.set_cons_succ, List.set_cons_succ, set_two U p x V]; rfl
theorem set_two' : ∀ (U : List α) (p x : α) (V : List α), ((U ++ p :: x :: V).set U.length x).set (U.length + 1) p = U ++ x :: p :: V
  | [], _, _, _ => rfl
  | u :: U, p, x, V => by
    rw [List.cons_append, List.length_cons, List.set_cons_succ, List.set_cons_succ, set_two' U p x V]; rfl
/-- the elements while x travels: m of S are ahead of it -/
def insL (X S R : List α) (x : α) (m : Nat) : List α := X ++ (S.take m ++ x :: (S.drop m ++ R))
theorem insL_split {X S R : List α} {x p : α} {m : Nat} (hm : S[m]? = some p) :
    insL X S R x (m + 1) = (X ++ S.take m) ++ p :: x :: (S.drop (m + 1) ++ R) ∧ insL X S R x m = (X ++ S.take m) ++ x :: p :: (S.drop (m + 1) ++ R) ∧ (X ++ S.take m).length = X.length + m := by
  have hl := (List.getElem?_eq_some_iff.1 hm).1
  have e1 : S.take (m + 1) = S.take m ++ [p] := by rw [List.take_add_one, hm]; rfl
  have e2 : S.drop m = p :: S.drop (m + 1) := by rw [List.drop_eq_getElem_cons hl]; congr 1; exact (List.getElem?_eq_some_iff.1 hm).2
  refine ⟨?_, ?_, by rw [List.length_append, List.length_take]; omega⟩
  · rw [insL, e1]; simp
  · rw [insL, e2]; simp
/-- x goes one place down: the places written from above -/
theorem insSwap {X S R : List α} {x p : α} {m : Nat} (hm : S[m]? = some p) :
    (((insL X S R x (m + 1)).map enc).set (X.length + (m + 1)) (enc p)).set (X.length + m) (enc x) = (insL X S R x m).map enc := by
  obtain ⟨e1, e2, hlen⟩ := insL_split (X := X) (R := R) (x := x) hm
  rw [e1, e2, ← List.map_set, ← List.map_set]
  congr 1
  have h := set_two (X ++ S.take m) p x (S.drop (m + 1) ++ R)
  rw [hlen, Nat.add_assoc] at h
  exact h
/-- x goes one place up: the places written from below -/
theorem insUp {X S R : List α} {x p : α} {m : Nat} (hm : S[m]? = some p) :
    (((insL X S R x m).map enc).set (X.length + m) (enc p)).set (X.length + m + 1) (enc x) = (insL X S R x (m + 1)).map enc := by
  obtain ⟨e1, e2, hlen⟩ := insL_split (X := X) (R := R) (x := x) hm
  rw [e1, e2, ← List.map_set, ← List.map_set]
  congr 1
  have h := set_two' (X ++ S.take m) x p (S.drop (m + 1) ++ R)
  rw [hlen] at h
  exact h
theorem insL_at {X S R : List α} {x : α} {m : Nat} (hm : m ≤ S.length) : (insL X S R x m)[X.length + m]? = some x := by
  rw [insL, ← List.append_assoc, List.getElem?_append_right (by simp; omega)]
  have : X.length + m - (X ++ S.take m).length = 0 := by simp; omega
  rw [this]; rfl
theorem insL_pre {X S R : List α} {x p : α} {m : Nat} (hm : S[m]? = some p) : (insL X S R x (m + 1))[X.length + m]? = some p := by
  have hl := (List.getElem?_eq_some_iff.1 hm).1
  rw [insL, List.getElem?_append_right (by omega), Nat.add_sub_cancel_left, List.getElem?_append_left (by simp; omega), List.getElem?_take_of_lt (by omega)]
  exact hm
theorem insL_post {X S R : List α} {x p : α} {m : Nat} (hm : S[m]? = some p) : (insL X S R x m)[X.length + m + 1]? = some p := by
  obtain ⟨_, e2, hlen⟩ := insL_split (X := X) (R := R) (x := x) hm
  rw [e2, List.getElem?_append_right (by omega), show X.length + m + 1 - (X ++ S.take m).length = 1 by omega]
  rfl
theorem insL_len {X S R : List α} {x : α} {m : Nat} : (insL X S R x m).length = X.length + S.length + 1 + R.length := by
  simp [insL]; omega
theorem insL_zero {X S R : List α} {x : α} : insL X S R x 0 = X ++ (x :: (S ++ R)) := by simp [insL]
theorem insL_all {X S R : List α} {x : α} {m : Nat} (h : S.length ≤ m) : insL X S R x m = X ++ (S ++ x :: R) := by
  rw [insL, List.take_of_length_le h, List.drop_of_length_le h]; simp
theorem ins_stop {lt : α → α → Bool} (hw : Wk lt) {X S R : List α} {x : α} {m : Nat} (hS : Srt lt S) (hd : ∀ t ∈ S.drop m, lt x t = true) (hm : m ≤ S.length) (hp : ∀ p, 0 < m → S[m - 1]? = some p → lt x p = false) :
    insL X S R x m = X ++ (mrg lt S [x] ++ R) := by
  have h := mrg_one (lt := lt) (P := S.take m) (Q := S.drop m) (x := x) (fun q hq => ?_) (fun q hq => hd q (List.mem_of_mem_head? (by rw [hq]; exact rfl)))
  · rw [List.take_append_drop] at h
    rw [h, insL]; simp
  · obtain ⟨i, hi⟩ := List.getElem?_of_mem hq
    have him : i < m := by have := (List.getElem?_eq_some_iff.1 hi).1; rw [List.length_take] at this; omega
    rw [List.getElem?_take_of_lt him] at hi
    have hx := List.getElem?_eq_getElem (show m - 1 < S.length by omega)
    have h1 := hp _ (by omega) hx
    have h2 := srt_at hS hw hi hx (by omega)
    cases hxq : lt x q with
    | false => rfl
    | true =>
      rcases hw.nt _ (S[m - 1]'(by omega)) _ hxq with h | h
      · rw [h1] at h; cases h
      · rw [h2] at h; cases h
/-- where a search from above ends, x may be merged in from behind -/
theorem ins_find {lt : α → α → Bool} (hw : Wk lt) {S : List α} {x : α} {m : Nat} (hS : Srt lt S) (hm : m ≤ S.length) (hp : ∀ p, 0 < m → S[m - 1]? = some p → lt x p = false) (hq : ∀ q, S[m]? = some q → lt x q = true) :
    mrg lt S [x] = S.take m ++ x :: S.drop m := by
  have h := ins_stop hw (X := []) (R := []) hS (fun t ht => ?_) hm hp
  · rw [insL] at h; simpa using h.symm
  · obtain ⟨i, hi⟩ := List.getElem?_of_mem ht
    rw [List.getElem?_drop] at hi
    have hl := (List.getElem?_eq_some_iff.1 hi).1
    have hy := List.getElem?_eq_getElem (show m < S.length by omega)
    have h1 := hq _ hy
    have h2 := srt_at hS hw hy hi (by omega)
    rcases hw.nt _ t _ h1 with h | h
    · exact h
    · rw [h2] at h; cases h
/-- where a search from below ends, x may be merged in from ahead -/
theorem one_find {lt : α → α → Bool} (hw : Wk lt) {S : List α} {x : α} {m : Nat} (hS : Srt lt S) (hm : m ≤ S.length) (hp : ∀ p, 0 < m → S[m - 1]? = some p → lt p x = true) (hq : ∀ q, S[m]? = some q → lt q x = false) :
    mrg lt [x] S = S.take m ++ x :: S.drop m := by
  have h := one_mrg (lt := lt) (P := S.take m) (Q := S.drop m) (x := x) (fun p hp' => ?_) (fun q hq' => hq q ?_)
  · rwa [List.take_append_drop] at h
  · obtain ⟨i, hi⟩ := List.getElem?_of_mem hp'
    have him : i < m := by have := (List.getElem?_eq_some_iff.1 hi).1; rw [List.length_take] at this; omega
    rw [List.getElem?_take_of_lt him] at hi
    have hx := List.getElem?_eq_getElem (show m - 1 < S.length by omega)
    have h1 := hp _ (by omega) hx
    have h2 := srt_at hS hw hi hx (by omega)
    rcases hw.nt _ p _ h1 with h | h
    · rw [h2] at h; cases h
    · exact h
  · rw [List.head?_drop] at hq'; exact hq'

/-- two ranges A and B of one length, k of their elements exchanged -/
def swL (X A M B Y : List α) (k : Nat) : List α := X ++ (mix B A k ++ (M ++ (mix A B k ++ Y)))
theorem swL_zero {X A M B Y : List α} : swL X A M B Y 0 = X ++ (A ++ (M ++ (B ++ Y))) := by simp [swL, mix_zero]
theorem swL_all {X A M B Y : List α} (h : B.length = A.length) : swL X A M B Y A.length = X ++ (B ++ (M ++ (A ++ Y))) := by
  rw [swL, mix_all (Nat.le_refl _) (by omega), mix_all (by omega) (Nat.le_refl _)]
section
variable {X A M B Y : List α} {k : Nat} {p q : α}
theorem swL_len (h : B.length = A.length) : (swL X A M B Y k).length = X.length + A.length + M.length + A.length + Y.length := by
  simp only [swL, List.length_append, mix_len h, mix_len h.symm]; omega
theorem swL_a (h : B.length = A.length) (hp : A[k]? = some p) : (swL X A M B Y k)[X.length + k]? = some p := by
  have hl := (List.getElem?_eq_some_iff.1 hp).1
  rw [swL, List.getElem?_append_right (by omega), Nat.add_sub_cancel_left, List.getElem?_append_left (by rw [mix_len h]; omega)]
  exact mix_at h hp
theorem swL_b (h : B.length = A.length) (hq : B[k]? = some q) : (swL X A M B Y k)[X.length + A.length + M.length + k]? = some q := by
  have hl := (List.getElem?_eq_some_iff.1 hq).1
  rw [swL, List.getElem?_append_right (by omega), List.getElem?_append_right (by rw [mix_len h]; omega), List.getElem?_append_right (by rw [mix_len h]; omega),
    List.getElem?_append_left (by rw [mix_len h, mix_len h.symm]; omega)]
  rw [mix_len h, show X.length + A.length + M.length + k - X.length - A.length - M.length = k by omega]
  exact mix_at h.symm hq
theorem swL_set (h : B.length = A.length) (hp : A[k]? = some p) (hq : B[k]? = some q) :
    (((swL X A M B Y k).map enc).set (X.length + k) (enc q)).set (X.length + A.length + M.length + k) (enc p) = (swL X A M B Y (k + 1)).map enc := by
  have hl := (List.getElem?_eq_some_iff.1 hp).1
  rw [← List.map_set, ← List.map_set]
  congr 1
  have e1 : (swL X A M B Y k).set (X.length + k) q = X ++ (mix B A (k + 1) ++ (M ++ (mix A B k ++ Y))) := by
    rw [swL, List.set_append_right _ _ (by omega), Nat.add_sub_cancel_left, List.set_append_left _ _ (by rw [mix_len h]; omega), mix_set h hq]
  rw [e1, List.set_append_right _ _ (by omega), List.set_append_right _ _ (by rw [mix_len h]; omega), List.set_append_right _ _ (by rw [mix_len h]; omega), List.set_append_left _ _ (by rw [mix_len h, mix_len h.symm]; omega)]
  rw [mix_len h, show X.length + A.length + M.length + k - X.length - A.length - M.length = k by omega, mix_set h.symm hp, swL]
end
theorem split_len {l : List α} {n : Nat} (h : n ≤ l.length) : ∃ A B, l = A ++ B ∧ A.length = n ∧ B.length = l.length - n :=
  ⟨l.take n, l.drop n, (List.take_append_drop n l).symm, by rw [List.length_take]; omega, List.length_drop⟩
theorem take_len {l : List α} {n : Nat} (h : n ≤ l.length) : (l.take n).length = n := by rw [List.length_take]; omega
theorem srt_take {lt : α → α → Bool} {l : List α} (h : Srt lt l) (n : Nat) : Srt lt (l.take n) := List.Pairwise.sublist (List.take_sublist n l) h
theorem srt_drop {lt : α → α → Bool} {l : List α} (h : Srt lt l) (n : Nat) : Srt lt (l.drop n) := List.Pairwise.sublist (List.drop_sublist n l) h
/-- places of a list of four parts -/
theorem at_A {X A B Y : List α} {i : Nat} (h : i < A.length) : (X ++ (A ++ (B ++ Y)))[X.length + i]? = A[i]? := by
  rw [List.getElem?_append_right (by omega), Nat.add_sub_cancel_left, List.getElem?_append_left h]
theorem at_B {X A B Y : List α} {i : Nat} (h : i < B.length) : (X ++ (A ++ (B ++ Y)))[X.length + A.length + i]? = B[i]? := by
  rw [List.getElem?_append_right (by omega), List.getElem?_append_right (by omega), List.getElem?_append_left (by omega), show X.length + A.length + i - X.length - A.length = i by omega]
theorem stab_mem (lt : α → α → Bool) (l : List α) : ∀ x, x ∈ stab lt l ↔ x ∈ l := by
  induction h : l.length generalizing l with
  | zero => obtain rfl := List.length_eq_zero_iff.1 h; intro x; rfl
  | succ n ih =>
    have hne : l ≠ [] := by rintro rfl; cases h
    intro x
    have hd := ih l.dropLast (by simp; omega) x
    have e := List.dropLast_concat_getLast hne
    rw [← e, stab_snoc, mrg_mem _ _ _ (Nat.le_refl _), hd, List.mem_append]
section
variable (lt : α → α → Bool)
/-- each block of n in order by itself -/
theorem blk_app {n : Nat} : ∀ {k f g : Nat} {A B : List α}, 0 < n → A.length = k * n → A.length < f → B.length < g → A.length + B.length < f → blk lt n f (A ++ B) = blk lt n f A ++ blk lt n g B
  | 0, f, g, A, B, hn, hA, hf, hg, h => by
    obtain rfl : A = [] := List.length_eq_zero_iff.1 (by simpa using hA)
    rw [List.nil_append, blk_nil, List.nil_append]
    exact blk_fuel lt hn (by simpa using h) hg
  | k + 1, 0, g, A, B, hn, hA, hf, hg, h => by omega
  | k + 1, f + 1, g, A, B, hn, hA, hf, hg, h => by
    rw [Nat.succ_mul] at hA
    by_cases hB : B = []
    · subst hB
      rw [List.append_nil, blk_nil, List.append_nil]
    have hBl : 0 < B.length := List.length_pos_iff.2 hB
    rw [blk_long lt (show n < (A ++ B).length by rw [List.length_append]; omega), List.take_append_of_le_length (by omega), List.drop_append_of_le_length (by omega)]
    rw [blk_app (k := k) (g := g) hn (by rw [List.length_drop]; omega) (by rw [List.length_drop]; omega) hg (by rw [List.length_drop]; omega), ← List.append_assoc]
    congr 1
    by_cases hk : A.length = n
    · rw [blk_short lt (Nat.le_of_eq hk), List.drop_of_length_le (Nat.le_of_eq hk), blk_nil, List.append_nil, List.take_of_length_le (Nat.le_of_eq hk)]
    · rw [blk_long lt (l := A) (by omega)]
variable {lt}
theorem blk_head {n f : Nat} {l : List α} (hn : 0 < n) (h : n ≤ l.length) (hf : l.length < f) : blk lt n f l = stab lt (l.take n) ++ blk lt n f (l.drop n) := by
  have h1 := blk_app lt (n := n) (k := 1) (f := f) (g := f) (A := l.take n) (B := l.drop n) hn (by rw [take_len h]; omega) (by rw [take_len h]; omega) (by rw [List.length_drop]; omega) (by rw [take_len h, List.length_drop]; omega)
  rw [List.take_append_drop] at h1
  obtain ⟨f, rfl⟩ : ∃ g, f = g + 1 := ⟨f - 1, by omega⟩
  rw [h1, blk_short lt (l := l.take n) (by rw [take_len h]; exact Nat.le_refl _)]
/-- one more block behind k of them -/
theorem blk_next {n f k : Nat} {l : List α} {a : Nat} (hn : 0 < n) (ha : a = k * n) (h : a + n ≤ l.length) (hf : l.length < f) : blk lt n f (l.take (a + n)) = blk lt n f (l.take a) ++ stab lt ((l.drop a).take n) := by
  have hd : (l.drop a).length = l.length - a := List.length_drop
  rw [List.take_add, blk_app lt (k := k) (g := f) hn (by rw [take_len (by omega)]; exact ha) (by rw [take_len (by omega)]; omega) (by rw [take_len (by omega)]; omega) (by rw [take_len (by omega), take_len (by omega)]; omega)]
  obtain ⟨f, rfl⟩ : ∃ g, f = g + 1 := ⟨f - 1, by omega⟩
  rw [blk_short lt (l := (l.drop a).take n) (by rw [take_len (by omega)]; exact Nat.le_refl _)]
/-- the last block behind k of them -/
theorem blk_last {n f k : Nat} {l : List α} {a : Nat} (hn : 0 < n) (ha : a = k * n) (h : a ≤ l.length) (h2 : l.length ≤ a + n) (hf : l.length < f) : blk lt n f l = blk lt n f (l.take a) ++ stab lt (l.drop a) := by
  have hd : (l.drop a).length = l.length - a := List.length_drop
  have e := blk_app lt (n := n) (k := k) (f := f) (g := f) (A := l.take a) (B := l.drop a) hn (by rw [take_len h]; exact ha) (by rw [take_len h]; omega) (by omega) (by rw [take_len h]; omega)
  rw [List.take_append_drop] at e
  obtain ⟨f, rfl⟩ : ∃ g, f = g + 1 := ⟨f - 1, by omega⟩
  rw [e, blk_short lt (l := l.drop a) (by omega)]
theorem blk_mem {n : Nat} : ∀ {f : Nat} {l : List α} (x : α), x ∈ blk lt n f l ↔ x ∈ l
  | 0, l, x => Iff.rfl
  | f + 1, l, x => by
    rw [blk]
    split
    · exact stab_mem lt l x
    · rw [List.mem_append, stab_mem, blk_mem, ← List.mem_append, List.take_append_drop]
end
end
end Go.Proofs.YtbboadheacmddaaGreatDoor

namespace Go.Proofs.YtbboadheacmddaaGreatDoor
open Go Go.RowKit
theorem half_u (a b : Nat) (h : a + b ≤ 1000000000000) : IntKind.u64.wrap (((a : Nat) : Int) + ((b : Nat) : Int)) = ((a + b : Nat) : Int) := by
  show (((a : Nat) : Int) + ((b : Nat) : Int)) % 18446744073709551616 = _
  omega
theorem half_shr (a : Nat) : ((a : Nat) : Int) / 2 ^ (min (1 : Int).toNat IntKind.u64.bits) = ((a / 2 : Nat) : Int) := by
  show ((a : Nat) : Int) / 2 = _
  omega
theorem half_i (a : Nat) (h : a ≤ 1000000000000) : IntKind.i64.wrap ((a : Nat) : Int) = ((a : Nat) : Int) := IntWalk.i64_in _ (by omega)
end Go.Proofs.YtbboadheacmddaaGreatDoor
