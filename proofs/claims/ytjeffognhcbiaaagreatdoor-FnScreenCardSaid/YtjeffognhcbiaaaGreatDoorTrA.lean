/- Atoms and their notations: the atom is found again, both ways. Plain lists. -/
import Derived.Test.YtjeffognhcbiaaaGreatDoorDcD
import Derived.Test.YtjeffognhcbiaaaGreatDoorSplL
import Derived.Lib.SlTrimSet
namespace Go.Proofs.YtjeffognhcbiaaaGreatDoor
open Go Go.RowKit
def kS (m : List UInt8) (c d : UInt8) : Atm :=
  if m = [45, 124] then ⟨8, []⟩ else if m = [62] then ⟨9, []⟩ else if m = [42, 45, 124] then ⟨10, []⟩
  else if m = [46] then ⟨6, m⟩ else if m = [33] then ⟨6, m⟩ else if m = [63] then ⟨6, m⟩
  else if m = [44] then ⟨7, m⟩ else if m = [59] then ⟨7, m⟩ else if m = [58] then ⟨7, m⟩
  else if (c.toNat : Int) = 38 then ⟨5, m.drop 1⟩
  else if (c.toNat : Int) = 94 ∧ (d.toNat : Int) = 94 ∧ 2 < m.length then ⟨4, (m.drop 1).take (m.length - 1 - 1)⟩
  else if (c.toNat : Int) = 94 then ⟨2, m.drop 1⟩
  else if (d.toNat : Int) = 94 then ⟨3, m.take (m.length - 1)⟩
  else ⟨0, []⟩
def inn (s : List UInt8) : List UInt8 := (s.drop 1).take (s.length - 1 - 1)
def hd0 (m : List UInt8) : UInt8 := (m[0]?).getD 0
def lst (m : List UInt8) : UInt8 := (m[m.length - 1]?).getD 0
def wJ (s : List UInt8) : Atm :=
  if s.length < 3 then ⟨1, s⟩ else if ¬ ((hd0 s).toNat : Int) = 123 then ⟨1, s⟩ else if ¬ ((lst s).toNat : Int) = 125 then ⟨1, s⟩ else kS (inn s) (hd0 (inn s)) (lst (inn s))
def hit (s : List UInt8) (a : Atm) : Bool := x6 a && decide (vB a = s)
def okA (s : List UInt8) : Bool := hit s (wJ s)
def csA : List UInt8 := [123, 125, 94, 38]
theorem okC_ne {b : UInt8} (h : okC b = true) : b ≠ 123 ∧ b ≠ 125 ∧ b ≠ 94 ∧ b ≠ 38 ∧ b ≠ 32 := by
  refine ⟨?_, ?_, ?_, ?_, ?_⟩ <;> (intro e; subst e; revert h; decide)
theorem qO {t : List UInt8} (h : vC t = true) : 1 ≤ t.length ∧ t.length ≤ 20 ∧ ∀ b ∈ t, okC b = true := by
  rw [vC, Bool.and_eq_true, inZ, decide_eq_true_iff] at h
  exact ⟨by omega, by omega, List.all_eq_true.1 h.1⟩
theorem toI {b : UInt8} {n : Nat} (hn : n < 256) : ((b.toNat : Int) = n) ↔ b = UInt8.ofNat n := by
  constructor
  · intro h
    apply UInt8.toNat_inj.1
    rw [UInt8.toNat_ofNat_of_lt' (by simpa using hn)]
    omega
  · rintro rfl
    rw [UInt8.toNat_ofNat_of_lt' (by simpa using hn)]
theorem inn_of (a b : UInt8) (m : List UInt8) : inn (a :: (m ++ [b])) = m := by
  simp [inn]
theorem lst_snoc (m : List UInt8) (b : UInt8) : lst (m ++ [b]) = b := by simp [lst]
theorem lst_cons (a b : UInt8) (m : List UInt8) : lst (a :: (m ++ [b])) = b := by
  rw [← List.cons_append, lst_snoc]
theorem hd0_cons (a : UInt8) (m : List UInt8) : hd0 (a :: m) = a := rfl
theorem kindA_br (m : List UInt8) (h : 1 ≤ m.length) : wJ (123 :: (m ++ [125])) = kS m (hd0 m) (lst m) := by
  rw [wJ, if_neg (by simp; omega), if_neg (by rw [hd0_cons]; decide), if_neg (by rw [lst_cons]; decide), inn_of]
theorem word_hd {t : List UInt8} (h : vC t = true) : okC (hd0 t) = true := by
  obtain ⟨h1, _, h3⟩ := qO h
  obtain ⟨b, r, rfl⟩ : ∃ b r, t = b :: r := by cases t with | nil => simp at h1 | cons b r => exact ⟨b, r, rfl⟩
  exact h3 _ (by simp [hd0])
theorem word_lst {t : List UInt8} (h : vC t = true) : okC (lst t) = true := by
  obtain ⟨h1, _, h3⟩ := qO h
  have hlt : t.length - 1 < t.length := by omega
  rw [lst, List.getElem?_eq_getElem hlt]
  exact h3 _ (List.getElem_mem hlt)
theorem lst_app {t : List UInt8} (m : List UInt8) (h : 1 ≤ t.length) : lst (m ++ t) = lst t := by
  rw [lst, lst, List.getElem?_append_right (by simp; omega)]
  congr 2
  simp; omega
theorem specials {m : List UInt8} {c d : UInt8} (h1 : hd0 m = c) (h2 : lst m = d) (hc : c ≠ 45 ∧ c ≠ 62 ∧ c ≠ 42 ∧ c ≠ 46 ∧ c ≠ 33 ∧ c ≠ 63 ∧ c ≠ 44 ∧ c ≠ 59 ∧ c ≠ 58 ∨ d ≠ 124 ∧ d ≠ 62 ∧ d ≠ 46 ∧ d ≠ 33 ∧ d ≠ 63 ∧ d ≠ 44 ∧ d ≠ 59 ∧ d ≠ 58) :
    kS m c d = if (c.toNat : Int) = 38 then ⟨5, m.drop 1⟩
  else if (c.toNat : Int) = 94 ∧ (d.toNat : Int) = 94 ∧ 2 < m.length then ⟨4, (m.drop 1).take (m.length - 1 - 1)⟩
  else if (c.toNat : Int) = 94 then ⟨2, m.drop 1⟩
  else if (d.toNat : Int) = 94 then ⟨3, m.take (m.length - 1)⟩
  else ⟨0, []⟩ := by
  have ne : ∀ l : List UInt8, (hd0 l = c → lst l = d → False) → ¬ m = l := fun l hl e => hl (e ▸ h1) (e ▸ h2)
  rw [kS]
  rw [if_neg, if_neg, if_neg, if_neg, if_neg, if_neg, if_neg, if_neg, if_neg]
  all_goals
    refine ne _ fun e1 e2 => ?_
    subst e1 e2
    revert hc
    decide
theorem kind_fmt {a : Atm} (h : x6 a = true) : wJ (vB a) = a := by
  obtain ⟨k, t⟩ := a
  unfold x6 at h
  simp only at h
  by_cases h1 : k = 1
  · subst h1
    rw [if_pos rfl] at h
    have hh := okC_ne (word_hd h)
    rw [vB, if_pos rfl, wJ]
    split
    · rfl
    · rw [if_pos]
      intro e
      exact hh.1 ((toI (n := 123) (by omega)).1 e)
  rw [if_neg h1] at h
  by_cases h2 : k = 2
  · subst h2
    rw [if_pos rfl] at h
    have hw := qO h
    have hl := okC_ne (word_lst h)
    have e : vB ⟨2, t⟩ = 123 :: ((94 :: t) ++ [125]) := by simp [vB]
    have e2 : lst (94 :: t) = lst t := lst_app [94] hw.1
    rw [e, kindA_br _ (by simp), hd0_cons, e2, specials (c := 94) rfl e2 (.inl (by decide)), if_neg (by decide), if_neg (fun e : ((94 : UInt8).toNat : Int) = 94 ∧ ((lst t).toNat : Int) = 94 ∧ 2 < (94 :: t).length => hl.2.2.1 ((toI (n := 94) (by omega)).1 e.2.1)), if_pos (by decide)]
    rfl
  rw [if_neg h2] at h
  by_cases h3 : k = 3
  · subst h3
    rw [if_pos rfl] at h
    have hw := qO h
    have hh := okC_ne (word_hd h)
    have hn94 : ¬ ((hd0 t).toNat : Int) = 94 := fun e => hh.2.2.1 ((toI (n := 94) (by omega)).1 e)
    have e : vB ⟨3, t⟩ = 123 :: ((t ++ [94]) ++ [125]) := by simp [vB]
    have e2 : hd0 (t ++ [94]) = hd0 t := by
      cases t with
      | nil => simp at hw
      | cons b r => rfl
    rw [e, kindA_br _ (by simp), e2, lst_snoc, specials e2 (lst_snoc t 94) (.inr (by decide)), if_neg (fun e : ((hd0 t).toNat : Int) = 38 => hh.2.2.2.1 ((toI (n := 38) (by omega)).1 e)), if_neg (fun e : _ ∧ _ ∧ _ => hn94 e.1),
      if_neg hn94, if_pos (by decide)]
    simp
  rw [if_neg h3] at h
  by_cases h4 : k = 4
  · subst h4
    rw [if_pos rfl] at h
    have hw := qO h
    have e : vB ⟨4, t⟩ = 123 :: ((94 :: (t ++ [94])) ++ [125]) := by simp [vB]
    rw [e, kindA_br _ (by simp), hd0_cons, lst_cons, specials (c := 94) rfl (lst_cons 94 94 t) (.inl (by decide)), if_neg (by decide), if_pos ⟨by decide, by decide, by simp; omega⟩]
    simp
  rw [if_neg h4] at h
  by_cases h5 : k = 5
  · subst h5
    have e : vB ⟨5, t⟩ = 123 :: ((38 :: t) ++ [125]) := by simp [vB]
    rw [e, kindA_br _ (by simp), hd0_cons, specials (c := 38) rfl rfl (.inl (by decide)), if_pos (by decide)]
    rfl
  rw [if_neg h5] at h
  by_cases h6 : k = 6
  · subst h6
    rw [if_pos rfl] at h
    simp only [Bool.or_eq_true, decide_eq_true_iff] at h
    rcases h with (rfl | rfl) | rfl <;> rfl
  rw [if_neg h6] at h
  by_cases h7 : k = 7
  · subst h7
    rw [if_pos rfl] at h
    simp only [Bool.or_eq_true, decide_eq_true_iff] at h
    rcases h with (rfl | rfl) | rfl <;> rfl
  rw [if_neg h7] at h
  by_cases h8 : k = 8
  · subst h8
    rw [if_pos rfl, decide_eq_true_iff] at h
    subst h; rfl
  rw [if_neg h8] at h
  by_cases h9 : k = 9
  · subst h9
    rw [if_pos rfl, decide_eq_true_iff] at h
    subst h; rfl
  rw [if_neg h9] at h
  by_cases h10 : k = 10
  · subst h10
    rw [if_pos rfl, decide_eq_true_iff] at h
    subst h; rfl
  rw [if_neg h10] at h
  cases h
theorem hit_kind {s : List UInt8} {a : Atm} (h : hit s a = true) : wJ s = a ∧ okA s = true := by
  have h' := h
  rw [hit, Bool.and_eq_true, decide_eq_true_iff] at h'
  have e : wJ s = a := by rw [← h'.2]; exact kind_fmt h'.1
  exact ⟨e, by rw [okA, e]; exact h⟩
theorem drop_all {p : UInt8 → Bool} : ∀ {a b : List UInt8}, (∀ x ∈ a, p x = true) → (a ++ b).dropWhile p = b.dropWhile p
  | [], b, _ => rfl
  | x :: a, b, h => by
    rw [List.cons_append, List.dropWhile_cons, if_pos (h x (by simp))]
    exact drop_all fun y hy => h y (by simp [hy])
theorem drop_none {p : UInt8 → Bool} {a b : List UInt8} (h0 : a ≠ []) (h : ∀ x ∈ a, p x = false) : (a ++ b).dropWhile p = a ++ b := by
  cases a with
  | nil => exact absurd rfl h0
  | cons x a => rw [List.cons_append, List.dropWhile_cons, if_neg (by rw [h x (by simp)]; simp)]
theorem trim_mid {p t q : List UInt8} (hp : ∀ x ∈ p, csA.contains x = true) (hq : ∀ x ∈ q, csA.contains x = true) (h0 : t ≠ []) (ht : ∀ x ∈ t, csA.contains x = false) : Lib.trimS (p ++ t ++ q) csA = t := by
  unfold Lib.trimS Lib.trimRightS Lib.trimLeftS
  rw [List.reverse_append, drop_all (by simpa using hq), List.reverse_append, drop_none (by simpa using h0) (by simpa using ht)]
  simp only [List.reverse_append, List.reverse_reverse]
  rw [drop_all hp]
  have := drop_none (p := csA.contains) (b := []) h0 ht
  rwa [List.append_nil] at this
theorem word_cs {t : List UInt8} (h : vC t = true) : t ≠ [] ∧ ∀ x ∈ t, csA.contains x = false := by
  obtain ⟨h1, _, h3⟩ := qO h
  refine ⟨fun e => by subst e; simp at h1, fun x hx => ?_⟩
  obtain ⟨a, b, c, d, _⟩ := okC_ne (h3 x hx)
  simp [csA, a, b, c, d]
theorem good_trim {a : Atm} (h : x6 a = true) : (1 ≤ a.k ∧ a.k ≤ 10) ∧ (a.t = Lib.trimS (vB a) csA ∨ a.t = []) := by
  obtain ⟨k, t⟩ := a
  unfold x6 at h
  simp only at h
  have mid : ∀ p q, vC t = true → (∀ x ∈ p, csA.contains x = true) → (∀ x ∈ q, csA.contains x = true) → t = Lib.trimS (p ++ t ++ q) csA := fun p q hw h1 h2 => (trim_mid h1 h2 (word_cs hw).1 (word_cs hw).2).symm
  by_cases h1 : k = 1
  · subst h1
    rw [if_pos rfl] at h
    refine ⟨⟨by dsimp only; omega, by dsimp only; omega⟩, .inl ?_⟩
    have := mid [] [] h (by simp) (by simp)
    simpa [vB] using this
  rw [if_neg h1] at h
  by_cases h2 : k = 2
  · subst h2
    rw [if_pos rfl] at h
    exact ⟨⟨by dsimp only; omega, by dsimp only; omega⟩, .inl (mid [123, 94] [125] h (by decide) (by decide))⟩
  rw [if_neg h2] at h
  by_cases h3 : k = 3
  · subst h3
    rw [if_pos rfl] at h
    exact ⟨⟨by dsimp only; omega, by dsimp only; omega⟩, .inl (mid [123] [94, 125] h (by decide) (by decide))⟩
  rw [if_neg h3] at h
  by_cases h4 : k = 4
  · subst h4
    rw [if_pos rfl] at h
    exact ⟨⟨by dsimp only; omega, by dsimp only; omega⟩, .inl (mid [123, 94] [94, 125] h (by decide) (by decide))⟩
  rw [if_neg h4] at h
  by_cases h5 : k = 5
  · subst h5
    rw [if_pos rfl] at h
    exact ⟨⟨by dsimp only; omega, by dsimp only; omega⟩, .inl (mid [123, 38] [125] h (by decide) (by decide))⟩
  rw [if_neg h5] at h
  by_cases h6 : k = 6
  · subst h6
    rw [if_pos rfl] at h
    simp only [Bool.or_eq_true, decide_eq_true_iff] at h
    refine ⟨⟨by dsimp only; omega, by dsimp only; omega⟩, .inl ?_⟩
    rcases h with (rfl | rfl) | rfl <;> decide
  rw [if_neg h6] at h
  by_cases h7 : k = 7
  · subst h7
    rw [if_pos rfl] at h
    simp only [Bool.or_eq_true, decide_eq_true_iff] at h
    refine ⟨⟨by dsimp only; omega, by dsimp only; omega⟩, .inl ?_⟩
    rcases h with (rfl | rfl) | rfl <;> decide
  rw [if_neg h7] at h
  by_cases h8 : k = 8
  · subst h8
    rw [if_pos rfl, decide_eq_true_iff] at h
    exact ⟨⟨by dsimp only; omega, by dsimp only; omega⟩, .inr h⟩
  rw [if_neg h8] at h
  by_cases h9 : k = 9
  · subst h9
    rw [if_pos rfl, decide_eq_true_iff] at h
    exact ⟨⟨by dsimp only; omega, by dsimp only; omega⟩, .inr h⟩
  rw [if_neg h9] at h
  by_cases h10 : k = 10
  · subst h10
    rw [if_pos rfl, decide_eq_true_iff] at h
    exact ⟨⟨by dsimp only; omega, by dsimp only; omega⟩, .inr h⟩
  rw [if_neg h10] at h
  cases h
def noHit (s : List UInt8) (k : Nat) : Prop := ∀ j : Nat, 1 ≤ j → j < k → hit s ⟨j, Lib.trimS s csA⟩ = false ∧ hit s ⟨j, []⟩ = false
theorem noHit_end {s : List UInt8} (h : noHit s 11) : okA s = false := by
  cases ho : okA s with
  | false => rfl
  | true =>
    have ho' := ho
    rw [okA, hit, Bool.and_eq_true, decide_eq_true_iff] at ho'
    obtain ⟨hk, ht⟩ := good_trim ho'.1
    rw [ho'.2] at ht
    obtain ⟨n, hn⟩ : ∃ n : Nat, (wJ s).k = n := ⟨(wJ s).k.toNat, by omega⟩
    obtain ⟨h1, h2⟩ := h n (by omega) (by omega)
    rw [okA] at ho
    have e : wJ s = ⟨n, (wJ s).t⟩ := by rw [← hn]
    rcases ht with ht | ht
    · rw [ht] at e; rw [e, h1] at ho; cases ho
    · rw [ht] at e; rw [e, h2] at ho; cases ho
theorem good_len {a : Atm} (h : x6 a = true) : (vB a).length ≤ 24 ∧ a.t.length ≤ 20 := by
  have hl := (good_trim h).1
  obtain ⟨k, t⟩ := a
  unfold x6 at h
  unfold vB
  simp only at h hl ⊢
  have hc : k = 1 ∨ k = 2 ∨ k = 3 ∨ k = 4 ∨ k = 5 ∨ k = 6 ∨ k = 7 ∨ k = 8 ∨ k = 9 ∨ k = 10 := by omega
  rcases hc with rfl | rfl | rfl | rfl | rfl | rfl | rfl | rfl | rfl | rfl
  all_goals first
    | (have := qO (t := t) (by simpa using h); simp; omega)
    | (simp at h; rcases h with (rfl | rfl) | rfl <;> simp; done)
    | (simp at h; subst h; simp; done)
theorem okA_len {s : List UInt8} (h : okA s = true) : s.length ≤ 24 ∧ (wJ s).t.length ≤ 20 := by
  rw [okA, hit, Bool.and_eq_true, decide_eq_true_iff] at h
  have := good_len h.1
  rw [h.2] at this
  exact this
theorem spl_sum (b : UInt8) : ∀ l : List UInt8, ((spl b l).map List.length).sum + (spl b l).length = l.length + 1
  | [] => rfl
  | c :: r => by
    have ih := spl_sum b r
    rw [spl]
    split
    · simp only [List.map_cons, List.sum_cons, List.length_cons, List.length_nil]; omega
    · cases hs : spl b r with
      | nil => rw [hs] at ih; simp at ih
      | cons h t =>
        rw [hs] at ih
        simp only [joinHd, List.map_cons, List.sum_cons, List.length_cons, List.length_append, List.length_nil] at ih ⊢
        omega
def wds (s : List UInt8) : List (List UInt8) := spl 32 s
def vY (s : List UInt8) : Bool := decide (s.length ≤ 60) && (wds s).all okA && decide ((wds s).length ≤ 10)
def trL (s : List UInt8) : List Atm := (wds s).map wJ
theorem kinds_sum : ∀ {l : List (List UInt8)}, l.all okA = true → ((l.map wJ).map fun a => (vB a).length).sum = (l.map List.length).sum
  | [], _ => rfl
  | s :: l, h => by
    rw [List.all_cons, Bool.and_eq_true] at h
    have h1 := h.1
    rw [okA, hit, Bool.and_eq_true, decide_eq_true_iff] at h1
    simp only [List.map_cons, List.sum_cons, kinds_sum h.2, h1.2]
theorem list_tr {s : List UInt8} (h1 : s.length ≤ 60) (h2 : (wds s).all okA = true) : kU (trL s) = decide ((wds s).length ≤ 10) := by
  have hl := kB 32 s
  have hs := spl_sum 32 s
  have hk := kinds_sum h2
  have hg : (trL s).all x6 = true := by
    rw [List.all_eq_true] at h2 ⊢
    intro a ha
    obtain ⟨x, hx, rfl⟩ := List.mem_map.1 ha
    have := h2 x hx
    rw [okA, hit, Bool.and_eq_true] at this
    exact this.1
  have hn : (trL s).length = (wds s).length := List.length_map _
  have hln : lnA (trL s) (trL s).length = ((wds s).map List.length).sum := by rw [lnA, List.take_of_length_le (Nat.le_refl _)]; exact hk
  rw [kU, hg, hln, hn, Bool.and_true, inZ]
  have hw : wds s = spl 32 s := rfl
  by_cases h10 : (wds s).length ≤ 10
  · rw [decide_eq_true h10, decide_eq_true (by rw [hw] at h10 ⊢; omega), decide_eq_true (by rw [hw]; omega)]; rfl
  · rw [decide_eq_false h10, decide_eq_false (by omega)]; rfl
end Go.Proofs.YtjeffognhcbiaaaGreatDoor
