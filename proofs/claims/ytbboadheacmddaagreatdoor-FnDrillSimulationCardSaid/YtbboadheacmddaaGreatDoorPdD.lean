/- Both readings of a deck's text agree: plain Lean. No conditions. -/
import Derived.Test.YtbboadheacmddaaGreatDoorPdC
namespace Go.Proofs.YtbboadheacmddaaGreatDoor
open Go Go.RowKit
theorem dig_ofNat {k : Nat} (h : k < 10) : (UInt8.ofNat (48 + k)).toNat = 48 + k := by
  have : ∀ j : Fin 10, (UInt8.ofNat (48 + j.1)).toNat = 48 + j.1 := by decide
  exact this ⟨k, h⟩
theorem dig_dig {k : Nat} (h : k < 10) : dig (UInt8.ofNat (48 + k)) = true := by
  simp only [dig, dig_ofNat h, decide_eq_true_eq]; omega
theorem decN_snoc (l : List UInt8) (c : UInt8) : decN (l ++ [c]) = 10 * decN l + (c.toNat - 48) := by
  rw [decN, List.foldl_append]; rfl
theorem dec_all (n : Nat) : (Lib.decDigits n).all dig = true ∧ decN (Lib.decDigits n) = n ∧ Lib.decDigits n ≠ [] := by
  induction n using Nat.strongRecOn with
  | _ n ih =>
    rw [Lib.decDigits]
    split
    · rename_i h
      exact ⟨by rw [List.all_cons, dig_dig h]; rfl, by rw [decN, List.foldl_cons, List.foldl_nil, dig_ofNat h]; omega, by simp⟩
    · obtain ⟨h1, h2, h3⟩ := ih (n / 10) (by omega)
      have h4 : n % 10 < 10 := by omega
      refine ⟨by rw [List.all_append, h1, List.all_cons, dig_dig h4]; rfl, ?_, by simp⟩
      rw [decN_snoc, h2, dig_ofNat h4]
      omega
theorem dec_le : ∀ (k n : Nat), n < 10 ^ (k + 1) → (Lib.decDigits n).length ≤ k + 1
  | 0, n, h => by
    rw [Lib.decDigits, dif_pos (by simpa using h)]
    simp
  | k + 1, n, h => by
    rw [Lib.decDigits]
    split
    · simp
    · have := dec_le k (n / 10) (by rw [Nat.pow_succ] at h; omega)
      simp only [List.length_append, List.length_singleton]
      omega
theorem fold_ge : ∀ (l : List UInt8) (a : Nat), a ≤ l.foldl (fun n c => 10 * n + (c.toNat - 48)) a
  | [], a => Nat.le_refl _
  | c :: r, a => by
    have := fold_ge r (10 * a + (c.toNat - 48))
    rw [List.foldl_cons]
    omega
theorem uint_ok : ∀ (l : List UInt8) (a : Nat), l.all dig = true → l.foldl (fun n c => 10 * n + (c.toNat - 48)) a < 1000000000 → Lib.parseUint10 a l = .ok (l.foldl (fun n c => 10 * n + (c.toNat - 48)) a)
  | [], a, _, _ => rfl
  | c :: r, a, h, hb => by
    simp only [List.all_cons, Bool.and_eq_true] at h
    have hd := h.1
    simp only [dig, decide_eq_true_eq] at hd
    rw [List.foldl_cons] at hb ⊢
    have := fold_ge r (10 * a + (c.toNat - 48))
    have e : a * 10 + (c.toNat - 48) = 10 * a + (c.toNat - 48) := by omega
    rw [Lib.parseUint10, if_pos (by omega), if_neg (by omega), if_neg (by omega), e]
    exact uint_ok r _ h.2 hb
theorem atoi_dec {n : Nat} (h : n < 1000000000) : atoiV (Lib.decDigits n) = n := by
  obtain ⟨h1, h2, h3⟩ := dec_all n
  generalize Lib.decDigits n = l at h1 h2 h3
  cases l with
  | nil => exact absurd rfl h3
  | cons c r =>
    have hd := h1
    simp only [List.all_cons, Bool.and_eq_true, dig, decide_eq_true_eq] at hd
    have hu := uint_ok (c :: r) 0 h1 (by rw [show List.foldl _ 0 (c :: r) = decN (c :: r) from rfl, h2]; exact h)
    rw [show List.foldl _ 0 (c :: r) = decN (c :: r) from rfl, h2] at hu
    have e : Lib.atoiAll (c :: r) = .ok (n : Int) := by
      have hc1 : ¬ (c.toNat = 43 ∨ c.toNat = 45) := by omega
      have hc2 : ¬ c.toNat = 45 := by omega
      unfold Lib.atoiAll
      dsimp only
      rw [if_neg hc1, Lib.parseMag, if_neg (by simp), hu]
      dsimp only
      rw [if_neg (by omega), if_neg (by omega), if_neg hc2]
    rw [atoiV, e]
theorem dec_not {b : UInt8} (hb : b.toNat < 48 ∨ 57 < b.toNat) (n : Nat) : b ∉ Lib.decDigits n := fun hm => by
  have h := List.all_eq_true.1 (dec_all n).1 b hm
  simp only [dig, decide_eq_true_eq] at h
  omega
structure CardN (c : CardD) : Prop where
  num : ∃ m d : Nat, c.level = m ∧ c.due = d ∧ m < 10 ∧ d < 10000000
  n10 : (10 : UInt8) ∉ c.text
  n124 : (124 : UInt8) ∉ c.text
theorem cardOk_N {c : CardD} (h : cardOk c = true) : CardN c := by
  obtain ⟨_, ⟨h2, h3⟩, h4, h5⟩ := cardOk_parts h
  simp only [cardOk, plainB, Bool.and_eq_true, List.all_eq_true] at h
  have ht := h.1.1.1
  refine ⟨⟨c.level.toNat, c.due.toNat, by omega, by omega, by omega, by omega⟩, fun hm => ?_, fun hm => ?_⟩
  · have := ht _ hm
    exact absurd this (by decide)
  · have := ht _ hm
    exact absurd this (by decide)
def body (c : CardD) : List UInt8 := c.text ++ 124 :: (Lib.itoa c.level ++ 124 :: Lib.itoa c.due)
theorem cardTxt_body (c : CardD) : cardTxt c = body c ++ [10] := by simp [cardTxt, body]
theorem deckTxt_cons (c : CardD) (cs : List CardD) : deckTxt (c :: cs) = body c ++ 10 :: deckTxt cs := by
  rw [deckTxt, List.map_cons, List.flatten_cons, cardTxt_body]; simp [deckTxt]
theorem body_10 {c : CardD} (h : CardN c) : (10 : UInt8) ∉ body c := by
  obtain ⟨⟨m, d, e1, e2, _, _⟩, h1, _⟩ := h
  rw [body, e1, e2, itoa_nat, itoa_nat]
  simp only [List.mem_append, List.mem_cons, not_or]
  exact ⟨h1, by decide, dec_not (by decide) m, by decide, dec_not (by decide) d⟩
theorem body_spl {c : CardD} (h : CardN c) : spl 124 (body c) = [c.text, Lib.itoa c.level, Lib.itoa c.due] := by
  obtain ⟨⟨m, d, e1, e2, _, _⟩, _, h2⟩ := h
  rw [body, e1, e2, itoa_nat, itoa_nat, spl_hit _ h2, spl_hit _ (dec_not (by decide) m), spl_no (dec_not (by decide) d)]
theorem impLines_txt : ∀ (cs acc : List CardD) (n : Nat), (∀ c ∈ cs, CardN c) → (deckTxt cs).length < n → impLines n (deckTxt cs) acc = some (acc ++ cs)
  | [], acc, n, _, h => by
    obtain ⟨n, rfl⟩ : ∃ m, n = m + 1 := ⟨n - 1, by omega⟩
    simp [deckTxt, impLines]
  | c :: cs, acc, n, h, hn => by
    obtain ⟨n, rfl⟩ : ∃ m, n = m + 1 := ⟨n - 1, by omega⟩
    have hc := h c (by simp)
    have hs := body_spl hc
    have h1 := body_10 hc
    obtain ⟨⟨m, d, e1, e2, hm, hd⟩, _, _⟩ := hc
    rw [e1, e2, itoa_nat, itoa_nat] at hs
    rw [deckTxt_cons] at hn ⊢
    rw [impLines, if_neg (by simp), cut_hit _ h1]
    dsimp only
    rw [hs]
    dsimp only
    rw [atoi_dec (by omega), atoi_dec (by omega), impLines_txt cs _ n (fun x hx => h x (by simp [hx])) (by simp only [List.length_append, List.length_cons] at hn; omega)]
    obtain ⟨t, lv, du⟩ := c
    dsimp only at e1 e2
    subst e1 e2
    simp
theorem deckOk_N {cs : List CardD} (h : deckOk cs = true) : ∀ c ∈ cs, CardN c := fun c hc => by
  obtain ⟨j, hj⟩ := List.getElem?_of_mem hc
  exact cardOk_N (deckOk_at h hj)
theorem cardTxt_51 {c : CardD} (h : cardOk c = true) : (cardTxt c).length ≤ 51 := by
  obtain ⟨h1, ⟨h2, h3⟩, h4, h5⟩ := cardOk_parts h
  obtain ⟨⟨m, d, e1, e2, hm, hd⟩, _, _⟩ := cardOk_N h
  have k1 := dec_le 0 m (by omega)
  have k2 := dec_le 6 d (by omega)
  rw [cardTxt, e1, e2, itoa_nat, itoa_nat]
  simp only [List.length_append, List.length_cons, List.length_nil]
  omega
theorem deckTxt_51 : ∀ (cs : List CardD), (∀ c ∈ cs, cardOk c = true) → (deckTxt cs).length ≤ cs.length * 51
  | [], _ => by simp [deckTxt]
  | c :: r, h => by
    have h1 := cardTxt_51 (h c (by simp))
    have h2 := deckTxt_51 r (fun x hx => h x (by simp [hx]))
    simp only [deckTxt] at h2
    simp only [deckTxt, List.map_cons, List.flatten_cons, List.length_append, List.length_cons]
    omega
theorem impP_iff (s : List UInt8) (cs : List CardD) : impP s = some cs ↔ deckOk cs = true ∧ deckTxt cs = s := by
  constructor
  · intro h
    unfold impP at h
    split at h
    · cases h
    · split at h
      · split at h
        · rename_i h1
          obtain rfl := Option.some.inj h
          simpa using h1
        · cases h
      · cases h
  · rintro ⟨h1, rfl⟩
    have h2 := deckTxt_51 cs (fun c hc => by
      obtain ⟨j, hj⟩ := List.getElem?_of_mem hc
      exact deckOk_at h1 hj)
    have h3 := deckOk_len h1
    rw [impP, if_neg (by omega), impLines_txt cs [] _ (deckOk_N h1) (Nat.lt_succ_self _)]
    simp [h1]
end Go.Proofs.YtbboadheacmddaaGreatDoor
