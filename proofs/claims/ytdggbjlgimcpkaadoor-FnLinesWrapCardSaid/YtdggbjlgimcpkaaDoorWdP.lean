/- Lines of words, by their lengths: plain laws. No conditions but those stated. -/
namespace Go.Proofs.YtdggbjlgimcpkaaDoor

def lineL (xs : List Nat) : Nat := xs.sum + (xs.length - 1)
def seg (ls : List Nat) (i j : Nat) : List Nat := (ls.take j).drop i
def len (ls : List Nat) (i j : Nat) : Nat := lineL (seg ls i j)
section
variable {ls : List Nat} {i j k w : Nat}
theorem seg_length (hj : j ≤ ls.length) : (seg ls i j).length = j - i := by simp [seg]; omega
theorem seg_succ {x : Nat} (h : ls[j]? = some x) (hi : i ≤ j) : seg ls i (j + 1) = seg ls i j ++ [x] := by
  have hl := (List.getElem?_eq_some_iff.1 h).1
  rw [seg, List.take_add_one, h, List.drop_append_of_le_length (by simp; omega)]
  rfl
theorem seg_self : seg ls i i = [] := by simp [seg]
theorem len_succ {x : Nat} (h : ls[j]? = some x) (hi : i < j) : len ls i (j + 1) = len ls i j + 1 + x := by
  have hl := (List.getElem?_eq_some_iff.1 h).1
  have e : (seg ls i j).length = j - i := seg_length (by omega)
  rw [len, len, seg_succ h (Nat.le_of_lt hi)]
  simp only [lineL, List.sum_append, List.length_append, List.sum_cons, List.sum_nil, List.length_cons, List.length_nil, e]
  omega
theorem len_one {x : Nat} (h : ls[j]? = some x) : len ls j (j + 1) = x := by
  rw [len, seg_succ h (Nat.le_refl _), seg_self]
  simp [lineL]
theorem len_none (h : j ≤ i) : len ls i j = 0 := by
  have : seg ls i j = [] := by rw [seg, List.drop_eq_nil_iff]; simp; omega
  rw [len, this]; rfl
theorem seg_cons {x : Nat} (h : ls[i]? = some x) (hi : i < j) : seg ls i j = x :: seg ls (i + 1) j := by
  have hl := (List.getElem?_eq_some_iff.1 h)
  obtain ⟨h1, h2⟩ := hl
  rw [seg, List.drop_eq_getElem_cons (by simp; omega)]
  simp [h2, seg]
theorem len_cons {x : Nat} (h : ls[i]? = some x) (hi : i + 1 < j) (hj : j ≤ ls.length) : len ls i j = x + 1 + len ls (i + 1) j := by
  have e : (seg ls (i + 1) j).length = j - (i + 1) := seg_length hj
  rw [len, seg_cons h (by omega), len]
  simp only [lineL, List.sum_cons, List.length_cons, e]
  omega
theorem len_mono_left (hj : j ≤ ls.length) : ∀ {i i' : Nat}, i ≤ i' → len ls i' j ≤ len ls i j := by
  intro i i' h
  induction i' with
  | zero => obtain rfl : i = 0 := by omega
            exact Nat.le_refl _
  | succ n ih =>
    rcases Nat.eq_or_lt_of_le h with rfl | h
    · exact Nat.le_refl _
    · refine Nat.le_trans ?_ (ih (by omega))
      by_cases hn : n + 1 < j
      · obtain ⟨x, hx⟩ : ∃ x, ls[n]? = some x := ⟨ls[n]'(by omega), List.getElem?_eq_getElem _⟩
        rw [len_cons hx hn hj]; omega
      · rw [len_none (by omega)]; omega
theorem len_mono (hi : i ≤ j) (hk : k ≤ ls.length) (h : j ≤ k) : len ls i j ≤ len ls i k := by
  induction k with
  | zero => obtain rfl : j = 0 := by omega
            exact Nat.le_refl _
  | succ n ih =>
    rcases Nat.eq_or_lt_of_le h with rfl | h
    · exact Nat.le_refl _
    · refine Nat.le_trans (ih (by omega) (by omega)) ?_
      obtain ⟨x, hx⟩ : ∃ x, ls[n]? = some x := ⟨ls[n]'(by omega), List.getElem?_eq_getElem _⟩
      rcases Nat.lt_or_ge i n with h1 | h1
      · rw [len_succ hx h1]; omega
      · rw [len_none (j := n) h1]; omega
end

/-! first fit -/
def gr (ls : List Nat) (w : Nat) : Nat → List Nat
  | 0 => []
  | i + 1 => if i = 0 ∨ w < len ls ((gr ls w i).getLastD 0) (i + 1) then gr ls w i ++ [i] else gr ls w i
def greedy (ls : List Nat) (w : Nat) : List Nat := gr ls w ls.length

/-- the first i words broken into m lines of at most w, the last of which begins at s -/
inductive Br (ls : List Nat) (w : Nat) : Nat → Nat → Nat → Prop
  | one : len ls 0 1 ≤ w → Br ls w 1 1 0
  | ext {i m s : Nat} : Br ls w i m s → len ls s (i + 1) ≤ w → Br ls w (i + 1) m s
  | new {i m s : Nat} : Br ls w i m s → len ls i (i + 1) ≤ w → Br ls w (i + 1) (m + 1) i
section
variable {ls : List Nat} {i m s w : Nat}
theorem Br.lt (h : Br ls w i m s) : s < i ∧ 1 ≤ m ∧ m ≤ i := by
  induction h with
  | one => omega
  | ext _ _ ih => omega
  | new _ _ ih => omega
theorem gr_len (i : Nat) : (gr ls w i).length ≤ i := by
  induction i with
  | zero => simp [gr]
  | succ i ih =>
    rw [gr]
    split
    · simp; omega
    · omega
theorem gr_last : ∀ i, (gr ls w (i + 1)).getLastD 0 ≤ i ∧ 1 ≤ (gr ls w (i + 1)).length := by
  intro i
  induction i with
  | zero => simp [gr]
  | succ i ih =>
    rw [gr]
    split
    · simp
    · omega
theorem gr_best (hl : i ≤ ls.length) (h : Br ls w i m s) : (gr ls w i).length < m ∨ ((gr ls w i).length = m ∧ s ≤ (gr ls w i).getLastD 0) := by
  induction h with
  | one => right; simp [gr]
  | @ext i m s hb hw ih =>
    have hlt := hb.lt
    have ih := ih (by omega)
    rw [gr]
    split
    · rename_i hc
      rcases ih with ih | ⟨h1, h2⟩
      · rcases Nat.lt_or_ge ((gr ls w i).length + 1) m with h | h
        · left; simpa using h
        · right; simp; omega
      · exfalso
        rcases hc with hc | hc
        · omega
        · have := len_mono_left (ls := ls) (j := i + 1) hl h2
          omega
    · exact ih
  | @new i m s hb hw ih =>
    have hlt := hb.lt
    have ih := ih (by omega)
    rw [gr]
    split
    · rcases ih with ih | ⟨h1, h2⟩
      · left; simpa using ih
      · right; simp [h1]
    · left; omega
theorem gr_br (hf : ∀ j, j < ls.length → len ls j (j + 1) ≤ w) : ∀ i, i + 1 ≤ ls.length → Br ls w (i + 1) (gr ls w (i + 1)).length ((gr ls w (i + 1)).getLastD 0) := by
  intro i
  induction i with
  | zero => intro h; simpa [gr] using Br.one (hf 0 (by omega))
  | succ i ih =>
    intro h
    have ih := ih (by omega)
    rw [gr]
    split
    · simpa using ih.new (hf (i + 1) (by omega))
    · rename_i hc
      exact ih.ext (by omega)
theorem Br.more (hf : ∀ j, j < ls.length → len ls j (j + 1) ≤ w) (h : Br ls w i m s) (hl : i ≤ ls.length) (hm : m < i) : ∃ s', Br ls w i (m + 1) s' := by
  induction h with
  | one => omega
  | ext hb _ _ => exact ⟨_, hb.new (hf _ (by omega))⟩
  | new hb hw ih =>
    obtain ⟨s', hs⟩ := ih (by omega) (by omega)
    exact ⟨_, hs.new hw⟩
theorem Br.upto (hf : ∀ j, j < ls.length → len ls j (j + 1) ≤ w) {n : Nat} (h : Br ls w i m s) (hl : i ≤ ls.length) (hm : m ≤ n) (hn : n ≤ i) : ∃ s', Br ls w i n s' := by
  induction n with
  | zero => have := h.lt; omega
  | succ n ih =>
    rcases Nat.eq_or_lt_of_le hm with rfl | hm
    · exact ⟨_, h⟩
    · obtain ⟨s', hs⟩ := ih (by omega) (by omega)
      exact hs.more hf hl (by omega)
theorem Br.fits (h : Br ls w i m s) (hl : i ≤ ls.length) : ∀ j, j < i → len ls j (j + 1) ≤ w := by
  induction h with
  | one h => intro j hj; obtain rfl : j = 0 := by omega
             exact h
  | @ext i m s hb h ih =>
    intro j hj
    rcases Nat.lt_or_ge j i with h1 | h1
    · exact ih (by omega) j h1
    · obtain rfl : j = i := by omega
      exact Nat.le_trans (len_mono_left hl (by have := hb.lt; omega)) h
  | @new i m s hb h ih =>
    intro j hj
    rcases Nat.lt_or_ge j i with h1 | h1
    · exact ih (by omega) j h1
    · obtain rfl : j = i := by omega
      exact h
end

/-! breaking from the front -/
/-- the words from i on in exactly m lines of at most L -/
def Sp (ls : List Nat) (L : Nat) : Nat → Nat → Prop
  | 0, i => i = ls.length
  | m + 1, i => ∃ k, i < k ∧ k ≤ ls.length ∧ len ls i k ≤ L ∧ Sp ls L m k
section
variable {ls : List Nat} {i m s w L : Nat}
theorem Br.fit (h : Br ls w i m s) : len ls s i ≤ w := by
  cases h <;> assumption
theorem Br.sp (h : Br ls w i m s) : ∀ {k m' : Nat}, i ≤ k → k ≤ ls.length → len ls s k ≤ w → Sp ls w m' k → Sp ls w (m + m') 0 := by
  induction h with
  | one h =>
    intro k m' hk hl hw hs
    rw [Nat.add_comm]
    exact ⟨k, by omega, hl, hw, hs⟩
  | ext _ _ ih => intro k m' hk hl hw hs; exact ih (by omega) hl hw hs
  | @new i m s hb h ih =>
    intro k m' hk hl hw hs
    rw [show m + 1 + m' = m + (m' + 1) by omega]
    exact ih (Nat.le_refl _) (by omega) hb.fit ⟨k, by omega, hl, hw, hs⟩
theorem Br.run (h : Br ls w i m s) : ∀ {k : Nat}, i ≤ k → k ≤ ls.length → len ls s k ≤ w → Br ls w k m s := by
  intro k
  induction k with
  | zero => intro h1 _ _; have := h.lt; omega
  | succ k ih =>
    intro h1 h2 h3
    rcases Nat.eq_or_lt_of_le h1 with rfl | h1
    · exact h
    · have hlt := h.lt
      exact (ih (by omega) (by omega) (Nat.le_trans (len_mono (by omega) h2 (by omega)) h3)).ext h3
theorem Sp.br_from : ∀ {m i m0 s0 : Nat}, Sp ls w m i → Br ls w i m0 s0 → i ≤ ls.length → ∃ s, Br ls w ls.length (m0 + m) s
  | 0, i, m0, s0, h, hb, _ => by
    obtain rfl : i = ls.length := h
    exact ⟨_, hb⟩
  | m + 1, i, m0, s0, h, hb, hl => by
    obtain ⟨k, h1, h2, h3, h4⟩ := h
    have h5 : Br ls w (i + 1) (m0 + 1) i := hb.new (Nat.le_trans (len_mono (by omega) h2 (by omega)) h3)
    obtain ⟨s, hs⟩ := h4.br_from (h5.run (by omega) h2 h3) h2
    exact ⟨s, by rwa [show m0 + (m + 1) = m0 + 1 + m by omega]⟩
theorem Sp.br (h : Sp ls w m 0) (h0 : 0 < ls.length) : ∃ s, Br ls w ls.length m s := by
  cases m with
  | zero => have e : 0 = ls.length := h; omega
  | succ m =>
    obtain ⟨k, h1, h2, h3, h4⟩ := h
    have h5 : Br ls w 1 1 0 := .one (Nat.le_trans (len_mono (by omega) h2 (by omega)) h3)
    obtain ⟨s, hs⟩ := h4.br_from (h5.run (by omega) h2 h3) h2
    exact ⟨s, by rwa [Nat.add_comm]⟩
theorem seg_drop (e i j : Nat) : seg (ls.drop e) i j = seg ls (e + i) (e + j) := by
  simp only [seg]
  rw [List.take_drop, List.drop_drop]
theorem len_drop (e i j : Nat) : len (ls.drop e) i j = len ls (e + i) (e + j) := by rw [len, len, seg_drop]
theorem Sp.drop {e : Nat} (he : e ≤ ls.length) : ∀ {m i : Nat}, Sp (ls.drop e) L m i ↔ Sp ls L m (e + i)
  | 0, i => by simp only [Sp, List.length_drop]; omega
  | m + 1, i => by
    simp only [Sp, List.length_drop]
    constructor
    · rintro ⟨k, h1, h2, h3, h4⟩
      exact ⟨e + k, by omega, by omega, by rwa [len_drop] at h3, (Sp.drop he).1 h4⟩
    · rintro ⟨k, h1, h2, h3, h4⟩
      obtain ⟨k, rfl⟩ : ∃ k', k = e + k' := ⟨k - e, by omega⟩
      exact ⟨k, by omega, by omega, by rwa [len_drop], (Sp.drop he).2 h4⟩
theorem Sp.le : ∀ {m i : Nat}, Sp ls L m i → i + m ≤ ls.length
  | 0, i, h => by obtain rfl : i = ls.length := h
                  omega
  | m + 1, i, ⟨k, h1, h2, h3, h4⟩ => by have := h4.le; omega
/-- the program's test -/
def canSplit (ls : List Nat) (m L : Nat) : Prop := m ≤ ls.length ∧ (∀ x ∈ ls, x ≤ L) ∧ (greedy ls L).length ≤ m
theorem fits_iff : (∀ x ∈ ls, x ≤ L) ↔ ∀ j, j < ls.length → len ls j (j + 1) ≤ L := by
  constructor
  · intro h j hj
    rw [len_one (List.getElem?_eq_getElem hj)]
    exact h _ (List.getElem_mem hj)
  · intro h x hx
    obtain ⟨j, hj⟩ := List.getElem?_of_mem hx
    have := h j (List.getElem?_eq_some_iff.1 hj).1
    rwa [len_one hj] at this
theorem canSplit_iff (h0 : 0 < ls.length) : canSplit ls m L ↔ Sp ls L m 0 := by
  constructor
  · rintro ⟨h1, h2, h3⟩
    have hf := fits_iff.1 h2
    have hg := gr_br hf (ls.length - 1) (by omega)
    rw [show ls.length - 1 + 1 = ls.length by omega] at hg
    obtain ⟨s, hs⟩ := hg.upto hf (Nat.le_refl _) h3 h1
    exact hs.sp (Nat.le_refl _) (Nat.le_refl _) hs.fit (m' := 0) rfl
  · intro h
    have hle := h.le
    obtain ⟨s, hs⟩ := h.br h0
    have hf := hs.fits (Nat.le_refl _)
    refine ⟨by omega, fits_iff.2 hf, ?_⟩
    have := gr_best (Nat.le_refl _) hs
    rw [greedy]
    omega
/-- breaking from e on: the program's test on the words from e on -/
theorem canSplit_drop {e : Nat} (he : e < ls.length) : canSplit (ls.drop e) m L ↔ Sp ls L m e := by
  rw [canSplit_iff (by simp; omega), Sp.drop (by omega), Nat.add_zero]

/-! the reference's table of longest lines -/
/-- the least of the lines' greatest lengths, over the ends i + 1 .. i + c, by the table t of one line less -/
def lgIn (ls : List Nat) (t : Nat → Int) (i : Nat) : Nat → Int
  | 0 => -1
  | c + 1 => if lgIn ls t i c < 0 ∨ max (len ls i (i + 1 + c) : Int) (t (i + 1 + c)) < lgIn ls t i c then max (len ls i (i + 1 + c) : Int) (t (i + 1 + c)) else lgIn ls t i c
/-- the table for m + 1 lines -/
def lg (ls : List Nat) : Nat → Nat → Int
  | 0, i => len ls i ls.length
  | m + 1, i => lgIn ls (lg ls m) i (min (ls.length - 1) (ls.length - (m + 1)) - i)
theorem lgIn_iff {t : Nat → Int} : ∀ c, (∀ k, i < k → k ≤ i + c → 0 ≤ t k) → (0 < c → 0 ≤ lgIn ls t i c) ∧ (c = 0 → lgIn ls t i c = -1) ∧ (0 < c → ((lgIn ls t i c ≤ L) ↔ ∃ k, i < k ∧ k ≤ i + c ∧ len ls i k ≤ L ∧ t k ≤ L)) := by
  intro c
  induction c with
  | zero => intro _; exact ⟨by omega, fun _ => rfl, by omega⟩
  | succ c ih =>
    intro ht
    obtain ⟨h1, h2, h3⟩ := ih (fun k hk hk2 => ht k hk (by omega))
    have hx := ht (i + 1 + c) (by omega) (by omega)
    refine ⟨fun _ => ?_, by omega, fun _ => ?_⟩
    · rw [lgIn]
      split
      · omega
      · rcases Nat.eq_zero_or_pos c with h | h
        · have := h2 h; omega
        · exact h1 h
    · have key : (lgIn ls t i (c + 1) ≤ L) ↔ (0 < c ∧ lgIn ls t i c ≤ L) ∨ max (len ls i (i + 1 + c) : Int) (t (i + 1 + c)) ≤ L := by
        rw [lgIn]
        rcases Nat.eq_zero_or_pos c with h | h
        · have := h2 h
          rw [if_pos (by omega)]
          omega
        · have := h1 h
          split <;> omega
      rw [key]
      constructor
      · rintro (⟨hc, h⟩ | h)
        · obtain ⟨k, k1, k2, k3⟩ := (h3 hc).1 h
          exact ⟨k, k1, by omega, k3⟩
        · exact ⟨i + 1 + c, by omega, by omega, by omega, by omega⟩
      · rintro ⟨k, k1, k2, k3, k4⟩
        rcases Nat.lt_or_ge (i + c) k with h | h
        · obtain rfl : k = i + 1 + c := by omega
          right; omega
        · left
          have hc : 0 < c := by omega
          exact ⟨hc, (h3 hc).2 ⟨k, k1, h, k3, k4⟩⟩
theorem lg_iff : ∀ {m i : Nat}, i < ls.length → i + m < ls.length → 0 ≤ lg ls m i ∧ (lg ls m i ≤ L ↔ Sp ls L (m + 1) i)
  | 0, i, hi, _ => by
    refine ⟨by simp [lg], ?_⟩
    simp only [lg, Sp]
    constructor
    · intro h; exact ⟨ls.length, hi, Nat.le_refl _, by omega, rfl⟩
    · rintro ⟨k, _, _, h, rfl⟩; omega
  | m + 1, i, hi, hm => by
    have hc : 0 < min (ls.length - 1) (ls.length - (m + 1)) - i := by omega
    obtain ⟨h1, _, h3⟩ := lgIn_iff (ls := ls) (i := i) (L := L) (t := lg ls m) (min (ls.length - 1) (ls.length - (m + 1)) - i) (fun k hk hk2 => (lg_iff (by omega) (by omega)).1)
    refine ⟨h1 hc, ?_⟩
    rw [lg, h3 hc]
    constructor
    · rintro ⟨k, k1, k2, k3, k4⟩
      exact ⟨k, k1, by omega, k3, (lg_iff (by omega) (by omega)).2.1 k4⟩
    · rintro ⟨k, k1, k2, k3, k4⟩
      have := k4.le
      exact ⟨k, k1, by omega, k3, (lg_iff (by omega) (by omega)).2.2 k4⟩
end
end Go.Proofs.YtdggbjlgimcpkaaDoor
