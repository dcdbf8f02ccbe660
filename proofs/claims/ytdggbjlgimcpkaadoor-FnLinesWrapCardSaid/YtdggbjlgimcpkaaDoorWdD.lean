/- The least raggedness: plain laws of the reference's table. No conditions but those stated. -/
import Derived.Test.YtdggbjlgimcpkaaDoorWdK
namespace Go.Proofs.YtdggbjlgimcpkaaDoor
open Go Go.RowKit
/-- the least cost from i on over the ends i + 1 .. i + c -/
def inS (ls : List Nat) (w : Nat) (f : Nat → Int) (i : Nat) : Nat → Int
  | 0 => -1
  | c + 1 => if 0 ≤ lineC ls w i (i + 1 + c) ∧ (inS ls w f i c < 0 ∨ lineC ls w i (i + 1 + c) + f (i + 1 + c) < inS ls w f i c) then lineC ls w i (i + 1 + c) + f (i + 1 + c) else inS ls w f i c
def bt (ls : List Nat) (w : Nat) : Nat → Nat → Int
  | 0, _ => 0
  | d + 1, j => if j + (d + 1) = ls.length then inS ls w (bt ls w d) j (d + 1) else bt ls w d j
def bB (ls : List Nat) (w : Nat) (j : Nat) : Int := bt ls w ls.length j
section
variable {ls : List Nat} {w : Nat}
theorem inS_congr {f g : Nat → Int} {i : Nat} : ∀ {c}, (∀ k, i < k → k ≤ i + c → f k = g k) → inS ls w f i c = inS ls w g i c
  | 0, _ => rfl
  | c + 1, h => by
    rw [inS, inS, inS_congr fun k h1 h2 => h k h1 (by omega), h (i + 1 + c) (by omega) (by omega)]
theorem bt_stay {j : Nat} : ∀ {e d}, d ≤ e → ls.length ≤ j + d → bt ls w e j = bt ls w d j
  | 0, d, h, _ => by obtain rfl : d = 0 := by omega
                     rfl
  | e + 1, d, h, hj => by
    rcases Nat.eq_or_lt_of_le h with rfl | h
    · rfl
    · rw [bt, if_neg (by omega), bt_stay (by omega) hj]
theorem bt_zero {j : Nat} : ∀ {d}, j + d < ls.length → bt ls w d j = 0
  | 0, _ => rfl
  | d + 1, h => by rw [bt, if_neg (by omega), bt_zero (by omega)]
theorem bB_end : bB ls w ls.length = 0 := by
  rw [bB, bt_stay (Nat.zero_le _) (by omega)]; rfl
theorem bt_eq {d j : Nat} (hd : d ≤ ls.length) : bt ls w d j = if ls.length ≤ j + d then bB ls w j else 0 := by
  split
  · rename_i h; rw [bB, bt_stay hd h]
  · rename_i h; exact bt_zero (by omega)
theorem bB_rec {i : Nat} (hi : i < ls.length) : bB ls w i = inS ls w (bB ls w) i (ls.length - i) := by
  rw [bB, bt_stay (d := ls.length - i) (by omega) (by omega)]
  obtain ⟨d, hd⟩ : ∃ d, ls.length - i = d + 1 := ⟨ls.length - i - 1, by omega⟩
  rw [hd, bt, if_pos (by omega)]
  exact inS_congr fun k h1 h2 => by rw [bt_eq (by omega), if_pos (by omega)]
/-- what the inner loop knows -/
theorem inS_min {f : Nat → Int} {i : Nat} : ∀ {c}, (∀ k, i < k → k ≤ i + c → 0 ≤ f k) →
    (inS ls w f i c = -1 ∧ ∀ k, i < k → k ≤ i + c → lineC ls w i k < 0) ∨
    (0 ≤ inS ls w f i c ∧ (∃ k, i < k ∧ k ≤ i + c ∧ 0 ≤ lineC ls w i k ∧ inS ls w f i c = lineC ls w i k + f k) ∧ ∀ k, i < k → k ≤ i + c → 0 ≤ lineC ls w i k → inS ls w f i c ≤ lineC ls w i k + f k)
  | 0, _ => .inl ⟨rfl, fun k h1 h2 => by omega⟩
  | c + 1, h => by
    have ih := inS_min (c := c) fun k h1 h2 => h k h1 (by omega)
    have hf := h (i + 1 + c) (by omega) (by omega)
    rw [inS]
    split
    · rename_i hc
      right
      refine ⟨by omega, ⟨i + 1 + c, by omega, by omega, hc.1, rfl⟩, fun k h1 h2 h3 => ?_⟩
      rcases Nat.lt_or_ge k (i + 1 + c) with h4 | h4
      · rcases ih with ⟨_, h5⟩ | ⟨h5, _, h6⟩
        · have := h5 k h1 (by omega); omega
        · have := h6 k h1 (by omega) h3; omega
      · obtain rfl : k = i + 1 + c := by omega
        omega
    · rename_i hc
      rcases ih with ⟨h5, h6⟩ | ⟨h5, ⟨k, k1, k2, k3, k4⟩, h6⟩
      · left
        refine ⟨h5, fun k h1 h2 => ?_⟩
        rcases Nat.lt_or_ge k (i + 1 + c) with h4 | h4
        · exact h6 k h1 (by omega)
        · obtain rfl : k = i + 1 + c := by omega
          omega
      · right
        refine ⟨h5, ⟨k, k1, by omega, k3, k4⟩, fun k h1 h2 h3 => ?_⟩
        rcases Nat.lt_or_ge k (i + 1 + c) with h4 | h4
        · exact h6 k h1 (by omega) h3
        · obtain rfl : k = i + 1 + c := by omega
          omega
theorem lineC_one {i : Nat} (hf : ∀ j, j < ls.length → len ls j (j + 1) ≤ w) (hi : i < ls.length) : 0 ≤ lineC ls w i (i + 1) := by
  have := hf i hi
  rw [lineC, if_neg (by omega)]
  split
  · omega
  · exact Int.mul_nonneg (by omega) (by omega)
theorem bB_min (hf : ∀ j, j < ls.length → len ls j (j + 1) ≤ w) : ∀ {d i : Nat}, i + d = ls.length → 0 ≤ bB ls w i ∧
    (i < ls.length → (∃ k, i < k ∧ k ≤ ls.length ∧ 0 ≤ lineC ls w i k ∧ lineC ls w i k + bB ls w k = bB ls w i) ∧ ∀ k, i < k → k ≤ ls.length → 0 ≤ lineC ls w i k → bB ls w i ≤ lineC ls w i k + bB ls w k) := by
  intro d
  induction d using Nat.strongRecOn with
  | _ d ih =>
    intro i hi
    rcases Nat.eq_zero_or_pos d with rfl | hd
    · obtain rfl : i = ls.length := by omega
      exact ⟨by rw [bB_end]; omega, fun h => by omega⟩
    · have hil : i < ls.length := by omega
      have hpos : ∀ k, i < k → k ≤ i + (ls.length - i) → 0 ≤ bB ls w k := fun k h1 h2 => (ih (ls.length - k) (by omega) (i := k) (by omega)).1
      rw [bB_rec hil]
      rcases inS_min (ls := ls) (w := w) hpos with ⟨_, h⟩ | ⟨h1, ⟨k, k1, k2, k3, k4⟩, h3⟩
      · have := h (i + 1) (by omega) (by omega)
        have := lineC_one hf hil
        omega
      · exact ⟨h1, fun _ => ⟨⟨k, k1, by omega, k3, k4.symm⟩, fun k h4 h5 h6 => h3 k h4 (by omega) h6⟩⟩
theorem bt_le (hw : w ≤ 80) : ∀ {d j : Nat}, -1 ≤ bt ls w d j ∧ bt ls w d j ≤ 6400 * d
  | 0, j => by simp [bt]
  | d + 1, j => by
    rw [bt]
    split
    · have key : ∀ c, -1 ≤ inS ls w (bt ls w d) j c ∧ inS ls w (bt ls w d) j c ≤ 6400 * (d + 1) := by
        intro c
        induction c with
        | zero => rw [inS]; omega
        | succ c ihc =>
          rw [inS]
          have h1 := bt_le hw (d := d) (j := j + 1 + c)
          have h2 := lineC_le (ls := ls) (i := j) (j := j + 1 + c) hw
          split <;> omega
      have := key (d + 1)
      omega
    · have := bt_le hw (d := d) (j := j)
      omega
theorem bB_le (hw : w ≤ 80) (j : Nat) : -1 ≤ bB ls w j ∧ bB ls w j ≤ 6400 * ls.length := bt_le hw
theorem inS_le (hw : w ≤ 80) {f : Nat → Int} {M : Int} (hM : 0 ≤ M) (hf : ∀ k, -1 ≤ f k ∧ f k ≤ M) (i c : Nat) : -1 ≤ inS ls w f i c ∧ inS ls w f i c ≤ 6400 + M := by
  induction c with
  | zero => rw [inS]; omega
  | succ c ihc =>
    rw [inS]
    have h1 := hf (i + 1 + c)
    have h2 := lineC_le (ls := ls) (i := i) (j := i + 1 + c) hw
    split <;> omega
/-- an end that the least cost takes -/
def goodK (ls : List Nat) (w i k : Nat) : Bool := decide (0 ≤ lineC ls w i k) && decide (lineC ls w i k + bB ls w k = bB ls w i)
def srch (ls : List Nat) (w i : Nat) : Nat → Nat → Nat
  | 0, k => k
  | f + 1, k => if goodK ls w i k then k else srch ls w i f (k + 1)
def nx (ls : List Nat) (w i : Nat) : Nat := srch ls w i (ls.length - i) (i + 1)
theorem srch_at {i k : Nat} : ∀ {f a : Nat}, a ≤ k → k < a + f → goodK ls w i k = true → (∀ j, a ≤ j → j < k → goodK ls w i j = false) → srch ls w i f a = k
  | 0, a, h1, h2, _, _ => by omega
  | f + 1, a, h1, h2, hg, hn => by
    rw [srch]
    rcases Nat.eq_or_lt_of_le h1 with rfl | h1
    · rw [if_pos hg]
    · rw [hn a (Nat.le_refl _) h1, if_neg (by simp)]
      exact srch_at (by omega) (by omega) hg fun j h3 h4 => hn j (by omega) h4
theorem nx_at {i k : Nat} (h1 : i < k) (h2 : k ≤ ls.length) (hg : goodK ls w i k = true) (hn : ∀ j, i < j → j < k → goodK ls w i j = false) : nx ls w i = k :=
  srch_at (by omega) (by omega) hg fun j h3 h4 => hn j (by omega) h4
theorem least {p : Nat → Bool} : ∀ {k : Nat}, p k = true → ∃ m, m ≤ k ∧ p m = true ∧ ∀ j, j < m → p j = false
  | 0, h => ⟨0, Nat.le_refl _, h, fun j hj => by omega⟩
  | k + 1, h => by
    by_cases hp : ∃ j, j ≤ k ∧ p j = true
    · obtain ⟨j, hj, hpj⟩ := hp
      obtain ⟨m, h1, h2, h3⟩ := least hpj
      exact ⟨m, by omega, h2, h3⟩
    · refine ⟨k + 1, Nat.le_refl _, h, fun j hj => ?_⟩
      cases hpj : p j with
      | false => rfl
      | true => exact absurd ⟨j, by omega, hpj⟩ hp
theorem nx_spec (hf : ∀ j, j < ls.length → len ls j (j + 1) ≤ w) {i : Nat} (hi : i < ls.length) : i < nx ls w i ∧ nx ls w i ≤ ls.length ∧ goodK ls w i (nx ls w i) = true ∧ ∀ j, i < j → j < nx ls w i → goodK ls w i j = false := by
  obtain ⟨k, k1, k2, k3, k4⟩ := ((bB_min hf (d := ls.length - i) (by omega)).2 hi).1
  obtain ⟨m, h1, h2, h3⟩ := least (p := fun j => decide (i < j) && goodK ls w i j) (k := k) (by simp [goodK, k1, k3, k4])
  simp only [Bool.and_eq_true, decide_eq_true_eq] at h2
  have e := nx_at h2.1 (by omega) h2.2 fun j h4 h5 => by have := h3 j h5; simpa [h4] using this
  rw [e]
  exact ⟨h2.1, by omega, h2.2, fun j h4 h5 => by have := h3 j h5; simpa [h4] using this⟩
/-- the starts -/
def run (ls : List Nat) (w : Nat) : Nat → Nat → List Nat
  | 0, _ => []
  | f + 1, i => if i < ls.length then i :: run ls w f (nx ls w i) else []
def path (ls : List Nat) (w : Nat) : List Nat := run ls w ls.length 0
theorem run_lt {f i : Nat} (h : i < ls.length) : run ls w (f + 1) i = i :: run ls w f (nx ls w i) := by rw [run, if_pos h]
theorem run_ge {f i : Nat} (h : ¬ i < ls.length) : run ls w f i = [] := by
  cases f with
  | zero => rfl
  | succ f => rw [run, if_neg h]
/-! the program's own search -/
theorem bB_whole (hf : ∀ j, j < ls.length → len ls j (j + 1) ≤ w) {i : Nat} (hi : i < ls.length) (hl : len ls i ls.length ≤ w) : bB ls w i = 0 ∧ nx ls w i = ls.length := by
  have hm := bB_min hf (d := ls.length - i) (i := i) (by omega)
  have h0 : lineC ls w i ls.length = 0 := by rw [lineC, if_neg (by omega), if_pos rfl]
  have h1 := (hm.2 hi).2 ls.length hi (Nat.le_refl _) (by omega)
  rw [h0, bB_end] at h1
  have hz : bB ls w i = 0 := by have := hm.1; omega
  refine ⟨hz, nx_at hi (Nat.le_refl _) (by simp [goodK, h0, bB_end, hz]) fun j h2 h3 => ?_⟩
  simp only [goodK, Bool.and_eq_false_iff, decide_eq_false_iff_not]
  by_cases hj : 0 ≤ lineC ls w i j
  · right
    have hpos : 0 < lineC ls w i j := by
      obtain ⟨x, hx⟩ : ∃ x, ls[j]? = some x := ⟨ls[j]'h3, List.getElem?_eq_getElem _⟩
      have h4 := len_succ hx h2
      have h5 := len_mono (ls := ls) (i := i) (j := j + 1) (k := ls.length) (by omega) (Nat.le_refl _) (by omega)
      rw [lineC, if_neg (by omega), if_neg (by omega)]
      exact Int.mul_pos (by omega) (by omega)
    have := (bB_min hf (d := ls.length - j) (i := j) (by omega)).1
    omega
  · left; exact hj
theorem fits_down {i j k : Nat} (hij : i ≤ j) (hk : k ≤ ls.length) (h : j ≤ k) (hl : 0 ≤ lineC ls w i k) : len ls i j ≤ w := by
  have h1 := len_mono (ls := ls) hij hk h
  unfold lineC at hl
  split at hl <;> omega
/-- what the program's inner loop knows: the least cost over i + 1 .. i + c, and where it lies first -/
structure InI (ls : List Nat) (w i c : Nat) (x : Int) (e : Nat) : Prop where
  fits : ∀ k, i < k → k ≤ i + c → len ls i k ≤ w
  none : c = 0 → x = -1 ∧ e = 0
  some : 0 < c → 0 ≤ x ∧ i < e ∧ e ≤ i + c ∧ x = lineC ls w i e + bB ls w e ∧ (∀ k, i < k → k ≤ i + c → x ≤ lineC ls w i k + bB ls w k) ∧ ∀ k, i < k → k < e → x < lineC ls w i k + bB ls w k
theorem InI.start (i : Nat) : InI ls w i 0 (-1) 0 := ⟨fun k h1 h2 => by omega, fun _ => ⟨rfl, rfl⟩, fun h => by omega⟩
theorem lineC_pos {i k : Nat} (h : len ls i k ≤ w) : 0 ≤ lineC ls w i k := by
  rw [lineC, if_neg (by omega)]
  split
  · omega
  · exact Int.mul_nonneg (by omega) (by omega)
theorem InI.better {i c e : Nat} {x : Int} (hf : ∀ j, j < ls.length → len ls j (j + 1) ≤ w) (h : InI ls w i c x e) (hl : len ls i (i + 1 + c) ≤ w) (hc : i + 1 + c ≤ ls.length) (hx : x < 0 ∨ lineC ls w i (i + 1 + c) + bB ls w (i + 1 + c) < x) :
    InI ls w i (c + 1) (lineC ls w i (i + 1 + c) + bB ls w (i + 1 + c)) (i + 1 + c) := by
  have hp := lineC_pos hl
  have hb := (bB_min hf (d := ls.length - (i + 1 + c)) (i := i + 1 + c) (by omega)).1
  have hall : ∀ k, i < k → k < i + 1 + c → lineC ls w i (i + 1 + c) + bB ls w (i + 1 + c) < lineC ls w i k + bB ls w k := by
    intro k h1 h2
    obtain ⟨g1, _, _, _, g5, _⟩ := h.some (by omega)
    have := g5 k h1 (by omega)
    omega
  refine ⟨fun k h1 h2 => ?_, fun h => by omega, fun _ => ⟨by omega, by omega, by omega, rfl, fun k h1 h2 => ?_, hall⟩⟩
  · rcases Nat.lt_or_ge k (i + 1 + c) with h3 | h3
    · exact h.fits k h1 (by omega)
    · obtain rfl : k = i + 1 + c := by omega
      exact hl
  · rcases Nat.lt_or_ge k (i + 1 + c) with h3 | h3
    · exact Int.le_of_lt (hall k h1 h3)
    · obtain rfl : k = i + 1 + c := by omega
      exact Int.le_refl _
theorem InI.worse {i c e : Nat} {x : Int} (h : InI ls w i c x e) (hl : len ls i (i + 1 + c) ≤ w) (hx : ¬ (x < 0 ∨ lineC ls w i (i + 1 + c) + bB ls w (i + 1 + c) < x)) :
    InI ls w i (c + 1) x e := by
  have hc0 : 0 < c := by
    rcases Nat.eq_zero_or_pos c with h0 | h0
    · have := h.none h0; omega
    · exact h0
  obtain ⟨g1, g2, g3, g4, g5, g6⟩ := h.some hc0
  refine ⟨fun k h1 h2 => ?_, fun h => by omega, fun _ => ⟨g1, g2, by omega, g4, fun k h1 h2 => ?_, g6⟩⟩
  · rcases Nat.lt_or_ge k (i + 1 + c) with h3 | h3
    · exact h.fits k h1 (by omega)
    · obtain rfl : k = i + 1 + c := by omega
      exact hl
  · rcases Nat.lt_or_ge k (i + 1 + c) with h3 | h3
    · exact g5 k h1 (by omega)
    · obtain rfl : k = i + 1 + c := by omega
      omega
theorem InI.done {i c e : Nat} {x : Int} (hf : ∀ j, j < ls.length → len ls j (j + 1) ≤ w) (h : InI ls w i c x e) (hi : i < ls.length) (hc : i + c < ls.length) (hn : ¬ len ls i ls.length ≤ w) (hend : i + 1 + c = ls.length ∨ ¬ len ls i (i + 1 + c) ≤ w) : bB ls w i = x ∧ nx ls w i = e := by
  have hm := (bB_min hf (d := ls.length - i) (i := i) (by omega)).2 hi
  have hc0 : 0 < c := by
    rcases Nat.eq_zero_or_pos c with h0 | h0
    · subst h0
      have := hf i (by omega)
      rcases hend with h1 | h1
      · exact absurd (show len ls i ls.length ≤ w by rw [← h1]; exact this) hn
      · exact absurd this h1
    · exact h0
  obtain ⟨g1, g2, g3, g4, g5, g6⟩ := h.some hc0
  have hin : ∀ k, i < k → k ≤ ls.length → 0 ≤ lineC ls w i k → k ≤ i + c := by
    intro k h1 h2 h3
    rcases Nat.lt_or_ge (i + c) k with h4 | h4
    · have := fits_down (j := i + 1 + c) (by omega) h2 (by omega) h3
      rcases hend with h5 | h5
      · rw [h5] at this; omega
      · omega
    · exact h4
  have he : 0 ≤ lineC ls w i e := lineC_pos (h.fits e g2 g3)
  have hx : bB ls w i = x := by
    obtain ⟨⟨k, k1, k2, k3, k4⟩, h5⟩ := hm
    have := g5 k k1 (hin k k1 k2 k3)
    have := h5 e g2 (by omega) he
    omega
  refine ⟨hx, nx_at g2 (by omega) (by simp [goodK, he, hx, g4]) fun j h1 h2 => ?_⟩
  have := g6 j h1 h2
  simp only [goodK, Bool.and_eq_false_iff, decide_eq_false_iff_not]
  right; omega
end
end Go.Proofs.YtdggbjlgimcpkaaDoor
