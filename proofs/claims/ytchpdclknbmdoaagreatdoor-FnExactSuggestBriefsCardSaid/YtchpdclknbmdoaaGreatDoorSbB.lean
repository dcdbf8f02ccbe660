/- The subsets of some keys by number, in groups of equal size. Plain Lean. -/
import Derived.Test.YtchpdclknbmdoaaGreatDoorFrA
import Derived.Test.YtchpdclknbmdoaaGreatDoorTpF
namespace Go.Proofs.YtchpdclknbmdoaaGreatDoor
open Go Go.RowKit
def pc : Nat → Nat → Nat
  | 0, _ => 0
  | N + 1, s => s % 2 + pc N (s / 2)
theorem pc_zero : ∀ N, pc N 0 = 0
  | 0 => rfl
  | N + 1 => by rw [pc, Nat.zero_div, pc_zero N]
theorem pc_le : ∀ N s, pc N s ≤ N
  | 0, _ => Nat.le_refl _
  | N + 1, s => by
    have := pc_le N (s / 2)
    rw [pc]; omega
theorem pow2 (n : Nat) : 2 ^ (n + 1) = 2 * 2 ^ n := by rw [Nat.pow_succ]; omega
theorem xI (n : Nat) : 1 ≤ 2 ^ n := Nat.one_le_two_pow
theorem pc_ge : ∀ N s, s < 2 ^ N → 2 ^ (pc N s) ≤ s + 1
  | 0, s, h => by rw [pc, Nat.pow_zero]; omega
  | N + 1, s, h => by
    rw [pow2] at h
    have ih := pc_ge N (s / 2) (by omega)
    rcases Nat.mod_two_eq_zero_or_one s with e | e
    · rw [pc, e, Nat.zero_add]; omega
    · rw [pc, e, Nat.add_comm 1, pow2]; omega
theorem pc_compl : ∀ N s, s < 2 ^ N → pc N (2 ^ N - 1 - s) + pc N s = N
  | 0, s, h => rfl
  | N + 1, s, h => by
    have hp := pow2 N
    have h1 := xI N
    have ih := pc_compl N (s / 2) (by omega)
    have e : (2 ^ (N + 1) - 1 - s) / 2 = 2 ^ N - 1 - s / 2 := by omega
    rw [pc, pc, e]
    omega
theorem pc_top {N s c : Nat} (h : s < 2 ^ N) (hc : pc N s = c) : s ≤ 2 ^ N - 2 ^ (N - c) := by
  have h1 := pc_compl N s h
  have h2 := pc_ge N (2 ^ N - 1 - s) (by omega)
  rw [show pc N (2 ^ N - 1 - s) = N - c by omega] at h2
  omega
theorem vG : ∀ j N h l, l < 2 ^ j → pc (j + N) (h * 2 ^ j + l) = pc N h + pc j l
  | 0, N, h, l, hl => by
    rw [Nat.pow_zero] at hl
    obtain rfl : l = 0 := by omega
    rw [Nat.zero_add, Nat.pow_zero, Nat.mul_one, Nat.add_zero, pc, Nat.add_zero]
  | j + 1, N, h, l, hl => by
    have hp := pow2 j
    have hm : h * 2 ^ (j + 1) = 2 * (h * 2 ^ j) := by rw [hp, Nat.mul_left_comm]
    have ih := vG j N h (l / 2) (by omega)
    rw [show j + 1 + N = (j + N) + 1 by omega, pc, pc, hm, show (2 * (h * 2 ^ j) + l) / 2 = h * 2 ^ j + l / 2 by omega, ih]
    omega
theorem pc_up {N s : Nat} (h : s < 2 ^ N) (m : Nat) : pc (N + m) s = pc N s := by
  have := vG N m 0 s h
  rwa [Nat.zero_mul, Nat.zero_add, pc_zero, Nat.zero_add] at this
theorem pc_ones : ∀ c m, pc (c + m) (2 ^ c - 1) = c
  | 0, m => by rw [Nat.pow_zero, Nat.sub_self, pc_zero]
  | c + 1, m => by
    have hp := pow2 c
    have h1 := xI c
    rw [show c + 1 + m = (c + m) + 1 by omega, pc, show (2 ^ (c + 1) - 1) / 2 = 2 ^ c - 1 by omega, pc_ones c m]
    omega
def gX (t c h : Nat) : Nat := h * 2 ^ (t + c + 1) + (2 ^ c - 1) * 2 ^ t
def gY (t c h : Nat) : Nat := h * 2 ^ (t + c + 1) + (2 ^ (t + c) + (2 ^ (c - 1) - 1))
theorem ones_ex : ∀ k x, x ≤ k → ∃ c h, x = h * 2 ^ (c + 1) + (2 ^ c - 1) ∧ (x % 2 = 1 → 1 ≤ c)
  | 0, x, hx => ⟨0, 0, by simp; omega, by omega⟩
  | k + 1, x, hx => by
    by_cases h : x % 2 = 1
    · obtain ⟨c, h', e, _⟩ := ones_ex k (x / 2) (by omega)
      have h1 := xI c
      refine ⟨c + 1, h', ?_, fun _ => by omega⟩
      have hm : h' * 2 ^ (c + 1 + 1) = 2 * (h' * 2 ^ (c + 1)) := by rw [pow2 (c + 1), Nat.mul_left_comm]
      have h2 := pow2 c
      rw [hm]
      omega
    · refine ⟨0, x / 2, ?_, fun e => absurd e h⟩
      rw [Nat.zero_add, Nat.pow_one, Nat.pow_zero]; omega
theorem gX_ex : ∀ k x, x ≤ k → 0 < x → ∃ t c h, x = gX t c h ∧ 1 ≤ c
  | 0, x, hx, h0 => by omega
  | k + 1, x, hx, h0 => by
    by_cases h : x % 2 = 1
    · obtain ⟨c, h', e, hc⟩ := ones_ex x x (Nat.le_refl _)
      exact ⟨0, c, h', by rw [gX, Nat.zero_add, Nat.pow_zero, Nat.mul_one]; exact e, hc h⟩
    · obtain ⟨t, c, h', e, hc⟩ := gX_ex k (x / 2) (by omega) (by omega)
      refine ⟨t + 1, c, h', ?_, hc⟩
      rw [gX] at e ⊢
      rw [show t + 1 + c + 1 = (t + c + 1) + 1 by omega, pow2 (t + c + 1), pow2 t, Nat.mul_left_comm, Nat.mul_left_comm (2 ^ c - 1)]
      omega
theorem low_lt (t c : Nat) : (2 ^ c - 1) * 2 ^ t + 2 ^ t = 2 ^ (t + c) := by
  have h1 := xI c
  have e : Nat.succ (2 ^ c - 1) = 2 ^ c := by omega
  rw [← Nat.succ_mul, e, ← Nat.pow_add, Nat.add_comm c t]
theorem gY_lt {t c h : Nat} (hc : 1 ≤ c) : gX t c h < gY t c h ∧ gY t c h < (h + 1) * 2 ^ (t + c + 1) := by
  have h1 := low_lt t c
  have h2 := xI t
  have h3 := pow2 (t + c)
  have h4 : 2 ^ (c - 1) ≤ 2 ^ (t + c) := Nat.pow_le_pow_right (by omega) (by omega)
  have h5 := xI (c - 1)
  rw [gX, gY, Nat.add_mul, Nat.one_mul]
  omega
theorem gos {t c h M : Nat} (hc : 1 ≤ c) : pc (t + c + 1 + M) (gX t c h) = pc M h + c ∧ pc (t + c + 1 + M) (gY t c h) = pc M h + c ∧ ∀ z, gX t c h < z → z < gY t c h → pc (t + c + 1 + M) z ≠ pc M h + c := by
  have h1 := low_lt t c
  have h2 := xI t
  have h3 := pow2 (t + c)
  have h4 : 2 ^ (c - 1) ≤ 2 ^ (t + c) := Nat.pow_le_pow_right (by omega) (by omega)
  have h5 := xI (c - 1)
  refine ⟨?_, ?_, fun z hz1 hz2 hz => ?_⟩
  · rw [gX, vG _ M h _ (by omega)]
    have := vG t (c + 1) (2 ^ c - 1) 0 (by omega)
    rw [pc_zero, pc_ones c 1] at this
    simp only [Nat.add_zero] at this
    rw [show t + c + 1 = t + (c + 1) by omega, this]
  · rw [gY, vG _ M h _ (by omega)]
    have := vG (t + c) 1 1 (2 ^ (c - 1) - 1) (by omega)
    rw [Nat.one_mul] at this
    have h6 := pc_ones (c - 1) (t + 1)
    rw [show c - 1 + (t + 1) = t + c by omega] at h6
    rw [this, h6]
    have : pc 1 1 = 1 := rfl
    omega
  · rw [gX] at hz1
    rw [gY] at hz2
    obtain ⟨l, rfl⟩ : ∃ l, z = h * 2 ^ (t + c + 1) + l := ⟨z - h * 2 ^ (t + c + 1), by omega⟩
    have hl1 : (2 ^ c - 1) * 2 ^ t < l := by omega
    have hl2 : l < 2 ^ (t + c) + (2 ^ (c - 1) - 1) := by omega
    rw [vG _ M h l (by omega)] at hz
    have hz' : pc (t + c + 1) l = c := by omega
    by_cases hl : l < 2 ^ (t + c)
    · rw [pc_up hl 1] at hz'
      have := pc_top hl hz'
      rw [show t + c - c = t by omega] at this
      omega
    · obtain ⟨m, rfl⟩ : ∃ m, l = 1 * 2 ^ (t + c) + m := ⟨l - 2 ^ (t + c), by omega⟩
      rw [Nat.one_mul] at hl2
      rw [vG (t + c) 1 1 m (by omega)] at hz'
      have h11 : pc 1 1 = 1 := rfl
      have h6 := pc_ge (t + c) m (by omega)
      rw [show pc (t + c) m = c - 1 by omega] at h6
      omega
theorem xor_half (a b : Nat) : a ^^^ b = 2 * (a / 2 ^^^ b / 2) + (a + b) % 2 := by
  have h1 := Nat.xor_div_two (a := a) (b := b)
  have h2 := Nat.xor_mod_two_eq_one (a := a) (b := b)
  by_cases h : (a ^^^ b) % 2 = 1
  · have := h2.1 h
    omega
  · have : ¬ ¬ (a % 2 = 1 ↔ b % 2 = 1) := fun e => h (h2.2 e)
    omega
theorem xor_g : ∀ t c h, gX t c h ^^^ (h * 2 ^ (t + c + 1) + 2 ^ (t + c)) = (2 ^ (c + 1) - 1) * 2 ^ t
  | 0, 0, h => by
    have e1 : gX 0 0 h = 2 * h := by simp [gX]; omega
    have e2 : h * 2 ^ (0 + 0 + 1) + 2 ^ (0 + 0) = 2 * h + 1 := by simp; omega
    rw [e1, e2, xor_half, show 2 * h / 2 = h by omega, show (2 * h + 1) / 2 = h by omega, Nat.xor_self]
    simp
    try omega
  | 0, c + 1, h => by
    have ih := xor_g 0 c h
    have h1 := xI c
    have hm : h * 2 ^ (c + 1 + 1) = 2 * (h * 2 ^ (c + 1)) := by rw [pow2 (c + 1), Nat.mul_left_comm]
    rw [gX] at ih ⊢
    simp only [Nat.zero_add, Nat.pow_zero, Nat.mul_one] at ih ⊢
    rw [xor_half, hm, show (2 * (h * 2 ^ (c + 1)) + (2 ^ (c + 1) - 1)) / 2 = h * 2 ^ (c + 1) + (2 ^ c - 1) by rw [pow2 c]; omega,
      show (2 * (h * 2 ^ (c + 1)) + 2 ^ (c + 1)) / 2 = h * 2 ^ (c + 1) + 2 ^ c by rw [pow2 c]; omega, ih, pow2 (c + 1), pow2 c]
    omega
  | t + 1, c, h => by
    have ih := xor_g t c h
    have e1 : gX (t + 1) c h = 2 * gX t c h := by
      rw [gX, gX, show t + 1 + c + 1 = (t + c + 1) + 1 by omega, pow2 (t + c + 1), pow2 t, Nat.mul_left_comm, Nat.mul_left_comm (2 ^ c - 1), ← Nat.mul_add]
    have e2 : h * 2 ^ (t + 1 + c + 1) + 2 ^ (t + 1 + c) = 2 * (h * 2 ^ (t + c + 1) + 2 ^ (t + c)) := by
      rw [show t + 1 + c + 1 = (t + c + 1) + 1 by omega, show t + 1 + c = (t + c) + 1 by omega, pow2 (t + c + 1), Nat.mul_left_comm, pow2 (t + c), ← Nat.mul_add]
    rw [e1, e2, xor_half, show 2 * gX t c h / 2 = gX t c h by omega, show 2 * (h * 2 ^ (t + c + 1) + 2 ^ (t + c)) / 2 = h * 2 ^ (t + c + 1) + 2 ^ (t + c) by omega, ih, pow2 t, Nat.mul_left_comm]
    omega
theorem and_low : ∀ t j q, (2 * q + 1) * 2 ^ t < 2 ^ j → (2 ^ j - (2 * q + 1) * 2 ^ t) &&& ((2 * q + 1) * 2 ^ t) = 2 ^ t
  | t, 0, q, h => by
    have := Nat.mul_le_mul (show 1 ≤ 2 * q + 1 by omega) (xI t)
    rw [Nat.pow_zero] at h
    omega
  | 0, j + 1, q, h => by
    have hp := pow2 j
    rw [Nat.pow_zero, Nat.mul_one] at h ⊢
    rw [and_half, show (2 ^ (j + 1) - (2 * q + 1)) / 2 = 2 ^ j - 1 - q by omega, show (2 * q + 1) / 2 = q by omega, and_not j q q (by omega) (Nat.and_self q), if_pos (by omega)]
    omega
  | t + 1, j + 1, q, h => by
    have hp := pow2 j
    have hm : (2 * q + 1) * 2 ^ (t + 1) = 2 * ((2 * q + 1) * 2 ^ t) := by rw [pow2 t, Nat.mul_left_comm]
    have ih := and_low t j q (by omega)
    rw [hm] at h ⊢
    rw [and_half, show (2 ^ (j + 1) - 2 * ((2 * q + 1) * 2 ^ t)) / 2 = 2 ^ j - (2 * q + 1) * 2 ^ t by omega, show 2 * ((2 * q + 1) * 2 ^ t) / 2 = (2 * q + 1) * 2 ^ t by omega, ih, if_neg (by omega), pow2 t]
    omega
theorem gX_odd {t c h : Nat} (hc : 1 ≤ c) : ∃ q, gX t c h = (2 * q + 1) * 2 ^ t := by
  obtain ⟨d, rfl⟩ : ∃ d, c = d + 1 := ⟨c - 1, by omega⟩
  refine ⟨h * 2 ^ (d + 1) + (2 ^ d - 1), ?_⟩
  have h1 := xI d
  have e : 2 * (h * 2 ^ (d + 1) + (2 ^ d - 1)) + 1 = h * 2 ^ (d + 1 + 1) + (2 ^ (d + 1) - 1) := by
    rw [pow2 (d + 1), Nat.mul_left_comm, pow2 d]; omega
  rw [e, gX, Nat.add_mul, Nat.mul_assoc, ← Nat.pow_add, show d + 1 + 1 + t = t + (d + 1) + 1 by omega]
theorem gX_next (t c h : Nat) : gX t c h + 2 ^ t = h * 2 ^ (t + c + 1) + 2 ^ (t + c) := by
  have := low_lt t c
  rw [gX]; omega
theorem gY_or {t c h : Nat} (hc : 1 ≤ c) : (h * 2 ^ (t + c + 1) + 2 ^ (t + c)) ||| (((2 ^ (c + 1) - 1) * 2 ^ t) / 2 ^ (t + 2)) = gY t c h := by
  obtain ⟨d, rfl⟩ : ∃ d, c = d + 1 := ⟨c - 1, by omega⟩
  have h1 := xI d
  have e1 : ((2 ^ (d + 1 + 1) - 1) * 2 ^ t) / 2 ^ (t + 2) = 2 ^ d - 1 := by
    rw [Nat.pow_add 2 t 2, Nat.mul_comm (2 ^ (d + 1 + 1) - 1), Nat.mul_div_mul_left _ _ (xI t), pow2 (d + 1), pow2 d]
    omega
  have h4 : 2 ^ d ≤ 2 ^ (t + (d + 1)) := Nat.pow_le_pow_right (by omega) (by omega)
  have e2 : h * 2 ^ (t + (d + 1) + 1) + 2 ^ (t + (d + 1)) = 2 ^ (t + (d + 1)) * (2 * h + 1) := by
    rw [pow2, Nat.mul_add, Nat.mul_one, Nat.mul_left_comm, Nat.mul_left_comm (2 ^ (t + (d + 1))), Nat.mul_comm h]
  rw [e1, e2, ← Nat.two_pow_add_eq_or_of_lt (by omega), ← e2, gY, Nat.add_assoc, show d + 1 - 1 = d by omega]
def upTo (N m b : Nat) : List Nat := (List.range b).filter fun x => decide (pc N x = m)
theorem upTo_add (N m a : Nat) : ∀ d, (∀ z, a ≤ z → z < a + d → pc N z ≠ m) → upTo N m (a + d) = upTo N m a
  | 0, _ => rfl
  | d + 1, h => by
    have ih := upTo_add N m a d fun z h1 h2 => h z h1 (by omega)
    rw [upTo] at ih ⊢
    rw [show a + (d + 1) = (a + d) + 1 by omega, List.range_succ, List.filter_append, ih, upTo]
    have := h (a + d) (by omega) (by omega)
    simp [this]
theorem upTo_hit {N m a b : Nat} (h1 : a < b) (h2 : pc N a = m) (h : ∀ z, a < z → z < b → pc N z ≠ m) : upTo N m b = upTo N m a ++ [a] := by
  obtain ⟨d, rfl⟩ : ∃ d, b = (a + 1) + d := ⟨b - (a + 1), by omega⟩
  rw [upTo_add N m (a + 1) d (fun z h3 h4 => h z (by omega) h4), upTo, List.range_succ, List.filter_append]
  simp [h2, upTo]
theorem upTo_first {N m : Nat} (h : m ≤ N) : upTo N m (2 ^ m - 1) = [] := by
  have h1 := xI m
  have h2 : 2 ^ m ≤ 2 ^ N := Nat.pow_le_pow_right (by omega) h
  have := upTo_add N m 0 (2 ^ m - 1) fun z _ hz e => by
    have := pc_ge N z (by omega)
    rw [e] at this
    omega
  rw [Nat.zero_add] at this
  rw [this]; rfl
end Go.Proofs.YtchpdclknbmdoaaGreatDoor
namespace Go.Proofs.YtchpdclknbmdoaaGreatDoor
open Go Go.RowKit
def dep : Nat → Nat → Nat → Nat
  | 0, _, _ => 0
  | N + 1, b, x => if b % 2 = 1 then 2 * dep N (b / 2) (x / 2) + x % 2 else 2 * dep N (b / 2) x
theorem wU {N b x : Nat} (h : b % 2 = 1) : dep (N + 1) b x = 2 * dep N (b / 2) (x / 2) + x % 2 := by rw [dep, if_pos h]
theorem vB {N b x : Nat} (h : ¬ b % 2 = 1) : dep (N + 1) b x = 2 * dep N (b / 2) x := by rw [dep, if_neg h]
theorem pc_odd {N b : Nat} (h : b % 2 = 1) : pc (N + 1) b = pc N (b / 2) + 1 := by rw [pc, h]; omega
theorem pc_even {N b : Nat} (h : ¬ b % 2 = 1) : pc (N + 1) b = pc N (b / 2) := by rw [pc]; omega
theorem dep_zero : ∀ N b, dep N b 0 = 0
  | 0, _ => rfl
  | N + 1, b => by
    by_cases h : b % 2 = 1
    · rw [wU h, Nat.zero_div, dep_zero N]
    · rw [vB h, dep_zero N]
theorem dep_sub : ∀ N b x, dep N b x &&& b = dep N b x
  | 0, b, _ => Nat.zero_and b
  | N + 1, b, x => by
    by_cases h : b % 2 = 1
    · have ih := dep_sub N (b / 2) (x / 2)
      rw [wU h, and_half, show (2 * dep N (b / 2) (x / 2) + x % 2) / 2 = dep N (b / 2) (x / 2) by omega, ih]
      split <;> omega
    · have ih := dep_sub N (b / 2) x
      rw [vB h, and_half, show 2 * dep N (b / 2) x / 2 = dep N (b / 2) x by omega, ih]
      split <;> omega
theorem dep_full : ∀ N b, b < 2 ^ N → dep N b (2 ^ (pc N b) - 1) = b
  | 0, b, h => by rw [Nat.pow_zero] at h; rw [dep]; omega
  | N + 1, b, h => by
    rw [pow2] at h
    have ih := dep_full N (b / 2) (by omega)
    have h1 := xI (pc N (b / 2))
    by_cases hb : b % 2 = 1
    · rw [wU hb, pc_odd hb, pow2, show (2 * 2 ^ pc N (b / 2) - 1) / 2 = 2 ^ pc N (b / 2) - 1 by omega, ih]
      omega
    · rw [vB hb, pc_even hb, ih]; omega
theorem dep_mono : ∀ N b x y, x < y → y < 2 ^ (pc N b) → dep N b x < dep N b y
  | 0, b, x, y, h, hy => by rw [pc, Nat.pow_zero] at hy; omega
  | N + 1, b, x, y, h, hy => by
    by_cases hb : b % 2 = 1
    · rw [pc_odd hb, pow2] at hy
      rw [wU hb, wU hb]
      by_cases e : x / 2 = y / 2
      · rw [e]; omega
      · have := dep_mono N (b / 2) (x / 2) (y / 2) (by omega) (by omega)
        omega
    · rw [pc_even hb] at hy
      rw [vB hb, vB hb]
      have := dep_mono N (b / 2) x y h hy
      omega
theorem dep_pos {N b x : Nat} (h : 0 < x) (hx : x < 2 ^ (pc N b)) : 0 < dep N b x := by
  have := dep_mono N b 0 x h hx
  omega
theorem dep_pc : ∀ N b x, x < 2 ^ (pc N b) → pc N (dep N b x) = pc N x
  | 0, _, _, _ => rfl
  | N + 1, b, x, hx => by
    by_cases hb : b % 2 = 1
    · rw [pc_odd hb, pow2] at hx
      have ih := dep_pc N (b / 2) (x / 2) (by omega)
      rw [wU hb, pc, pc, show (2 * dep N (b / 2) (x / 2) + x % 2) / 2 = dep N (b / 2) (x / 2) by omega, ih]
      omega
    · rw [pc_even hb] at hx
      have ih := dep_pc N (b / 2) x hx
      have h1 : x < 2 ^ N := Nat.lt_of_lt_of_le hx (Nat.pow_le_pow_right (by omega) (pc_le _ _))
      rw [vB hb, pc, show 2 * dep N (b / 2) x / 2 = dep N (b / 2) x by omega, ih, pc_up h1 1]
      omega
theorem dep_dec : ∀ N b x, 0 < x → x < 2 ^ (pc N b) → (dep N b x - 1) &&& b = dep N b (x - 1)
  | 0, b, x, h, hx => by rw [pc, Nat.pow_zero] at hx; omega
  | N + 1, b, x, h, hx => by
    by_cases hb : b % 2 = 1
    · rw [pc_odd hb, pow2] at hx
      rcases Nat.mod_two_eq_zero_or_one x with e | e
      · have ih := dep_dec N (b / 2) (x / 2) (by omega) (by omega)
        have hp := dep_pos (N := N) (b := b / 2) (x := x / 2) (by omega) (by omega)
        rw [wU hb, wU hb, and_half, show (2 * dep N (b / 2) (x / 2) + x % 2 - 1) / 2 = dep N (b / 2) (x / 2) - 1 by omega, ih, if_pos (by omega), show (x - 1) / 2 = x / 2 - 1 by omega]
        omega
      · rw [wU hb, wU hb, and_half, show (2 * dep N (b / 2) (x / 2) + x % 2 - 1) / 2 = dep N (b / 2) (x / 2) by omega, dep_sub, if_neg (by omega), show (x - 1) / 2 = x / 2 by omega]
        omega
    · rw [pc_even hb] at hx
      have ih := dep_dec N (b / 2) x h hx
      have hp := dep_pos (N := N) (b := b / 2) h hx
      rw [vB hb, vB hb, and_half, show (2 * dep N (b / 2) x - 1) / 2 = dep N (b / 2) x - 1 by omega, ih, if_neg (by omega)]
      omega
theorem keysN_low (b N : Nat) : keysN b (N + 1) = (if b % 2 = 1 then [0] else []) ++ (keysN (b / 2) N).map (· + 1) := by
  rw [keysN, List.range_succ_eq_map, List.filter_cons, List.filter_map]
  have e : (List.range N).filter ((fun j => b.testBit j) ∘ Nat.succ) = keysN (b / 2) N := by
    rw [keysN]
    congr 1
    funext j
    exact Nat.testBit_succ b j
  rw [e, Nat.testBit_zero]
  by_cases h : b % 2 = 1
  · simp [h]
  · simp [h]
theorem keysN_pc : ∀ N b, (keysN b N).length = pc N b
  | 0, b => rfl
  | N + 1, b => by
    rw [keysN_low, List.length_append, List.length_map, keysN_pc N, pc]
    by_cases h : b % 2 = 1
    · rw [if_pos h, h]; rfl
    · rw [if_neg h, List.length_nil]; omega
theorem keys_pc (s : Nat) : (keys s).length = pc 23 s := keysN_pc 23 s
def spr : List Nat → Nat → Nat
  | [], _ => 0
  | k :: ks, x => x % 2 * 2 ^ k + spr ks (x / 2)
theorem spr_up : ∀ (l : List Nat) (x : Nat), spr (l.map (· + 1)) x = 2 * spr l x
  | [], _ => rfl
  | k :: l, x => by
    rw [List.map_cons, spr, spr, spr_up l, pow2, Nat.mul_add, Nat.mul_left_comm]
theorem spr_dep : ∀ N b x, spr (keysN b N) x = dep N b x
  | 0, b, x => rfl
  | N + 1, b, x => by
    rw [keysN_low]
    by_cases h : b % 2 = 1
    · rw [if_pos h, List.singleton_append, spr, spr_up, spr_dep N, wU h, Nat.pow_zero]
      omega
    · rw [if_neg h, List.nil_append, spr_up, spr_dep N, vB h]
theorem spr_snoc : ∀ (l : List Nat) (k x : Nat), spr (l ++ [k]) x = spr l x + x / 2 ^ l.length % 2 * 2 ^ k
  | [], k, x => by simp [spr]
  | a :: l, k, x => by
    rw [List.cons_append, spr, spr, spr_snoc l, List.length_cons, pow2, Nat.div_div_eq_div_mul, Nat.add_assoc]
theorem spr_lt {b : Nat} (x : Nat) : ∀ (j k : Nat), j ≤ (keys b).length → (∀ (i a : Nat), i < j → (keys b)[i]? = some a → a < k) → spr ((keys b).take j) x < 2 ^ k
  | 0, k, _, _ => by rw [List.take_zero, spr]; exact Nat.lt_of_lt_of_le Nat.zero_lt_one (xI k)
  | j + 1, k, hj, h => by
    obtain ⟨a, ha⟩ := xQ (show j < (keys b).length by omega)
    have ih := spr_lt x j a (by omega) fun i c hi hc => keys_asc hi hc ha
    have hk := h j a (by omega) ha
    have h1 : 2 ^ (a + 1) ≤ 2 ^ k := Nat.pow_le_pow_right (by omega) hk
    rw [take_succ ha, spr_snoc]
    rw [pow2] at h1
    rcases Nat.mod_two_eq_zero_or_one (x / 2 ^ ((keys b).take j).length) with e | e
    · rw [e]; omega
    · rw [e]; omega
theorem spr_at {b x j a : Nat} (h : (keys b)[j]? = some a) : spr ((keys b).take (j + 1)) x = if x / 2 ^ j % 2 = 1 then spr ((keys b).take j) x ||| 2 ^ a else spr ((keys b).take j) x := by
  have hj := (List.getElem?_eq_some_iff.1 h).1
  have hlt := spr_lt (b := b) x j a (by omega) fun i c hi hc => keys_asc hi hc h
  have hl : ((keys b).take j).length = j := by rw [List.length_take]; omega
  rw [take_succ h, spr_snoc, hl]
  split
  · next e =>
    have := Nat.two_pow_add_eq_or_of_lt hlt 1
    rw [Nat.mul_one] at this
    rw [e, Nat.or_comm, ← this]
    omega
  · next e =>
    rw [show x / 2 ^ j % 2 = 0 by omega]
    omega
theorem nextX {x : Nat} (h0 : 0 < x) (hx : x < 8388608) : ∃ t y, t ≤ 22 ∧ (18446744073709551616 - x) &&& x = 2 ^ t ∧ (x + 2 ^ t) ||| ((x ^^^ (x + 2 ^ t)) / 2 ^ (t + 2)) = y ∧ x + 2 ^ t < 33554432 ∧ x < y ∧ y < 16777216 ∧ pc 24 y = pc 24 x ∧ ∀ z, x < z → z < y → pc 24 z ≠ pc 24 x := by
  obtain ⟨t, c, h, e, hc⟩ := gX_ex x x (Nat.le_refl _) h0
  have h1 := low_lt t c
  have h2 := xI t
  have e23 : (8388608 : Nat) = 2 ^ 23 := by decide
  have e24 : (16777216 : Nat) = 2 ^ 24 := by decide
  have htx : 2 ^ t ≤ (2 ^ c - 1) * 2 ^ t := by
    have : 1 ≤ 2 ^ c - 1 := by
      have := Nat.pow_le_pow_right (show 0 < 2 by omega) hc
      omega
    have := Nat.mul_le_mul_right (2 ^ t) this
    omega
  have hxe := e
  rw [gX] at hxe
  have ht : t ≤ 22 := by
    apply Decidable.byContradiction
    intro hn
    have : 2 ^ 23 ≤ 2 ^ t := Nat.pow_le_pow_right (by omega) (by omega)
    omega
  have htc : t + c ≤ 23 := by
    apply Decidable.byContradiction
    intro hn
    have h3 : 2 ^ 24 ≤ 2 ^ (t + c) := Nat.pow_le_pow_right (by omega) (by omega)
    omega
  have hp : 2 ^ 24 = 2 ^ (24 - (t + c + 1)) * 2 ^ (t + c + 1) := by rw [← Nat.pow_add, show 24 - (t + c + 1) + (t + c + 1) = 24 by omega]
  have hh : h + 1 ≤ 2 ^ (24 - (t + c + 1)) := by
    have : h * 2 ^ (t + c + 1) < 2 ^ (24 - (t + c + 1)) * 2 ^ (t + c + 1) := by omega
    exact Nat.lt_of_mul_lt_mul_right this
  have hy := gY_lt (t := t) (h := h) hc
  have hy2 := Nat.mul_le_mul_right (2 ^ (t + c + 1)) hh
  have hM : t + c + 1 + (24 - (t + c + 1)) = 24 := by omega
  have hg := gos (t := t) (h := h) (M := 24 - (t + c + 1)) hc
  rw [hM] at hg
  obtain ⟨q, hq⟩ := gX_odd (t := t) (h := h) hc
  refine ⟨t, gY t c h, ht, ?_, ?_, by omega, by rw [e]; exact hy.1, by omega, ?_, ?_⟩
  · have e64 : (18446744073709551616 : Nat) = 2 ^ 64 := by decide
    have := and_low t 64 q (by rw [← hq, ← e, ← e64]; omega)
    rw [e64, e, hq, this]
  · rw [e, gX_next, xor_g, gY_or hc]
  · rw [hg.2.1, e, hg.1]
  · intro z z1 z2
    rw [e] at z1
    rw [e, hg.1]
    exact hg.2.2 z z1 z2
def sbN (base x : Nat) : Int := ((dep 23 base x : Nat) : Int)
def wY (es : List Ent) (s : Int) : Bool := !hasE es [s]
def grp (es : List Ent) (base m b : Nat) : List Int := ((upTo 24 m b).map (sbN base)).filter (wY es)
theorem grp_first (es : List Ent) (base : Nat) {m : Nat} (h : m ≤ 24) : grp es base m (2 ^ m - 1) = [] := by rw [grp, upTo_first h]; rfl
theorem grp_hit (es : List Ent) (base : Nat) {m a b : Nat} (h1 : a < b) (h2 : pc 24 a = m) (h : ∀ z, a < z → z < b → pc 24 z ≠ m) : grp es base m b = grp es base m a ++ if wY es (sbN base a) then [sbN base a] else [] := by
  rw [grp, upTo_hit h1 h2 h, List.map_append, List.filter_append, grp]
  cases hf : wY es (sbN base a) <;> simp [hf]
theorem grp_pre (es : List Ent) (base m : Nat) {a b : Nat} (h : a ≤ b) : ∃ r, grp es base m b = grp es base m a ++ r := by
  obtain ⟨d, rfl⟩ : ∃ d, b = a + d := ⟨b - a, by omega⟩
  have e : List.range (a + d) = List.range a ++ (List.range d).map (a + ·) := List.range_add ..
  refine ⟨((((List.range d).map (a + ·)).filter fun x => decide (pc 24 x = m)).map (sbN base)).filter (wY es), ?_⟩
  rw [grp, grp, upTo, upTo, e, List.filter_append, List.map_append, List.filter_append]
def szK (base : Nat) : Nat := pc 23 base
def allG (es : List Ent) (base : Nat) : Nat → List Int
  | 0 => []
  | j + 1 => allG es base j ++ grp es base (szK base - j) (2 ^ szK base)
def sug (es : List Ent) (base n : Nat) : List Int := (allG es base (szK base)).take n
theorem take_more {α : Type} {A B : List α} {n : Nat} (h : n ≤ A.length) : (A ++ B).take n = A.take n := List.take_append_of_le_length h
theorem allG_more (es : List Ent) (base : Nat) {n j : Nat} (h : n ≤ (allG es base j).length) : ∀ k, (allG es base (j + k)).take n = (allG es base j).take n ∧ n ≤ (allG es base (j + k)).length
  | 0 => ⟨rfl, h⟩
  | k + 1 => by
    obtain ⟨h1, h2⟩ := allG_more es base h k
    rw [← Nat.add_assoc, allG, take_more h2]
    exact ⟨h1, by rw [List.length_append]; omega⟩
theorem sug_stop {es : List Ent} {base n j : Nat} (hj : j ≤ szK base) (h : n ≤ (allG es base j).length) : sug es base n = (allG es base j).take n := by
  have := (allG_more es base h (szK base - j)).1
  rw [show j + (szK base - j) = szK base by omega] at this
  rw [sug, this]
def dn (es : List Ent) (base m a : Nat) : List Int := ((((List.range (2 ^ szK base)).drop a).filter fun x => decide (pc 24 x = m)).map (sbN base)).filter (wY es)
theorem drop_range {n a : Nat} (h : a < n) : (List.range n).drop a = a :: (List.range n).drop (a + 1) := by
  rw [List.drop_eq_getElem_cons (by rw [List.length_range]; exact h), List.getElem_range]
theorem dn_end (es : List Ent) (base m : Nat) : dn es base m (2 ^ szK base) = [] := by
  rw [dn, List.drop_eq_nil_of_le (by rw [List.length_range]; exact Nat.le_refl _)]; rfl
theorem dn_hit {es : List Ent} {base m a : Nat} (h : a < 2 ^ szK base) (h1 : pc 24 a = m) (h2 : wY es (sbN base a) = true) : dn es base m a = sbN base a :: dn es base m (a + 1) := by
  rw [dn, drop_range h, List.filter_cons, if_pos (by rw [decide_eq_true h1]), List.map_cons, List.filter_cons, if_pos h2, dn]
theorem dn_size {es : List Ent} {base m a : Nat} (h : a < 2 ^ szK base) (h1 : ¬ pc 24 a = m) : dn es base m a = dn es base m (a + 1) := by
  rw [dn, drop_range h, List.filter_cons, if_neg (by rw [decide_eq_false h1]; exact Bool.noConfusion), dn]
theorem dn_full {es : List Ent} {base m a : Nat} (h : a < 2 ^ szK base) (h2 : ¬ wY es (sbN base a) = true) : dn es base m a = dn es base m (a + 1) := by
  by_cases h1 : pc 24 a = m
  · rw [dn, drop_range h, List.filter_cons, if_pos (by rw [decide_eq_true h1]), List.map_cons, List.filter_cons, if_neg h2, dn]
  · exact dn_size h h1
theorem dn_grp (es : List Ent) (base : Nat) {m : Nat} (h : 1 ≤ m) : dn es base m 1 = grp es base m (2 ^ szK base) := by
  have h0 := xI (szK base)
  rw [← dn_size (a := 0) (by omega) (by rw [pc_zero]; omega), dn, List.drop_zero, grp, upTo]
theorem dn_mem {es : List Ent} {base m a : Nat} {v : Int} (h : v ∈ dn es base m a) : ∃ x, a ≤ x ∧ x < 2 ^ szK base ∧ pc 24 x = m ∧ v = sbN base x ∧ wY es v = true := by
  rw [dn, List.mem_filter, List.mem_map] at h
  obtain ⟨⟨x, hx, rfl⟩, hf⟩ := h
  rw [List.mem_filter, decide_eq_true_eq] at hx
  obtain ⟨i, hi⟩ := List.getElem?_of_mem hx.1
  rw [List.getElem?_drop] at hi
  obtain ⟨h1, h2⟩ := List.getElem?_eq_some_iff.1 hi
  rw [List.getElem_range] at h2
  rw [List.length_range] at h1
  exact ⟨x, by omega, by omega, hx.2, rfl, hf⟩
theorem grp_mem {es : List Ent} {base m b : Nat} {v : Int} (h : v ∈ grp es base m b) : ∃ x, x < b ∧ pc 24 x = m ∧ v = sbN base x ∧ wY es v = true := by
  rw [grp, List.mem_filter, List.mem_map] at h
  obtain ⟨⟨x, hx, rfl⟩, hf⟩ := h
  rw [upTo, List.mem_filter, decide_eq_true_eq, List.mem_range] at hx
  exact ⟨x, hx.1, hx.2, rfl, hf⟩
theorem allG_mem {es : List Ent} {base : Nat} {v : Int} : ∀ {j : Nat}, j ≤ szK base → v ∈ allG es base j → ∃ x, x < 2 ^ szK base ∧ szK base - j < pc 24 x ∧ v = sbN base x ∧ wY es v = true
  | 0, _, h => by cases h
  | j + 1, hj, h => by
    rw [allG, List.mem_append] at h
    rcases h with h | h
    · obtain ⟨x, h1, h2, h3, h4⟩ := allG_mem (by omega) h
      exact ⟨x, h1, by omega, h3, h4⟩
    · obtain ⟨x, h1, h2, h3, h4⟩ := grp_mem h
      exact ⟨x, h1, by omega, h3, h4⟩
theorem kY (base : Nat) : szK base ≤ 23 := pc_le _ _
theorem pow23 {k : Nat} (h : k ≤ 23) : 2 ^ k ≤ 8388608 := by
  have : 2 ^ k ≤ 2 ^ 23 := Nat.pow_le_pow_right (by omega) h
  exact this
theorem pc24 {base x : Nat} (h : x < 2 ^ szK base) : pc 23 (dep 23 base x) = pc 24 x := by
  have h1 := pow23 (kY base)
  rw [dep_pc 23 base x h, ← pc_up (show x < 2 ^ 23 by have : (8388608 : Nat) = 2 ^ 23 := by decide
                                                      omega) 1]
theorem grp_len (es : List Ent) (base m : Nat) : ∀ b, (grp es base m b).length ≤ b := fun b => by
  rw [grp]
  refine Nat.le_trans (List.length_filter_le _ _) ?_
  rw [List.length_map, upTo]
  exact Nat.le_trans (List.length_filter_le _ _) (by rw [List.length_range]; exact Nat.le_refl _)
theorem dn_len (es : List Ent) (base m a : Nat) : (dn es base m a).length ≤ 2 ^ szK base - a := by
  rw [dn]
  refine Nat.le_trans (List.length_filter_le _ _) ?_
  rw [List.length_map]
  exact Nat.le_trans (List.length_filter_le _ _) (by rw [List.length_drop, List.length_range]; exact Nat.le_refl _)
end Go.Proofs.YtchpdclknbmdoaaGreatDoor
