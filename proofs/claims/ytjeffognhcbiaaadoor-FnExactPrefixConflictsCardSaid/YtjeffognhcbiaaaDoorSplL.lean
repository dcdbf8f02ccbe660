/- strings.Split and strings.Cut at one byte, in plain words. No conditions. -/
import Derived.Test.YtjeffognhcbiaaaDoorSpl
import Derived.Test.YtjeffognhcbiaaaDoorSLib
namespace Go.Proofs.YtjeffognhcbiaaaDoor
open Go Go.RowKit
theorem ixB_no {b : UInt8} : ∀ {p : List UInt8}, b ∉ p → Lib.indexByte p b = -1
  | [], _ => rfl
  | c :: p, h => by
    simp only [List.mem_cons, not_or] at h
    rw [Lib.indexByte, if_neg (by simpa using fun e => h.1 e.symm), ixB_no h.2]
    rfl
theorem ixB_hit {b : UInt8} (r : List UInt8) : ∀ {p : List UInt8}, b ∉ p → Lib.indexByte (p ++ b :: r) b = p.length
  | [], _ => by rw [List.nil_append, Lib.indexByte, if_pos (by simp)]; rfl
  | c :: p, h => by
    simp only [List.mem_cons, not_or] at h
    rw [List.cons_append, Lib.indexByte, if_neg (by simpa using fun e => h.1 e.symm), ixB_hit r h.2, if_neg (by simp), List.length_cons]
    omega
theorem splK {b : UInt8} : ∀ (n : Nat) (l : List UInt8), l.length < n → Lib.countFrom [b] n l + 1 = (spl b l).length ∧ ∀ k, (spl b l).length ≤ k + 1 → Lib.splitK [b] 0 k l = spl b l
  | 0, l, h => absurd h (Nat.not_lt_zero _)
  | n + 1, l, h => by
    by_cases hb : b ∈ l
    · obtain ⟨p, r, rfl, hp⟩ := List.eq_append_cons_of_mem hb
      have hl : r.length < n := by simp only [List.length_append, List.length_cons] at h; omega
      obtain ⟨h1, h2⟩ := splK (b := b) n r hl
      have hd : (p ++ b :: r).drop (p.length + 1) = r := by simp [List.drop_append]
      have hx : ¬ ((p.length : Int) == -1) = true := by simp
      rw [spl_hit r hp, List.length_cons]
      refine ⟨?_, fun k hk => ?_⟩
      · rw [Lib.countFrom, Lib.index_one, ixB_hit r hp, if_neg hx, Int.toNat_natCast, List.length_singleton, hd]
        omega
      · obtain ⟨k, rfl⟩ : ∃ j, k = j + 1 := ⟨k - 1, by have := (vU b r).1; omega⟩
        rw [Lib.splitK, Lib.index_one, ixB_hit r hp, if_neg hx, Int.toNat_natCast, List.length_singleton, hd, h2 k (by omega), Nat.add_zero, List.take_left' rfl]
    · rw [spl_no hb]
      refine ⟨?_, fun k _ => ?_⟩
      · rw [Lib.countFrom, Lib.index_one, ixB_no hb]; rfl
      · cases k with
        | zero => rfl
        | succ k => rw [Lib.splitK, Lib.index_one, ixB_no hb]; rfl
theorem splitL_one (l : List UInt8) (b : UInt8) : x8 l [b] = spl b l := by
  rw [x8, Lib.splitB_data]
  obtain ⟨h1, h2⟩ := splK (b := b) (l.length + 1) l (Nat.lt_succ_self _)
  exact h2 _ (by rw [← h1]; exact Nat.le_refl _)
end Go.Proofs.YtjeffognhcbiaaaDoor
