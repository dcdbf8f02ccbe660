/- LevelCounts of both programs. No conditions but bounds of lengths. -/
import Derived.Test.YtbboadheacmddaaDoorDkE
import Derived.Test.YtbboadheacmddaaDoorAbs4
namespace Go.Proofs.YtbboadheacmddaaDoor
open Go Go.RowKit
def bump (l : List Int) (i : Nat) : List Int := l.set i (l.getD i 0 + 1)
def lv (cs : List CardD) : Nat → List Int
  | 0 => List.replicate 6 0
  | k + 1 => bump (lv cs k) ((cs[k]?.map fun c => c.level.toNat).getD 0)
def lvs (cs : List CardD) : List Int := lv cs cs.length
theorem bump_len (l : List Int) (i : Nat) : (bump l i).length = l.length := by simp [bump]
theorem lv_len (cs : List CardD) : ∀ k, (lv cs k).length = 6
  | 0 => by simp [lv]
  | k + 1 => by rw [lv, bump_len, lv_len cs k]
theorem lv_le (cs : List CardD) : ∀ (k : Nat) v, v ∈ lv cs k → 0 ≤ v ∧ v ≤ k
  | 0, v, h => by simp [lv] at h; omega
  | k + 1, v, h => by
    rw [lv, bump] at h
    generalize (cs[k]?.map fun c => c.level.toNat).getD 0 = i at h
    rcases List.mem_or_eq_of_mem_set h with h | h
    · have := lv_le cs k v h; omega
    · rcases Nat.lt_or_ge i (lv cs k).length with h2 | h2
      · have := lv_le cs k _ (List.getElem_mem h2)
        rw [List.getD_eq_getElem?_getD, List.getElem?_eq_getElem h2, Option.getD_some] at h
        omega
      · rw [List.getD_eq_getElem?_getD, List.getElem?_eq_none (by omega), Option.getD_none] at h
        omega
theorem lv_succ {cs : List CardD} {k m : Nat} {c : CardD} {v : Int} (hc : cs[k]? = some c) (hm : c.level = (m : Int)) (hv : (lv cs k)[m]? = some v) : ((lv cs k).map eInt).set m (eInt (v + 1)) = (lv cs (k + 1)).map eInt := by
  have e : (lv cs k).getD m 0 = v := by rw [List.getD_eq_getElem?_getD, hv, Option.getD_some]
  simp only [lv, hc, Option.map_some, Option.getD_some, hm, Int.toNat_natCast, bump, e, List.map_set]
theorem deckOk_at {cs : List CardD} (h : deckOk cs = true) {k : Nat} {c : CardD} (hc : cs[k]? = some c) : cardOk c = true := by
  rw [deckOk_eq] at h
  simp only [Bool.and_eq_true, List.all_eq_true] at h
  exact h.2.1 c (List.mem_of_getElem? hc)
theorem deckOk_len {cs : List CardD} (h : deckOk cs = true) : cs.length ≤ 40 := by
  rw [deckOk] at h
  simp only [Bool.and_eq_true, decide_eq_true_eq] at h
  omega
theorem cardOk_level {c : CardD} (h : cardOk c = true) : ∃ m : Nat, c.level = (m : Int) ∧ m ≤ 5 := by
  simp only [cardOk, inZ, Bool.and_eq_true, decide_eq_true_eq] at h
  exact ⟨c.level.toNat, by omega, by omega⟩
def lvObj (cs : List CardD) (k : Nat) : AObj := ⟨3, 1, (lv cs k).map eInt⟩
end Go.Proofs.YtbboadheacmddaaDoor
