/- ReadingTime: both programs give 0 for a text that is no caption, else the greater of 1000 and 60 a byte. No conditions. -/
import Derived.Test.YtnkididnncmbhaaBase
namespace Go.Proofs.Ytnkididnncmbhaa
open Go.RowKit

/-- a byte between 32 and 126 -/
def okByte (c : UInt8) : Bool := !(decide ((c.toNat : Int) < 32)) && !(decide (126 < (c.toNat : Int)))
/-- all bytes of a text lie between 32 and 126 -/
def printable (s : ByteArray) : Bool := s.data.toList.all okByte
theorem printable_all {s : ByteArray} (h : ∀ j (hj : j < s.size), okByte s[j] = true) : printable s = true := by
  unfold printable
  rw [List.all_eq_true]
  intro c hc
  obtain ⟨j, hj, rfl⟩ := List.getElem_of_mem hc
  exact h j (by simpa using hj)
theorem printable_not {s : ByteArray} (j : Nat) (hj : j < s.size) (h : okByte s[j] = false) : printable s = false := by
  unfold printable
  rw [List.all_eq_false]
  exact ⟨s[j], List.getElem_mem (l := s.data.toList) (by simpa using hj), by simp [h]⟩

/-- x lies between a and b -/
def inB (x a b : Int) : Bool := decide (a ≤ x) && decide (x ≤ b)
theorem inB_true {x a b : Int} : inB x a b = true ↔ a ≤ x ∧ x ≤ b := by simp [inB]
theorem inB_false {x a b : Int} : inB x a b = false ↔ x < a ∨ b < x := by unfold inB; rw [Bool.and_eq_false_iff]; simp

theorem l1In_any (x a b : Int) (w : World) :
    Calls Try.prog 49 #[.int .i64 x, .int .i64 a, .int .i64 b] w fun e w' => e = .returned (.bool (inB x a b)) ∧ w = w' := by
  by_cases h1 : a ≤ x
  all_goals
    go_enter Try.func49, Try.ntmps49
    go_wp2
    go_ret
    exact ⟨ret_bool (by simp [inB]; omega), rfl⟩
theorem in_any (x a b : Int) (w : World) :
    Calls Try.prog 52 #[.int .i64 x, .int .i64 a, .int .i64 b] w fun e w' => e = .returned (.bool (inB x a b)) ∧ w = w' := by
  by_cases h1 : a ≤ x
  all_goals
    go_enter Try.func52, Try.ntmps52
    go_wp2
    go_ret
    exact ⟨ret_bool (by simp [inB]; omega), rfl⟩
theorem l1Most_any (a b : Int) (w : World) :
    Calls Try.prog 31 #[.int .i64 a, .int .i64 b] w fun e w' => e = .returned (.int .i64 (max a b)) ∧ w = w' := by
  go_enter Try.func31, Try.ntmps31
  go_wp2
  all_goals
    go_ret
    exact ⟨ret_int (by omega), rfl⟩
theorem isPrintable_any (s : ByteArray) (w : World) (hs : s.size ≤ maxLen) :
    Calls Try.prog 53 #[.string s] w fun e w' => e = .returned (.bool (printable s)) ∧ w = w' := by
  unfold maxLen at hs
  go_enter Try.func53, Try.ntmps53
  go_wp2
  go_loop [6] (fun i => ∃ k : Nat, k ≤ s.size ∧ i = .int .i64 k ∧ ∀ j (hj : j < s.size), j < k → okByte s[j] = true) (fun i => s.size - (intOf i).toNat)
  case atStart => exact ⟨0, Nat.zero_le _, rfl, by intro j _ h; omega⟩
  case round =>
    obtain ⟨k, hk, rfl, H0⟩ := hrel
    have H := Lib.hid H0
    clear H0
    by_cases hlt : k < s.size
    · go_wp2
      all_goals first
        | (go_ret; exact ⟨ret_bool (printable_not k hlt (by simp [okByte]; omega)).symm, rfl⟩)
        | (go_round
           case rel =>
            refine ⟨k + 1, by omega, by go_num, fun j hj hjk => ?_⟩
            by_cases hjk' : j < k
            · exact H.out j hj hjk'
            · obtain rfl : j = k := by omega
              simp [okByte]; omega
           case measure => simp [intOf]; omega)
    · go_wp2
      go_ret
      exact ⟨ret_bool (printable_all fun j hj => H.out j hj (by omega)).symm, rfl⟩
theorem l20Caption_any (s : ByteArray) (w : World) (hs : s.size ≤ maxLen) :
    Calls Try.prog 30 #[.string s] w fun e w' => e = .returned (.bool (printable s && inB s.size 1 120)) ∧ w = w' := by
  unfold maxLen at hs
  go_enter Try.func30, Try.ntmps30
  go_wp2
  go_loop [3] (fun i => ∃ k : Nat, k ≤ s.size ∧ i = .int .i64 k ∧ ∀ j (hj : j < s.size), j < k → okByte s[j] = true) (fun i => s.size - (intOf i).toNat)
  case atStart => exact ⟨0, Nat.zero_le _, rfl, by intro j _ h; omega⟩
  case round =>
    obtain ⟨k, hk, rfl, H0⟩ := hrel
    have H := Lib.hid H0
    clear H0
    by_cases hlt : k < s.size
    · go_wp2
      all_goals first
        | (go_ret; exact ⟨ret_bool (by rw [printable_not k hlt (by simp [okByte]; omega)]; rfl), rfl⟩)
        | (go_round
           case rel =>
            refine ⟨k + 1, by omega, by go_num, fun j hj hjk => ?_⟩
            by_cases hjk' : j < k
            · exact H.out j hj hjk'
            · obtain rfl : j = k := by omega
              simp [okByte]; omega
           case measure => simp [intOf]; omega)
    · go_wp2_with (go_at_call 49; refine (l1In_any _ _ _ _).mono ?_; rintro e w' ⟨rfl, rfl⟩)
      go_ret
      exact ⟨ret_bool (by rw [printable_all fun j hj => H.out j hj (by omega)]; rfl), rfl⟩
theorem isCaption_any (s : ByteArray) (w : World) (hs : s.size ≤ maxLen) :
    Calls Try.prog 32 #[.string s] w fun e w' => e = .returned (.bool (printable s && inB s.size 1 120)) ∧ w = w' := by
  cases h : inB s.size 1 120
  all_goals
    go_enter Try.func32, Try.ntmps32
    go_wp2_with (first | (go_at_call 52; refine (in_any _ _ _ _).mono ?_; rintro e w' ⟨rfl, rfl⟩) | (go_at_call 53; refine (isPrintable_any _ _ hs).mono ?_; rintro e w' ⟨rfl, rfl⟩))
    go_ret
    exact ⟨ret_bool (by simp), rfl⟩
def readT (s : ByteArray) : Int := if printable s && inB s.size 1 120 then max 1000 (60 * s.size) else 0
theorem specReadingTime_any (s : ByteArray) (w : World) (hs : s.size ≤ maxLen) :
    Calls Try.prog 9 #[.string s] w fun e w' => e = .returned (.int .i64 (readT s)) ∧ w = w' := by
  cases hp : (printable s && inB s.size 1 120)
  · go_enter Try.func9, Try.ntmps9
    go_wp2_with (first | (go_at_call 30; refine (l20Caption_any _ _ hs).mono ?_; rintro e w' ⟨rfl, rfl⟩))
    go_ret
    exact ⟨ret_int (by simp only [readT]; rw [hp]; rfl), rfl⟩
  · have hb : (s.size : Int) ≤ 120 := (inB_true.1 ((Bool.and_eq_true _ _).mp hp).2).2
    go_enter Try.func9, Try.ntmps9
    go_wp2_with (first | (go_at_call 30; refine (l20Caption_any _ _ hs).mono ?_; rintro e w' ⟨rfl, rfl⟩) | (go_at_call 31; refine (l1Most_any _ _ _).mono ?_; rintro e w' ⟨rfl, rfl⟩))
    go_ret
    exact ⟨ret_int (by simp only [readT]; rw [hp]; rfl), rfl⟩
theorem implReadingTime_any (s : ByteArray) (w : World) (hs : s.size ≤ maxLen) :
    Calls Try.prog 10 #[.string s] w fun e w' => e = .returned (.int .i64 (readT s)) ∧ w = w' := by
  cases hp : (printable s && inB s.size 1 120)
  · go_enter Try.func10, Try.ntmps10
    go_wp2_with (first | (go_at_call 32; refine (isCaption_any _ _ hs).mono ?_; rintro e w' ⟨rfl, rfl⟩))
    go_ret
    exact ⟨ret_int (by simp only [readT]; rw [hp]; rfl), rfl⟩
  · have hb : (s.size : Int) ≤ 120 := (inB_true.1 ((Bool.and_eq_true _ _).mp hp).2).2
    go_enter Try.func10, Try.ntmps10
    go_wp2_with (first | (go_at_call 32; refine (isCaption_any _ _ hs).mono ?_; rintro e w' ⟨rfl, rfl⟩))
    all_goals
      go_ret
      exact ⟨ret_int (by simp only [readT]; rw [hp]; simp; omega), rfl⟩
theorem law_any (s : ByteArray) (w : World) (hs : s.size ≤ maxLen) :
    Calls Try.prog 3 #[.string s] w fun e w' => e = .returned (.bool true) ∧ w = w' := by
  go_enter Try.func3, Try.ntmps3
  go_wp2_with (first | (go_at_call 9; refine (specReadingTime_any _ _ hs).mono ?_; rintro e w' ⟨rfl, rfl⟩) | (go_at_call 10; refine (implReadingTime_any _ _ hs).mono ?_; rintro e w' ⟨rfl, rfl⟩))
  all_goals
    go_ret
    exact ⟨rfl, rfl⟩
end Go.Proofs.Ytnkididnncmbhaa
