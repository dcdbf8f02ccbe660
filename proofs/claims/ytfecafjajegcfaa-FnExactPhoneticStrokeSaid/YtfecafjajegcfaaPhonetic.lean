/- PhoneticStroke: both programs' functions at every word. No conditions but the word's length. -/
import Derived.Test.YtfecafjajegcfaaBytes
import Derived.Test.YtfecafjajegcfaaShelf
import Derived.Laws.BitsLemmas
namespace Go.Proofs.Ytfecafjajegcfaa
open Go.RowKit

def bor (x y : Int) : Int := bits BinOp.or IntKind.i64 x y
def vowelK (c : Int) : Int := if c == 97 then 256 else if c == 111 then 512 else if c == 101 then 2048 else if c == 117 then 4096 else if c == 105 then 6144 else 0
def leftK (c : Int) : Int := if c == 115 then 2 else if c == 116 then 4 else if c == 107 || c == 99 then 8 else if c == 112 then 16 else if c == 119 then 32 else if c == 104 then 64 else if c == 114 then 128 else 0
def thumbK (c : Int) : Int := if c == 97 then 256 else if c == 111 then 512 else if c == 101 then 2048 else if c == 117 then 4096 else 6144
def rightK (c : Int) : Int := if c == 102 || c == 118 then 8192 else if c == 114 then 16384 else if c == 112 then 32768 else if c == 98 then 65536 else if c == 108 then 131072 else if c == 103 then 262144
  else if c == 116 then 524288 else if c == 115 then 1048576 else if c == 100 then 2097152 else if c == 122 then 4194304 else if c == 110 then 98304 else if c == 109 then 163840 else if c == 107 || c == 99 then 327680 else 0
def isV (c : Int) : Bool := decide (0 ≤ Lib.indexByte [97, 101, 105, 111, 117] (UInt8.ofNat c.toNat))

theorem l17Vowel_any (c : Int) (w : World) : Calls Try.prog 58 #[.int .u8 c] w fun e w' => e = .returned (.int .i64 (vowelK c)) ∧ w = w' := by
  go_enter Try.func58, Try.ntmps58
  go_wp2
  all_goals
    go_ret
    exact ⟨ret_int (by simp [vowelK, *]), rfl⟩
theorem l17Left_any (c : Int) (w : World) : Calls Try.prog 59 #[.int .u8 c] w fun e w' => e = .returned (.int .i64 (leftK c)) ∧ w = w' := by
  go_enter Try.func59, Try.ntmps59
  go_wp2
  all_goals
    go_ret
    exact ⟨ret_int (by simp [leftK, *]), rfl⟩
set_option maxHeartbeats 1000000 in
theorem l17Right_any (c : Int) (w : World) : Calls Try.prog 60 #[.int .u8 c] w fun e w' => e = .returned (.int .i64 (rightK c)) ∧ w = w' := by
  go_enter Try.func60, Try.ntmps60
  go_wp2
  all_goals
    go_ret
    exact ⟨ret_int (by simp [rightK, *]), rfl⟩
theorem leftKey_any (c : Int) (w : World) : Calls Try.prog 63 #[.int .u8 c] w fun e w' => e = .returned (.int .i64 (leftK c)) ∧ w = w' := by
  go_enter Try.func63, Try.ntmps63
  go_wp2
  all_goals
    go_ret
    exact ⟨ret_int (by simp [leftK, *]), rfl⟩
theorem thumbKeys_any (c : Int) (w : World) : Calls Try.prog 64 #[.int .u8 c] w fun e w' => e = .returned (.int .i64 (thumbK c)) ∧ w = w' := by
  go_enter Try.func64, Try.ntmps64
  go_wp2
  all_goals
    go_ret
    exact ⟨ret_int (by simp [thumbK, *]), rfl⟩
set_option maxHeartbeats 1000000 in
theorem rightKeys_any (c : Int) (w : World) : Calls Try.prog 65 #[.int .u8 c] w fun e w' => e = .returned (.int .i64 (rightK c)) ∧ w = w' := by
  go_enter Try.func65, Try.ntmps65
  go_wp2
  all_goals
    go_ret
    exact ⟨ret_int (by simp [rightK, *]), rfl⟩
theorem isVowel_any (c : Int) (w : World) : Calls Try.prog 62 #[.int .u8 c] w fun e w' => e = .returned (.bool (isV c)) ∧ w = w' := by
  go_enter Try.func62, Try.ntmps62
  go_wp2_with (go_at_call 69; refine (indexByte_any _ _ _).mono ?_; rintro e w' ⟨rfl, rfl⟩)
  go_ret
  exact ⟨rfl, rfl⟩
/-- a small letter -/
def lower (c : Int) : Bool := inB c 97 122
theorem areLetters_any (s : ByteArray) (w : World) (hs : s.size ≤ 1048576) :
    Calls Try.prog 61 #[.string s] w fun e w' => e = .returned (.bool ((bs s).all lower)) ∧ w = w' := by
  go_enter Try.func61, Try.ntmps61
  go_wp2
  go_loop [6] (fun i => ∃ k : Nat, k ≤ s.size ∧ i = .int .i64 k ∧ Hid (∀ (j : Nat) x, j < k → (bs s)[j]? = some x → lower x = true)) (fun i => s.size - (intOf i).toNat)
  case atStart => exact ⟨0, Nat.zero_le _, rfl, by intro j x h; omega⟩
  case round =>
    obtain ⟨k, hk, rfl, H⟩ := hrel
    by_cases hlt : k < s.size
    · obtain ⟨x, hx, hat, h0, h1⟩ := byte_of hlt
      have X := Lib.hid hat
      clear hat
      by_cases hlo : 97 ≤ x ∧ x ≤ 122
      · have hlo1 := hlo.1
        have hlo2 := hlo.2
        have HL : Hid (lower x = true) := inB_true.2 hlo
        clear hlo
        go_wp2
        go_round
        case rel =>
          refine ⟨k + 1, by omega, by go_num, fun j y hj hy => ?_⟩
          by_cases hjk : j < k
          · exact H.out j y hjk hy
          · obtain rfl : j = k := by omega
            rw [X.out] at hy
            cases hy
            exact HL.out
        case measure => simp [intOf]; omega
      · have HL : Hid (lower x = false) := by
          have : lower x = false := by unfold lower; rw [inB_false]; omega
          exact this
        have hall : Hid (((bs s).all lower) = false) := by
          have : ((bs s).all lower) = false := by rw [List.all_eq_false]; exact ⟨x, List.mem_of_getElem? X.out, by simp [HL.out]⟩
          exact this
        go_wp2
        all_goals first
          | (go_ret
             exact ⟨ret_bool hall.out.symm, rfl⟩)
          | (exfalso; omega)
    · go_wp2
      go_ret
      refine ⟨ret_bool ?_, rfl⟩
      symm
      rw [List.all_eq_true]
      intro x hx
      obtain ⟨j, hj⟩ := List.getElem?_of_mem hx
      exact H.out j x (by have := (List.getElem?_eq_some_iff.1 hj).1; rw [bs_len] at this; omega) hj
end Go.Proofs.Ytfecafjajegcfaa
