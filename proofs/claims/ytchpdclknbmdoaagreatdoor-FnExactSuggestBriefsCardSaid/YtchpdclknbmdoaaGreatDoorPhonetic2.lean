/- PhoneticStroke: both programs' functions at every word, and that they agree. No conditions but the word's length. -/
import Derived.Test.YtchpdclknbmdoaaGreatDoorOld
import Derived.Lib.Strings
import Derived.Lib.Slices
import Derived.Lib.Walk
import Derived.Lib.Bytealg
import Derived.Laws.BitsLemmas
namespace Go.Proofs.YtchpdclknbmdoaaGreatDoor
open Go.RowKit
def inB (x a b : Int) : Bool := decide (a ≤ x) && decide (x ≤ b)
theorem inB_true {x a b : Int} : inB x a b = true ↔ a ≤ x ∧ x ≤ b := by simp [inB]
theorem inB_false {x a b : Int} : inB x a b = false ↔ x < a ∨ b < x := by unfold inB; rw [Bool.and_eq_false_iff]; simp
def good (s : Int) : Bool := inB s 1 8388607

theorem l1In_any (x a b : Int) (w : World) :
    Calls Tryz.prog 83 #[.int .i64 x, .int .i64 a, .int .i64 b] w fun e w' => e = .returned (.bool (inB x a b)) ∧ w = w' := by
  by_cases h1 : a ≤ x
  all_goals
    go_enter Tryz.func83, Tryz.ntmps83
    go_wp2
    go_ret
    exact ⟨ret_bool (by simp [inB]; omega), rfl⟩
theorem in_any (x a b : Int) (w : World) :
    Calls Tryz.prog 105 #[.int .i64 x, .int .i64 a, .int .i64 b] w fun e w' => e = .returned (.bool (inB x a b)) ∧ w = w' := by
  by_cases h1 : a ≤ x
  all_goals
    go_enter Tryz.func105, Tryz.ntmps105
    go_wp2
    go_ret
    exact ⟨ret_bool (by simp [inB]; omega), rfl⟩
end Go.Proofs.YtchpdclknbmdoaaGreatDoor
namespace Go.Proofs.YtchpdclknbmdoaaGreatDoor
open Go.RowKit
def bs (s : ByteArray) : List Int := s.data.toList.map fun b => (b.toNat : Int)
theorem qV (s : ByteArray) : (bs s).length = s.size := by unfold bs; rw [List.length_map, Array.length_toList]; rfl
theorem bs_at (s : ByteArray) (k : Nat) (h : k < s.size) : (bs s)[k]? = some ((s[k].toNat : Nat) : Int) := by
  unfold bs
  rw [List.getElem?_map, Array.getElem?_toList, Array.getElem?_eq_getElem (by exact h)]
  rfl
theorem bs_byte {s : ByteArray} {k : Nat} {x : Int} (h : (bs s)[k]? = some x) : 0 ≤ x ∧ x < 256 := by
  unfold bs at h
  rw [List.getElem?_map] at h
  cases hb : s.data.toList[k]? with
  | none => rw [hb] at h; cases h
  | some b =>
    rw [hb] at h
    simp only [Option.map_some, Option.some.injEq] at h
    have := b.toNat_lt
    omega
theorem vL {s : ByteArray} {k : Nat} (h : k < s.size) : ∃ x : Int, ((s[k].toNat : Nat) : Int) = x ∧ (bs s)[k]? = some x ∧ 0 ≤ x ∧ x < 256 :=
  ⟨_, rfl, bs_at s k h, bs_byte (bs_at s k h)⟩
end Go.Proofs.YtchpdclknbmdoaaGreatDoor
namespace Go.Proofs.YtchpdclknbmdoaaGreatDoor

set_option maxHeartbeats 1000000 in
set_option maxRecDepth 100000 in
theorem stringslite_IndexByte (s : ByteArray) (c : Int) (w : World) :
    Calls Tryz.prog 183 #[.string s, .int .u8 c] w fun e w' => e = .returned (.int .i64 (Lib.indexByte s.data.toList c.toNat.toUInt8)) ∧ w' = w := by
  go_enter Tryz.func183, Tryz.ntmps183
  go_wp2
  rw [run_callFunc_extern Tryz.func212 (by kernel_rfl) (by kernel_rfl) (by kernel_rfl) (e := Extern.BytealgIndexByte.indexByte) (by kernel_rfl), Lib.run_indexByteString]
  simp only [Result.andThen]
  rw [Oper.upon_value]
  go_wp2
  go_ret
  exact ⟨rfl, rfl⟩
set_option maxHeartbeats 1000000 in
theorem indexByte_any (s : ByteArray) (c : Int) (w : World) :
    Calls Tryz.prog 158 #[.string s, .int .u8 c] w fun e w' => e = .returned (.int .i64 (Lib.indexByte s.data.toList c.toNat.toUInt8)) ∧ w = w' := by
  go_enter Tryz.func158, Tryz.ntmps158
  go_wp2_with (go_at_call 183; refine (stringslite_IndexByte _ _ _).mono ?_; rintro e w' ⟨rfl, rfl⟩)
  go_ret
  exact ⟨rfl, rfl⟩
end Go.Proofs.YtchpdclknbmdoaaGreatDoor
namespace Go.Proofs.YtchpdclknbmdoaaGreatDoor
open Go.RowKit

def bor (x y : Int) : Int := bits BinOp.or IntKind.i64 x y
def wH (c : Int) : Int := if c == 97 then 256 else if c == 111 then 512 else if c == 101 then 2048 else if c == 117 then 4096 else if c == 105 then 6144 else 0
def qC (c : Int) : Int := if c == 115 then 2 else if c == 116 then 4 else if c == 107 || c == 99 then 8 else if c == 112 then 16 else if c == 119 then 32 else if c == 104 then 64 else if c == 114 then 128 else 0
def qW (c : Int) : Int := if c == 97 then 256 else if c == 111 then 512 else if c == 101 then 2048 else if c == 117 then 4096 else 6144
def wE (c : Int) : Int := if c == 102 || c == 118 then 8192 else if c == 114 then 16384 else if c == 112 then 32768 else if c == 98 then 65536 else if c == 108 then 131072 else if c == 103 then 262144
  else if c == 116 then 524288 else if c == 115 then 1048576 else if c == 100 then 2097152 else if c == 122 then 4194304 else if c == 110 then 98304 else if c == 109 then 163840 else if c == 107 || c == 99 then 327680 else 0
def isV (c : Int) : Bool := decide (0 ≤ Lib.indexByte [97, 101, 105, 111, 117] (UInt8.ofNat c.toNat))

theorem l17Vowel_any (c : Int) (w : World) : Calls Tryz.prog 122 #[.int .u8 c] w fun e w' => e = .returned (.int .i64 (wH c)) ∧ w = w' := by
  go_enter Tryz.func122, Tryz.ntmps122
  go_wp2
  all_goals
    go_ret
    exact ⟨qM (by simp [wH, *]), rfl⟩
theorem l17Left_any (c : Int) (w : World) : Calls Tryz.prog 123 #[.int .u8 c] w fun e w' => e = .returned (.int .i64 (qC c)) ∧ w = w' := by
  go_enter Tryz.func123, Tryz.ntmps123
  go_wp2
  all_goals
    go_ret
    exact ⟨qM (by simp [qC, *]), rfl⟩
set_option maxHeartbeats 1000000 in
theorem l17Right_any (c : Int) (w : World) : Calls Tryz.prog 124 #[.int .u8 c] w fun e w' => e = .returned (.int .i64 (wE c)) ∧ w = w' := by
  go_enter Tryz.func124, Tryz.ntmps124
  go_wp2
  all_goals
    go_ret
    exact ⟨qM (by simp [wE, *]), rfl⟩
theorem leftKey_any (c : Int) (w : World) : Calls Tryz.prog 119 #[.int .u8 c] w fun e w' => e = .returned (.int .i64 (qC c)) ∧ w = w' := by
  go_enter Tryz.func119, Tryz.ntmps119
  go_wp2
  all_goals
    go_ret
    exact ⟨qM (by simp [qC, *]), rfl⟩
theorem thumbKeys_any (c : Int) (w : World) : Calls Tryz.prog 120 #[.int .u8 c] w fun e w' => e = .returned (.int .i64 (qW c)) ∧ w = w' := by
  go_enter Tryz.func120, Tryz.ntmps120
  go_wp2
  all_goals
    go_ret
    exact ⟨qM (by simp [qW, *]), rfl⟩
set_option maxHeartbeats 1000000 in
theorem rightKeys_any (c : Int) (w : World) : Calls Tryz.prog 121 #[.int .u8 c] w fun e w' => e = .returned (.int .i64 (wE c)) ∧ w = w' := by
  go_enter Tryz.func121, Tryz.ntmps121
  go_wp2
  all_goals
    go_ret
    exact ⟨qM (by simp [wE, *]), rfl⟩
theorem wQ (c : Int) (w : World) : Calls Tryz.prog 118 #[.int .u8 c] w fun e w' => e = .returned (.bool (isV c)) ∧ w = w' := by
  go_enter Tryz.func118, Tryz.ntmps118
  go_wp2_with (go_at_call 158; refine (indexByte_any _ _ _).mono ?_; rintro e w' ⟨rfl, rfl⟩)
  go_ret
  exact ⟨rfl, rfl⟩
def wF (c : Int) : Bool := inB c 97 122
theorem areLetters_any (s : ByteArray) (w : World) (hs : s.size ≤ 1048576) :
    Calls Tryz.prog 117 #[.string s] w fun e w' => e = .returned (.bool ((bs s).all wF)) ∧ w = w' := by
  go_enter Tryz.func117, Tryz.ntmps117
  go_wp2
  go_loop [6] (fun i => ∃ k : Nat, k ≤ s.size ∧ i = .int .i64 k ∧ Hid (∀ (j : Nat) x, j < k → (bs s)[j]? = some x → wF x = true)) (fun i => s.size - (intOf i).toNat)
  case atStart => exact ⟨0, Nat.zero_le _, rfl, by intro j x h; omega⟩
  case round =>
    obtain ⟨k, hk, rfl, H⟩ := hrel
    by_cases hlt : k < s.size
    · obtain ⟨x, hx, hat, h0, h1⟩ := vL hlt
      have X := Lib.hid hat
      clear hat
      by_cases hlo : 97 ≤ x ∧ x ≤ 122
      · have hlo1 := hlo.1
        have hlo2 := hlo.2
        have HL : Hid (wF x = true) := inB_true.2 hlo
        clear hlo
        go_wp2
        go_round
        case rel =>
          refine ⟨k + 1, by omega, by go_num, fun j y hj hy => ?_⟩
          by_cases hjk : j < k
          · exact H.out j y hjk hy
          · obtain rfl : j = k := by omega
            rw [X.out] at hy
            cases hy
            exact HL.out
        case measure => simp [intOf]; omega
      · have HL : Hid (wF x = false) := by
          have : wF x = false := by unfold wF; rw [inB_false]; omega
          exact this
        have hall : Hid (((bs s).all wF) = false) := by
          have : ((bs s).all wF) = false := by rw [List.all_eq_false]; exact ⟨x, List.mem_of_getElem? X.out, by simp [HL.out]⟩
          exact this
        go_wp2
        all_goals first
          | (go_ret
             exact ⟨ret_bool hall.out.symm, rfl⟩)
          | (exfalso; omega)
    · go_wp2
      go_ret
      refine ⟨ret_bool ?_, rfl⟩
      symm
      rw [List.all_eq_true]
      intro x hx
      obtain ⟨j, hj⟩ := List.getElem?_of_mem hx
      exact H.out j x (by have := (List.getElem?_eq_some_iff.1 hj).1; rw [qV] at this; omega) hj
end Go.Proofs.YtchpdclknbmdoaaGreatDoor
namespace Go.Proofs.YtchpdclknbmdoaaGreatDoor
open Go.RowKit

def wG (t : Int × Int) (c : Int) : Int × Int :=
  if wH c = 0 then (if t.2 = 0 then (bor t.1 (qC c), t.2) else (bor t.1 (wE c), 2)) else if t.2 < 2 then (bor t.1 (wH c), 1) else t
def kH (cs : List Int) : Int × Int := cs.foldl wG (0, 0)
theorem foldP_next {cs : List Int} {k : Nat} {x : Int} (h : cs[k]? = some x) : kH (cs.take (k + 1)) = wG (kH (cs.take k)) x := by
  unfold kH; rw [take_next h, List.foldl_append]; rfl
def phonOk (cs : List Int) : Bool := inB (cs.length : Int) 1 20 && cs.all wF
def wO (cs : List Int) : Int := if phonOk cs then (kH cs).1 else 0

set_option maxHeartbeats 1000000 in
theorem specPhonetic_any (s : ByteArray) (w : World) (hs : s.size ≤ 1048576) :
    Calls Tryz.prog 56 #[.string s] w fun e w' => e = .returned (.tuple #[.int .i64 (wO (bs s)), .bool (wO (bs s) != 0)]) ∧ w = w' := by
  cases hin : inB ((bs s).length : Int) 1 20
  · have hr : wO (bs s) = 0 := by simp [wO, phonOk, hin]
    rw [hr]
    rw [qV] at hin
    have HIN := Lib.hid hin
    clear hin hr
    go_enter Tryz.func56, Tryz.ntmps56
    go_wp2_with (go_at_call 83; refine (l1In_any _ _ _ _).mono ?_; rw [HIN.out]; rintro e w' ⟨rfl, rfl⟩)
    go_ret2
    exact ⟨rfl, rfl⟩
  · have HR : (bs s).all wF = true → Hid (wO (bs s) = (kH (bs s)).1) := fun h => by
      have : wO (bs s) = (kH (bs s)).1 := by simp [wO, phonOk, hin, h]
      exact this
    have HF : (bs s).all wF = false → Hid (wO (bs s) = 0) := fun h => by
      have : wO (bs s) = 0 := by simp [wO, phonOk, h]
      exact this
    have HRR := Lib.hid HR
    have HFF := Lib.hid HF
    rw [qV] at hin
    have HIN := Lib.hid hin
    clear hin HR HF
    go_enter Tryz.func56, Tryz.ntmps56
    go_wp2_with (go_at_call 83; refine (l1In_any _ _ _ _).mono ?_; rw [HIN.out]; rintro e w' ⟨rfl, rfl⟩)
    go_loop [4, 5, 6] (fun o p i => ∃ (k : Nat) (t : Int × Int), k ≤ s.size ∧ i = .int .i64 k ∧ o = .int .i64 t.1 ∧ p = .int .i64 t.2 ∧ Hid (kH ((bs s).take k) = t ∧ ∀ (j : Nat) x, j < k → (bs s)[j]? = some x → wF x = true)) (fun _ _ i => s.size - (intOf i).toNat)
    case atStart => exact ⟨0, (0, 0), Nat.zero_le _, rfl, rfl, rfl, rfl, by intro j x h; omega⟩
    case round =>
      obtain ⟨k, ⟨o, p⟩, hk, rfl, rfl, rfl, H⟩ := hrel
      by_cases hlt : k < s.size
      · obtain ⟨x, hx, hat, h0, h1⟩ := vL hlt
        have X := Lib.hid hat
        clear hat
        by_cases hlo : 97 ≤ x ∧ x ≤ 122
        · have hlo1 := hlo.1
          have hlo2 := hlo.2
          have HL : Hid (wF x = true) := inB_true.2 hlo
          clear hlo
          have HN : Hid (∀ (j : Nat) y, j < k + 1 → (bs s)[j]? = some y → wF y = true) := fun j y hj hy => by
            by_cases hjk : j < k
            · exact H.out.2 j y hjk hy
            · obtain rfl : j = k := by omega
              rw [X.out] at hy
              cases hy
              exact HL.out
          have HS : Hid (kH ((bs s).take (k + 1)) = wG (o, p) x) := (foldP_next X.out).trans (by rw [H.out.1])
          go_wp2_with (first | (go_at_call 122; refine (l17Vowel_any _ _).mono ?_; rintro e w' ⟨rfl, rfl⟩) | (go_at_call 123; refine (l17Left_any _ _).mono ?_; rintro e w' ⟨rfl, rfl⟩) | (go_at_call 124; refine (l17Right_any _ _).mono ?_; rintro e w' ⟨rfl, rfl⟩))
          all_goals
            go_round
            case rel =>
              clear hx hlo1 hlo2 h0 h1
              refine ⟨k + 1, wG (o, p) x, by omega, by go_num, ?_, ?_, HS.out, HN.out⟩ <;> (clear HS HN H X HL HRR HFF HIN; simp_all [wG, bor]) <;> (rw [if_neg (by omega)])
            case measure => simp [intOf]; omega
        · have HL : Hid (wF x = false) := by
            have : wF x = false := by unfold wF; rw [inB_false]; omega
            exact this
          have hall : Hid (wO (bs s) = 0) := HFF.out (by rw [List.all_eq_false]; exact ⟨x, List.mem_of_getElem? X.out, by simp [HL.out]⟩)
          go_wp2
          all_goals first
            | (go_ret2
               exact ⟨by rw [hall.out]; rfl, rfl⟩)
            | (exfalso; omega)
      · obtain rfl : k = s.size := by omega
        have hfull : (bs s).take s.size = bs s := by rw [← qV, List.take_length]
        have hres : wO (bs s) = o := by
          have h1 := H.out.1
          rw [hfull] at h1
          have h2 := HRR.out (by
            rw [List.all_eq_true]
            intro x hx
            obtain ⟨j, hj⟩ := List.getElem?_of_mem hx
            exact H.out.2 j x (by have := (List.getElem?_eq_some_iff.1 hj).1; rw [qV] at this; omega) hj)
          rw [h2.out, h1]
        have HRES := Lib.hid hres
        clear hres hfull
        go_wp2
        go_ret2
        exact ⟨by rw [HRES.out]; rfl, rfl⟩

def ph3 (o : Int) : List Int → Int
  | [] => o
  | c :: cs => ph3 (bor o (wE c)) cs
def ph2 (o : Int) : List Int → Int
  | [] => o
  | c :: cs => if isV c then ph2 (bor o (qW c)) cs else ph3 o (c :: cs)
def ph1 (o : Int) : List Int → Int
  | [] => o
  | c :: cs => if isV c then ph2 o (c :: cs) else ph1 (bor o (qC c)) cs
def kJ (cs : List Int) : Int := if phonOk cs then ph1 0 cs else 0
theorem qB {cs : List Int} {k : Nat} {x : Int} (h : cs[k]? = some x) : cs.drop k = x :: cs.drop (k + 1) := by
  obtain ⟨hk, e⟩ := List.getElem?_eq_some_iff.1 h
  rw [List.drop_eq_getElem_cons hk, e]
theorem wC (s : ByteArray) : (bs s).drop s.size = [] := by rw [← qV]; exact List.drop_length

set_option maxRecDepth 100000 in
set_option maxHeartbeats 2000000 in
theorem implPhonetic_any (s : ByteArray) (w : World) (hs : s.size ≤ 1048576) :
    Calls Tryz.prog 55 #[.string s] w fun e w' => e = .returned (.tuple #[.int .i64 (kJ (bs s)), .bool (kJ (bs s) != 0)]) ∧ w = w' := by
  have HIN0 : Hid (inB ((bs s).length : Int) 1 20 = inB (s.size : Int) 1 20) := show inB ((bs s).length : Int) 1 20 = _ by rw [qV]
  cases hok : phonOk (bs s)
  · have hr : kJ (bs s) = 0 := by simp [kJ, hok]
    rw [hr]
    cases hin : inB (s.size : Int) 1 20
    · have HIN := Lib.hid hin
      clear hin hr hok
      go_enter Tryz.func55, Tryz.ntmps55
      go_wp2_with (go_at_call 105; refine (in_any _ _ _ _).mono ?_; rw [HIN.out]; rintro e w' ⟨rfl, rfl⟩)
      go_ret2
      exact ⟨rfl, rfl⟩
    · have hall : (bs s).all wF = false := by simpa [phonOk, HIN0.out, hin] using hok
      have HIN := Lib.hid hin
      have HALL := Lib.hid hall
      clear hin hr hok hall
      go_enter Tryz.func55, Tryz.ntmps55
      go_wp2_with (first | (go_at_call 105; refine (in_any _ _ _ _).mono ?_; rw [HIN.out]; rintro e w' ⟨rfl, rfl⟩) | (go_at_call 117; refine (areLetters_any _ _ hs).mono ?_; rw [HALL.out]; rintro e w' ⟨rfl, rfl⟩))
      go_ret2
      exact ⟨rfl, rfl⟩
  · have hr : kJ (bs s) = ph1 0 (bs s) := by simp [kJ, hok]
    rw [hr]
    have hin : inB (s.size : Int) 1 20 = true := by unfold phonOk at hok; rw [HIN0.out, Bool.and_eq_true] at hok; exact hok.1
    have hall : (bs s).all wF = true := by unfold phonOk at hok; rw [Bool.and_eq_true] at hok; exact hok.2
    have HIN := Lib.hid hin
    have HALL := Lib.hid hall
    clear hin hr hok hall HIN0
    generalize hR : ph1 0 (bs s) = R
    have HR := Lib.hid hR
    clear hR
    go_enter Tryz.func55, Tryz.ntmps55
    go_wp2_with (first | (go_at_call 105; refine (in_any _ _ _ _).mono ?_; rw [HIN.out]; rintro e w' ⟨rfl, rfl⟩) | (go_at_call 117; refine (areLetters_any _ _ hs).mono ?_; rw [HALL.out]; rintro e w' ⟨rfl, rfl⟩))
    go_loop [4, 5] (fun o i => ∃ (k : Nat) (t : Int), k ≤ s.size ∧ i = .int .i64 k ∧ o = .int .i64 t ∧ Hid (ph1 t ((bs s).drop k) = R)) (fun _ i => s.size - (intOf i).toNat)
    case atStart => exact ⟨0, 0, Nat.zero_le _, rfl, rfl, HR⟩
    case round =>
      obtain ⟨k, o, hk, rfl, rfl, H⟩ := hrel
      by_cases hlt : k < s.size
      · obtain ⟨x, hx, hat, h0, h1⟩ := vL hlt
        have D := Lib.hid (qB hat)
        clear hat
        cases hv : isV x
        · have HV := Lib.hid hv
          clear hv
          go_wp2_with (first | (go_at_call 118; refine (wQ _ _).mono ?_; rw [HV.out]; rintro e w' ⟨rfl, rfl⟩) | (go_at_call 119; refine (leftKey_any _ _).mono ?_; rintro e w' ⟨rfl, rfl⟩))
          go_round
          case rel =>
            have := H.out
            rw [D.out, ph1, HV.out, if_neg (by simp)] at this
            exact ⟨k + 1, bor o (qC x), by omega, by go_num, rfl, this⟩
          case measure => simp [intOf]; omega
        · have HV := Lib.hid hv
          clear hv
          have H2 : Hid (ph2 o ((bs s).drop k) = R) := by
            have := H.out
            rw [D.out, ph1, HV.out, if_pos rfl, ← D.out] at this
            exact this
          clear H
          go_wp2_with (go_at_call 118; refine (wQ _ _).mono ?_; rw [HV.out]; rintro e w' ⟨rfl, rfl⟩)
          go_loop [4, 5] (fun o i => ∃ (k : Nat) (t : Int), k ≤ s.size ∧ i = .int .i64 k ∧ o = .int .i64 t ∧ Hid (ph2 t ((bs s).drop k) = R)) (fun _ i => s.size - (intOf i).toNat)
          case atStart => exact ⟨k, _, by omega, rfl, rfl, H2⟩
          case round =>
            clear H2
            obtain ⟨j, o2, hj, rfl, rfl, H⟩ := hrel
            by_cases hlt2 : j < s.size
            · obtain ⟨x2, hx2, hat, h02, h12⟩ := vL hlt2
              have D2 := Lib.hid (qB hat)
              clear hat
              cases hv2 : isV x2
              · have HV2 := Lib.hid hv2
                clear hv2
                have H3 : Hid (ph3 o2 ((bs s).drop j) = R) := by
                  have := H.out
                  rw [D2.out, ph2, HV2.out, if_neg (by simp), ← D2.out] at this
                  exact this
                clear H
                go_wp2_with (go_at_call 118; refine (wQ _ _).mono ?_; rw [HV2.out]; rintro e w' ⟨rfl, rfl⟩)
                go_loop [4, 5] (fun o i => ∃ (k : Nat) (t : Int), k ≤ s.size ∧ i = .int .i64 k ∧ o = .int .i64 t ∧ Hid (ph3 t ((bs s).drop k) = R)) (fun _ i => s.size - (intOf i).toNat)
                case atStart => exact ⟨j, _, by omega, rfl, rfl, H3⟩
                case round =>
                  clear H3
                  obtain ⟨m, o3, hm, rfl, rfl, H⟩ := hrel
                  by_cases hlt3 : m < s.size
                  · obtain ⟨x3, hx3, hat, h03, h13⟩ := vL hlt3
                    have D3 := Lib.hid (qB hat)
                    clear hat
                    go_wp2_with (go_at_call 121; refine (rightKeys_any _ _).mono ?_; rintro e w' ⟨rfl, rfl⟩)
                    go_round
                    case rel =>
                      have := H.out
                      rw [D3.out, ph3] at this
                      exact ⟨m + 1, bor o3 (wE x3), by omega, by go_num, rfl, this⟩
                    case measure => simp [intOf]; omega
                  · obtain rfl : m = s.size := by omega
                    have HE : Hid (o3 = R) := by
                      have := H.out
                      rw [wC, ph3] at this
                      exact this
                    clear H
                    go_wp2
                    go_ret2
                    exact ⟨by rw [← HE.out]; rfl, rfl⟩
              · have HV2 := Lib.hid hv2
                clear hv2
                go_wp2_with (first | (go_at_call 118; refine (wQ _ _).mono ?_; rw [HV2.out]; rintro e w' ⟨rfl, rfl⟩) | (go_at_call 120; refine (thumbKeys_any _ _).mono ?_; rintro e w' ⟨rfl, rfl⟩))
                go_round
                case rel =>
                  have := H.out
                  rw [D2.out, ph2, HV2.out, if_pos rfl] at this
                  exact ⟨j + 1, bor o2 (qW x2), by omega, by go_num, rfl, this⟩
                case measure => simp [intOf]; omega
            · obtain rfl : j = s.size := by omega
              have H3 : Hid (ph3 o2 ((bs s).drop s.size) = R) := by
                have := H.out
                rw [wC, ph2] at this
                rw [wC, ph3]
                exact this
              clear H
              go_wp2
              go_loop [4, 5] (fun o i => ∃ (k : Nat) (t : Int), k ≤ s.size ∧ i = .int .i64 k ∧ o = .int .i64 t ∧ Hid (ph3 t ((bs s).drop k) = R)) (fun _ i => s.size - (intOf i).toNat)
              case atStart => exact ⟨s.size, _, by omega, rfl, rfl, H3⟩
              case round =>
                clear H3
                obtain ⟨m, o3, hm, rfl, rfl, H⟩ := hrel
                by_cases hlt3 : m < s.size
                · obtain ⟨x3, hx3, hat, h03, h13⟩ := vL hlt3
                  have D3 := Lib.hid (qB hat)
                  clear hat
                  go_wp2_with (go_at_call 121; refine (rightKeys_any _ _).mono ?_; rintro e w' ⟨rfl, rfl⟩)
                  go_round
                  case rel =>
                    have := H.out
                    rw [D3.out, ph3] at this
                    exact ⟨m + 1, bor o3 (wE x3), by omega, by go_num, rfl, this⟩
                  case measure => simp [intOf]; omega
                · obtain rfl : m = s.size := by omega
                  have HE : Hid (o3 = R) := by
                    have := H.out
                    rw [wC, ph3] at this
                    exact this
                  clear H
                  go_wp2
                  go_ret2
                  exact ⟨by rw [← HE.out]; rfl, rfl⟩
      · obtain rfl : k = s.size := by omega
        have H2 : Hid (ph2 o ((bs s).drop s.size) = R) := by
          have := H.out
          rw [wC, ph1] at this
          rw [wC, ph2]
          exact this
        clear H
        go_wp2
        go_loop [4, 5] (fun o i => ∃ (k : Nat) (t : Int), k ≤ s.size ∧ i = .int .i64 k ∧ o = .int .i64 t ∧ Hid (ph2 t ((bs s).drop k) = R)) (fun _ i => s.size - (intOf i).toNat)
        case atStart => exact ⟨s.size, _, by omega, rfl, rfl, H2⟩
        case round =>
          clear H2
          obtain ⟨j, o2, hj, rfl, rfl, H⟩ := hrel
          by_cases hlt2 : j < s.size
          · obtain ⟨x2, hx2, hat, h02, h12⟩ := vL hlt2
            have D2 := Lib.hid (qB hat)
            clear hat
            cases hv2 : isV x2
            · have HV2 := Lib.hid hv2
              clear hv2
              have H3 : Hid (ph3 o2 ((bs s).drop j) = R) := by
                have := H.out
                rw [D2.out, ph2, HV2.out, if_neg (by simp), ← D2.out] at this
                exact this
              clear H
              go_wp2_with (go_at_call 118; refine (wQ _ _).mono ?_; rw [HV2.out]; rintro e w' ⟨rfl, rfl⟩)
              go_loop [4, 5] (fun o i => ∃ (k : Nat) (t : Int), k ≤ s.size ∧ i = .int .i64 k ∧ o = .int .i64 t ∧ Hid (ph3 t ((bs s).drop k) = R)) (fun _ i => s.size - (intOf i).toNat)
              case atStart => exact ⟨j, _, by omega, rfl, rfl, H3⟩
              case round =>
                clear H3
                obtain ⟨m, o3, hm, rfl, rfl, H⟩ := hrel
                by_cases hlt3 : m < s.size
                · obtain ⟨x3, hx3, hat, h03, h13⟩ := vL hlt3
                  have D3 := Lib.hid (qB hat)
                  clear hat
                  go_wp2_with (go_at_call 121; refine (rightKeys_any _ _).mono ?_; rintro e w' ⟨rfl, rfl⟩)
                  go_round
                  case rel =>
                    have := H.out
                    rw [D3.out, ph3] at this
                    exact ⟨m + 1, bor o3 (wE x3), by omega, by go_num, rfl, this⟩
                  case measure => simp [intOf]; omega
                · obtain rfl : m = s.size := by omega
                  have HE : Hid (o3 = R) := by
                    have := H.out
                    rw [wC, ph3] at this
                    exact this
                  clear H
                  go_wp2
                  go_ret2
                  exact ⟨by rw [← HE.out]; rfl, rfl⟩
            · have HV2 := Lib.hid hv2
              clear hv2
              go_wp2_with (first | (go_at_call 118; refine (wQ _ _).mono ?_; rw [HV2.out]; rintro e w' ⟨rfl, rfl⟩) | (go_at_call 120; refine (thumbKeys_any _ _).mono ?_; rintro e w' ⟨rfl, rfl⟩))
              go_round
              case rel =>
                have := H.out
                rw [D2.out, ph2, HV2.out, if_pos rfl] at this
                exact ⟨j + 1, bor o2 (qW x2), by omega, by go_num, rfl, this⟩
              case measure => simp [intOf]; omega
          · obtain rfl : j = s.size := by omega
            have H3 : Hid (ph3 o2 ((bs s).drop s.size) = R) := by
              have := H.out
              rw [wC, ph2] at this
              rw [wC, ph3]
              exact this
            clear H
            go_wp2
            go_loop [4, 5] (fun o i => ∃ (k : Nat) (t : Int), k ≤ s.size ∧ i = .int .i64 k ∧ o = .int .i64 t ∧ Hid (ph3 t ((bs s).drop k) = R)) (fun _ i => s.size - (intOf i).toNat)
            case atStart => exact ⟨s.size, _, by omega, rfl, rfl, H3⟩
            case round =>
              clear H3
              obtain ⟨m, o3, hm, rfl, rfl, H⟩ := hrel
              by_cases hlt3 : m < s.size
              · obtain ⟨x3, hx3, hat, h03, h13⟩ := vL hlt3
                have D3 := Lib.hid (qB hat)
                clear hat
                go_wp2_with (go_at_call 121; refine (rightKeys_any _ _).mono ?_; rintro e w' ⟨rfl, rfl⟩)
                go_round
                case rel =>
                  have := H.out
                  rw [D3.out, ph3] at this
                  exact ⟨m + 1, bor o3 (wE x3), by omega, by go_num, rfl, this⟩
                case measure => simp [intOf]; omega
              · obtain rfl : m = s.size := by omega
                have HE : Hid (o3 = R) := by
                  have := H.out
                  rw [wC, ph3] at this
                  exact this
                clear H
                go_wp2
                go_ret2
                exact ⟨by rw [← HE.out]; rfl, rfl⟩
theorem letter_facts : ∀ i : Fin 26, isV (97 + (i.val : Int)) = (wH (97 + (i.val : Int)) != 0) ∧ (isV (97 + (i.val : Int)) = true → qW (97 + (i.val : Int)) = wH (97 + (i.val : Int)) ∧ wE (97 + (i.val : Int)) = 0) ∧
    (0 ≤ wH (97 + (i.val : Int)) ∧ wH (97 + (i.val : Int)) < 8388608) ∧ (0 ≤ qC (97 + (i.val : Int)) ∧ qC (97 + (i.val : Int)) < 8388608) ∧ (0 ≤ wE (97 + (i.val : Int)) ∧ wE (97 + (i.val : Int)) < 8388608) := by decide
theorem facts {c : Int} (h : wF c = true) : isV c = (wH c != 0) ∧ (isV c = true → qW c = wH c ∧ wE c = 0) ∧ (0 ≤ wH c ∧ wH c < 8388608) ∧ (0 ≤ qC c ∧ qC c < 8388608) ∧ (0 ≤ wE c ∧ wE c < 8388608) := by
  have h1 := inB_true.1 h
  have h2 := letter_facts ⟨(c - 97).toNat, by omega⟩
  have h3 : (97 : Int) + (((c - 97).toNat : Nat) : Int) = c := by omega
  simp only [h3] at h2
  exact h2
theorem bor_nat (a b : Nat) (ha : a < 8388608) (hb : b < 8388608) : bor (a : Int) (b : Int) = ((a ||| b : Nat) : Int) ∧ a ||| b < 8388608 := by
  have h2 : (8388608 : Nat) = 2 ^ 23 := by decide
  refine ⟨(bits_nat .i64 62 (by decide) (fun n h0 h1 => ?_) a b (by omega) (by omega)).2, ?_⟩
  · rw [IntKind.wrap_i64]
    have : (2 : Int) ^ 62 = 4611686018427387904 := by decide
    omega
  · rw [h2] at *
    exact Nat.or_lt_two_pow ha hb
theorem wS {o x : Int} (ho : 0 ≤ o ∧ o < 8388608) (hx : 0 ≤ x ∧ x < 8388608) : 0 ≤ bor o x ∧ bor o x < 8388608 := by
  have h := bor_nat o.toNat x.toNat (by omega) (by omega)
  rw [show ((o.toNat : Nat) : Int) = o by omega, show ((x.toNat : Nat) : Int) = x by omega] at h
  rw [h.1]
  omega
theorem bor_zero {o : Int} (ho : 0 ≤ o ∧ o < 8388608) : bor o 0 = o := by
  have h := bor_nat o.toNat 0 (by omega) (by omega)
  rw [show ((o.toNat : Nat) : Int) = o by omega] at h
  have h1 := h.1
  simp only [Nat.or_zero] at h1
  rw [show ((0 : Nat) : Int) = 0 from rfl] at h1
  omega
theorem fold_ph3 : ∀ (cs : List Int) (o : Int), (∀ c ∈ cs, wF c = true) → 0 ≤ o ∧ o < 8388608 → (cs.foldl wG (o, 2)).1 = ph3 o cs
  | [], _, _, _ => rfl
  | c :: cs, o, hl, ho => by
    have hc := facts (hl c (by simp))
    rw [List.foldl_cons, ph3]
    by_cases hv : wH c = 0
    · rw [show wG (o, 2) c = (bor o (wE c), 2) by simp [wG, hv]]
      exact fold_ph3 cs _ (fun d hd => hl d (by simp [hd])) (wS ho hc.2.2.2.2)
    · have h1 : isV c = true := by rw [hc.1]; simp [hv]
      rw [show wG (o, 2) c = (o, 2) by simp [wG, hv], (hc.2.1 h1).2, bor_zero ho]
      exact fold_ph3 cs _ (fun d hd => hl d (by simp [hd])) ho
theorem fold_ph2 : ∀ (cs : List Int) (o : Int), (∀ c ∈ cs, wF c = true) → 0 ≤ o ∧ o < 8388608 → (cs.foldl wG (o, 1)).1 = ph2 o cs
  | [], _, _, _ => rfl
  | c :: cs, o, hl, ho => by
    have hc := facts (hl c (by simp))
    rw [List.foldl_cons, ph2]
    by_cases hv : wH c = 0
    · have h1 : isV c = false := by rw [hc.1]; simp [hv]
      rw [show wG (o, 1) c = (bor o (wE c), 2) by simp [wG, hv], h1, if_neg (by simp), ph3]
      exact fold_ph3 cs _ (fun d hd => hl d (by simp [hd])) (wS ho hc.2.2.2.2)
    · have h1 : isV c = true := by rw [hc.1]; simp [hv]
      rw [show wG (o, 1) c = (bor o (wH c), 1) by simp [wG, hv], h1, if_pos rfl, (hc.2.1 h1).1]
      exact fold_ph2 cs _ (fun d hd => hl d (by simp [hd])) (wS ho hc.2.2.1)
theorem fold_ph1 : ∀ (cs : List Int) (o : Int), (∀ c ∈ cs, wF c = true) → 0 ≤ o ∧ o < 8388608 → (cs.foldl wG (o, 0)).1 = ph1 o cs
  | [], _, _, _ => rfl
  | c :: cs, o, hl, ho => by
    have hc := facts (hl c (by simp))
    rw [List.foldl_cons, ph1]
    by_cases hv : wH c = 0
    · have h1 : isV c = false := by rw [hc.1]; simp [hv]
      rw [show wG (o, 0) c = (bor o (qC c), 0) by simp [wG, hv], h1, if_neg (by simp)]
      exact fold_ph1 cs _ (fun d hd => hl d (by simp [hd])) (wS ho hc.2.2.2.1)
    · have h1 : isV c = true := by rw [hc.1]; simp [hv]
      rw [show wG (o, 0) c = (bor o (wH c), 1) by simp [wG, hv], h1, if_pos rfl, ph2, h1, if_pos rfl, (hc.2.1 h1).1]
      exact fold_ph2 cs _ (fun d hd => hl d (by simp [hd])) (wS ho hc.2.2.1)
theorem phon_same (cs : List Int) : kJ cs = wO cs := by
  unfold kJ wO
  by_cases h : phonOk cs = true
  · rw [if_pos h, if_pos h]
    unfold phonOk at h
    rw [Bool.and_eq_true, List.all_eq_true] at h
    exact (fold_ph1 cs 0 h.2 (by omega)).symm
  · rw [if_neg h, if_neg h]
end Go.Proofs.YtchpdclknbmdoaaGreatDoor
