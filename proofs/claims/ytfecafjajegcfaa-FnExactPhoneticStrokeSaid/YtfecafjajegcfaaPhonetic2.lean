/- PhoneticStroke: both programs' functions at every word, and that they agree. No conditions but the word's length. -/
import Derived.Test.YtfecafjajegcfaaPhonetic
namespace Go.Proofs.Ytfecafjajegcfaa
open Go.RowKit

def stepP (t : Int × Int) (c : Int) : Int × Int :=
  if vowelK c = 0 then (if t.2 = 0 then (bor t.1 (leftK c), t.2) else (bor t.1 (rightK c), 2)) else if t.2 < 2 then (bor t.1 (vowelK c), 1) else t
def foldP (cs : List Int) : Int × Int := cs.foldl stepP (0, 0)
theorem foldP_next {cs : List Int} {k : Nat} {x : Int} (h : cs[k]? = some x) : foldP (cs.take (k + 1)) = stepP (foldP (cs.take k)) x := by
  unfold foldP; rw [take_next h, List.foldl_append]; rfl
def phonOk (cs : List Int) : Bool := inB (cs.length : Int) 1 20 && cs.all lower
def phonS (cs : List Int) : Int := if phonOk cs then (foldP cs).1 else 0

set_option maxHeartbeats 1000000 in
theorem specPhonetic_any (s : ByteArray) (w : World) (hs : s.size ≤ 1048576) :
    Calls Try.prog 35 #[.string s] w fun e w' => e = .returned (.tuple #[.int .i64 (phonS (bs s)), .bool (phonS (bs s) != 0)]) ∧ w = w' := by
  cases hin : inB ((bs s).length : Int) 1 20
  · have hr : phonS (bs s) = 0 := by simp [phonS, phonOk, hin]
    rw [hr]
    rw [bs_len] at hin
    have HIN := Lib.hid hin
    clear hin hr
    go_enter Try.func35, Try.ntmps35
    go_wp2_with (go_at_call 57; refine (l1In_any _ _ _ _).mono ?_; rw [HIN.out]; rintro e w' ⟨rfl, rfl⟩)
    go_ret2
    exact ⟨rfl, rfl⟩
  · have HR : (bs s).all lower = true → Hid (phonS (bs s) = (foldP (bs s)).1) := fun h => by
      have : phonS (bs s) = (foldP (bs s)).1 := by simp [phonS, phonOk, hin, h]
      exact this
    have HF : (bs s).all lower = false → Hid (phonS (bs s) = 0) := fun h => by
      have : phonS (bs s) = 0 := by simp [phonS, phonOk, h]
      exact this
    have HRR := Lib.hid HR
    have HFF := Lib.hid HF
    rw [bs_len] at hin
    have HIN := Lib.hid hin
    clear hin HR HF
    go_enter Try.func35, Try.ntmps35
    go_wp2_with (go_at_call 57; refine (l1In_any _ _ _ _).mono ?_; rw [HIN.out]; rintro e w' ⟨rfl, rfl⟩)
    go_loop [4, 5, 6] (fun o p i => ∃ (k : Nat) (t : Int × Int), k ≤ s.size ∧ i = .int .i64 k ∧ o = .int .i64 t.1 ∧ p = .int .i64 t.2 ∧ Hid (foldP ((bs s).take k) = t ∧ ∀ (j : Nat) x, j < k → (bs s)[j]? = some x → lower x = true)) (fun _ _ i => s.size - (intOf i).toNat)
    case atStart => exact ⟨0, (0, 0), Nat.zero_le _, rfl, rfl, rfl, rfl, by intro j x h; omega⟩
    case round =>
      obtain ⟨k, ⟨o, p⟩, hk, rfl, rfl, rfl, H⟩ := hrel
      by_cases hlt : k < s.size
      · obtain ⟨x, hx, hat, h0, h1⟩ := byte_of hlt
        have X := Lib.hid hat
        clear hat
        by_cases hlo : 97 ≤ x ∧ x ≤ 122
        · have hlo1 := hlo.1
          have hlo2 := hlo.2
          have HL : Hid (lower x = true) := inB_true.2 hlo
          clear hlo
          have HN : Hid (∀ (j : Nat) y, j < k + 1 → (bs s)[j]? = some y → lower y = true) := fun j y hj hy => by
            by_cases hjk : j < k
            · exact H.out.2 j y hjk hy
            · obtain rfl : j = k := by omega
              rw [X.out] at hy
              cases hy
              exact HL.out
          have HS : Hid (foldP ((bs s).take (k + 1)) = stepP (o, p) x) := (foldP_next X.out).trans (by rw [H.out.1])
          go_wp2_with (first | (go_at_call 58; refine (l17Vowel_any _ _).mono ?_; rintro e w' ⟨rfl, rfl⟩) | (go_at_call 59; refine (l17Left_any _ _).mono ?_; rintro e w' ⟨rfl, rfl⟩) | (go_at_call 60; refine (l17Right_any _ _).mono ?_; rintro e w' ⟨rfl, rfl⟩))
          all_goals
            go_round
            case rel =>
              clear hx hlo1 hlo2 h0 h1
              refine ⟨k + 1, stepP (o, p) x, by omega, by go_num, ?_, ?_, HS.out, HN.out⟩ <;> (clear HS HN H X HL HRR HFF HIN; simp_all [stepP, bor]) <;> (rw [if_neg (by omega)])
            case measure => simp [intOf]; omega
        · have HL : Hid (lower x = false) := by
            have : lower x = false := by unfold lower; rw [inB_false]; omega
            exact this
          have hall : Hid (phonS (bs s) = 0) := HFF.out (by rw [List.all_eq_false]; exact ⟨x, List.mem_of_getElem? X.out, by simp [HL.out]⟩)
          go_wp2
          all_goals first
            | (go_ret2
               exact ⟨by rw [hall.out]; rfl, rfl⟩)
            | (exfalso; omega)
      · obtain rfl : k = s.size := by omega
        have hfull : (bs s).take s.size = bs s := by rw [← bs_len, List.take_length]
        have hres : phonS (bs s) = o := by
          have h1 := H.out.1
          rw [hfull] at h1
          have h2 := HRR.out (by
            rw [List.all_eq_true]
            intro x hx
            obtain ⟨j, hj⟩ := List.getElem?_of_mem hx
            exact H.out.2 j x (by have := (List.getElem?_eq_some_iff.1 hj).1; rw [bs_len] at this; omega) hj)
          rw [h2.out, h1]
        have HRES := Lib.hid hres
        clear hres hfull
        go_wp2
        go_ret2
        exact ⟨by rw [HRES.out]; rfl, rfl⟩

def ph3 (o : Int) : List Int → Int
  | [] => o
  | c :: cs => ph3 (bor o (rightK c)) cs
def ph2 (o : Int) : List Int → Int
  | [] => o
  | c :: cs => if isV c then ph2 (bor o (thumbK c)) cs else ph3 o (c :: cs)
def ph1 (o : Int) : List Int → Int
  | [] => o
  | c :: cs => if isV c then ph2 o (c :: cs) else ph1 (bor o (leftK c)) cs
def phonI (cs : List Int) : Int := if phonOk cs then ph1 0 cs else 0
theorem drop_at {cs : List Int} {k : Nat} {x : Int} (h : cs[k]? = some x) : cs.drop k = x :: cs.drop (k + 1) := by
  obtain ⟨hk, e⟩ := List.getElem?_eq_some_iff.1 h
  rw [List.drop_eq_getElem_cons hk, e]
theorem drop_all (s : ByteArray) : (bs s).drop s.size = [] := by rw [← bs_len]; exact List.drop_length

set_option maxRecDepth 100000 in
set_option maxHeartbeats 2000000 in
theorem implPhonetic_any (s : ByteArray) (w : World) (hs : s.size ≤ 1048576) :
    Calls Try.prog 36 #[.string s] w fun e w' => e = .returned (.tuple #[.int .i64 (phonI (bs s)), .bool (phonI (bs s) != 0)]) ∧ w = w' := by
  have HIN0 : Hid (inB ((bs s).length : Int) 1 20 = inB (s.size : Int) 1 20) := show inB ((bs s).length : Int) 1 20 = _ by rw [bs_len]
  cases hok : phonOk (bs s)
  · have hr : phonI (bs s) = 0 := by simp [phonI, hok]
    rw [hr]
    cases hin : inB (s.size : Int) 1 20
    · have HIN := Lib.hid hin
      clear hin hr hok
      go_enter Try.func36, Try.ntmps36
      go_wp2_with (go_at_call 56; refine (in_any _ _ _ _).mono ?_; rw [HIN.out]; rintro e w' ⟨rfl, rfl⟩)
      go_ret2
      exact ⟨rfl, rfl⟩
    · have hall : (bs s).all lower = false := by simpa [phonOk, HIN0.out, hin] using hok
      have HIN := Lib.hid hin
      have HALL := Lib.hid hall
      clear hin hr hok hall
      go_enter Try.func36, Try.ntmps36
      go_wp2_with (first | (go_at_call 56; refine (in_any _ _ _ _).mono ?_; rw [HIN.out]; rintro e w' ⟨rfl, rfl⟩) | (go_at_call 61; refine (areLetters_any _ _ hs).mono ?_; rw [HALL.out]; rintro e w' ⟨rfl, rfl⟩))
      go_ret2
      exact ⟨rfl, rfl⟩
  · have hr : phonI (bs s) = ph1 0 (bs s) := by simp [phonI, hok]
    rw [hr]
    have hin : inB (s.size : Int) 1 20 = true := by unfold phonOk at hok; rw [HIN0.out, Bool.and_eq_true] at hok; exact hok.1
    have hall : (bs s).all lower = true := by unfold phonOk at hok; rw [Bool.and_eq_true] at hok; exact hok.2
    have HIN := Lib.hid hin
    have HALL := Lib.hid hall
    clear hin hr hok hall HIN0
    generalize hR : ph1 0 (bs s) = R
    have HR := Lib.hid hR
    clear hR
    go_enter Try.func36, Try.ntmps36
    go_wp2_with (first | (go_at_call 56; refine (in_any _ _ _ _).mono ?_; rw [HIN.out]; rintro e w' ⟨rfl, rfl⟩) | (go_at_call 61; refine (areLetters_any _ _ hs).mono ?_; rw [HALL.out]; rintro e w' ⟨rfl, rfl⟩))
    go_loop [4, 5] (fun o i => ∃ (k : Nat) (t : Int), k ≤ s.size ∧ i = .int .i64 k ∧ o = .int .i64 t ∧ Hid (ph1 t ((bs s).drop k) = R)) (fun _ i => s.size - (intOf i).toNat)
    case atStart => exact ⟨0, 0, Nat.zero_le _, rfl, rfl, HR⟩
    case round =>
      obtain ⟨k, o, hk, rfl, rfl, H⟩ := hrel
      by_cases hlt : k < s.size
      · obtain ⟨x, hx, hat, h0, h1⟩ := byte_of hlt
        have D := Lib.hid (drop_at hat)
        clear hat
        cases hv : isV x
        · have HV := Lib.hid hv
          clear hv
          go_wp2_with (first | (go_at_call 62; refine (isVowel_any _ _).mono ?_; rw [HV.out]; rintro e w' ⟨rfl, rfl⟩) | (go_at_call 63; refine (leftKey_any _ _).mono ?_; rintro e w' ⟨rfl, rfl⟩))
          go_round
          case rel =>
            have := H.out
            rw [D.out, ph1, HV.out, if_neg (by simp)] at this
            exact ⟨k + 1, bor o (leftK x), by omega, by go_num, rfl, this⟩
          case measure => simp [intOf]; omega
        · have HV := Lib.hid hv
          clear hv
          have H2 : Hid (ph2 o ((bs s).drop k) = R) := by
            have := H.out
            rw [D.out, ph1, HV.out, if_pos rfl, ← D.out] at this
            exact this
          clear H
          go_wp2_with (go_at_call 62; refine (isVowel_any _ _).mono ?_; rw [HV.out]; rintro e w' ⟨rfl, rfl⟩)
          go_loop [4, 5] (fun o i => ∃ (k : Nat) (t : Int), k ≤ s.size ∧ i = .int .i64 k ∧ o = .int .i64 t ∧ Hid (ph2 t ((bs s).drop k) = R)) (fun _ i => s.size - (intOf i).toNat)
          case atStart => exact ⟨k, _, by omega, rfl, rfl, H2⟩
          case round =>
            clear H2
            obtain ⟨j, o2, hj, rfl, rfl, H⟩ := hrel
            by_cases hlt2 : j < s.size
            · obtain ⟨x2, hx2, hat, h02, h12⟩ := byte_of hlt2
              have D2 := Lib.hid (drop_at hat)
              clear hat
              cases hv2 : isV x2
              · have HV2 := Lib.hid hv2
                clear hv2
                have H3 : Hid (ph3 o2 ((bs s).drop j) = R) := by
                  have := H.out
                  rw [D2.out, ph2, HV2.out, if_neg (by simp), ← D2.out] at this
                  exact this
                clear H
                go_wp2_with (go_at_call 62; refine (isVowel_any _ _).mono ?_; rw [HV2.out]; rintro e w' ⟨rfl, rfl⟩)
                go_loop [4, 5] (fun o i => ∃ (k : Nat) (t : Int), k ≤ s.size ∧ i = .int .i64 k ∧ o = .int .i64 t ∧ Hid (ph3 t ((bs s).drop k) = R)) (fun _ i => s.size - (intOf i).toNat)
                case atStart => exact ⟨j, _, by omega, rfl, rfl, H3⟩
                case round =>
                  clear H3
                  obtain ⟨m, o3, hm, rfl, rfl, H⟩ := hrel
                  by_cases hlt3 : m < s.size
                  · obtain ⟨x3, hx3, hat, h03, h13⟩ := byte_of hlt3
                    have D3 := Lib.hid (drop_at hat)
                    clear hat
                    go_wp2_with (go_at_call 65; refine (rightKeys_any _ _).mono ?_; rintro e w' ⟨rfl, rfl⟩)
                    go_round
                    case rel =>
                      have := H.out
                      rw [D3.out, ph3] at this
                      exact ⟨m + 1, bor o3 (rightK x3), by omega, by go_num, rfl, this⟩
                    case measure => simp [intOf]; omega
                  · obtain rfl : m = s.size := by omega
                    have HE : Hid (o3 = R) := by
                      have := H.out
                      rw [drop_all, ph3] at this
                      exact this
                    clear H
                    go_wp2
                    go_ret2
                    exact ⟨by rw [← HE.out]; rfl, rfl⟩
              · have HV2 := Lib.hid hv2
                clear hv2
                go_wp2_with (first | (go_at_call 62; refine (isVowel_any _ _).mono ?_; rw [HV2.out]; rintro e w' ⟨rfl, rfl⟩) | (go_at_call 64; refine (thumbKeys_any _ _).mono ?_; rintro e w' ⟨rfl, rfl⟩))
                go_round
                case rel =>
                  have := H.out
                  rw [D2.out, ph2, HV2.out, if_pos rfl] at this
                  exact ⟨j + 1, bor o2 (thumbK x2), by omega, by go_num, rfl, this⟩
                case measure => simp [intOf]; omega
            · obtain rfl : j = s.size := by omega
              have H3 : Hid (ph3 o2 ((bs s).drop s.size) = R) := by
                have := H.out
                rw [drop_all, ph2] at this
                rw [drop_all, ph3]
                exact this
              clear H
              go_wp2
              go_loop [4, 5] (fun o i => ∃ (k : Nat) (t : Int), k ≤ s.size ∧ i = .int .i64 k ∧ o = .int .i64 t ∧ Hid (ph3 t ((bs s).drop k) = R)) (fun _ i => s.size - (intOf i).toNat)
              case atStart => exact ⟨s.size, _, by omega, rfl, rfl, H3⟩
              case round =>
                clear H3
                obtain ⟨m, o3, hm, rfl, rfl, H⟩ := hrel
                by_cases hlt3 : m < s.size
                · obtain ⟨x3, hx3, hat, h03, h13⟩ := byte_of hlt3
                  have D3 := Lib.hid (drop_at hat)
                  clear hat
                  go_wp2_with (go_at_call 65; refine (rightKeys_any _ _).mono ?_; rintro e w' ⟨rfl, rfl⟩)
                  go_round
                  case rel =>
                    have := H.out
                    rw [D3.out, ph3] at this
                    exact ⟨m + 1, bor o3 (rightK x3), by omega, by go_num, rfl, this⟩
                  case measure => simp [intOf]; omega
                · obtain rfl : m = s.size := by omega
                  have HE : Hid (o3 = R) := by
                    have := H.out
                    rw [drop_all, ph3] at this
                    exact this
                  clear H
                  go_wp2
                  go_ret2
                  exact ⟨by rw [← HE.out]; rfl, rfl⟩
      · obtain rfl : k = s.size := by omega
        have H2 : Hid (ph2 o ((bs s).drop s.size) = R) := by
          have := H.out
          rw [drop_all, ph1] at this
          rw [drop_all, ph2]
          exact this
        clear H
        go_wp2
        go_loop [4, 5] (fun o i => ∃ (k : Nat) (t : Int), k ≤ s.size ∧ i = .int .i64 k ∧ o = .int .i64 t ∧ Hid (ph2 t ((bs s).drop k) = R)) (fun _ i => s.size - (intOf i).toNat)
        case atStart => exact ⟨s.size, _, by omega, rfl, rfl, H2⟩
        case round =>
          clear H2
          obtain ⟨j, o2, hj, rfl, rfl, H⟩ := hrel
          by_cases hlt2 : j < s.size
          · obtain ⟨x2, hx2, hat, h02, h12⟩ := byte_of hlt2
            have D2 := Lib.hid (drop_at hat)
            clear hat
            cases hv2 : isV x2
            · have HV2 := Lib.hid hv2
              clear hv2
              have H3 : Hid (ph3 o2 ((bs s).drop j) = R) := by
                have := H.out
                rw [D2.out, ph2, HV2.out, if_neg (by simp), ← D2.out] at this
                exact this
              clear H
              go_wp2_with (go_at_call 62; refine (isVowel_any _ _).mono ?_; rw [HV2.out]; rintro e w' ⟨rfl, rfl⟩)
              go_loop [4, 5] (fun o i => ∃ (k : Nat) (t : Int), k ≤ s.size ∧ i = .int .i64 k ∧ o = .int .i64 t ∧ Hid (ph3 t ((bs s).drop k) = R)) (fun _ i => s.size - (intOf i).toNat)
              case atStart => exact ⟨j, _, by omega, rfl, rfl, H3⟩
              case round =>
                clear H3
                obtain ⟨m, o3, hm, rfl, rfl, H⟩ := hrel
                by_cases hlt3 : m < s.size
                · obtain ⟨x3, hx3, hat, h03, h13⟩ := byte_of hlt3
                  have D3 := Lib.hid (drop_at hat)
                  clear hat
                  go_wp2_with (go_at_call 65; refine (rightKeys_any _ _).mono ?_; rintro e w' ⟨rfl, rfl⟩)
                  go_round
                  case rel =>
                    have := H.out
                    rw [D3.out, ph3] at this
                    exact ⟨m + 1, bor o3 (rightK x3), by omega, by go_num, rfl, this⟩
                  case measure => simp [intOf]; omega
                · obtain rfl : m = s.size := by omega
                  have HE : Hid (o3 = R) := by
                    have := H.out
                    rw [drop_all, ph3] at this
                    exact this
                  clear H
                  go_wp2
                  go_ret2
                  exact ⟨by rw [← HE.out]; rfl, rfl⟩
            · have HV2 := Lib.hid hv2
              clear hv2
              go_wp2_with (first | (go_at_call 62; refine (isVowel_any _ _).mono ?_; rw [HV2.out]; rintro e w' ⟨rfl, rfl⟩) | (go_at_call 64; refine (thumbKeys_any _ _).mono ?_; rintro e w' ⟨rfl, rfl⟩))
              go_round
              case rel =>
                have := H.out
                rw [D2.out, ph2, HV2.out, if_pos rfl] at this
                exact ⟨j + 1, bor o2 (thumbK x2), by omega, by go_num, rfl, this⟩
              case measure => simp [intOf]; omega
          · obtain rfl : j = s.size := by omega
            have H3 : Hid (ph3 o2 ((bs s).drop s.size) = R) := by
              have := H.out
              rw [drop_all, ph2] at this
              rw [drop_all, ph3]
              exact this
            clear H
            go_wp2
            go_loop [4, 5] (fun o i => ∃ (k : Nat) (t : Int), k ≤ s.size ∧ i = .int .i64 k ∧ o = .int .i64 t ∧ Hid (ph3 t ((bs s).drop k) = R)) (fun _ i => s.size - (intOf i).toNat)
            case atStart => exact ⟨s.size, _, by omega, rfl, rfl, H3⟩
            case round =>
              clear H3
              obtain ⟨m, o3, hm, rfl, rfl, H⟩ := hrel
              by_cases hlt3 : m < s.size
              · obtain ⟨x3, hx3, hat, h03, h13⟩ := byte_of hlt3
                have D3 := Lib.hid (drop_at hat)
                clear hat
                go_wp2_with (go_at_call 65; refine (rightKeys_any _ _).mono ?_; rintro e w' ⟨rfl, rfl⟩)
                go_round
                case rel =>
                  have := H.out
                  rw [D3.out, ph3] at this
                  exact ⟨m + 1, bor o3 (rightK x3), by omega, by go_num, rfl, this⟩
                case measure => simp [intOf]; omega
              · obtain rfl : m = s.size := by omega
                have HE : Hid (o3 = R) := by
                  have := H.out
                  rw [drop_all, ph3] at this
                  exact this
                clear H
                go_wp2
                go_ret2
                exact ⟨by rw [← HE.out]; rfl, rfl⟩

/-! ## Both agree -/
theorem letter_facts : ∀ i : Fin 26, isV (97 + (i.val : Int)) = (vowelK (97 + (i.val : Int)) != 0) ∧ (isV (97 + (i.val : Int)) = true → thumbK (97 + (i.val : Int)) = vowelK (97 + (i.val : Int)) ∧ rightK (97 + (i.val : Int)) = 0) ∧
    (0 ≤ vowelK (97 + (i.val : Int)) ∧ vowelK (97 + (i.val : Int)) < 8388608) ∧ (0 ≤ leftK (97 + (i.val : Int)) ∧ leftK (97 + (i.val : Int)) < 8388608) ∧ (0 ≤ rightK (97 + (i.val : Int)) ∧ rightK (97 + (i.val : Int)) < 8388608) := by decide
theorem facts {c : Int} (h : lower c = true) : isV c = (vowelK c != 0) ∧ (isV c = true → thumbK c = vowelK c ∧ rightK c = 0) ∧ (0 ≤ vowelK c ∧ vowelK c < 8388608) ∧ (0 ≤ leftK c ∧ leftK c < 8388608) ∧ (0 ≤ rightK c ∧ rightK c < 8388608) := by
  have h1 := inB_true.1 h
  have h2 := letter_facts ⟨(c - 97).toNat, by omega⟩
  have h3 : (97 : Int) + (((c - 97).toNat : Nat) : Int) = c := by omega
  simp only [h3] at h2
  exact h2
theorem bor_nat (a b : Nat) (ha : a < 8388608) (hb : b < 8388608) : bor (a : Int) (b : Int) = ((a ||| b : Nat) : Int) ∧ a ||| b < 8388608 := by
  have h2 : (8388608 : Nat) = 2 ^ 23 := by decide
  refine ⟨(bits_nat .i64 62 (by decide) (fun n h0 h1 => ?_) a b (by omega) (by omega)).2, ?_⟩
  · rw [IntKind.wrap_i64]
    have : (2 : Int) ^ 62 = 4611686018427387904 := by decide
    omega
  · rw [h2] at *
    exact Nat.or_lt_two_pow ha hb
theorem bor_range {o x : Int} (ho : 0 ≤ o ∧ o < 8388608) (hx : 0 ≤ x ∧ x < 8388608) : 0 ≤ bor o x ∧ bor o x < 8388608 := by
  have h := bor_nat o.toNat x.toNat (by omega) (by omega)
  rw [show ((o.toNat : Nat) : Int) = o by omega, show ((x.toNat : Nat) : Int) = x by omega] at h
  rw [h.1]
  omega
theorem bor_zero {o : Int} (ho : 0 ≤ o ∧ o < 8388608) : bor o 0 = o := by
  have h := bor_nat o.toNat 0 (by omega) (by omega)
  rw [show ((o.toNat : Nat) : Int) = o by omega] at h
  have h1 := h.1
  simp only [Nat.or_zero] at h1
  rw [show ((0 : Nat) : Int) = 0 from rfl] at h1
  omega
theorem fold_ph3 : ∀ (cs : List Int) (o : Int), (∀ c ∈ cs, lower c = true) → 0 ≤ o ∧ o < 8388608 → (cs.foldl stepP (o, 2)).1 = ph3 o cs
  | [], _, _, _ => rfl
  | c :: cs, o, hl, ho => by
    have hc := facts (hl c (by simp))
    rw [List.foldl_cons, ph3]
    by_cases hv : vowelK c = 0
    · rw [show stepP (o, 2) c = (bor o (rightK c), 2) by simp [stepP, hv]]
      exact fold_ph3 cs _ (fun d hd => hl d (by simp [hd])) (bor_range ho hc.2.2.2.2)
    · have h1 : isV c = true := by rw [hc.1]; simp [hv]
      rw [show stepP (o, 2) c = (o, 2) by simp [stepP, hv], (hc.2.1 h1).2, bor_zero ho]
      exact fold_ph3 cs _ (fun d hd => hl d (by simp [hd])) ho
theorem fold_ph2 : ∀ (cs : List Int) (o : Int), (∀ c ∈ cs, lower c = true) → 0 ≤ o ∧ o < 8388608 → (cs.foldl stepP (o, 1)).1 = ph2 o cs
  | [], _, _, _ => rfl
  | c :: cs, o, hl, ho => by
    have hc := facts (hl c (by simp))
    rw [List.foldl_cons, ph2]
    by_cases hv : vowelK c = 0
    · have h1 : isV c = false := by rw [hc.1]; simp [hv]
      rw [show stepP (o, 1) c = (bor o (rightK c), 2) by simp [stepP, hv], h1, if_neg (by simp), ph3]
      exact fold_ph3 cs _ (fun d hd => hl d (by simp [hd])) (bor_range ho hc.2.2.2.2)
    · have h1 : isV c = true := by rw [hc.1]; simp [hv]
      rw [show stepP (o, 1) c = (bor o (vowelK c), 1) by simp [stepP, hv], h1, if_pos rfl, (hc.2.1 h1).1]
      exact fold_ph2 cs _ (fun d hd => hl d (by simp [hd])) (bor_range ho hc.2.2.1)
theorem fold_ph1 : ∀ (cs : List Int) (o : Int), (∀ c ∈ cs, lower c = true) → 0 ≤ o ∧ o < 8388608 → (cs.foldl stepP (o, 0)).1 = ph1 o cs
  | [], _, _, _ => rfl
  | c :: cs, o, hl, ho => by
    have hc := facts (hl c (by simp))
    rw [List.foldl_cons, ph1]
    by_cases hv : vowelK c = 0
    · have h1 : isV c = false := by rw [hc.1]; simp [hv]
      rw [show stepP (o, 0) c = (bor o (leftK c), 0) by simp [stepP, hv], h1, if_neg (by simp)]
      exact fold_ph1 cs _ (fun d hd => hl d (by simp [hd])) (bor_range ho hc.2.2.2.1)
    · have h1 : isV c = true := by rw [hc.1]; simp [hv]
      rw [show stepP (o, 0) c = (bor o (vowelK c), 1) by simp [stepP, hv], h1, if_pos rfl, ph2, h1, if_pos rfl, (hc.2.1 h1).1]
      exact fold_ph2 cs _ (fun d hd => hl d (by simp [hd])) (bor_range ho hc.2.2.1)
theorem phon_same (cs : List Int) : phonI cs = phonS cs := by
  unfold phonI phonS
  by_cases h : phonOk cs = true
  · rw [if_pos h, if_pos h]
    unfold phonOk at h
    rw [Bool.and_eq_true, List.all_eq_true] at h
    exact (fold_ph1 cs 0 h.2 (by omega)).symm
  · rw [if_neg h, if_neg h]
theorem specPhoneticStroke_any (s : ByteArray) (w : World) (hs : s.size ≤ 1048576) :
    Calls Try.prog 35 #[.string s] w fun e w' => e = .returned (.tuple #[.int .i64 (phonS (bs s)), .bool (phonS (bs s) != 0)]) ∧ Below w.heap.size w w' :=
  (specPhonetic_any s w hs).mono fun _ _ h => ⟨h.1, h.2 ▸ Below.refl _ _⟩
theorem implPhoneticStroke_any (s : ByteArray) (w : World) (hs : s.size ≤ 1048576) :
    Calls Try.prog 36 #[.string s] w fun e w' => e = .returned (.tuple #[.int .i64 (phonS (bs s)), .bool (phonS (bs s) != 0)]) ∧ Below w.heap.size w w' :=
  (implPhonetic_any s w hs).mono fun _ _ h => ⟨by rw [h.1, phon_same], h.2 ▸ Below.refl _ _⟩
end Go.Proofs.Ytfecafjajegcfaa
