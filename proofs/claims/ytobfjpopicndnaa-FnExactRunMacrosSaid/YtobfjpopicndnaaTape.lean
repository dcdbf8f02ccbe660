/- Tapes: both programs' tests of a tape; the copies, comparisons and marks of package laws. -/
import Derived.Test.YtobfjpopicndnaaAll
import Derived.Test.YtobfjpopicndnaaStruct
namespace Go.Proofs.Ytobfjpopicndnaa
open Go.RowKit

abbrev Item := Int × Bool
/-- the first item has no break before it -/
def firstOk : List Item → Bool
  | [] => true
  | x :: _ => !x.2
/-- a valid tape -/
def tapeOk (xs : List Item) : Bool := firstOk xs && (decide (xs.length ≤ 60) && xs.all fun x => good x.1)
theorem tapeOk_false {xs : List Item} (j : Nat) (x : Item) (hx : xs[j]? = some x) (h : good x.1 = false ∨ (j = 0 ∧ x.2 = true)) : tapeOk xs = false := by
  unfold tapeOk
  rcases h with h | ⟨rfl, h⟩
  · have : (xs.all fun x => good x.1) = false := by rw [List.all_eq_false]; exact ⟨x, List.mem_of_getElem? hx, by simp [h]⟩
    rw [this]
    simp
  · cases xs with
    | nil => simp at hx
    | cons y ys =>
      simp only [List.getElem?_cons_zero, Option.some.injEq] at hx
      subst hx
      simp [firstOk, h]
theorem tapeOk_true {xs : List Item} (hl : xs.length ≤ 60) (h : ∀ (j : Nat) x, xs[j]? = some x → good x.1 = true ∧ (j = 0 → x.2 = false)) : tapeOk xs = true := by
  unfold tapeOk
  have h1 : (xs.all fun x => good x.1) = true := by
    rw [List.all_eq_true]
    intro x hx
    obtain ⟨j, hj⟩ := List.getElem?_of_mem hx
    exact (h j x hj).1
  have h2 : firstOk xs = true := by
    cases xs with
    | nil => rfl
    | cons y ys => have := (h 0 y rfl).2 rfl; simp [firstOk, this]
  simp [h1, h2, hl]
theorem tapeOk_long {xs : List Item} (hl : 60 < xs.length) : tapeOk xs = false := by
  unfold tapeOk
  rw [show decide (xs.length ≤ 60) = false by simpa using hl]
  simp

set_option maxHeartbeats 400000 in
theorem specIsValidTape_any (A : Option Addr) (c : Nat) (xs : List Item) (w : World) (hb : xs.length ≤ 2097152) (hr : Rd encTI 2 w w.heap.size A xs) :
    Calls Try.prog 12 #[.agg #[.slice A xs.length c]] w fun e w' => e = .returned (.bool (tapeOk xs)) ∧ Below w.heap.size w w' := by
  by_cases h60 : xs.length ≤ 60
  · have h61 : (xs.length : Int) ≤ 60 := by omega
    have hW : Below w.heap.size w (w.alloc (.cells #[.slice A xs.length c] 29)) := (Below.refl _ _).alloc (Nat.le_refl _) _
    have hr1 := hr.below hW (Nat.le_refl _)
    go_enter Try.func12, Try.ntmps12
    go_wp2
    go_loop [3] (fun i => ∃ k : Nat, k ≤ xs.length ∧ i = .int .i64 k ∧ Hid (∀ (j : Nat) x, j < k → xs[j]? = some x → good x.1 = true ∧ (j = 0 → x.2 = false))) (fun i => xs.length - (intOf i).toNat)
    case atStart => exact ⟨0, Nat.zero_le _, rfl, by intro j x h; omega⟩
    case round =>
      obtain ⟨k, hk, rfl, H⟩ := hrel
      by_cases hlt : k < xs.length
      · obtain ⟨x, hx⟩ := at_of_lt hlt
        obtain ⟨b, o, rfl, hbB, hc0, hc1⟩ := hr1.item hx
        obtain ⟨s, t⟩ := x
        have X := Lib.hid hx
        have hk1 : (k : Int) < (xs.length : Int) := by omega
        have hne : b ≠ w.heap.size := by omega
        clear hx hr hr1
        cases hg : good s
        · have HG := Lib.hid hg
          clear hg
          go_wp2_with (go_at_call 41; refine (l2Good_any _ _).mono ?_; rw [HG.out]; rintro e w' ⟨rfl, rfl⟩)
          go_ret
          exact ⟨ret_bool (tapeOk_false k _ X.out (.inl HG.out)).symm, hW⟩
        · have HG := Lib.hid hg
          clear hg
          by_cases hk0 : k = 0
          · subst hk0
            simp only [Nat.zero_mul, Nat.add_zero] at hc0 hc1
            cases t
            · go_wp2_with (go_at_call 41; refine (l2Good_any _ _).mono ?_; rw [HG.out]; rintro e w' ⟨rfl, rfl⟩)
              go_round
              case rel =>
                refine ⟨1, by omega, by go_num, fun j x hj hx => ?_⟩
                obtain rfl : j = 0 := by omega
                rw [X.out] at hx
                cases hx
                exact ⟨HG.out, fun _ => rfl⟩
              case measure => simp [intOf]; omega
            · go_wp2_with (go_at_call 41; refine (l2Good_any _ _).mono ?_; rw [HG.out]; rintro e w' ⟨rfl, rfl⟩)
              go_ret
              exact ⟨ret_bool (tapeOk_false 0 _ X.out (.inr ⟨rfl, rfl⟩)).symm, hW⟩
          · have hk2 : ((k : Int) == 0) = false := by simpa using hk0
            go_wp2_with (go_at_call 41; refine (l2Good_any _ _).mono ?_; rw [HG.out]; rintro e w' ⟨rfl, rfl⟩)
            go_round
            case rel =>
              refine ⟨k + 1, by omega, by go_num, fun j x hj hx => ?_⟩
              by_cases hjk : j < k
              · exact H.out j x hjk hx
              · obtain rfl : j = k := by omega
                rw [X.out] at hx
                cases hx
                exact ⟨HG.out, fun h => absurd h hk0⟩
            case measure => simp [intOf]; omega
      · go_wp2
        go_ret
        exact ⟨ret_bool (tapeOk_true h60 fun j x hx => H.out j x (by have := (List.getElem?_eq_some_iff.1 hx).1; omega) hx).symm, hW⟩
  · have h61 : (60 : Int) < (xs.length : Int) := by omega
    go_enter Try.func12, Try.ntmps12
    go_wp2
    go_ret
    exact ⟨ret_bool (tapeOk_long (by omega)).symm, by repeat (first | exact Below.refl _ _ | assumption | refine Below.alloc ?_ (by first | (simp; done) | (simp; omega) | omega) _ | refine Below.setCell ?_ (by first | (simp; done) | (simp; omega) | omega) _ | refine Below.drew ?_)⟩
theorem IsValidTape1_any (x : Item) (w : World) : Calls Try.prog 44 #[.agg #[.int .i64 x.1, .bool x.2]] w fun e w' => e = .returned (.bool (good x.1)) ∧ Below w.heap.size w w' := by
  go_enter Try.func44, Try.ntmps44
  go_wp2_with (go_at_call 45; refine (IsValidStroke_any _ _).mono ?_; rintro e w' ⟨rfl, rfl⟩)
  go_ret
  exact ⟨rfl, by repeat (first | exact Below.refl _ _ | assumption | refine Below.alloc ?_ (by first | (simp; done) | (simp; omega) | omega) _ | refine Below.setCell ?_ (by first | (simp; done) | (simp; omega) | omega) _ | refine Below.drew ?_)⟩
set_option maxHeartbeats 400000 in
theorem implIsValidTape_any (A : Option Addr) (c : Nat) (xs : List Item) (w : World) (hb : xs.length ≤ 2097152) (hr : Rd encTI 2 w w.heap.size A xs) :
    Calls Try.prog 14 #[.agg #[.slice A xs.length c]] w fun e w' => e = .returned (.bool (tapeOk xs)) ∧ Below w.heap.size w w' := by
  have hW : Below w.heap.size w (w.alloc (.cells #[.slice A xs.length c] 29)) := (Below.refl _ _).alloc (Nat.le_refl _) _
  have hr1 := (hr.below hW (Nat.le_refl _)).mono (show w.heap.size ≤ (w.alloc (.cells #[.slice A xs.length c] 29)).heap.size by simp)
  have HA := Lib.hid (all_TI 44 Try.f44 Try.func44 (by kernel_rfl) (by kernel_rfl) (fun x => good x.1) A c xs _ (by unfold maxLen; omega) hr1 IsValidTape1_any)
  clear hr1
  cases xs with
  | nil =>
    go_enter Try.func14, Try.ntmps14
    go_wp2_with (go_at_call 43; refine HA.out.mono ?_; rintro e w1 ⟨rfl, hb1⟩)
    go_ret
    exact ⟨rfl, hW.trans (hb1.mono (by simp))⟩
  | cons y ys =>
    obtain ⟨b, o, rfl, hbB, hc0, hc1⟩ := hr.item (k := 0) (x := y) rfl
    simp only [Nat.zero_mul, Nat.add_zero] at hc0 hc1
    obtain ⟨s, t⟩ := y
    have hne : b ≠ w.heap.size := by omega
    have hpos : (0 : Int) < (((s, t) :: ys).length : Int) := by rw [List.length_cons]; omega
    have hz : ((((s, t) :: ys).length : Int) == 0) = false := by rw [beq_eq_false_iff_ne]; omega
    generalize hn : ((s, t) :: ys).length = n at *
    have HN := Lib.hid hn
    clear hn hr
    cases t
    · by_cases h60 : (n : Int) ≤ 60
      · go_enter Try.func14, Try.ntmps14
        go_wp2_with (go_at_call 43; refine HA.out.mono ?_; rintro e w1 ⟨rfl, hb1⟩)
        go_ret
        refine ⟨ret_bool ?_, hW.trans (hb1.mono (by simp))⟩
        unfold tapeOk
        rw [HN.out, show decide (n ≤ 60) = true by simpa using (show n ≤ 60 by omega)]
        simp [firstOk]
      · go_enter Try.func14, Try.ntmps14
        go_wp2
        go_ret
        exact ⟨ret_bool (tapeOk_long (by rw [HN.out]; omega)).symm, by repeat (first | exact Below.refl _ _ | assumption | refine Below.alloc ?_ (by first | (simp; done) | (simp; omega) | omega) _ | refine Below.setCell ?_ (by first | (simp; done) | (simp; omega) | omega) _ | refine Below.drew ?_)⟩
    · go_enter Try.func14, Try.ntmps14
      go_wp2
      go_ret
      exact ⟨ret_bool (tapeOk_false 0 (s, true) rfl (.inr ⟨rfl, rfl⟩)).symm, by repeat (first | exact Below.refl _ _ | assumption | refine Below.alloc ?_ (by first | (simp; done) | (simp; omega) | omega) _ | refine Below.setCell ?_ (by first | (simp; done) | (simp; omega) | omega) _ | refine Below.drew ?_)⟩
end Go.Proofs.Ytobfjpopicndnaa
