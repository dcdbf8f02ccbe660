/- 'all', 'slices.ContainsFunc', 'slices.IndexFunc' at the types named: whatever function answers p and makes memory at most, the list is asked by p. Printed by gen_all.py. -/
import Derived.Test.YtobfjpopicndnaaBasic
namespace Go.Proofs.Ytobfjpopicndnaa
open Go.RowKit

/-- 'slices.IndexFunc' at impl.TapeItem, for whatever function that answers p and makes memory at most -/
theorem indexFunc_TI (g : FuncId) (fn : Func) (hg : Try.prog.funcs[g]? = some fn) (hg1 : (fn.name == "runtime.NumGoroutine") = false) (hg2 : fn.body.isNone = false) (cap : Array Value) (J : World → Prop) (p : Int × Bool → Bool) (A : Option Addr) (c : Nat) (xs : List (Int × Bool)) (w : World) (hb : xs.length ≤ maxLen) (hr : Rd encTI 2 w w.heap.size A xs)
    (hJ : J w) (hJk : ∀ w' w'', J w' → Below w'.heap.size w' w'' → J w'')
    (hf : ∀ x w', J w' → Calls Try.prog g (#[.agg #[.int .i64 x.1, .bool x.2]] ++ cap) w' fun e w'' => e = .returned (.bool (p x)) ∧ Below w'.heap.size w' w'') :
    Calls Try.prog 78 #[.slice A xs.length c, .func (.func g) #[] cap] w fun e w' => e = .returned (.int .i64 (idx p xs)) ∧ Below w.heap.size w w' := by
  unfold maxLen at hb
  go_enter Try.func78, Try.ntmps78
  go_wp2
  go_loopw [8] (fun i wr => ∃ k : Nat, k ≤ xs.length ∧ i = .int .i64 k ∧ J wr ∧ Below w.heap.size w wr ∧ ∀ j y, j < k → xs[j]? = some y → p y = false) (fun i _ => xs.length - (intOf i).toNat)
  case atStart => exact ⟨0, Nat.zero_le _, rfl, hJ, Below.refl _ _, by intro j y h; omega⟩
  case round =>
    obtain ⟨k, hk, rfl, hJr, hbel, hno⟩ := hrel
    have NO := Lib.hid hno
    have HF := Lib.hid hf
    have HK := Lib.hid hJk
    clear hno hf hJk
    by_cases hlt : k < xs.length
    · obtain ⟨x, hx⟩ := at_of_lt hlt
      have hrk := hr.below hbel (Nat.le_refl _)
      obtain ⟨b, o, rfl, hbB, hc0, hc1⟩ := hrk.item hx
      have X := Lib.hid hx
      clear hx hrk hr
      have hk1 : (k : Int) < (xs.length : Int) := by omega
      cases hp : p x
      all_goals
        have HP := Lib.hid hp
        clear hp
        go_wp2_with ((with_reducible refine wpList_callv1 rfl (.tmp 11) (.tmp 15) 62 rfl g fn hg hg1 hg2 cap ?_ (.agg #[.int .i64 x.1, .bool x.2]) ?_ ?_); (· rfl); (· rfl); refine (HF.out x _ hJr).mono ?_; rw [HP.out]; rintro e w1 ⟨rfl, hb1⟩; refine ⟨_, rfl, ?_⟩; simp only [Act.put, List.setIfInBounds_toArray, List.set_cons_succ, List.set_cons_zero])
        first
          | (go_ret
             exact ⟨ret_int (idx_at p xs k x X.out NO.out HP.out).symm, hbel.trans (hb1.mono hbel.size)⟩)
          | (go_roundw
             case rel =>
               refine ⟨k + 1, by omega, by go_num, HK.out _ _ hJr hb1, hbel.trans (hb1.mono hbel.size), fun j y hj hy => ?_⟩
               by_cases hjk : j < k
               · exact NO.out j y hjk hy
               · obtain rfl : j = k := by omega
                 rw [X.out] at hy
                 cases hy
                 exact HP.out
             case measure => simp [intOf]; omega)
    · go_wp2
      go_ret
      exact ⟨ret_int (idx_none p xs (fun j y hy => NO.out j y (by have := (List.getElem?_eq_some_iff.1 hy).1; omega) hy)).symm, hbel⟩
theorem containsFunc_TI (g : FuncId) (fn : Func) (hg : Try.prog.funcs[g]? = some fn) (hg1 : (fn.name == "runtime.NumGoroutine") = false) (hg2 : fn.body.isNone = false) (cap : Array Value) (J : World → Prop) (p : Int × Bool → Bool) (A : Option Addr) (c : Nat) (xs : List (Int × Bool)) (w : World) (hb : xs.length ≤ maxLen) (hr : Rd encTI 2 w w.heap.size A xs)
    (hJ : J w) (hJk : ∀ w' w'', J w' → Below w'.heap.size w' w'' → J w'')
    (hf : ∀ x w', J w' → Calls Try.prog g (#[.agg #[.int .i64 x.1, .bool x.2]] ++ cap) w' fun e w'' => e = .returned (.bool (p x)) ∧ Below w'.heap.size w' w'') :
    Calls Try.prog 63 #[.slice A xs.length c, .func (.func g) #[] cap] w fun e w' => e = .returned (.bool (xs.any p)) ∧ Below w.heap.size w w' := by
  have H := Lib.hid (indexFunc_TI g fn hg hg1 hg2 cap J p A c xs w hb hr hJ hJk hf)
  clear hf hJk hr
  go_enter Try.func63, Try.ntmps63
  go_wp2_with (go_at_call 78; refine H.out.mono ?_; rintro e w1 ⟨rfl, hb1⟩)
  go_ret
  exact ⟨ret_bool (idx_nonneg p xs), hb1⟩
theorem all1_TI (g : FuncId) (fn : Func) (hg : Try.prog.funcs[g]? = some fn) (hg1 : (fn.name == "runtime.NumGoroutine") = false) (hg2 : fn.body.isNone = false) (p : Int × Bool → Bool) (bx : Nat) (x : Int × Bool) (w : World) (hc : w.cell? ⟨bx, 0, none⟩ = some (.func (.func g) #[] #[])) (hbx : bx < w.heap.size)
    (hf : ∀ x w', Calls Try.prog g #[.agg #[.int .i64 x.1, .bool x.2]] w' fun e w'' => e = .returned (.bool (p x)) ∧ Below w'.heap.size w' w'') :
    Calls Try.prog 64 #[.agg #[.int .i64 x.1, .bool x.2], .pointer (some ⟨bx, 0, none⟩)] w fun e w' => e = .returned (.bool (!p x)) ∧ Below w.heap.size w w' := by
  have HF := Lib.hid hf
  clear hf
  go_enter Try.func64, Try.ntmps64
  go_wp2_with ((with_reducible refine wpList_callv1 rfl (.tmp 4) (.tmp 5) 62 rfl g fn hg hg1 hg2 #[] ?_ (.agg #[.int .i64 x.1, .bool x.2]) ?_ ?_); (· rfl); (· rfl); refine (HF.out x _).mono ?_; rintro e w1 ⟨rfl, hb1⟩; refine ⟨_, rfl, ?_⟩; simp only [Act.put, List.setIfInBounds_toArray, List.set_cons_succ, List.set_cons_zero])
  go_ret
  exact ⟨rfl, ((Below.refl _ _).alloc (Nat.le_refl _) _).trans (hb1.mono (by simp))⟩
theorem all_TI (g : FuncId) (fn : Func) (hg : Try.prog.funcs[g]? = some fn) (hg1 : (fn.name == "runtime.NumGoroutine") = false) (hg2 : fn.body.isNone = false) (p : Int × Bool → Bool) (A : Option Addr) (c : Nat) (xs : List (Int × Bool)) (w : World) (hb : xs.length ≤ maxLen) (hr : Rd encTI 2 w w.heap.size A xs)
    (hf : ∀ x w', Calls Try.prog g #[.agg #[.int .i64 x.1, .bool x.2]] w' fun e w'' => e = .returned (.bool (p x)) ∧ Below w'.heap.size w' w'') :
    Calls Try.prog 43 #[.slice A xs.length c, .func (.func g) #[] #[]] w fun e w' => e = .returned (.bool (xs.all p)) ∧ Below w.heap.size w w' := by
  have hbel : Below w.heap.size w (w.alloc (.cells #[.func (.func g) #[] #[]] 65)) := (Below.refl _ _).alloc (Nat.le_refl _) _
  have H := Lib.hid (containsFunc_TI 64 Try.f64 Try.func64 (by kernel_rfl) (by kernel_rfl) #[.pointer (some ⟨w.heap.size, 0, none⟩)] (fun w' => w'.cell? ⟨w.heap.size, 0, none⟩ = some (.func (.func g) #[] #[]) ∧ w.heap.size < w'.heap.size) (fun x => !p x) A c xs
    (w.alloc (.cells #[.func (.func g) #[] #[]] 65)) hb ((hr.below hbel (Nat.le_refl _)).mono (by simp)) ⟨cell_of_one (heap_alloc_new w _), by simp⟩
    (fun w' w'' hJ hB => ⟨(hB.cell (p := ⟨w.heap.size, 0, none⟩) hJ.2).trans hJ.1, Nat.lt_of_lt_of_le hJ.2 hB.size⟩)
    (fun x w' hJ => all1_TI g fn hg hg1 hg2 p w.heap.size x w' hJ.1 hJ.2 hf))
  clear hf hr
  go_enter Try.func43, Try.ntmps43
  go_wp2_with (go_at_call 63; refine H.out.mono ?_; rintro e w1 ⟨rfl, hb1⟩)
  go_ret
  exact ⟨ret_bool (any_not p xs), hbel.trans (hb1.mono (by simp))⟩

/-- 'slices.IndexFunc' at int, for whatever function that answers p and makes memory at most -/
theorem indexFunc_I (g : FuncId) (fn : Func) (hg : Try.prog.funcs[g]? = some fn) (hg1 : (fn.name == "runtime.NumGoroutine") = false) (hg2 : fn.body.isNone = false) (cap : Array Value) (J : World → Prop) (p : Int → Bool) (A : Option Addr) (c : Nat) (xs : List (Int)) (w : World) (hb : xs.length ≤ maxLen) (hr : Rd encI 1 w w.heap.size A xs)
    (hJ : J w) (hJk : ∀ w' w'', J w' → Below w'.heap.size w' w'' → J w'')
    (hf : ∀ x w', J w' → Calls Try.prog g (#[.int .i64 x] ++ cap) w' fun e w'' => e = .returned (.bool (p x)) ∧ Below w'.heap.size w' w'') :
    Calls Try.prog 89 #[.slice A xs.length c, .func (.func g) #[] cap] w fun e w' => e = .returned (.int .i64 (idx p xs)) ∧ Below w.heap.size w w' := by
  unfold maxLen at hb
  go_enter Try.func89, Try.ntmps89
  go_wp2
  go_loopw [8] (fun i wr => ∃ k : Nat, k ≤ xs.length ∧ i = .int .i64 k ∧ J wr ∧ Below w.heap.size w wr ∧ ∀ j y, j < k → xs[j]? = some y → p y = false) (fun i _ => xs.length - (intOf i).toNat)
  case atStart => exact ⟨0, Nat.zero_le _, rfl, hJ, Below.refl _ _, by intro j y h; omega⟩
  case round =>
    obtain ⟨k, hk, rfl, hJr, hbel, hno⟩ := hrel
    have NO := Lib.hid hno
    have HF := Lib.hid hf
    have HK := Lib.hid hJk
    clear hno hf hJk
    by_cases hlt : k < xs.length
    · obtain ⟨x, hx⟩ := at_of_lt hlt
      have hrk := hr.below hbel (Nat.le_refl _)
      obtain ⟨b, o, rfl, hbB, hc0⟩ := hrk.int hx
      have X := Lib.hid hx
      clear hx hrk hr
      have hk1 : (k : Int) < (xs.length : Int) := by omega
      cases hp : p x
      all_goals
        have HP := Lib.hid hp
        clear hp
        go_wp2_with ((with_reducible refine wpList_callv1 rfl (.tmp 11) (.tmp 15) 3 rfl g fn hg hg1 hg2 cap ?_ (.int .i64 x) ?_ ?_); (· rfl); (· rfl); refine (HF.out x _ hJr).mono ?_; rw [HP.out]; rintro e w1 ⟨rfl, hb1⟩; refine ⟨_, rfl, ?_⟩; simp only [Act.put, List.setIfInBounds_toArray, List.set_cons_succ, List.set_cons_zero])
        first
          | (go_ret
             exact ⟨ret_int (idx_at p xs k x X.out NO.out HP.out).symm, hbel.trans (hb1.mono hbel.size)⟩)
          | (go_roundw
             case rel =>
               refine ⟨k + 1, by omega, by go_num, HK.out _ _ hJr hb1, hbel.trans (hb1.mono hbel.size), fun j y hj hy => ?_⟩
               by_cases hjk : j < k
               · exact NO.out j y hjk hy
               · obtain rfl : j = k := by omega
                 rw [X.out] at hy
                 cases hy
                 exact HP.out
             case measure => simp [intOf]; omega)
    · go_wp2
      go_ret
      exact ⟨ret_int (idx_none p xs (fun j y hy => NO.out j y (by have := (List.getElem?_eq_some_iff.1 hy).1; omega) hy)).symm, hbel⟩
theorem containsFunc_I (g : FuncId) (fn : Func) (hg : Try.prog.funcs[g]? = some fn) (hg1 : (fn.name == "runtime.NumGoroutine") = false) (hg2 : fn.body.isNone = false) (cap : Array Value) (J : World → Prop) (p : Int → Bool) (A : Option Addr) (c : Nat) (xs : List (Int)) (w : World) (hb : xs.length ≤ maxLen) (hr : Rd encI 1 w w.heap.size A xs)
    (hJ : J w) (hJk : ∀ w' w'', J w' → Below w'.heap.size w' w'' → J w'')
    (hf : ∀ x w', J w' → Calls Try.prog g (#[.int .i64 x] ++ cap) w' fun e w'' => e = .returned (.bool (p x)) ∧ Below w'.heap.size w' w'') :
    Calls Try.prog 79 #[.slice A xs.length c, .func (.func g) #[] cap] w fun e w' => e = .returned (.bool (xs.any p)) ∧ Below w.heap.size w w' := by
  have H := Lib.hid (indexFunc_I g fn hg hg1 hg2 cap J p A c xs w hb hr hJ hJk hf)
  clear hf hJk hr
  go_enter Try.func79, Try.ntmps79
  go_wp2_with (go_at_call 89; refine H.out.mono ?_; rintro e w1 ⟨rfl, hb1⟩)
  go_ret
  exact ⟨ret_bool (idx_nonneg p xs), hb1⟩
theorem all1_I (g : FuncId) (fn : Func) (hg : Try.prog.funcs[g]? = some fn) (hg1 : (fn.name == "runtime.NumGoroutine") = false) (hg2 : fn.body.isNone = false) (p : Int → Bool) (bx : Nat) (x : Int) (w : World) (hc : w.cell? ⟨bx, 0, none⟩ = some (.func (.func g) #[] #[])) (hbx : bx < w.heap.size)
    (hf : ∀ x w', Calls Try.prog g #[.int .i64 x] w' fun e w'' => e = .returned (.bool (p x)) ∧ Below w'.heap.size w' w'') :
    Calls Try.prog 80 #[.int .i64 x, .pointer (some ⟨bx, 0, none⟩)] w fun e w' => e = .returned (.bool (!p x)) ∧ Below w.heap.size w w' := by
  have HF := Lib.hid hf
  clear hf
  go_enter Try.func80, Try.ntmps80
  go_wp2_with ((with_reducible refine wpList_callv1 rfl (.tmp 4) (.tmp 5) 3 rfl g fn hg hg1 hg2 #[] ?_ (.int .i64 x) ?_ ?_); (· rfl); (· rfl); refine (HF.out x _).mono ?_; rintro e w1 ⟨rfl, hb1⟩; refine ⟨_, rfl, ?_⟩; simp only [Act.put, List.setIfInBounds_toArray, List.set_cons_succ, List.set_cons_zero])
  go_ret
  exact ⟨rfl, hb1⟩
theorem all_I (g : FuncId) (fn : Func) (hg : Try.prog.funcs[g]? = some fn) (hg1 : (fn.name == "runtime.NumGoroutine") = false) (hg2 : fn.body.isNone = false) (p : Int → Bool) (A : Option Addr) (c : Nat) (xs : List (Int)) (w : World) (hb : xs.length ≤ maxLen) (hr : Rd encI 1 w w.heap.size A xs)
    (hf : ∀ x w', Calls Try.prog g #[.int .i64 x] w' fun e w'' => e = .returned (.bool (p x)) ∧ Below w'.heap.size w' w'') :
    Calls Try.prog 67 #[.slice A xs.length c, .func (.func g) #[] #[]] w fun e w' => e = .returned (.bool (xs.all p)) ∧ Below w.heap.size w w' := by
  have hbel : Below w.heap.size w (w.alloc (.cells #[.func (.func g) #[] #[]] 60)) := (Below.refl _ _).alloc (Nat.le_refl _) _
  have H := Lib.hid (containsFunc_I 80 Try.f80 Try.func80 (by kernel_rfl) (by kernel_rfl) #[.pointer (some ⟨w.heap.size, 0, none⟩)] (fun w' => w'.cell? ⟨w.heap.size, 0, none⟩ = some (.func (.func g) #[] #[]) ∧ w.heap.size < w'.heap.size) (fun x => !p x) A c xs
    (w.alloc (.cells #[.func (.func g) #[] #[]] 60)) hb ((hr.below hbel (Nat.le_refl _)).mono (by simp)) ⟨cell_of_one (heap_alloc_new w _), by simp⟩
    (fun w' w'' hJ hB => ⟨(hB.cell (p := ⟨w.heap.size, 0, none⟩) hJ.2).trans hJ.1, Nat.lt_of_lt_of_le hJ.2 hB.size⟩)
    (fun x w' hJ => all1_I g fn hg hg1 hg2 p w.heap.size x w' hJ.1 hJ.2 hf))
  clear hf hr
  go_enter Try.func67, Try.ntmps67
  go_wp2_with (go_at_call 79; refine H.out.mono ?_; rintro e w1 ⟨rfl, hb1⟩)
  go_ret
  exact ⟨ret_bool (any_not p xs), hbel.trans (hb1.mono (by simp))⟩

end Go.Proofs.Ytobfjpopicndnaa
