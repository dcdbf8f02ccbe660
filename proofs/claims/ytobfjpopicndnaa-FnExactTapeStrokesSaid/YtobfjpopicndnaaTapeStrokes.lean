/- TapeStrokes: both programs' functions at every tape. No conditions but the tape's length. -/
import Derived.Test.YtobfjpopicndnaaTape
import Derived.Test.YtobfjpopicndnaaMem2
namespace Go.Proofs.Ytobfjpopicndnaa
open Go.RowKit

def strokes (xs : List Item) : List Int := xs.map fun x => x.1
theorem strokes_len (xs : List Item) : (strokes xs).length = xs.length := by simp [strokes]
theorem strokes_take_next {xs : List Item} {k : Nat} {x : Item} (h : xs[k]? = some x) : strokes (xs.take (k + 1)) = strokes (xs.take k) ++ [x.1] := by unfold strokes; rw [take_next h, List.map_append]; rfl
theorem strokes_take_len {xs : List Item} {k : Nat} (h : k ≤ xs.length) : (strokes (xs.take k)).length = k := by rw [strokes_len]; simp; omega
def tapeStrokes (xs : List Item) : List Int := if tapeOk xs then strokes xs else []
theorem tapeStrokes_true {xs : List Item} (h : tapeOk xs = true) : tapeStrokes xs = strokes xs := by simp [tapeStrokes, h]
theorem tapeStrokes_false {xs : List Item} (h : tapeOk xs = false) : tapeStrokes xs = [] := by simp [tapeStrokes, h]
theorem tapeStrokes_len (xs : List Item) : (tapeStrokes xs).length ≤ xs.length := by unfold tapeStrokes; split <;> simp [strokes]

set_option maxRecDepth 100000 in
set_option maxHeartbeats 1000000 in
theorem l16Strokes_any (A : Option Addr) (c : Nat) (xs : List Item) (w : World) (hb : xs.length ≤ 2097152) (hr : Rd encTI 2 w w.heap.size A xs) :
    Calls Try.prog 50 #[.agg #[.slice A xs.length c]] w fun e w' => ∃ A' c', e = .returned (.slice A' (strokes xs).length c') ∧ Own encI 1 w' w.heap.size 3 (.slice A' (strokes xs).length c') (strokes xs) ∧ Below w.heap.size w w' := by
  have hA : ∀ o o' : Obj, Below w.heap.size w ((w.alloc o).alloc o') := fun o o' => ((Below.refl _ _).alloc (Nat.le_refl _) _).alloc (by simp) _
  have HB0 := Lib.hid (heap_alloc_new w (.cells #[.slice A xs.length c] 29))
  go_enter Try.func50, Try.ntmps50
  go_wp2
  go_loopw [3, 4] (fun o i wr => ∃ k : Nat, k ≤ xs.length ∧ i = .int .i64 k ∧ wr.heap[w.heap.size]? = some (.cells #[.slice A xs.length c] 29 (0, 0)) ∧
     Own encI 1 wr (w.heap.size + 1) 3 o (strokes (xs.take k)) ∧ Below w.heap.size w wr) (fun _ i _ => xs.length - (intOf i).toNat)
  case atStart =>
    exact ⟨0, Nat.zero_le _, rfl, heap_alloc2_old _ _ _, Own.lit (by simp) (Nat.le_refl _), hA _ _⟩
  case round =>
    obtain ⟨k, hk, rfl, hB0, hown, hbel⟩ := hrel
    have c0 := cell_of_one hB0
    have l0 := lt_of_block hB0
    by_cases hlt : k < xs.length
    · obtain ⟨⟨s, t⟩, hx⟩ := at_of_lt (xs := xs) (k := k) (by omega)
      obtain ⟨b, o, rfl, hbB, hc, -⟩ := (hr.below hbel (Nat.le_refl _)).item hx
      have X := Lib.hid hx
      have OW := hown.lt
      clear hx hr
      have hi1 : (k : Int) < (xs.length : Int) := by omega
      have HL := Lib.hid (strokes_take_len hk)
      go_wp2_with (at_builtin; refine app_I _ rfl _ _ rfl _ _ _ rfl hown s rfl k HL.out (by omega) (by omega) ?_; rintro g cap w2 hown2 hg2 hat2 hlt2; simp only [Act.put, List.setIfInBounds_toArray, List.set_cons_succ, List.set_cons_zero])
      go_roundw
      case rel =>
        refine ⟨k + 1, by omega, by go_num, keep_block hB0 hg2 (fun e => by have := OW _ e; omega), ?_, hbel.grown hg2 (by omega) (fun k e => by have := OW _ e; omega)⟩
        rw [strokes_take_next X.out]
        exact hown2
      case measure => simp [intOf]; omega
    · obtain rfl : k = xs.length := by omega
      obtain ⟨A', c', rfl⟩ := hown.form
      rw [List.take_length] at *
      go_wp2
      go_ret
      exact ⟨A', c', rfl, hown.mono (by omega), hbel⟩
set_option maxRecDepth 100000 in
set_option maxHeartbeats 1000000 in
theorem strokes_any (A : Option Addr) (c : Nat) (xs : List Item) (w : World) (hb : xs.length ≤ 2097152) (hr : Rd encTI 2 w w.heap.size A xs) :
    Calls Try.prog 51 #[.agg #[.slice A xs.length c]] w fun e w' => ∃ A' c', e = .returned (.slice A' (strokes xs).length c') ∧ Own encI 1 w' w.heap.size 3 (.slice A' (strokes xs).length c') (strokes xs) ∧ Below w.heap.size w w' := by
  go_enter Try.func51, Try.ntmps51
  go_wp2
  go_loopw [3, 10] (fun o i wr => ∃ k : Nat, k ≤ xs.length ∧ i = .int .i64 k ∧ 
     Own encI 1 wr (w.heap.size + 1) 3 o (strokes (xs.take k)) ∧ Below w.heap.size w wr ∧ w.heap.size < wr.heap.size) (fun _ i _ => xs.length - (intOf i).toNat)
  case atStart =>
    exact ⟨0, Nat.zero_le _, rfl, Own.lit (by simp) (Nat.le_refl _), below2 _ _ _, by simp; omega⟩
  case round =>
    obtain ⟨k, hk, rfl, hown, hbel, hsz⟩ := hrel
    by_cases hlt : k < xs.length
    · obtain ⟨⟨s, t⟩, hx⟩ := at_of_lt (xs := xs) (k := k) (by omega)
      obtain ⟨b, o, rfl, hbB, hc, hc'⟩ := (hr.below hbel (Nat.le_refl _)).item hx
      have X := Lib.hid hx
      have OW := hown.lt
      clear hx hr
      have hi1 : (k : Int) < (xs.length : Int) := by omega
      have HL := Lib.hid (strokes_take_len hk)
      have hownA := Lib.hid (fun o' => Own.alloc hown o')
      clear hown
      go_wp2_with (at_builtin; refine app_I _ rfl _ _ rfl _ _ _ rfl (hownA.out _) s (by rw [World.size_alloc]; rfl) k HL.out (by omega) (by simp; omega) ?_; rintro g cap w2 hown2 hg2 hat2 hlt2; simp only [Act.put, List.setIfInBounds_toArray, List.set_cons_succ, List.set_cons_zero])
      go_roundw
      case rel =>
        have hz := hg2.size
        simp at hz
        refine ⟨k + 1, by omega, by go_num, ?_, (hbel.trans (show Below w.heap.size wr _ by repeat (first | exact Below.refl _ _ | assumption | refine Below.alloc ?_ (by first | (simp; done) | (simp; omega) | omega) _ | refine Below.setCell ?_ (by first | (simp; done) | (simp; omega) | omega) _ | refine Below.drew ?_))).grown hg2 (by simp; omega) (fun k e => by have := OW _ e; omega), by omega⟩
        rw [strokes_take_next X.out]
        exact hown2
      case measure => simp [intOf]; omega
    · obtain rfl : k = xs.length := by omega
      obtain ⟨A', c', rfl⟩ := hown.form
      rw [List.take_length] at *
      go_wp2
      go_ret
      exact ⟨A', c', rfl, hown.mono (by omega), hbel⟩

set_option maxHeartbeats 1000000 in
theorem specTapeStrokes_any (A : Option Addr) (c : Nat) (xs : List Item) (w : World) (hb : xs.length ≤ 2097152) (hr : Rd encTI 2 w w.heap.size A xs) :
    Calls Try.prog 23 #[.agg #[.slice A xs.length c]] w fun e w' => ∃ A' c', e = .returned (.tuple #[.slice A' (tapeStrokes xs).length c', .bool (tapeOk xs)]) ∧ Own encI 1 w' w.heap.size 3 (.slice A' (tapeStrokes xs).length c') (tapeStrokes xs) ∧ Below w.heap.size w w' := by
  have HW := Lib.hid (below1 w (.cells #[.slice A xs.length c] 29))
  have HV := Lib.hid (specIsValidTape_any A c xs _ hb ((hr.below HW.out (Nat.le_refl _)).mono HW.out.size))
  have HC := Lib.hid (cell_of_one (heap_alloc_new w (.cells #[.slice A xs.length c] 29)))
  have HR := Lib.hid hr
  clear hr
  cases hT : tapeOk xs
  · rw [tapeStrokes_false hT]
    have HT := Lib.hid hT
    clear hT
    go_enter Try.func23, Try.ntmps23
    go_wp2_with (go_at_call 12; refine HV.out.mono ?_; rw [HT.out]; rintro e w1 ⟨rfl, hb1⟩)
    go_ret2
    exact ⟨none, 0, rfl, Own.none_, HW.out.trans (hb1.mono HW.out.size)⟩
  · rw [tapeStrokes_true hT]
    have HT := Lib.hid hT
    clear hT
    go_enter Try.func23, Try.ntmps23
    go_wp2_with (first | (go_at_call 12; refine HV.out.mono ?_; rw [HT.out]; rintro e w1 ⟨rfl, hb1⟩; have c1 := later_cell HC.out hb1) | (go_at_call 50; have hb2 := HW.out.trans (hb1.mono HW.out.size); refine (l16Strokes_any A c xs _ hb ((HR.out.below hb2 (Nat.le_refl _)).mono hb2.size)).mono ?_; rintro e w2 ⟨A', c', rfl, hown, hb3⟩))
    go_ret2
    have hb2 := HW.out.trans (hb1.mono HW.out.size)
    exact ⟨A', c', rfl, hown.mono hb2.size, hb2.trans (hb3.mono hb2.size)⟩
set_option maxHeartbeats 1000000 in
theorem implTapeStrokes_any (A : Option Addr) (c : Nat) (xs : List Item) (w : World) (hb : xs.length ≤ 2097152) (hr : Rd encTI 2 w w.heap.size A xs) :
    Calls Try.prog 24 #[.agg #[.slice A xs.length c]] w fun e w' => ∃ A' c', e = .returned (.tuple #[.slice A' (tapeStrokes xs).length c', .bool (tapeOk xs)]) ∧ Own encI 1 w' w.heap.size 3 (.slice A' (tapeStrokes xs).length c') (tapeStrokes xs) ∧ Below w.heap.size w w' := by
  have HW := Lib.hid (below1 w (.cells #[.slice A xs.length c] 29))
  have HV := Lib.hid (implIsValidTape_any A c xs _ hb ((hr.below HW.out (Nat.le_refl _)).mono HW.out.size))
  have HC := Lib.hid (cell_of_one (heap_alloc_new w (.cells #[.slice A xs.length c] 29)))
  have HR := Lib.hid hr
  clear hr
  cases hT : tapeOk xs
  · rw [tapeStrokes_false hT]
    have HT := Lib.hid hT
    clear hT
    go_enter Try.func24, Try.ntmps24
    go_wp2_with (go_at_call 14; refine HV.out.mono ?_; rw [HT.out]; rintro e w1 ⟨rfl, hb1⟩)
    go_ret2
    exact ⟨none, 0, rfl, Own.none_, HW.out.trans (hb1.mono HW.out.size)⟩
  · rw [tapeStrokes_true hT]
    have HT := Lib.hid hT
    clear hT
    go_enter Try.func24, Try.ntmps24
    go_wp2_with (first | (go_at_call 14; refine HV.out.mono ?_; rw [HT.out]; rintro e w1 ⟨rfl, hb1⟩; have c1 := later_cell HC.out hb1) | (go_at_call 51; have hb2 := HW.out.trans (hb1.mono HW.out.size); refine (strokes_any A c xs _ hb ((HR.out.below hb2 (Nat.le_refl _)).mono hb2.size)).mono ?_; rintro e w2 ⟨A', c', rfl, hown, hb3⟩))
    go_ret2
    have hb2 := HW.out.trans (hb1.mono HW.out.size)
    exact ⟨A', c', rfl, hown.mono hb2.size, hb2.trans (hb3.mono hb2.size)⟩
end Go.Proofs.Ytobfjpopicndnaa
