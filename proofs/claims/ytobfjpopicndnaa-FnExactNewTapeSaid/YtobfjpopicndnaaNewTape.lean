/- NewTape: both programs' functions at every list of strokes. No conditions but the list's length. -/
import Derived.Test.YtobfjpopicndnaaTape
namespace Go.Proofs.Ytobfjpopicndnaa
open Go.RowKit

def items (xs : List Int) : List Item := xs.map fun s => (s, false)
theorem items_len (xs : List Int) : (items xs).length = xs.length := by simp [items]
def newTape (xs : List Int) : List Item := if tapeOk (items xs) then items xs else []
theorem newTape_true {xs : List Int} (h : tapeOk (items xs) = true) : newTape xs = items xs := by simp [newTape, h]
theorem newTape_false {xs : List Int} (h : tapeOk (items xs) = false) : newTape xs = [] := by simp [newTape, h]
theorem newTape_len (xs : List Int) : (newTape xs).length ≤ xs.length := by unfold newTape; split <;> simp [items]
theorem items_take_next {xs : List Int} {k : Nat} {x : Int} (h : xs[k]? = some x) : items (xs.take (k + 1)) = items (xs.take k) ++ [(x, false)] := by unfold items; rw [take_next h, List.map_append]; rfl
theorem items_take_len {xs : List Int} {k : Nat} (h : k ≤ xs.length) : (items (xs.take k)).length = k := by rw [items_len]; simp; omega
theorem tapeOk_items {xs : List Int} {k : Nat} (h1 : ¬ (k < xs.length ∧ k ≤ 60)) (h2 : k ≤ xs.length) : tapeOk (items (xs.take k)) = tapeOk (items xs) ∧ (tapeOk (items xs) = true → items (xs.take k) = items xs) := by
  by_cases h : k < xs.length
  · rw [tapeOk_long (xs := items xs) (by rw [items_len]; omega)]
    exact ⟨tapeOk_long (by rw [items_take_len h2]; omega), by simp⟩
  · rw [List.take_of_length_le (by omega)]
    exact ⟨rfl, fun _ => rfl⟩

set_option maxRecDepth 100000 in
set_option maxHeartbeats 1000000 in
theorem specNewTape_any (A : Option Addr) (c : Nat) (xs : List Int) (w : World) (_ : xs.length ≤ 2097152) (hr : Rd encI 1 w w.heap.size A xs) :
    Calls Try.prog 16 #[.slice A xs.length c] w fun e w' => ∃ A' c', e = .returned (.tuple #[.agg #[.slice A' (newTape xs).length c'], .bool (tapeOk (items xs))]) ∧ Own encTI 2 w' w.heap.size 62 (.slice A' (newTape xs).length c') (newTape xs) ∧ Below w.heap.size w w' := by
  go_enter Try.func16, Try.ntmps16
  go_wp2
  go_loopw [5] (fun i wr => ∃ (k : Nat) (v : Value), k ≤ xs.length ∧ k ≤ 61 ∧ i = .int .i64 k ∧ wr.heap[w.heap.size]? = some (.cells #[.slice none 0 0] 29 (0, 0)) ∧
     wr.heap[w.heap.size + 1]? = some (.cells #[v] 29 (0, 0)) ∧ Own encTI 2 wr (w.heap.size + 2) 62 v (items (xs.take k)) ∧ Below w.heap.size w wr) (fun i _ => xs.length - (intOf i).toNat)
  case atStart =>
    refine ⟨0, _, Nat.zero_le _, Nat.zero_le _, rfl, ?_, ?_, Own.none_, ?_⟩
    · exact heap_alloc2_old _ _ _
    · exact heap_alloc2_new _ _ _
    · exact ((Below.refl _ _).alloc (Nat.le_refl _) _).alloc (by simp) _
  case round =>
    obtain ⟨k, v, hk, hk2, rfl, hB0, hB1, hown, hbel⟩ := hrel
    have c1 := cell_of_one hB1
    have f1 := free_of_one hB1
    have l1 := lt_of_block hB1
    by_cases hlt : k < xs.length ∧ k ≤ 60
    · obtain ⟨hlt, hlt2⟩ := hlt
      obtain ⟨x, hx⟩ := at_of_lt (xs := xs) (k := k) (by omega)
      obtain ⟨b, o, rfl, hbB, hc⟩ := (hr.below hbel (Nat.le_refl _)).int hx
      have X := Lib.hid hx
      have OW := hown.lt
      clear hx
      have hi0' : (0 : Int) ≤ (k : Int) := Int.natCast_nonneg _
      have hi1 : (k : Int) < (xs.length : Int) := by omega
      have HL := Lib.hid (items_take_len hk)
      go_wp2_with fail
      refine wp_region_in 10 [(0, false), (1, false), (2, false), (3, false), (4, false), (5, false), (6, false), (7, true), (8, true), (9, false)] (fun w1 w' => w1.grownBy w' v.ownBlock) (by kernel_rfl) (by kernel_rfl) (fun _ _ d _ _ h => by cases d <;> exact h) (fun w1 hs => ⟨grown_refl _ _, ?_⟩)
      have c1' := (hs.cell _).trans c1
      have hc' := (hs.cell _).trans hc
      have hown' := hown.same hs
      have hB0' := (hs.block _).trans hB0
      have hB1' := (hs.block _).trans hB1
      have hbel' := hbel.trans (hs.below _)
      have sz := hs.size
      have l2 : w.heap.size + 1 < w1.heap.size := by omega
      have OW' : ∀ k, v.ownBlock = some k → w.heap.size + 2 ≤ k ∧ k < w1.heap.size := by rw [sz]; exact OW
      clear hown hB0 hB1 hbel hr sz hs c1 hc OW f1 l1
      have C1 := held_cell (E := v.ownBlock) c1' (fun e => by have := OW' _ e.symm; simp at this)
      have C2 := held_cell (E := v.ownBlock) hc' (fun e => by have := OW' _ e.symm; simp at this; omega)
      (refine wpH_held rfl ?_; go_big_quiet_step (rfl); refine wpQuiet_nil ?_)
      (refine wpH_held rfl ?_; go_big_quiet_step (rfl); refine wpQuiet_nil ?_)
      (refine wpH_held rfl ?_; go_big_quiet_step (rfl); refine wpQuiet_nil ?_)
      (refine wpH_held rfl ?_; go_big_quiet_step (rfl); refine wpQuiet_nil ?_)
      (refine wpH_held rfl ?_; go_big_quiet_step (rfl); refine wpQuiet_nil ?_)
      (refine wpH_held rfl ?_; go_big_quiet_step (rfl); refine wpQuiet_nil ?_)
      (refine wpH_held rfl ?_; go_big_quiet_step (rfl); refine wpQuiet_nil ?_)
      refine wpH_move rfl ?_
      go_wp2_with fail
      refine ⟨World.grownBy_alloc _ _ _, ?_⟩
      refine wpH_move rfl ?_
      refine app_TI _ rfl _ _ rfl _ v _ rfl hown' (x, false) rfl k HL.out (by omega) (by omega) ?_
      rintro g cap w2 hown2 hg2 hat2 hlt2
      go_wp2_with fail
      simp only [Act.put, List.setIfInBounds_toArray, List.set_cons_succ, List.set_cons_zero]
      refine ⟨hg2, ?_⟩
      (refine wpH_held rfl ?_; go_big_quiet_step (rfl); refine wpQuiet_nil ?_)
      (refine wpH_nil ?_; simp only [List.drop_succ_cons, List.drop_zero])
      have nb1 : v.ownBlock ≠ some (w.heap.size + 1) := fun e => by have := OW' _ e; omega
      have nb0 : v.ownBlock ≠ some w.heap.size := fun e => by have := OW' _ e; omega
      have hB1 := keep_block hB1' hg2 nb1
      have hB0 := keep_block hB0' hg2 nb0
      have c1 := cell_of_one hB1
      have f1 := free_of_one hB1
      go_wp2
      go_roundw
      case rel =>
        refine ⟨k + 1, _, by omega, by omega, by go_num, ?_, one_setCell hB1, ?_, ?_⟩
        · exact (heap_setCell_other _ _ _ _ (by simp)).trans hB0
        · rw [items_take_next X.out]
          refine hown2.setFar ?_ _
          rcases hat2 with e | e
          · exact fun e' => nb1 (e.trans e')
          · simp [Value.ownBlock]; omega
        · exact ((hbel'.grown hg2 (by omega) (fun k e => by have := OW' _ e; omega)).setCell (by simp) _)
      case measure => simp [intOf]; omega
    · obtain ⟨A', c', rfl⟩ := hown.form
      have rd' := Lib.hid (hown.rd (by omega) encTI_len)
      have OW := hown.lt
      have T := Lib.hid (tapeOk_items hlt hk)
      have hL := Lib.hid (items_take_len hk)
      have hown' := Lib.hid hown
      have l0 := lt_of_block hB0
      clear hown hr
      cases hT : tapeOk (items xs)
      case false =>
        have HT := Lib.hid hT
        clear hT
        by_cases hlt' : k < xs.length
        all_goals
          go_wp2_with (go_at_call 12; refine (specIsValidTape_any A' c' (items (xs.take k)) _ (by rw [hL.out]; omega) rd'.out).mono ?_; rw [T.out.1, HT.out]; rintro e w1 ⟨rfl, hb1⟩; have b0 := (hb1.block _ l0).trans hB0; have b1 := (hb1.block _ l1).trans hB1; have d0 := cell_of_one b0; have e0 := free_of_one b0; have d1 := cell_of_one b1)
          have r0 := cell_of_one (one_setCell (u := .slice none 0 0) b0)
          rw [newTape_false HT.out, HT.out]
          exact bodyPost_ret (v := .tuple #[.agg #[.slice none 0 0], .bool false]) (by simp [results, Try.results16, go_sem, r0]) rfl ⟨none, 0, rfl, Own.none_, (hbel.trans (hb1.mono hbel.size)).setCell (Nat.le_refl _) _⟩
      case true =>
        have HT := Lib.hid hT
        clear hT
        by_cases hlt' : k < xs.length
        all_goals
          go_wp2_with (go_at_call 12; refine (specIsValidTape_any A' c' (items (xs.take k)) _ (by rw [hL.out]; omega) rd'.out).mono ?_; rw [T.out.1, HT.out]; rintro e w1 ⟨rfl, hb1⟩; have b0 := (hb1.block _ l0).trans hB0; have b1 := (hb1.block _ l1).trans hB1; have d0 := cell_of_one b0; have e0 := free_of_one b0; have d1 := cell_of_one b1)
          have r0 := cell_of_one (one_setCell (u := .slice A' (items (xs.take k)).length c') b0)
          rw [newTape_true HT.out, HT.out, ← T.out.2 HT.out]
          exact bodyPost_ret (v := .tuple #[.agg #[.slice A' (items (xs.take k)).length c'], .bool true]) (by simp [results, Try.results16, go_sem, r0]) rfl ⟨A', c', rfl, ((hown'.out.below hb1).setFar (p := ⟨w.heap.size, 0, none⟩) (fun e => by have := OW _ e; simp at this; omega) _).mono (by omega), (hbel.trans (hb1.mono hbel.size)).setCell (Nat.le_refl _) _⟩

theorem isStrokeList_any (A : Option Addr) (c : Nat) (xs : List Int) (w : World) (hb : xs.length ≤ 2097152) (hr : Rd encI 1 w w.heap.size A xs) :
    Calls Try.prog 47 #[.slice A xs.length c] w fun e w' => e = .returned (.bool (tapeOk (items xs))) ∧ Below w.heap.size w w' := by
  have HA := Lib.hid (all_I 45 Try.f45 Try.func45 (by kernel_rfl) (by kernel_rfl) good A c xs w (by unfold maxLen; omega) hr (fun x w' => (IsValidStroke_any x w').mono fun e w'' h => ⟨h.1, by rw [h.2]; exact Below.refl _ _⟩))
  clear hr
  have hT : tapeOk (items xs) = (decide (xs.length ≤ 60) && xs.all good) := by
    unfold tapeOk
    have h1 : firstOk (items xs) = true := by cases xs <;> rfl
    rw [h1, items_len]
    simp [items, List.all_map, Function.comp_def]
  rw [hT]
  clear hT
  by_cases h60 : (xs.length : Int) ≤ 60
  · go_enter Try.func47, Try.ntmps47
    go_wp2_with (go_at_call 67; refine HA.out.mono ?_; rintro e w1 ⟨rfl, hb1⟩)
    go_ret
    exact ⟨ret_bool (by rw [show decide (xs.length ≤ 60) = true by simpa using (show xs.length ≤ 60 by omega)]; simp), hb1⟩
  · go_enter Try.func47, Try.ntmps47
    go_wp2
    go_ret
    exact ⟨ret_bool (by rw [show decide (xs.length ≤ 60) = false by simpa using (show ¬ xs.length ≤ 60 by omega)]; simp), Below.refl _ _⟩

set_option maxRecDepth 100000 in
set_option maxHeartbeats 1000000 in
theorem implNewTape_any (A : Option Addr) (c : Nat) (xs : List Int) (w : World) (hb : xs.length ≤ 2097152) (hr : Rd encI 1 w w.heap.size A xs) :
    Calls Try.prog 18 #[.slice A xs.length c] w fun e w' => ∃ A' c', e = .returned (.tuple #[.agg #[.slice A' (newTape xs).length c'], .bool (tapeOk (items xs))]) ∧ Own encTI 2 w' w.heap.size 62 (.slice A' (newTape xs).length c') (newTape xs) ∧ Below w.heap.size w w' := by
  have hW : Below w.heap.size w (w.alloc (.cells #[.slice none 0 0] 29)) := (Below.refl _ _).alloc (Nat.le_refl _) _
  have HS := Lib.hid (isStrokeList_any A c xs (w.alloc (.cells #[.slice none 0 0] 29)) hb ((hr.below hW (Nat.le_refl _)).mono (by simp)))
  have HB0 := Lib.hid (heap_alloc_new w (.cells #[.slice none 0 0] 29))
  cases hT : tapeOk (items xs)
  case false =>
    have HT := Lib.hid hT
    clear hT hr
    go_enter Try.func18, Try.ntmps18
    go_wp2_with (go_at_call 47; refine HS.out.mono ?_; rw [HT.out]; rintro e w1 ⟨rfl, hb1⟩; have b0 := (hb1.block _ (by simp)).trans HB0.out; have d0 := cell_of_one b0; have e0 := free_of_one b0)
    have r0 := cell_of_one (one_setCell (u := .slice none 0 0) b0)
    rw [newTape_false HT.out]
    exact bodyPost_ret (v := .tuple #[.agg #[.slice none 0 0], .bool false]) (by simp [results, Try.results18, go_sem, r0]) rfl ⟨none, 0, rfl, Own.none_, (hW.trans (hb1.mono hW.size)).setCell (Nat.le_refl _) _⟩
  case true =>
    have HT := Lib.hid hT
    clear hT
    go_enter Try.func18, Try.ntmps18
    go_wp2_with (go_at_call 47; refine HS.out.mono ?_; rw [HT.out]; rintro e w1 ⟨rfl, hb1⟩; have b0 := (hb1.block _ (by simp)).trans HB0.out; have d0 := cell_of_one b0; have e0 := free_of_one b0)
    have hT0 := HT.out
    have h60 : xs.length ≤ 60 := by
      rcases Nat.lt_or_ge 60 xs.length with h | h
      · rw [tapeOk_long (by rw [items_len]; exact h)] at hT0; cases hT0
      · exact h
    have hbel1 : Below w.heap.size w w1 := hW.trans (hb1.mono hW.size)
    have hr1 := Lib.hid (hr.below hbel1 (Nat.le_refl _))
    have s1 : w.heap.size < w1.heap.size := lt_of_block b0
    clear hT0 hb1 d0 e0 HS HB0 hr hW
    go_loopw [15] (fun i wr => ∃ (k : Nat) (v : Value), k ≤ xs.length ∧ i = .int .i64 k ∧ wr.heap[w.heap.size]? = some (.cells #[.slice none 0 0] 29 (0, 0)) ∧
       wr.heap[w1.heap.size + 1]? = some (.cells #[v] 29 (0, 0)) ∧ Own encTI 2 wr w1.heap.size 62 v (items (xs.take k)) ∧ v.ownBlock ≠ some (w1.heap.size + 1) ∧ Below w1.heap.size w1 wr) (fun i _ => xs.length - (intOf i).toNat)
    case atStart =>
      have hA : ∀ o o' : Obj, Below w1.heap.size w1 ((w1.alloc o).alloc o') := fun o o' => ((Below.refl _ _).alloc (Nat.le_refl _) _).alloc (by simp) _
      exact ⟨0, _, Nat.zero_le _, rfl, ((hA _ _).block _ s1).trans b0, heap_alloc2_new _ _ _, (Own.lit0 (Nat.le_refl _)).alloc _, by simp [Value.ownBlock], hA _ _⟩
    case round =>
      obtain ⟨k, v, hk, rfl, hB0, hB1, hown, hne, hbel⟩ := hrel
      have c1 := cell_of_one hB1
      have f1 := free_of_one hB1
      have l1 := lt_of_block hB1
      by_cases hlt : k < xs.length
      · obtain ⟨x, hx⟩ := at_of_lt (xs := xs) (k := k) (by omega)
        obtain ⟨b, o, rfl, hbB, hc⟩ := (hr1.out.below (hbel.mono (by omega)) (Nat.le_refl _)).int hx
        have X := Lib.hid hx
        have OW := hown.lt
        clear hx
        have hi0' : (0 : Int) ≤ (k : Int) := Int.natCast_nonneg _
        have hi1 : (k : Int) < (xs.length : Int) := by omega
        have HL := Lib.hid (items_take_len hk)
        have nb0 : v.ownBlock ≠ some w.heap.size := fun e => by have := OW _ e; omega
        go_wp2_with (at_builtin; refine app_TI _ rfl _ _ rfl _ v _ rfl hown (x, false) rfl k HL.out (by omega) (by omega) ?_; rintro g cap w2 hown2 hg2 hat2 hlt2; have hC1 := keep_block hB1 hg2 hne; have c1 := cell_of_one hC1; have f1 := free_of_one hC1; simp only [Act.put, List.setIfInBounds_toArray, List.set_cons_succ, List.set_cons_zero])
        go_roundw
        case rel =>
          have hC0 := keep_block hB0 hg2 nb0
          refine ⟨k + 1, _, by omega, by go_num, ?_, one_setCell hC1, ?_, ?_, ?_⟩
          · exact (heap_setCell_other _ _ _ _ (by simp; omega)).trans hC0
          · rw [items_take_next X.out]
            refine hown2.setFar ?_ _
            rcases hat2 with e | e
            · exact fun e' => hne (e.trans e')
            · simp [Value.ownBlock]; omega
          · rcases hat2 with e | e
            · exact fun e' => hne (e.trans e')
            · simp [Value.ownBlock]; omega
          · exact ((hbel.grown hg2 (by omega) (fun k e => (OW _ e).1)).setCell (by simp) _)
        case measure => simp [intOf]; omega
      · obtain rfl : k = xs.length := by omega
        obtain ⟨A', c', rfl⟩ := hown.form
        have OW := hown.lt
        have hown' := Lib.hid hown
        rw [List.take_length] at *
        have c0 := cell_of_one hB0
        have f0 := free_of_one hB0
        clear hown
        go_wp2
        have r0 := cell_of_one (one_setCell (u := .slice A' (items xs).length c') hB0)
        rw [newTape_true HT.out]
        exact bodyPost_ret (v := .tuple #[.agg #[.slice A' (items xs).length c'], .bool true]) (by simp [results, Try.results18, go_sem, r0]) rfl ⟨A', c', rfl, (hown'.out.setFar (p := ⟨w.heap.size, 0, none⟩) (fun e => by have := OW _ e; simp at this; omega) _).mono (by omega), (hbel1.trans (hbel.mono (by omega))).setCell (Nat.le_refl _) _⟩
end Go.Proofs.Ytobfjpopicndnaa
