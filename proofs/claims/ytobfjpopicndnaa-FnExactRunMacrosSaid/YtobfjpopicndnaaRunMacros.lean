/- RunMacros: both programs' functions at every tape and list of kinds. No conditions but the lengths. -/
import Derived.Test.YtobfjpopicndnaaApplyMacro2
import Derived.Test.YtobfjpopicndnaaSched2
namespace Go.Proofs.Ytobfjpopicndnaa
open Go.RowKit

def runStep (t : List Item × Nat) (k : Int) : List Item × Nat := if macroOk t.1 k then (macroOut t.1 k, t.2 + 1) else t
def run (xs : List Item) (ks : List Int) : List Item × Nat := ks.foldl runStep (xs, 0)
theorem run_next (xs : List Item) {ks : List Int} {k : Nat} {x : Int} (h : ks[k]? = some x) : run xs (ks.take (k + 1)) = runStep (run xs (ks.take k)) x := by
  unfold run; rw [take_next h, List.foldl_append]; rfl
theorem macroOut_ok {xs : List Item} {k : Int} (h : macroOk xs k = true) : tapeOk (macroOut xs k) = true := by
  unfold macroOk at h
  simp only [Bool.and_eq_true] at h
  exact h.2.2.2
theorem runStep_ok {t : List Item × Nat} (h : tapeOk t.1 = true) (k : Int) : tapeOk (runStep t k).1 = true := by
  unfold runStep
  split
  · exact macroOut_ok ‹_›
  · exact h
theorem run_ok {xs : List Item} (h : tapeOk xs = true) (ks : List Int) : tapeOk (run xs ks).1 = true := by
  have : ∀ (ks : List Int) (t : List Item × Nat), tapeOk t.1 = true → tapeOk (ks.foldl runStep t).1 = true := by
    intro ks
    induction ks with
    | nil => exact fun t h => h
    | cons k ks ih => exact fun t h => ih _ (runStep_ok h k)
  exact this ks (xs, 0) h
theorem run_count (xs : List Item) (ks : List Int) : (run xs ks).2 ≤ ks.length := by
  have : ∀ (ks : List Int) (t : List Item × Nat), (ks.foldl runStep t).2 ≤ t.2 + ks.length := by
    intro ks
    induction ks with
    | nil => exact fun t => by simp
    | cons k ks ih =>
      intro t
      have h1 := ih (runStep t k)
      have h2 : (runStep t k).2 ≤ t.2 + 1 := by unfold runStep; split <;> simp
      simp only [List.foldl_cons, List.length_cons]
      omega
  have := this ks (xs, 0)
  simpa [run] using this
def runOk (xs : List Item) (ks : List Int) : Bool := tapeOk xs && decide (ks.length ≤ 100)
def runTape (xs : List Item) (ks : List Int) : List Item := if runOk xs ks then (run xs ks).1 else []
def runCount (xs : List Item) (ks : List Int) : Int := if runOk xs ks then ((run xs ks).2 : Int) else 0
theorem runTape_len (xs : List Item) (ks : List Int) : (runTape xs ks).length ≤ 60 := by
  unfold runTape
  split
  · rename_i h
    simp only [runOk, Bool.and_eq_true] at h
    exact tapeOk_len (run_ok h.1 ks)
  · simp

set_option maxRecDepth 100000 in
set_option maxHeartbeats 2000000 in
theorem specRunMacros_any (A : Option Addr) (c : Nat) (xs : List Item) (A1 : Option Addr) (c1 : Nat) (ks : List Int) (w : World) (hb : xs.length ≤ 2097152) (hr : Rd encTI 2 w w.heap.size A xs) (hb1 : ks.length ≤ 2097152) (hr1 : Rd encI 1 w w.heap.size A1 ks) :
    Calls Try.prog 33 #[.agg #[.slice A xs.length c], .slice A1 ks.length c1] w fun e w' => ∃ A' c', e = .returned (.tuple #[.agg #[.slice A' (runTape xs ks).length c'], .int .i64 (runCount xs ks), .bool (runOk xs ks)]) ∧
      Own encTI 2 w' w.heap.size 62 (.slice A' (runTape xs ks).length c') (runTape xs ks) ∧ Below w.heap.size w w' := by
  have HW := Lib.hid (below2 w (.cells #[.slice A xs.length c] 29) (.cells #[.slice none 0 0] 29))
  have HV := Lib.hid (specIsValidTape_any A c xs _ hb ((hr.below HW.out (Nat.le_refl _)).mono HW.out.size))
  have HB0 := Lib.hid (heap_alloc2_old w (.cells #[.slice A xs.length c] 29) (.cells #[.slice none 0 0] 29))
  have HB1 := Lib.hid (heap_alloc2_new w (.cells #[.slice A xs.length c] 29) (.cells #[.slice none 0 0] 29))
  have HR := Lib.hid hr
  have HR1 := Lib.hid hr1
  clear hr hr1
  cases hT : runOk xs ks
  · have e1 : runTape xs ks = [] := by simp [runTape, hT]
    have e2 : runCount xs ks = 0 := by simp [runCount, hT]
    rw [e1, e2]
    clear e1 e2
    cases hV : tapeOk xs
    · have HT := Lib.hid hV
      clear hT hV
      go_enter Try.func33, Try.ntmps33
      go_wp2_with (go_at_call 12; refine HV.out.mono ?_; rw [HT.out]; rintro e w1 ⟨rfl, hb1⟩; have b1 := (hb1.block _ (by first | (simp; done) | (simp; omega) | omega)).trans HB1.out; have d1 := cell_of_one b1; have e1 := free_of_one b1)
      have r0 := cell_of_one (one_setCell (u := .slice none 0 0) b1)
      exact bodyPost_ret (v := .tuple #[.agg #[.slice none 0 0], .int .i64 0, .bool false]) (by simp only [results, Try.results33]; go_simp) rfl ⟨none, 0, rfl, Own.none_, (HW.out.trans (hb1.mono HW.out.size)).setCell (by simp) _⟩
    · have h100 : (100 : Int) < (ks.length : Int) := by
        simp [runOk, hV] at hT
        omega
      have HT := Lib.hid hV
      clear hT hV
      go_enter Try.func33, Try.ntmps33
      go_wp2_with (go_at_call 12; refine HV.out.mono ?_; rw [HT.out]; rintro e w1 ⟨rfl, hb1⟩; have b1 := (hb1.block _ (by first | (simp; done) | (simp; omega) | omega)).trans HB1.out; have d1 := cell_of_one b1; have e1 := free_of_one b1)
      have r0 := cell_of_one (one_setCell (u := .slice none 0 0) b1)
      exact bodyPost_ret (v := .tuple #[.agg #[.slice none 0 0], .int .i64 0, .bool false]) (by simp only [results, Try.results33]; go_simp) rfl ⟨none, 0, rfl, Own.none_, (HW.out.trans (hb1.mono HW.out.size)).setCell (by simp) _⟩
  · have hV : tapeOk xs = true := by simp only [runOk, Bool.and_eq_true] at hT; exact hT.1
    have h100 : (ks.length : Int) ≤ 100 := by simp [runOk, hV] at hT; omega
    have e1 : runTape xs ks = (run xs ks).1 := by simp [runTape, hT]
    have e2 : runCount xs ks = ((run xs ks).2 : Int) := by simp [runCount, hT]
    rw [e1, e2]
    have h60 : ∀ ks, (run xs ks).1.length ≤ 60 := fun ks => tapeOk_len (run_ok hV ks)
    have H60 := Lib.hid h60
    have HT := Lib.hid hV
    clear hT hV e1 e2 h60
    go_enter Try.func33, Try.ntmps33
    go_wp2_with (first | (go_at_call 12; refine HV.out.mono ?_; rw [HT.out]; rintro e w1 ⟨rfl, hb1⟩; clear HV; have b0 := (hb1.block _ (by first | (simp; done) | (simp; omega) | omega)).trans HB0.out; have c0 := cell_of_one b0; have b1 := (hb1.block _ (by first | (simp; done) | (simp; omega) | omega)).trans HB1.out; have hb2 := HW.out.trans (hb1.mono HW.out.size); have hz1 := hb1.size; simp only [World.size_alloc] at hz1; have l0 : w.heap.size < w1.heap.size := (by omega); have l1 : w.heap.size + 1 < w1.heap.size := (by omega); clear hb1) | (at_builtin; refine copy_TI _ rfl (.tmp 21) (.tmp 23) rfl _ rfl _ xs c _ rfl rfl (HR.out.below hb2 (Nat.le_refl _)) hb2.size hb ?_; rintro g cap w2 hown hb3 hg2 hz2; simp only [Act.put, List.setIfInBounds_toArray, List.set_cons_succ, List.set_cons_zero]))
    have b2 := (hb3.block _ l1).trans b1
    have hb4 := hb2.trans (hb3.mono hb2.size)
    have hl0 := hown.lt
    have K1 : w.heap.size + 1 < w2.heap.size := by omega
    have K2 : w.heap.size + 2 ≤ w1.heap.size := by omega
    have hR0 := Lib.hid (HR1.out.below hb4 (Nat.le_refl _))
    clear b0 c0 b1 hb3 HB0 HB1 HR HW HT hz1 l0 l1 hb2
    go_loopw [8, 9] (fun n i wr => ∃ (k : Nat) (v : Value), k ≤ ks.length ∧ i = .int .i64 k ∧ n = .int .i64 ((run xs (ks.take k)).2 : Int) ∧ wr.heap[w.heap.size + 1]? = some (.cells #[.slice none 0 0] 29 (0, 0)) ∧
       wr.heap[w2.heap.size]? = some (.cells #[v] 29 (0, 0)) ∧ Own encTI 2 wr (w.heap.size + 2) 62 v (run xs (ks.take k)).1 ∧ v.ownBlock ≠ some w2.heap.size ∧ Below w.heap.size w wr) (fun _ i _ => ks.length - (intOf i).toNat)
    case atStart =>
      refine ⟨0, _, Nat.zero_le _, rfl, rfl, ?_, heap_alloc_new _ _, ?_, ?_, hb4.alloc hb4.size _⟩
      · exact ((below1 w2 _).block _ K1).trans b2
      · exact (hown.alloc _).mono (by omega)
      · exact fun e => by have := hl0 _ e; omega
    case round =>
      obtain ⟨k, v, hk, rfl, rfl, hB1, hB2, hown, hne, hbel⟩ := hrel
      have c2 := cell_of_one hB2
      have f2 := free_of_one hB2
      have l2 := lt_of_block hB2
      have l1 := lt_of_block hB1
      by_cases hlt : k < ks.length
      · obtain ⟨x, hx⟩ := at_of_lt (xs := ks) (k := k) (by omega)
        obtain ⟨b, o, rfl, hbB, hc⟩ := (HR1.out.below hbel (Nat.le_refl _)).int hx
        have X := Lib.hid hx
        have OW := hown.lt
        clear hx
        have hi1 : (k : Int) < (ks.length : Int) := by omega
        have hnx := Lib.hid (run_next xs X.out)
        have h60 := H60.out (ks.take k)
        have hcount : (run xs (ks.take k)).2 ≤ k := by have := run_count xs (ks.take k); simp at this; omega
        generalize hrun : run xs (ks.take k) = t at *
        obtain ⟨ts, n⟩ := t
        have HRUN := Lib.hid hrun
        clear hrun
        cases hm : macroOk ts x
        case' false => have HN := Lib.hid (hnx.out.trans (show runStep (ts, n) x = (ts, n) by simp [runStep, hm]))
        case' true => have HN := Lib.hid (hnx.out.trans (show runStep (ts, n) x = (applyMacro ts x, n + 1) by simp [runStep, hm, applyMacro_true hm]))
        all_goals
          have HM := Lib.hid hm
          clear hnx
          clear hm
          go_wp2_with fail
          refine wp_region_plan 11 (.held 0 (.held 1 (.held 2 (.held 3 (.held 4 (.fork 5 (.held 6 (.held 7 (.held 8 (.move 9 (.move 10 .done))))) 9 (.move 5 (.held 6 (.held 7 (.held 8 (.move 10 .done)))))))))) ) (fun w1 w' => Below w1.heap.size w1 w') (by kernel_rfl) (by kernel_rfl) (fun _ _ d _ _ h => by cases d <;> exact h) (fun w3 hs => ⟨Below.refl _ _, ?_⟩)
          have hB1' := (hs.block _).trans hB1
          have hB2' := (hs.block _).trans hB2
          have c2' := (hs.cell _).trans c2
          have hc' := (hs.cell _).trans hc
          have hown' := hown.same hs
          have hbel' := hbel.trans (hs.below _)
          have sz := hs.size
          have OW' : ∀ k, v.ownBlock = some k → w.heap.size + 2 ≤ k ∧ k < w3.heap.size := by rw [sz]; exact OW
          have l2' : w2.heap.size < w3.heap.size := by omega
          obtain ⟨Av, cv, rfl⟩ := hown'.form
          have HO := Lib.hid hown'
          have HRR := Lib.hid (hown'.rd (by omega) encTI_len)
          clear hown hB1 hB2 hbel hs c2 hc OW f2 hown' sz
          have C1 := held_below c2'
          have C2 := held_below hc'
          (refine wpP_held rfl ?_; go_big_quiet_step (rfl); refine wpQuiet_nil ?_)
          (refine wpP_held rfl ?_; go_big_quiet_step (rfl); refine wpQuiet_nil ?_)
          (refine wpP_held rfl ?_; go_big_quiet_step (rfl); refine wpQuiet_nil ?_)
          (refine wpP_held rfl ?_; go_big_quiet_step (rfl); refine wpQuiet_nil ?_)
          (refine wpP_held rfl ?_; go_big_quiet_step (rfl); refine wpQuiet_nil ?_)
          refine wpP_fork rfl rfl ?_ ?_
          · go_wp2_with fail
            refine (specApplyMacro_any Av cv ts x w3 (by omega) HRR.out).mono ?_
            rw [HM.out]
            rintro e w4 ⟨A4, c4, rfl, hown4, hb4⟩
            have hz4 := hb4.size
            go_wp2_with fail
            refine ⟨hb4, ?_⟩
            (refine wpP_held rfl ?_; go_big_quiet_step (rfl); refine wpQuiet_nil ?_)
            (refine wpP_held rfl ?_; go_big_quiet_step (rfl); refine wpQuiet_nil ?_)
            (refine wpP_held rfl ?_; go_big_quiet_step (rfl); refine wpQuiet_nil ?_)
            refine wpP_move rfl ?_
            go_wp2_with fail
            have hb5 := hb4.alloc hb4.size (.cells #[.slice A4 (applyMacro ts x).length c4] 29)
            refine ⟨hb4.alloc hb4.size _, ?_⟩
            refine wpP_move rfl ?_
            go_wp2_with fail
            refine ⟨hb5, ?_⟩
            (refine wpP_nil ?_; simp only [List.drop_succ_cons, List.drop_zero])
            have c10 : (w4.alloc (.cells #[.slice A4 (applyMacro ts x).length c4] 29)).cell? ⟨w4.heap.size, 0, none⟩ = some (.slice A4 (applyMacro ts x).length c4) := cell_of_one (heap_alloc_new _ _)
            have g1 := (hb5.block _ (by omega)).trans hB1'
            have g2 := (hb5.block _ l2').trans hB2'
            have cN := cell_of_one g2
            have fN := free_of_one g2
            have HO4 := Lib.hid (hown4.alloc (.cells #[.slice A4 (applyMacro ts x).length c4] 29))
            have HO5 := Lib.hid (HO.out.below hb5)
            have HBB := Lib.hid (hbel'.trans (hb5.mono hbel'.size))
            have hlo := hown4.lt
            have nN : (Value.slice A4 (applyMacro ts x).length c4).ownBlock ≠ some w2.heap.size := fun e => by have := hlo _ e; omega
            clear hown4 hb4 hb5 C1 C2 HRR HO
            go_wp2
            first
              | (go_roundw
                 case rel => exact ⟨k + 1, _, by omega, by go_num, by rw [HN.out], g1, g2, by rw [HN.out]; exact HO5.out, hne, HBB.out⟩
                 case measure => simp [intOf]; omega)
              | (go_roundw
                 case rel => exact ⟨k + 1, .slice A4 (applyMacro ts x).length c4, by omega, by go_num, by rw [HN.out]; go_num, (heap_setCell_other _ _ _ _ (by simp; omega)).trans g1, one_setCell g2, by rw [HN.out]; exact ((HO4.out.setFar (p := ⟨w2.heap.size, 0, none⟩) nN _).mono (by omega)), nN, HBB.out.setCell (by simp; omega) _⟩
                 case measure => simp [intOf]; omega)
          · go_wp2_with fail
            have hb3' := below1 w3 (.cells #[.slice none 0 0] 29)
            refine ⟨hb3', ?_⟩
            refine wpP_move rfl ?_
            go_wp2_with fail
            refine (specApplyMacro_any Av cv ts x (w3.alloc (.cells #[.slice none 0 0] 29)) (by omega) ((HO.out.alloc _).rd (by omega) encTI_len)).mono ?_
            rw [HM.out]
            rintro e w4 ⟨A4, c4, rfl, hown4, hb4⟩
            have hz4 := hb4.size
            simp only [World.size_alloc] at hz4
            have b10 := (hb4.block w3.heap.size (by simp)).trans (heap_alloc_new w3 _)
            have c10 := cell_of_one b10
            have f10 := free_of_one b10
            have hb5 := hb3'.trans (hb4.mono hb3'.size)
            go_wp2_with fail
            refine ⟨hb5, ?_⟩
            (refine wpP_held rfl ?_; go_big_quiet_step (rfl); refine wpQuiet_nil ?_)
            (refine wpP_held rfl ?_; go_big_quiet_step (rfl); refine wpQuiet_nil ?_)
            (refine wpP_held rfl ?_; go_big_quiet_step (rfl); refine wpQuiet_nil ?_)
            refine wpP_move rfl ?_
            go_wp2_with fail
            have hb6 := hb5.setCell (p := ⟨w3.heap.size, 0, none⟩) (Nat.le_refl _) (.slice A4 (applyMacro ts x).length c4)
            refine ⟨hb6, ?_⟩
            (refine wpP_nil ?_; simp only [List.drop_succ_cons, List.drop_zero])
            have c10' := cell_of_one (one_setCell (u := .slice A4 (applyMacro ts x).length c4) b10)
            have g1 := (hb6.block _ (by omega)).trans hB1'
            have g2 := (hb6.block _ l2').trans hB2'
            have cN := cell_of_one g2
            have fN := free_of_one g2
            have hlo := hown4.lt
            simp only [World.size_alloc] at hlo
            have HO4 := Lib.hid (hown4.setFar (p := ⟨w3.heap.size, 0, none⟩) (fun e => by have := hlo _ e; simp at this; omega) (.slice A4 (applyMacro ts x).length c4))
            have HO5 := Lib.hid (HO.out.below hb6)
            have HBB := Lib.hid (hbel'.trans (hb6.mono hbel'.size))
            have nN : (Value.slice A4 (applyMacro ts x).length c4).ownBlock ≠ some w2.heap.size := fun e => by have := hlo _ e; omega
            clear hown4 hb4 hb5 hb6 hb3' C1 C2 HRR HO b10 c10 f10
            go_wp2
            first
              | (go_roundw
                 case rel => exact ⟨k + 1, _, by omega, by go_num, by rw [HN.out], g1, g2, by rw [HN.out]; exact HO5.out, hne, HBB.out⟩
                 case measure => simp [intOf]; omega)
              | (go_roundw
                 case rel => exact ⟨k + 1, .slice A4 (applyMacro ts x).length c4, by omega, by go_num, by rw [HN.out]; go_num, (heap_setCell_other _ _ _ _ (by simp; omega)).trans g1, one_setCell g2, by rw [HN.out]; exact ((HO4.out.setFar (p := ⟨w2.heap.size, 0, none⟩) nN _).mono (by simp; omega)), nN, HBB.out.setCell (by simp; omega) _⟩
                 case measure => simp [intOf]; omega)
      · obtain rfl : k = ks.length := by omega
        rw [List.take_length] at *
        obtain ⟨A', c', rfl⟩ := hown.form
        have c1 := cell_of_one hB1
        have f1 := free_of_one hB1
        have OW := hown.lt
        have HO := Lib.hid hown
        clear hown
        go_wp2
        have r0 := cell_of_one (one_setCell (u := .slice A' (run xs ks).1.length c') hB1)
        exact bodyPost_ret (v := .tuple #[.agg #[.slice A' (run xs ks).1.length c'], .int .i64 ((run xs ks).2 : Int), .bool true]) (by simp only [results, Try.results33]; go_simp) rfl ⟨A', c', rfl, (HO.out.setFar (p := ⟨w.heap.size + 1, 0, none⟩) (fun e => by have := OW _ e; simp at this) _).mono (by omega), hbel.setCell (by simp) _⟩
set_option maxRecDepth 100000 in
set_option maxHeartbeats 2000000 in
theorem implRunMacros_any (A : Option Addr) (c : Nat) (xs : List Item) (A1 : Option Addr) (c1 : Nat) (ks : List Int) (w : World) (hb : xs.length ≤ 2097152) (hr : Rd encTI 2 w w.heap.size A xs) (hb1 : ks.length ≤ 2097152) (hr1 : Rd encI 1 w w.heap.size A1 ks) :
    Calls Try.prog 34 #[.agg #[.slice A xs.length c], .slice A1 ks.length c1] w fun e w' => ∃ A' c', e = .returned (.tuple #[.agg #[.slice A' (runTape xs ks).length c'], .int .i64 (runCount xs ks), .bool (runOk xs ks)]) ∧
      Own encTI 2 w' w.heap.size 62 (.slice A' (runTape xs ks).length c') (runTape xs ks) ∧ Below w.heap.size w w' := by
  have HW := Lib.hid (below2 w (.cells #[.slice A xs.length c] 29) (.cells #[.slice none 0 0] 29))
  have HV := Lib.hid (implIsValidTape_any A c xs _ hb ((hr.below HW.out (Nat.le_refl _)).mono HW.out.size))
  have HB0 := Lib.hid (heap_alloc2_old w (.cells #[.slice A xs.length c] 29) (.cells #[.slice none 0 0] 29))
  have HB1 := Lib.hid (heap_alloc2_new w (.cells #[.slice A xs.length c] 29) (.cells #[.slice none 0 0] 29))
  have HR := Lib.hid hr
  have HR1 := Lib.hid hr1
  clear hr hr1
  cases hT : runOk xs ks
  · have e1 : runTape xs ks = [] := by simp [runTape, hT]
    have e2 : runCount xs ks = 0 := by simp [runCount, hT]
    rw [e1, e2]
    clear e1 e2
    cases hV : tapeOk xs
    · have HT := Lib.hid hV
      clear hT hV
      go_enter Try.func34, Try.ntmps34
      go_wp2_with (go_at_call 14; refine HV.out.mono ?_; rw [HT.out]; rintro e w1 ⟨rfl, hb1⟩; have b1 := (hb1.block _ (by first | (simp; done) | (simp; omega) | omega)).trans HB1.out; have d1 := cell_of_one b1; have e1 := free_of_one b1)
      have r0 := cell_of_one (one_setCell (u := .slice none 0 0) b1)
      exact bodyPost_ret (v := .tuple #[.agg #[.slice none 0 0], .int .i64 0, .bool false]) (by simp only [results, Try.results34]; go_simp) rfl ⟨none, 0, rfl, Own.none_, (HW.out.trans (hb1.mono HW.out.size)).setCell (by simp) _⟩
    · have h100 : (100 : Int) < (ks.length : Int) := by
        simp [runOk, hV] at hT
        omega
      have HT := Lib.hid hV
      clear hT hV
      go_enter Try.func34, Try.ntmps34
      go_wp2_with (go_at_call 14; refine HV.out.mono ?_; rw [HT.out]; rintro e w1 ⟨rfl, hb1⟩; have b1 := (hb1.block _ (by first | (simp; done) | (simp; omega) | omega)).trans HB1.out; have d1 := cell_of_one b1; have e1 := free_of_one b1)
      have r0 := cell_of_one (one_setCell (u := .slice none 0 0) b1)
      exact bodyPost_ret (v := .tuple #[.agg #[.slice none 0 0], .int .i64 0, .bool false]) (by simp only [results, Try.results34]; go_simp) rfl ⟨none, 0, rfl, Own.none_, (HW.out.trans (hb1.mono HW.out.size)).setCell (by simp) _⟩
  · have hV : tapeOk xs = true := by simp only [runOk, Bool.and_eq_true] at hT; exact hT.1
    have h100 : (ks.length : Int) ≤ 100 := by simp [runOk, hV] at hT; omega
    have e1 : runTape xs ks = (run xs ks).1 := by simp [runTape, hT]
    have e2 : runCount xs ks = ((run xs ks).2 : Int) := by simp [runCount, hT]
    rw [e1, e2]
    have h60 : ∀ ks, (run xs ks).1.length ≤ 60 := fun ks => tapeOk_len (run_ok hV ks)
    have H60 := Lib.hid h60
    have HT := Lib.hid hV
    clear hT hV e1 e2 h60
    go_enter Try.func34, Try.ntmps34
    go_wp2_with (first | (go_at_call 14; refine HV.out.mono ?_; rw [HT.out]; rintro e w1 ⟨rfl, hb1⟩; clear HV; have b0 := (hb1.block _ (by first | (simp; done) | (simp; omega) | omega)).trans HB0.out; have c0 := cell_of_one b0; have b1 := (hb1.block _ (by first | (simp; done) | (simp; omega) | omega)).trans HB1.out; have hb2 := HW.out.trans (hb1.mono HW.out.size); have hz1 := hb1.size; simp only [World.size_alloc] at hz1; have l0 : w.heap.size < w1.heap.size := (by omega); have l1 : w.heap.size + 1 < w1.heap.size := (by omega); clear hb1) | (go_at_call 54; refine (copyOf_TI A c xs w1 hb ((HR.out.below hb2 (Nat.le_refl _)).mono hb2.size)).mono ?_; rintro e w2 ⟨g, cap, rfl, hown, hb3⟩; have d0 := (hb3.block _ l0).trans b0; have e0 := cell_of_one d0; have f0 := free_of_one d0))
    have b2 := (hb3.block _ l1).trans b1
    have hb4 := hb2.trans (hb3.mono hb2.size)
    have hl0 := hown.lt
    have hzz := hb3.size
    have K1 : w.heap.size + 1 < w2.heap.size := by omega
    have hR0 := Lib.hid (HR1.out.below hb4 (Nat.le_refl _))
    clear b0 c0 b1 hb3 HB0 HB1 HR HW HT l0 l1 hb2
    have HOW := Lib.hid hown
    clear hown
    go_loopw [7, 27] (fun n i wr => ∃ (k : Nat) (v : Value), k ≤ ks.length ∧ i = .int .i64 k ∧ n = .int .i64 ((run xs (ks.take k)).2 : Int) ∧ wr.heap[w.heap.size + 1]? = some (.cells #[.slice none 0 0] 29 (0, 0)) ∧
       wr.heap[w.heap.size]? = some (.cells #[v] 29 (0, 0)) ∧ Own encTI 2 wr (w.heap.size + 2) 62 v (run xs (ks.take k)).1 ∧ Below w.heap.size w wr) (fun _ i _ => ks.length - (intOf i).toNat)
    case atStart =>
      refine ⟨0, .slice (some ⟨g, 0, none⟩) xs.length cap, Nat.zero_le _, rfl, rfl, ?_, ?_, ?_, ?_⟩
      · exact (heap_setCell_other _ _ _ _ (by simp)).trans b2
      · exact one_setCell d0
      · exact (HOW.out.setFar (p := ⟨w.heap.size, 0, none⟩) (fun e => by have := hl0 _ e; simp at this; omega) _).mono (by omega)
      · exact hb4.setCell (Nat.le_refl _) _
    case round =>
      obtain ⟨k, v, hk, rfl, rfl, hB1, hB2, hown, hbel⟩ := hrel
      have c2 := cell_of_one hB2
      have f2 := free_of_one hB2
      have l2 := lt_of_block hB2
      have l1 := lt_of_block hB1
      by_cases hlt : k < ks.length
      · obtain ⟨x, hx⟩ := at_of_lt (xs := ks) (k := k) (by omega)
        obtain ⟨b, o, rfl, hbB, hc⟩ := (HR1.out.below hbel (Nat.le_refl _)).int hx
        have X := Lib.hid hx
        clear hx
        have hi1 : (k : Int) < (ks.length : Int) := by omega
        have hnx := Lib.hid (run_next xs X.out)
        have h60 := H60.out (ks.take k)
        have hcount : (run xs (ks.take k)).2 ≤ k := by have := run_count xs (ks.take k); simp at this; omega
        generalize hrun : run xs (ks.take k) = t at *
        obtain ⟨ts, n⟩ := t
        have HRUN := Lib.hid hrun
        clear hrun
        obtain ⟨Av, cv, rfl⟩ := hown.form
        have HO := Lib.hid hown
        have HRR := Lib.hid (hown.rd (by omega) encTI_len)
        clear hown
        cases hm : macroOk ts x
        case' false => have HN := Lib.hid (hnx.out.trans (show runStep (ts, n) x = (ts, n) by simp [runStep, hm]))
        case' true => have HN := Lib.hid (hnx.out.trans (show runStep (ts, n) x = (applyMacro ts x, n + 1) by simp [runStep, hm, applyMacro_true hm]))
        all_goals
          have HM := Lib.hid hm
          clear hnx hm
          go_wp2_with (go_at_call 27; refine (implApplyMacro_any Av cv ts x wr (by omega) HRR.out).mono ?_; rw [HM.out]; rintro e w4 ⟨A4, c4, rfl, hown4, hb4⟩; have g1 := (hb4.block _ l1).trans hB1; have g2 := (hb4.block _ l2).trans hB2; have cN := cell_of_one g2; have fN := free_of_one g2; have lN := lt_of_block g2)
          have hz4 := hb4.size
          have hlo := hown4.lt
          have HO5 := HO.out.below hb4
          have HBB := hbel.trans (hb4.mono hbel.size)
        · go_roundw
          case rel =>
            have hC := (HBB.setCell (p := ⟨w.heap.size, 0, none⟩) (Nat.le_refl _) (.slice A4 (applyMacro ts x).length c4)).alloc (by simp; omega) (.cells #[.slice A4 (applyMacro ts x).length c4] 29)
            have hA := below1 (w4.setCell ⟨w.heap.size, 0, none⟩ (.slice A4 (applyMacro ts x).length c4)) (.cells #[.slice A4 (applyMacro ts x).length c4] 29)
            have hz5 : (w4.setCell ⟨w.heap.size, 0, none⟩ (.slice A4 (applyMacro ts x).length c4)).heap.size = w4.heap.size := by simp
            refine ⟨k + 1, .slice A4 (applyMacro ts x).length c4, by omega, by go_num, by rw [HN.out]; go_num, ?_, ?_, ?_, hC⟩
            · exact ((hA.block _ (by omega)).trans (heap_setCell_other _ _ _ _ (by simp))).trans g1
            · exact (hA.block _ (by omega)).trans (one_setCell g2)
            · rw [HN.out]
              exact ((hown4.setFar (p := ⟨w.heap.size, 0, none⟩) (fun e => by have := hlo _ e; simp at this; omega) _).alloc _).mono (by omega)
          case measure => simp [intOf]; omega
        · go_roundw
          case rel => exact ⟨k + 1, _, by omega, by go_num, by rw [HN.out], ((below1 w4 _).block _ (by omega)).trans g1, ((below1 w4 _).block _ (by omega)).trans g2, by rw [HN.out]; exact HO5.alloc _, HBB.alloc HBB.size _⟩
          case measure => simp [intOf]; omega
      · obtain rfl : k = ks.length := by omega
        rw [List.take_length] at *
        obtain ⟨A', c', rfl⟩ := hown.form
        have c1 := cell_of_one hB1
        have f1 := free_of_one hB1
        have OW := hown.lt
        have HO := Lib.hid hown
        clear hown
        go_wp2
        have r0 := cell_of_one (one_setCell (u := .slice A' (run xs ks).1.length c') hB1)
        exact bodyPost_ret (v := .tuple #[.agg #[.slice A' (run xs ks).1.length c'], .int .i64 ((run xs ks).2 : Int), .bool true]) (by simp only [results, Try.results34]; go_simp) rfl ⟨A', c', rfl, (HO.out.setFar (p := ⟨w.heap.size + 1, 0, none⟩) (fun e => by have := OW _ e; simp at this) _).mono (by omega), hbel.setCell (by simp) _⟩
end Go.Proofs.Ytobfjpopicndnaa
