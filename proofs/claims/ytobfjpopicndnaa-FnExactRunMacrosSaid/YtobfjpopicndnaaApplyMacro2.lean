/- ApplyMacro: both programs' functions at every tape and kind. No conditions but the tape's length. -/
import Derived.Test.YtobfjpopicndnaaApplyMacro
namespace Go.Proofs.Ytobfjpopicndnaa
open Go.RowKit

def macroOut (xs : List Item) (kind : Int) : List Item := match xs[xs.length - 1]? with
  | none => []
  | some y => applyAt xs y kind
def macroOk (xs : List Item) (kind : Int) : Bool := tapeOk xs && (inB kind 1 5 && (!decide (xs.length = 0) && tapeOk (macroOut xs kind)))
def applyMacro (xs : List Item) (kind : Int) : List Item := if macroOk xs kind then macroOut xs kind else []
theorem applyMacro_true {xs : List Item} {kind : Int} (h : macroOk xs kind = true) : applyMacro xs kind = macroOut xs kind := by simp [applyMacro, h]
theorem applyMacro_false {xs : List Item} {kind : Int} (h : macroOk xs kind = false) : applyMacro xs kind = [] := by simp [applyMacro, h]
theorem tapeOk_len {xs : List Item} (h : tapeOk xs = true) : xs.length ≤ 60 := by
  rcases Nat.lt_or_ge 60 xs.length with h1 | h1
  · rw [tapeOk_long h1] at h; cases h
  · exact h1
theorem applyAt_len (xs : List Item) (y : Item) (kind : Int) : (applyAt xs y kind).length ≤ xs.length + 1 := by
  unfold applyAt
  repeat' split
  all_goals simp
  all_goals omega
theorem macroOut_len (xs : List Item) (kind : Int) : (macroOut xs kind).length ≤ xs.length + 1 := by
  unfold macroOut
  split
  · simp
  · exact applyAt_len _ _ _
theorem applyMacro_len (xs : List Item) (kind : Int) : (applyMacro xs kind).length ≤ xs.length + 1 := by
  unfold applyMacro
  split
  · exact macroOut_len _ _
  · simp

set_option maxRecDepth 100000 in
set_option maxHeartbeats 1000000 in
theorem specApplyMacro_any (A : Option Addr) (c : Nat) (xs : List Item) (kind : Int) (w : World) (hb : xs.length ≤ 2097152) (hr : Rd encTI 2 w w.heap.size A xs) :
    Calls Try.prog 26 #[.agg #[.slice A xs.length c], .int .i64 kind] w fun e w' => ∃ A' c', e = .returned (.tuple #[.agg #[.slice A' (applyMacro xs kind).length c'], .bool (macroOk xs kind)]) ∧ Own encTI 2 w' w.heap.size 62 (.slice A' (applyMacro xs kind).length c') (applyMacro xs kind) ∧ Below w.heap.size w w' := by
  have HW := Lib.hid (below2 w (.cells #[.slice A xs.length c] 29) (.cells #[.slice none 0 0] 29))
  have HV := Lib.hid (specIsValidTape_any A c xs _ hb ((hr.below HW.out (Nat.le_refl _)).mono HW.out.size))
  have HB0 := Lib.hid (heap_alloc2_old w (.cells #[.slice A xs.length c] 29) (.cells #[.slice none 0 0] 29))
  have HB1 := Lib.hid (heap_alloc2_new w (.cells #[.slice A xs.length c] 29) (.cells #[.slice none 0 0] 29))
  have HR := Lib.hid hr
  clear hr
  cases hT : tapeOk xs
  · have hm : macroOk xs kind = false := by simp [macroOk, hT]
    rw [hm, applyMacro_false hm]
    have HT := Lib.hid hT
    clear hT hm
    go_enter Try.func26, Try.ntmps26
    go_wp2_with (go_at_call 12; refine HV.out.mono ?_; rw [HT.out]; rintro e w1 ⟨rfl, hb1⟩; clear HV; have b1 := (hb1.block _ (by first | (simp; done) | (simp; omega) | omega)).trans HB1.out; have d1 := cell_of_one b1; have e1 := free_of_one b1)
    have r0 := cell_of_one (one_setCell (u := .slice none 0 0) b1)
    exact bodyPost_ret (v := .tuple #[.agg #[.slice none 0 0], .bool false]) (by simp only [results, Try.results26]; go_simp) rfl ⟨none, 0, rfl, Own.none_, (HW.out.trans (hb1.mono HW.out.size)).setCell (by simp) _⟩
  · cases hK : inB kind 1 5
    · have hm : macroOk xs kind = false := by simp [macroOk, hK]
      rw [hm, applyMacro_false hm]
      have HT := Lib.hid hT
      have HK := Lib.hid hK
      clear hT hm hK
      go_enter Try.func26, Try.ntmps26
      go_wp2_with (first | (go_at_call 12; refine HV.out.mono ?_; rw [HT.out]; rintro e w1 ⟨rfl, hb1⟩; clear HV; have b0 := (hb1.block _ (by first | (simp; done) | (simp; omega) | omega)).trans HB0.out; have c0 := cell_of_one b0; have b1 := (hb1.block _ (by first | (simp; done) | (simp; omega) | omega)).trans HB1.out; have d1 := cell_of_one b1; have e1 := free_of_one b1) | (go_at_call 52; refine (l1In_any _ _ _ _).mono ?_; rw [HK.out]; rintro e w' ⟨rfl, rfl⟩))
      have r0 := cell_of_one (one_setCell (u := .slice none 0 0) b1)
      exact bodyPost_ret (v := .tuple #[.agg #[.slice none 0 0], .bool false]) (by simp only [results, Try.results26]; go_simp) rfl ⟨none, 0, rfl, Own.none_, (HW.out.trans (hb1.mono HW.out.size)).setCell (by simp) _⟩
    · have h60 := tapeOk_len hT
      have hk15 := inB_true.1 hK
      by_cases hlen : xs.length = 0
      · have hm : macroOk xs kind = false := by simp [macroOk, hlen]
        rw [hm, applyMacro_false hm]
        have HT := Lib.hid hT
        have HK := Lib.hid hK
        have hz : ((xs.length : Int) == 0) = true := by simp [hlen]
        clear hT hm hK hlen
        go_enter Try.func26, Try.ntmps26
        go_wp2_with (first | (go_at_call 12; refine HV.out.mono ?_; rw [HT.out]; rintro e w1 ⟨rfl, hb1⟩; clear HV; have b0 := (hb1.block _ (by first | (simp; done) | (simp; omega) | omega)).trans HB0.out; have c0 := cell_of_one b0; have b1 := (hb1.block _ (by first | (simp; done) | (simp; omega) | omega)).trans HB1.out; have d1 := cell_of_one b1; have e1 := free_of_one b1) | (go_at_call 52; refine (l1In_any _ _ _ _).mono ?_; rw [HK.out]; rintro e w' ⟨rfl, rfl⟩))
        have r0 := cell_of_one (one_setCell (u := .slice none 0 0) b1)
        exact bodyPost_ret (v := .tuple #[.agg #[.slice none 0 0], .bool false]) (by simp only [results, Try.results26]; go_simp) rfl ⟨none, 0, rfl, Own.none_, (HW.out.trans (hb1.mono HW.out.size)).setCell (by simp) _⟩
      · obtain ⟨y, hy⟩ := at_of_lt (xs := xs) (k := xs.length - 1) (by omega)
        have hM : macroOut xs kind = applyAt xs y kind := by unfold macroOut; rw [hy]
        have hz : ((xs.length : Int) == 0) = false := by rw [beq_eq_false_iff_ne]; omega
        have hok : macroOk xs kind = tapeOk (applyAt xs y kind) := by simp [macroOk, hT, hK, hlen, hM]
        have hal := applyAt_len xs y kind
        rw [hok]
        have HA := Lib.hid (fun w1 (h : Below w.heap.size w w1) => l16Apply_any A c xs kind w1 hb ((HR.out.below h (Nat.le_refl _)).mono h.size) y hy hk15)
        cases hT2 : tapeOk (applyAt xs y kind)
        case' false => rw [applyMacro_false (hok.trans hT2)]
        case' true => rw [applyMacro_true (hok.trans hT2), hM]
        all_goals
          have HT := Lib.hid hT
          have HT2 := Lib.hid hT2
          have HK := Lib.hid hK
          generalize hys : applyAt xs y kind = ys at *
          clear hT hT2 hM hK hlen hok hy hys
          go_enter Try.func26, Try.ntmps26
          go_wp2_with (first | (go_at_call 12; (first | (refine HV.out.mono ?_; rw [HT.out]; rintro e w1 ⟨rfl, hb1⟩; clear HV; have b0 := (hb1.block _ (by first | (simp; done) | (simp; omega) | omega)).trans HB0.out; have c0 := cell_of_one b0; have b1 := (hb1.block _ (by first | (simp; done) | (simp; omega) | omega)).trans HB1.out; have d1 := cell_of_one b1; have e1 := free_of_one b1) | (refine (specIsValidTape_any A' c' ys _ (by omega) (HO.out.rd (by omega) encTI_len)).mono ?_; rw [HT2.out]; rintro e w3 ⟨rfl, hb4⟩; have b3 := (hb4.block _ (by first | (simp; done) | (simp; omega) | omega)).trans b2; have d3 := cell_of_one b3; have e3 := free_of_one b3; have d6 := cell_of_one ((hb4.block w2.heap.size (by first | (simp; done) | (simp; omega) | omega)).trans (heap_alloc_new w2 _))))) | (go_at_call 52; refine (l1In_any _ _ _ _).mono ?_; rw [HK.out]; rintro e w' ⟨rfl, rfl⟩) | (go_at_call 53; have hb2 := HW.out.trans (hb1.mono HW.out.size); refine (HA.out w1 hb2).mono ?_; rintro e w2 ⟨A', c', rfl, hown, hb3⟩; have hz2 := hb3.size; have hz1 := hb1.size; simp only [World.size_alloc] at hz1; have b2 := ((hb3.alloc hz2 (.cells #[.slice A' ys.length c'] 29)).block _ (show w.heap.size + 1 < w1.heap.size by omega)).trans b1; have HO := Lib.hid (hown.alloc (.cells #[.slice A' ys.length c'] 29)); clear hown))
          have hzz := hb4.size
          simp only [World.size_alloc] at hzz
          have hbel := (hb2.trans (hb3.mono hb2.size)).alloc (by omega) (.cells #[.slice A' ys.length c'] 29)
          have hbel2 := hbel.trans (hb4.mono hbel.size)
        · have r0 := cell_of_one (one_setCell (u := .slice A' ys.length c') b3)
          have hlo := HO.out.lt
          exact bodyPost_ret (v := .tuple #[.agg #[.slice A' ys.length c'], .bool true]) (by simp only [results, Try.results26]; go_simp) rfl ⟨A', c', rfl, ((HO.out.below hb4).setFar (p := ⟨w.heap.size + 1, 0, none⟩) (fun e => by have := hlo _ e; simp at this; omega) _).mono (by omega), hbel2.setCell (by simp) _⟩
        · have r0 := cell_of_one (one_setCell (u := .slice none 0 0) b3)
          exact bodyPost_ret (v := .tuple #[.agg #[.slice none 0 0], .bool false]) (by simp only [results, Try.results26]; go_simp) rfl ⟨none, 0, rfl, Own.none_, hbel2.setCell (by simp) _⟩

theorem implIsValidTape_n (A : Option Addr) (n c : Nat) (xs : List Item) (w : World) (hn : xs.length = n) (hb : n ≤ 2097152) (hr : Rd encTI 2 w w.heap.size A xs) :
    Calls Try.prog 14 #[.agg #[.slice A n c]] w fun e w' => e = .returned (.bool (tapeOk xs)) ∧ Below w.heap.size w w' := by
  subst hn; exact implIsValidTape_any A c xs w hb hr
theorem Own.rdn {α : Type} {enc : α → List Value} {size : Nat} {w : World} {base : Nat} {e : TypeId} {A : Option Addr} {n c : Nat} {xs : List α} (h : Own enc size w base e (.slice A n c) xs) (hz : 0 < size) (hs : ∀ x, (enc x).length = size) : Rd enc size w w.heap.size A xs := by
  obtain ⟨A', c', e⟩ := h.form
  simp only [Value.slice.injEq] at e
  obtain ⟨rfl, rfl, rfl⟩ := e
  exact h.rd hz hs
set_option maxRecDepth 100000 in
set_option maxHeartbeats 1000000 in
theorem implApplyMacro_any (A : Option Addr) (c : Nat) (xs : List Item) (kind : Int) (w : World) (hb : xs.length ≤ 2097152) (hr : Rd encTI 2 w w.heap.size A xs) :
    Calls Try.prog 27 #[.agg #[.slice A xs.length c], .int .i64 kind] w fun e w' => ∃ A' c', e = .returned (.tuple #[.agg #[.slice A' (applyMacro xs kind).length c'], .bool (macroOk xs kind)]) ∧ Own encTI 2 w' w.heap.size 62 (.slice A' (applyMacro xs kind).length c') (applyMacro xs kind) ∧ Below w.heap.size w w' := by
  have HW := Lib.hid (below2 w (.cells #[.slice A xs.length c] 29) (.cells #[.slice none 0 0] 29))
  have HV := Lib.hid (implIsValidTape_any A c xs _ hb ((hr.below HW.out (Nat.le_refl _)).mono HW.out.size))
  have HB0 := Lib.hid (heap_alloc2_old w (.cells #[.slice A xs.length c] 29) (.cells #[.slice none 0 0] 29))
  have HB1 := Lib.hid (heap_alloc2_new w (.cells #[.slice A xs.length c] 29) (.cells #[.slice none 0 0] 29))
  have HR := Lib.hid hr
  clear hr
  cases hT : tapeOk xs
  · have hm : macroOk xs kind = false := by simp [macroOk, hT]
    rw [hm, applyMacro_false hm]
    have HT := Lib.hid hT
    clear hT hm
    go_enter Try.func27, Try.ntmps27
    go_wp2_with (go_at_call 14; refine HV.out.mono ?_; rw [HT.out]; rintro e w1 ⟨rfl, hb1⟩; clear HV; have b0 := (hb1.block _ (by first | (simp; done) | (simp; omega) | omega)).trans HB0.out; have c0 := cell_of_one b0; have b1 := (hb1.block _ (by first | (simp; done) | (simp; omega) | omega)).trans HB1.out; have d1 := cell_of_one b1; have e1 := free_of_one b1)
    have r0 := cell_of_one (one_setCell (u := .slice none 0 0) b1)
    exact bodyPost_ret (v := .tuple #[.agg #[.slice none 0 0], .bool false]) (by simp only [results, Try.results27]; go_simp) rfl ⟨none, 0, rfl, Own.none_, (HW.out.trans (hb1.mono HW.out.size)).setCell (by simp) _⟩
  · have h60 := tapeOk_len hT
    by_cases hlen : xs.length = 0
    · have hm : macroOk xs kind = false := by simp [macroOk, hlen]
      rw [hm, applyMacro_false hm]
      have HT := Lib.hid hT
      have hz : ((xs.length : Int) == 0) = true := by simp [hlen]
      clear hT hm hlen
      go_enter Try.func27, Try.ntmps27
      go_wp2_with (go_at_call 14; refine HV.out.mono ?_; rw [HT.out]; rintro e w1 ⟨rfl, hb1⟩; clear HV; have b0 := (hb1.block _ (by first | (simp; done) | (simp; omega) | omega)).trans HB0.out; have c0 := cell_of_one b0; have b1 := (hb1.block _ (by first | (simp; done) | (simp; omega) | omega)).trans HB1.out; have d1 := cell_of_one b1; have e1 := free_of_one b1)
      have r0 := cell_of_one (one_setCell (u := .slice none 0 0) b1)
      exact bodyPost_ret (v := .tuple #[.agg #[.slice none 0 0], .bool false]) (by simp only [results, Try.results27]; go_simp) rfl ⟨none, 0, rfl, Own.none_, (HW.out.trans (hb1.mono HW.out.size)).setCell (by simp) _⟩
    · obtain ⟨y, hy⟩ := at_of_lt (xs := xs) (k := xs.length - 1) (by omega)
      have hM : macroOut xs kind = applyAt xs y kind := by unfold macroOut; rw [hy]
      have hz : ((xs.length : Int) == 0) = false := by rw [beq_eq_false_iff_ne]; omega
      have hpos1 : (1 : Int) ≤ (xs.length : Int) := by omega
      cases hK : inB kind 1 5
      · have hm : macroOk xs kind = false := by simp [macroOk, hK]
        rw [hm, applyMacro_false hm]
        obtain ⟨y0, y1⟩ := y
        have HT := Lib.hid hT
        have HY := Lib.hid hy
        have k1 : (kind == 1) = false := by rw [beq_eq_false_iff_ne]; rcases inB_false.1 hK with h | h <;> omega
        have k2 : (kind == 2) = false := by rw [beq_eq_false_iff_ne]; rcases inB_false.1 hK with h | h <;> omega
        have k3 : (kind == 3) = false := by rw [beq_eq_false_iff_ne]; rcases inB_false.1 hK with h | h <;> omega
        have k4 : (kind == 4) = false := by rw [beq_eq_false_iff_ne]; rcases inB_false.1 hK with h | h <;> omega
        have k5 : (kind == 5) = false := by rw [beq_eq_false_iff_ne]; rcases inB_false.1 hK with h | h <;> omega
        clear hT hm hK hM hy hlen
        go_enter Try.func27, Try.ntmps27
        go_wp2_with (first | (go_at_call 14; refine HV.out.mono ?_; rw [HT.out]; rintro e w1 ⟨rfl, hb1⟩; clear HV; have b0 := (hb1.block _ (by first | (simp; done) | (simp; omega) | omega)).trans HB0.out; have c0 := cell_of_one b0; have b1 := (hb1.block _ (by first | (simp; done) | (simp; omega) | omega)).trans HB1.out; have d1 := cell_of_one b1; have e1 := free_of_one b1) | (go_at_call 54; have hb2 := HW.out.trans (hb1.mono HW.out.size); refine (copyOf_TI A c xs w1 hb ((HR.out.below hb2 (Nat.le_refl _)).mono hb2.size)).mono ?_; rintro e w2 ⟨g, cap, rfl, hown, hb3⟩; have hz2 := hb3.size; have hz1 := hb1.size; simp only [World.size_alloc] at hz1; have b2 := (hb3.block _ (show w.heap.size + 1 < w1.heap.size by omega)).trans b1; have c2 := cell_of_one b2; have f2 := free_of_one b2; have og := hown.block_lt; have cl0 : w2.cell? ⟨g, (xs.length - 1) * 2, none⟩ = some (.int .i64 y0) := hown.cellAt encTI_len rfl HY.out (j := 0) (by omega); have cl1 : w2.cell? ⟨g, (xs.length - 1) * 2 + 1, none⟩ = some (.bool y1) := hown.cellAt encTI_len rfl HY.out (j := 1) (by omega); have fl0 := hown.frozenAt rfl ((xs.length - 1) * 2); have fl1 := hown.frozenAt rfl ((xs.length - 1) * 2 + 1); have hcap : (xs.length : Int) - 1 ≤ (cap : Int) := (by have := hown.cap_le; omega); have hne4 : g ≠ w.heap.size + 1 := (by omega); have HO := Lib.hid hown; clear hown))
        have r0 := cell_of_one (one_setCell (u := .slice none 0 0) b2)
        have hbel := hb2.trans (hb3.mono hb2.size)
        exact bodyPost_ret (v := .tuple #[.agg #[.slice none 0 0], .bool false]) (by simp only [results, Try.results27]; go_simp) rfl ⟨none, 0, rfl, Own.none_, hbel.setCell (by simp) _⟩
      · have hk15 := inB_true.1 hK
        have hok : macroOk xs kind = tapeOk (applyAt xs y kind) := by simp [macroOk, hT, hK, hlen, hM]
        rw [hok]
        obtain ⟨y0, y1⟩ := y
        have hkk : kind = 1 ∨ kind = 2 ∨ kind = 3 ∨ kind = 4 ∨ kind = 5 := by omega
        clear hK hk15
        rcases hkk with rfl | rfl | rfl | rfl | rfl
        · have hys : (xs ++ [(y0, false)]).length = xs.length + 1 := by simp
          rw [show applyAt xs (y0, y1) 1 = xs ++ [(y0, false)] from rfl] at hok hM ⊢
          cases hT2 : tapeOk (xs ++ [(y0, false)])
          case' false => rw [applyMacro_false (hok.trans hT2)]
          case' true => rw [applyMacro_true (hok.trans hT2), hM]
          all_goals
            have HT := Lib.hid hT
            have HT2 := Lib.hid hT2
            have HY := Lib.hid hy
            have HYS := Lib.hid hys
            clear hT hT2 hM hlen hok hy hys
            go_enter Try.func27, Try.ntmps27
            go_wp2_with (first | (go_at_call 14; refine HV.out.mono ?_; rw [HT.out]; rintro e w1 ⟨rfl, hb1⟩; clear HV; have b0 := (hb1.block _ (by first | (simp; done) | (simp; omega) | omega)).trans HB0.out; have c0 := cell_of_one b0; have b1 := (hb1.block _ (by first | (simp; done) | (simp; omega) | omega)).trans HB1.out; have d1 := cell_of_one b1; have e1 := free_of_one b1) | (go_at_call 54; have hb2 := HW.out.trans (hb1.mono HW.out.size); refine (copyOf_TI A c xs w1 hb ((HR.out.below hb2 (Nat.le_refl _)).mono hb2.size)).mono ?_; rintro e w2 ⟨g, cap, rfl, hown, hb3⟩; have hz2 := hb3.size; have hz1 := hb1.size; simp only [World.size_alloc] at hz1; have b2 := (hb3.block _ (show w.heap.size + 1 < w1.heap.size by omega)).trans b1; have c2 := cell_of_one b2; have f2 := free_of_one b2; have og := hown.block_lt; have cl0 : w2.cell? ⟨g, (xs.length - 1) * 2, none⟩ = some (.int .i64 y0) := hown.cellAt encTI_len rfl HY.out (j := 0) (by omega); have cl1 : w2.cell? ⟨g, (xs.length - 1) * 2 + 1, none⟩ = some (.bool y1) := hown.cellAt encTI_len rfl HY.out (j := 1) (by omega); have fl0 := hown.frozenAt rfl ((xs.length - 1) * 2); have fl1 := hown.frozenAt rfl ((xs.length - 1) * 2 + 1); have hcap : (xs.length : Int) - 1 ≤ (cap : Int) := (by have := hown.cap_le; omega); have hne4 : g ≠ w.heap.size + 1 := (by omega); have HO := Lib.hid hown; clear hown) | (at_builtin; refine app_TI _ rfl _ _ rfl _ _ _ rfl HO.out (y0, false) rfl xs.length rfl (by omega) (by omega) ?_; rintro g3 cap3 w3 hown3 hg3 hat3 hlt3; have b2' := keep_block b2 hg3 (fun e => by have := HO.out.lt _ e; omega); have og3 := hown3.block_lt; have hz3 := hg3.size; simp only [Act.put, List.setIfInBounds_toArray, List.set_cons_succ, List.set_cons_zero]) | (go_at_call 14; have HO2 := Lib.hid (hown3); have BB := b2'; refine (implIsValidTape_n _ _ _ (xs ++ [(y0, false)]) _ (by simp) (by omega) (HO2.out.rdn (by omega) encTI_len)).mono ?_; rw [HT2.out]; rintro e w4 ⟨rfl, hb4⟩; have b3 := (hb4.block _ (by first | (simp; done) | (simp; omega) | omega)).trans BB; have d3 := cell_of_one b3; have e3 := free_of_one b3))
            have hbel0 := hb2.trans (hb3.mono hb2.size)
            have hbel := hbel0.grown hg3 hbel0.size (fun k e => by have := HO.out.lt _ e; omega)
            have hbel2 := hbel.trans (hb4.mono hbel.size)
          · have r0 := cell_of_one (one_setCell (u := .slice (some ⟨g3, 0, none⟩) (xs.length + 1) cap3) b3)
            rw [HYS.out]
            exact bodyPost_ret (v := .tuple #[.agg #[.slice (some ⟨g3, 0, none⟩) (xs.length + 1) cap3], .bool true]) (by simp only [results, Try.results27]; go_simp) rfl ⟨some ⟨g3, 0, none⟩, cap3, rfl, ((HO2.out.below hb4).setFar (p := ⟨w.heap.size + 1, 0, none⟩) (by simp [Value.ownBlock]; omega) _).mono (by omega), hbel2.setCell (by simp) _⟩
          · have r0 := cell_of_one (one_setCell (u := .slice none 0 0) b3)
            exact bodyPost_ret (v := .tuple #[.agg #[.slice none 0 0], .bool false]) (by simp only [results, Try.results27]; go_simp) rfl ⟨none, 0, rfl, Own.none_, hbel2.setCell (by simp) _⟩
        · have hys : (xs.set (xs.length - 1) (tog y0, y1)).length = xs.length := by simp
          rw [show applyAt xs (y0, y1) 2 = xs.set (xs.length - 1) (tog y0, y1) from rfl] at hok hM ⊢
          cases hT2 : tapeOk (xs.set (xs.length - 1) (tog y0, y1))
          case' false => rw [applyMacro_false (hok.trans hT2)]
          case' true => rw [applyMacro_true (hok.trans hT2), hM]
          all_goals
            have HT := Lib.hid hT
            have HT2 := Lib.hid hT2
            have HY := Lib.hid hy
            have HYS := Lib.hid hys
            clear hT hT2 hM hlen hok hy hys
            go_enter Try.func27, Try.ntmps27
            go_wp2_with (first | (go_at_call 14; refine HV.out.mono ?_; rw [HT.out]; rintro e w1 ⟨rfl, hb1⟩; clear HV; have b0 := (hb1.block _ (by first | (simp; done) | (simp; omega) | omega)).trans HB0.out; have c0 := cell_of_one b0; have b1 := (hb1.block _ (by first | (simp; done) | (simp; omega) | omega)).trans HB1.out; have d1 := cell_of_one b1; have e1 := free_of_one b1) | (go_at_call 54; have hb2 := HW.out.trans (hb1.mono HW.out.size); refine (copyOf_TI A c xs w1 hb ((HR.out.below hb2 (Nat.le_refl _)).mono hb2.size)).mono ?_; rintro e w2 ⟨g, cap, rfl, hown, hb3⟩; have hz2 := hb3.size; have hz1 := hb1.size; simp only [World.size_alloc] at hz1; have b2 := (hb3.block _ (show w.heap.size + 1 < w1.heap.size by omega)).trans b1; have c2 := cell_of_one b2; have f2 := free_of_one b2; have og := hown.block_lt; have cl0 : w2.cell? ⟨g, (xs.length - 1) * 2, none⟩ = some (.int .i64 y0) := hown.cellAt encTI_len rfl HY.out (j := 0) (by omega); have cl1 : w2.cell? ⟨g, (xs.length - 1) * 2 + 1, none⟩ = some (.bool y1) := hown.cellAt encTI_len rfl HY.out (j := 1) (by omega); have fl0 := hown.frozenAt rfl ((xs.length - 1) * 2); have fl1 := hown.frozenAt rfl ((xs.length - 1) * 2 + 1); have hcap : (xs.length : Int) - 1 ≤ (cap : Int) := (by have := hown.cap_le; omega); have hne4 : g ≠ w.heap.size + 1 := (by omega); have HO := Lib.hid hown; clear hown) | (go_at_call 14; have HO2 := Lib.hid (HO.out.setAt encTI_len rfl HY.out (j := 0) (x := (tog y0, y1)) (by omega) rfl); have BB := ((heap_setCell_other w2 ⟨g, (xs.length - 1) * 2, none⟩ _ (.int .i64 (tog y0)) (by simp; omega)).trans b2); refine (implIsValidTape_n _ _ _ (xs.set (xs.length - 1) (tog y0, y1)) _ (by simp) (by omega) (HO2.out.rdn (by omega) encTI_len)).mono ?_; rw [HT2.out]; rintro e w4 ⟨rfl, hb4⟩; have b3 := (hb4.block _ (by first | (simp; done) | (simp; omega) | omega)).trans BB; have d3 := cell_of_one b3; have e3 := free_of_one b3))
            have hbel0 := hb2.trans (hb3.mono hb2.size)
            have hbel := hbel0.setCell (p := ⟨g, (xs.length - 1) * 2, none⟩) (show w.heap.size ≤ g by omega) (.int .i64 (tog y0))
            have hbel2 := hbel.trans (hb4.mono hbel.size)
          · have r0 := cell_of_one (one_setCell (u := .slice (some ⟨g, 0, none⟩) (xs.length) cap) b3)
            rw [HYS.out]
            exact bodyPost_ret (v := .tuple #[.agg #[.slice (some ⟨g, 0, none⟩) (xs.length) cap], .bool true]) (by simp only [results, Try.results27]; go_simp) rfl ⟨some ⟨g, 0, none⟩, cap, rfl, ((HO2.out.below hb4).setFar (p := ⟨w.heap.size + 1, 0, none⟩) (by simp [Value.ownBlock]; omega) _).mono (by omega), hbel2.setCell (by simp) _⟩
          · have r0 := cell_of_one (one_setCell (u := .slice none 0 0) b3)
            exact bodyPost_ret (v := .tuple #[.agg #[.slice none 0 0], .bool false]) (by simp only [results, Try.results27]; go_simp) rfl ⟨none, 0, rfl, Own.none_, hbel2.setCell (by simp) _⟩
        · have hys : (xs.set (xs.length - 1) (y0, true)).length = xs.length := by simp
          rw [show applyAt xs (y0, y1) 3 = xs.set (xs.length - 1) (y0, true) from rfl] at hok hM ⊢
          cases hT2 : tapeOk (xs.set (xs.length - 1) (y0, true))
          case' false => rw [applyMacro_false (hok.trans hT2)]
          case' true => rw [applyMacro_true (hok.trans hT2), hM]
          all_goals
            have HT := Lib.hid hT
            have HT2 := Lib.hid hT2
            have HY := Lib.hid hy
            have HYS := Lib.hid hys
            clear hT hT2 hM hlen hok hy hys
            go_enter Try.func27, Try.ntmps27
            go_wp2_with (first | (go_at_call 14; refine HV.out.mono ?_; rw [HT.out]; rintro e w1 ⟨rfl, hb1⟩; clear HV; have b0 := (hb1.block _ (by first | (simp; done) | (simp; omega) | omega)).trans HB0.out; have c0 := cell_of_one b0; have b1 := (hb1.block _ (by first | (simp; done) | (simp; omega) | omega)).trans HB1.out; have d1 := cell_of_one b1; have e1 := free_of_one b1) | (go_at_call 54; have hb2 := HW.out.trans (hb1.mono HW.out.size); refine (copyOf_TI A c xs w1 hb ((HR.out.below hb2 (Nat.le_refl _)).mono hb2.size)).mono ?_; rintro e w2 ⟨g, cap, rfl, hown, hb3⟩; have hz2 := hb3.size; have hz1 := hb1.size; simp only [World.size_alloc] at hz1; have b2 := (hb3.block _ (show w.heap.size + 1 < w1.heap.size by omega)).trans b1; have c2 := cell_of_one b2; have f2 := free_of_one b2; have og := hown.block_lt; have cl0 : w2.cell? ⟨g, (xs.length - 1) * 2, none⟩ = some (.int .i64 y0) := hown.cellAt encTI_len rfl HY.out (j := 0) (by omega); have cl1 : w2.cell? ⟨g, (xs.length - 1) * 2 + 1, none⟩ = some (.bool y1) := hown.cellAt encTI_len rfl HY.out (j := 1) (by omega); have fl0 := hown.frozenAt rfl ((xs.length - 1) * 2); have fl1 := hown.frozenAt rfl ((xs.length - 1) * 2 + 1); have hcap : (xs.length : Int) - 1 ≤ (cap : Int) := (by have := hown.cap_le; omega); have hne4 : g ≠ w.heap.size + 1 := (by omega); have HO := Lib.hid hown; clear hown) | (go_at_call 14; have HO2 := Lib.hid (HO.out.setAt encTI_len rfl HY.out (j := 1) (x := (y0, true)) (by omega) rfl); have BB := ((heap_setCell_other w2 ⟨g, (xs.length - 1) * 2 + 1, none⟩ _ (.bool true) (by simp; omega)).trans b2); refine (implIsValidTape_n _ _ _ (xs.set (xs.length - 1) (y0, true)) _ (by simp) (by omega) (HO2.out.rdn (by omega) encTI_len)).mono ?_; rw [HT2.out]; rintro e w4 ⟨rfl, hb4⟩; have b3 := (hb4.block _ (by first | (simp; done) | (simp; omega) | omega)).trans BB; have d3 := cell_of_one b3; have e3 := free_of_one b3))
            have hbel0 := hb2.trans (hb3.mono hb2.size)
            have hbel := hbel0.setCell (p := ⟨g, (xs.length - 1) * 2 + 1, none⟩) (show w.heap.size ≤ g by omega) (.bool true)
            have hbel2 := hbel.trans (hb4.mono hbel.size)
          · have r0 := cell_of_one (one_setCell (u := .slice (some ⟨g, 0, none⟩) (xs.length) cap) b3)
            rw [HYS.out]
            exact bodyPost_ret (v := .tuple #[.agg #[.slice (some ⟨g, 0, none⟩) (xs.length) cap], .bool true]) (by simp only [results, Try.results27]; go_simp) rfl ⟨some ⟨g, 0, none⟩, cap, rfl, ((HO2.out.below hb4).setFar (p := ⟨w.heap.size + 1, 0, none⟩) (by simp [Value.ownBlock]; omega) _).mono (by omega), hbel2.setCell (by simp) _⟩
          · have r0 := cell_of_one (one_setCell (u := .slice none 0 0) b3)
            exact bodyPost_ret (v := .tuple #[.agg #[.slice none 0 0], .bool false]) (by simp only [results, Try.results27]; go_simp) rfl ⟨none, 0, rfl, Own.none_, hbel2.setCell (by simp) _⟩
        · have hys : (xs.set (xs.length - 1) (y0, false)).length = xs.length := by simp
          rw [show applyAt xs (y0, y1) 4 = xs.set (xs.length - 1) (y0, false) from rfl] at hok hM ⊢
          cases hT2 : tapeOk (xs.set (xs.length - 1) (y0, false))
          case' false => rw [applyMacro_false (hok.trans hT2)]
          case' true => rw [applyMacro_true (hok.trans hT2), hM]
          all_goals
            have HT := Lib.hid hT
            have HT2 := Lib.hid hT2
            have HY := Lib.hid hy
            have HYS := Lib.hid hys
            clear hT hT2 hM hlen hok hy hys
            go_enter Try.func27, Try.ntmps27
            go_wp2_with (first | (go_at_call 14; refine HV.out.mono ?_; rw [HT.out]; rintro e w1 ⟨rfl, hb1⟩; clear HV; have b0 := (hb1.block _ (by first | (simp; done) | (simp; omega) | omega)).trans HB0.out; have c0 := cell_of_one b0; have b1 := (hb1.block _ (by first | (simp; done) | (simp; omega) | omega)).trans HB1.out; have d1 := cell_of_one b1; have e1 := free_of_one b1) | (go_at_call 54; have hb2 := HW.out.trans (hb1.mono HW.out.size); refine (copyOf_TI A c xs w1 hb ((HR.out.below hb2 (Nat.le_refl _)).mono hb2.size)).mono ?_; rintro e w2 ⟨g, cap, rfl, hown, hb3⟩; have hz2 := hb3.size; have hz1 := hb1.size; simp only [World.size_alloc] at hz1; have b2 := (hb3.block _ (show w.heap.size + 1 < w1.heap.size by omega)).trans b1; have c2 := cell_of_one b2; have f2 := free_of_one b2; have og := hown.block_lt; have cl0 : w2.cell? ⟨g, (xs.length - 1) * 2, none⟩ = some (.int .i64 y0) := hown.cellAt encTI_len rfl HY.out (j := 0) (by omega); have cl1 : w2.cell? ⟨g, (xs.length - 1) * 2 + 1, none⟩ = some (.bool y1) := hown.cellAt encTI_len rfl HY.out (j := 1) (by omega); have fl0 := hown.frozenAt rfl ((xs.length - 1) * 2); have fl1 := hown.frozenAt rfl ((xs.length - 1) * 2 + 1); have hcap : (xs.length : Int) - 1 ≤ (cap : Int) := (by have := hown.cap_le; omega); have hne4 : g ≠ w.heap.size + 1 := (by omega); have HO := Lib.hid hown; clear hown) | (go_at_call 14; have HO2 := Lib.hid (HO.out.setAt encTI_len rfl HY.out (j := 1) (x := (y0, false)) (by omega) rfl); have BB := ((heap_setCell_other w2 ⟨g, (xs.length - 1) * 2 + 1, none⟩ _ (.bool false) (by simp; omega)).trans b2); refine (implIsValidTape_n _ _ _ (xs.set (xs.length - 1) (y0, false)) _ (by simp) (by omega) (HO2.out.rdn (by omega) encTI_len)).mono ?_; rw [HT2.out]; rintro e w4 ⟨rfl, hb4⟩; have b3 := (hb4.block _ (by first | (simp; done) | (simp; omega) | omega)).trans BB; have d3 := cell_of_one b3; have e3 := free_of_one b3))
            have hbel0 := hb2.trans (hb3.mono hb2.size)
            have hbel := hbel0.setCell (p := ⟨g, (xs.length - 1) * 2 + 1, none⟩) (show w.heap.size ≤ g by omega) (.bool false)
            have hbel2 := hbel.trans (hb4.mono hbel.size)
          · have r0 := cell_of_one (one_setCell (u := .slice (some ⟨g, 0, none⟩) (xs.length) cap) b3)
            rw [HYS.out]
            exact bodyPost_ret (v := .tuple #[.agg #[.slice (some ⟨g, 0, none⟩) (xs.length) cap], .bool true]) (by simp only [results, Try.results27]; go_simp) rfl ⟨some ⟨g, 0, none⟩, cap, rfl, ((HO2.out.below hb4).setFar (p := ⟨w.heap.size + 1, 0, none⟩) (by simp [Value.ownBlock]; omega) _).mono (by omega), hbel2.setCell (by simp) _⟩
          · have r0 := cell_of_one (one_setCell (u := .slice none 0 0) b3)
            exact bodyPost_ret (v := .tuple #[.agg #[.slice none 0 0], .bool false]) (by simp only [results, Try.results27]; go_simp) rfl ⟨none, 0, rfl, Own.none_, hbel2.setCell (by simp) _⟩
        · have hys : (xs.take (xs.length - 1)).length = xs.length - 1 := by simp
          rw [show applyAt xs (y0, y1) 5 = xs.take (xs.length - 1) from rfl] at hok hM ⊢
          cases hT2 : tapeOk (xs.take (xs.length - 1))
          case' false => rw [applyMacro_false (hok.trans hT2)]
          case' true => rw [applyMacro_true (hok.trans hT2), hM]
          all_goals
            have HT := Lib.hid hT
            have HT2 := Lib.hid hT2
            have HY := Lib.hid hy
            have HYS := Lib.hid hys
            clear hT hT2 hM hlen hok hy hys
            go_enter Try.func27, Try.ntmps27
            go_wp2_with (first | (go_at_call 14; refine HV.out.mono ?_; rw [HT.out]; rintro e w1 ⟨rfl, hb1⟩; clear HV; have b0 := (hb1.block _ (by first | (simp; done) | (simp; omega) | omega)).trans HB0.out; have c0 := cell_of_one b0; have b1 := (hb1.block _ (by first | (simp; done) | (simp; omega) | omega)).trans HB1.out; have d1 := cell_of_one b1; have e1 := free_of_one b1) | (go_at_call 54; have hb2 := HW.out.trans (hb1.mono HW.out.size); refine (copyOf_TI A c xs w1 hb ((HR.out.below hb2 (Nat.le_refl _)).mono hb2.size)).mono ?_; rintro e w2 ⟨g, cap, rfl, hown, hb3⟩; have hz2 := hb3.size; have hz1 := hb1.size; simp only [World.size_alloc] at hz1; have b2 := (hb3.block _ (show w.heap.size + 1 < w1.heap.size by omega)).trans b1; have c2 := cell_of_one b2; have f2 := free_of_one b2; have og := hown.block_lt; have cl0 : w2.cell? ⟨g, (xs.length - 1) * 2, none⟩ = some (.int .i64 y0) := hown.cellAt encTI_len rfl HY.out (j := 0) (by omega); have cl1 : w2.cell? ⟨g, (xs.length - 1) * 2 + 1, none⟩ = some (.bool y1) := hown.cellAt encTI_len rfl HY.out (j := 1) (by omega); have fl0 := hown.frozenAt rfl ((xs.length - 1) * 2); have fl1 := hown.frozenAt rfl ((xs.length - 1) * 2 + 1); have hcap : (xs.length : Int) - 1 ≤ (cap : Int) := (by have := hown.cap_le; omega); have hne4 : g ≠ w.heap.size + 1 := (by omega); have HO := Lib.hid hown; clear hown) | (go_at_call 14; have HO2 := Lib.hid (HO.out.takes encTI_len (m := xs.length - 1) (by omega)); have BB := b2; refine (implIsValidTape_n _ _ _ (xs.take (xs.length - 1)) _ (by simp) (by omega) (HO2.out.rdn (by omega) encTI_len)).mono ?_; rw [HT2.out]; rintro e w4 ⟨rfl, hb4⟩; have b3 := (hb4.block _ (by first | (simp; done) | (simp; omega) | omega)).trans BB; have d3 := cell_of_one b3; have e3 := free_of_one b3))
            have hbel0 := hb2.trans (hb3.mono hb2.size)
            have hbel := hbel0
            have hbel2 := hbel.trans (hb4.mono hbel.size)
          · have r0 := cell_of_one (one_setCell (u := .slice (some ⟨g, 0, none⟩) (xs.length - 1) cap) b3)
            rw [HYS.out]
            exact bodyPost_ret (v := .tuple #[.agg #[.slice (some ⟨g, 0, none⟩) (xs.length - 1) cap], .bool true]) (by simp only [results, Try.results27]; go_simp) rfl ⟨some ⟨g, 0, none⟩, cap, rfl, ((HO2.out.below hb4).setFar (p := ⟨w.heap.size + 1, 0, none⟩) (by simp [Value.ownBlock]; omega) _).mono (by omega), hbel2.setCell (by simp) _⟩
          · have r0 := cell_of_one (one_setCell (u := .slice none 0 0) b3)
            exact bodyPost_ret (v := .tuple #[.agg #[.slice none 0 0], .bool false]) (by simp only [results, Try.results27]; go_simp) rfl ⟨none, 0, rfl, Own.none_, hbel2.setCell (by simp) _⟩
end Go.Proofs.Ytobfjpopicndnaa
