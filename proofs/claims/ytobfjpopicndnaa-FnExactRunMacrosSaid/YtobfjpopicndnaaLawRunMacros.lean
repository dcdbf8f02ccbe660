/- FnExactRunMacros returns true for every argument, and each argument reads as before. No conditions. Printed by laws_tape.py. -/
import Derived.Test.YtobfjpopicndnaaRunMacros
import Derived.Test.YtobfjpopicndnaaTape
import Derived.Test.YtobfjpopicndnaaWrap
import Derived.Test.YtobfjpopicndnaaOpen
namespace Go.Proofs.Ytobfjpopicndnaa
open Go.RowKit Go.ChangeShapes Go.WideShapes Go.ChangeAt Go.Deep
open Go.ChangeMaps (open_string shut_string)

set_option maxRecDepth 100000 in
set_option maxHeartbeats 4000000 in
theorem lawRunMacros_any (A0 : Option Addr) (c0 : Nat) (xs : List (Item)) (A1 : Option Addr) (c1 : Nat) (ks : List (Int)) (w : World) (_hm0 : xs.length ≤ maxLen) (hr0 : Rd encTI 2 w w.heap.size A0 xs) (_hm1 : ks.length ≤ maxLen) (hr1 : Rd encI 1 w w.heap.size A1 ks) :
    Calls Try.prog 8 #[.agg #[.slice A0 xs.length c0], .slice A1 ks.length c1] w fun e w' => e = .returned (.bool true) ∧ Below w.heap.size w w' := by
  by_cases hc1 : (ks.length : Int) ≤ 1048576
  case neg =>
    clear hr0 hr1
    go_enter Try.func8, Try.ntmps8
    go_wp2
    go_ret
    exact ⟨rfl, by repeat (first | exact Below.refl _ _ | assumption | refine Below.alloc ?_ (by first | (simp; done) | (simp; omega) | omega) _ | refine Below.setCell ?_ (by first | (simp; done) | (simp; omega) | omega) _ | refine Below.drew ?_)⟩
  have hb1 : ks.length ≤ 2097152 := by omega
  by_cases hc0 : (1048576 : Int) < (xs.length : Int)
  case pos =>
    clear hr0
    clear hr1
    go_enter Try.func8, Try.ntmps8
    go_wp2_with (go_at_call 11; refine (szTape_big _ _ _ _ _ _hm0 (by omega) (by omega) hc0).mono ?_; rintro e w1 ⟨rfl, hb1⟩)
    go_ret
    exact ⟨rfl, (show Below w.heap.size w _ by repeat (first | exact Below.refl _ _ | assumption | refine Below.alloc ?_ (by first | (simp; done) | (simp; omega) | omega) _ | refine Below.setCell ?_ (by first | (simp; done) | (simp; omega) | omega) _ | refine Below.drew ?_)).trans (hb1.mono (by first | (simp; done) | (simp; omega) | omega))⟩
  have hb0 : xs.length ≤ 2097152 := by omega
  have hcc0 : (1048576 : Int) ≥ (xs.length : Int) := by omega
  clear hc0
  have hR0 : (runTape xs ks).length ≤ 2097152 := by have := runTape_len xs ks; omega
  have r0_0 := Lib.hid hr0
  have r1_0 := Lib.hid hr1
  have t_0 := Lib.hid (Below.refl w.heap.size w)
  clear hr0 hr1
  go_enter Try.func8, Try.ntmps8
  have hb : Below w.heap.size w (w.alloc (.cells #[.slice A0 xs.length c0] 24)) := (Below.refl _ _).alloc (Nat.le_refl _) _
  have cA0_1 : (w.alloc (.cells #[.slice A0 xs.length c0] 24)).cell? ⟨w.heap.size, 0, none⟩ = some (.slice A0 xs.length c0) := by go_simp
  have r0_1 := Lib.hid (later_rd r0_0.out t_0.out hb)
  have r1_1 := Lib.hid (later_rd r1_0.out t_0.out hb)
  have t_1 := Lib.hid (later_below t_0.out hb)
  have z_1 := hb.size
  simp only [World.size_alloc] at z_1
  clear hb r0_0 r1_0 t_0
  go_wp2_with fail
  refine (szTape_ok _ _ _ _ _ _hm0 (by omega) (by omega) (by omega)).mono ?_
  rintro e w2 ⟨rfl, hb⟩
  have cA0_2 := later_cell cA0_1 hb
  have r0_2 := Lib.hid (later_rd r0_1.out t_1.out hb)
  have r1_2 := Lib.hid (later_rd r1_1.out t_1.out hb)
  have t_2 := Lib.hid (later_below t_1.out hb)
  have z_2 := hb.size
  simp only [World.size_alloc] at z_2
  clear hb cA0_1 r0_1 r1_1 t_1
  have hs0 : 0 ≤ (1048576 : Int) - (xs.length : Int) := by omega
  go_wp2_with fail
  refine (toTape_any _ _ _ _ hb0 (r0_2.out.mono t_2.out.size)).mono ?_
  rintro e w3 ⟨gS0, kS0, rfl, hown, hb⟩
  have cA0_3 := later_cell cA0_2 hb
  have r0_3 := Lib.hid (later_rd r0_2.out t_2.out hb)
  have r1_3 := Lib.hid (later_rd r1_2.out t_2.out hb)
  have t_3 := Lib.hid (later_below t_2.out hb)
  have z_3 := hb.size
  clear hb cA0_2 r0_2 r1_2 t_2
  have oS0_3 := Lib.hid hown
  have lS0 := Lib.hid (hown.lt)
  clear hown
  go_wp2_with fail
  refine (toIntS_any _ _ _ _ hb1 (r1_3.out.mono t_3.out.size)).mono ?_
  rintro e w4 ⟨gS1, kS1, rfl, hown, hb⟩
  have cA0_4 := later_cell cA0_3 hb
  have r0_4 := Lib.hid (later_rd r0_3.out t_3.out hb)
  have r1_4 := Lib.hid (later_rd r1_3.out t_3.out hb)
  have oS0_4 := Lib.hid (oS0_3.out.below hb)
  have t_4 := Lib.hid (later_below t_3.out hb)
  have z_4 := hb.size
  clear hb cA0_3 r0_3 r1_3 oS0_3 t_3
  have oS1_4 := Lib.hid hown
  have lS1 := Lib.hid (hown.lt)
  clear hown
  go_wp2_with fail
  refine (specRunMacros_any (some ⟨gS0, 0, none⟩) kS0 xs (some ⟨gS1, 0, none⟩) kS1 ks _ hb0 (oS0_4.out.rd (by omega) encTI_len) hb1 (oS1_4.out.rd (by omega) encI_len)).mono ?_
  rintro e w5 ⟨AW0, kW0, rfl, hown0, hb⟩
  have cA0_5 := later_cell cA0_4 hb
  have r0_5 := Lib.hid (later_rd r0_4.out t_4.out hb)
  have r1_5 := Lib.hid (later_rd r1_4.out t_4.out hb)
  have oS0_5 := Lib.hid (oS0_4.out.below hb)
  have oS1_5 := Lib.hid (oS1_4.out.below hb)
  have t_5 := Lib.hid (later_below t_4.out hb)
  have z_5 := hb.size
  clear hb cA0_4 r0_4 r1_4 oS0_4 oS1_4 t_4
  have oW0_5 := Lib.hid hown0
  have lW0 := Lib.hid (hown0.lt)
  clear hown0
  have hb : Below w5.heap.size w5 (w5.alloc (.cells #[.slice AW0 (runTape xs ks).length kW0] 29)) := (Below.refl _ _).alloc (Nat.le_refl _) _
  have cBW0_6 : (w5.alloc (.cells #[.slice AW0 (runTape xs ks).length kW0] 29)).cell? ⟨w5.heap.size, 0, none⟩ = some (.slice AW0 (runTape xs ks).length kW0) := by go_simp
  have cA0_6 := later_cell cA0_5 hb
  have r0_6 := Lib.hid (later_rd r0_5.out t_5.out hb)
  have r1_6 := Lib.hid (later_rd r1_5.out t_5.out hb)
  have oS0_6 := Lib.hid (oS0_5.out.below hb)
  have oS1_6 := Lib.hid (oS1_5.out.below hb)
  have oW0_6 := Lib.hid (oW0_5.out.below hb)
  have t_6 := Lib.hid (later_below t_5.out hb)
  have z_6 := hb.size
  simp only [World.size_alloc] at z_6
  clear hb cA0_5 r0_5 r1_5 oS0_5 oS1_5 oW0_5 t_5
  go_wp2_with fail
  refine (toTape_any _ _ _ _ hb0 (r0_6.out.mono t_6.out.size)).mono ?_
  rintro e w7 ⟨gX0, kX0, rfl, hown, hb⟩
  have cA0_7 := later_cell cA0_6 hb
  have cBW0_7 := later_cell cBW0_6 hb
  have r0_7 := Lib.hid (later_rd r0_6.out t_6.out hb)
  have r1_7 := Lib.hid (later_rd r1_6.out t_6.out hb)
  have oS0_7 := Lib.hid (oS0_6.out.below hb)
  have oS1_7 := Lib.hid (oS1_6.out.below hb)
  have oW0_7 := Lib.hid (oW0_6.out.below hb)
  have t_7 := Lib.hid (later_below t_6.out hb)
  have z_7 := hb.size
  simp only [World.size_alloc] at z_7
  clear hb cA0_6 cBW0_6 r0_6 r1_6 oS0_6 oS1_6 oW0_6 t_6
  simp only [World.size_alloc] at hown
  have oX0_7 := Lib.hid hown
  have lX0 := Lib.hid (hown.lt)
  clear hown
  have hb : Below w7.heap.size w7 (w7.alloc (.cells #[.slice (some ⟨gX0, 0, none⟩) xs.length kX0] 29)) := (Below.refl _ _).alloc (Nat.le_refl _) _
  have cBX0_8 : (w7.alloc (.cells #[.slice (some ⟨gX0, 0, none⟩) xs.length kX0] 29)).cell? ⟨w7.heap.size, 0, none⟩ = some (.slice (some ⟨gX0, 0, none⟩) xs.length kX0) := by go_simp
  have cA0_8 := later_cell cA0_7 hb
  have cBW0_8 := later_cell cBW0_7 hb
  have r0_8 := Lib.hid (later_rd r0_7.out t_7.out hb)
  have r1_8 := Lib.hid (later_rd r1_7.out t_7.out hb)
  have oS0_8 := Lib.hid (oS0_7.out.below hb)
  have oS1_8 := Lib.hid (oS1_7.out.below hb)
  have oW0_8 := Lib.hid (oW0_7.out.below hb)
  have oX0_8 := Lib.hid (oX0_7.out.below hb)
  have t_8 := Lib.hid (later_below t_7.out hb)
  have z_8 := hb.size
  simp only [World.size_alloc] at z_8
  clear hb cA0_7 cBW0_7 r0_7 r1_7 oS0_7 oS1_7 oW0_7 oX0_7 t_7
  go_wp2_with fail
  refine (toIntS_any _ _ _ _ hb1 (r1_8.out.mono t_8.out.size)).mono ?_
  rintro e w9 ⟨gX1, kX1, rfl, hown, hb⟩
  have cA0_9 := later_cell cA0_8 hb
  have cBW0_9 := later_cell cBW0_8 hb
  have cBX0_9 := later_cell cBX0_8 hb
  have r0_9 := Lib.hid (later_rd r0_8.out t_8.out hb)
  have r1_9 := Lib.hid (later_rd r1_8.out t_8.out hb)
  have oS0_9 := Lib.hid (oS0_8.out.below hb)
  have oS1_9 := Lib.hid (oS1_8.out.below hb)
  have oW0_9 := Lib.hid (oW0_8.out.below hb)
  have oX0_9 := Lib.hid (oX0_8.out.below hb)
  have t_9 := Lib.hid (later_below t_8.out hb)
  have z_9 := hb.size
  simp only [World.size_alloc] at z_9
  clear hb cA0_8 cBW0_8 cBX0_8 r0_8 r1_8 oS0_8 oS1_8 oW0_8 oX0_8 t_8
  simp only [World.size_alloc] at hown
  have oX1_9 := Lib.hid hown
  have lX1 := Lib.hid (hown.lt)
  clear hown
  go_wp2_with fail
  refine (implRunMacros_any (some ⟨gX0, 0, none⟩) kX0 xs (some ⟨gX1, 0, none⟩) kX1 ks _ hb0 (oX0_9.out.rd (by omega) encTI_len) hb1 (oX1_9.out.rd (by omega) encI_len)).mono ?_
  rintro e w10 ⟨AG0, kG0, rfl, hown0, hb⟩
  have cA0_10 := later_cell cA0_9 hb
  have cBW0_10 := later_cell cBW0_9 hb
  have cBX0_10 := later_cell cBX0_9 hb
  have r0_10 := Lib.hid (later_rd r0_9.out t_9.out hb)
  have r1_10 := Lib.hid (later_rd r1_9.out t_9.out hb)
  have oS0_10 := Lib.hid (oS0_9.out.below hb)
  have oS1_10 := Lib.hid (oS1_9.out.below hb)
  have oW0_10 := Lib.hid (oW0_9.out.below hb)
  have oX0_10 := Lib.hid (oX0_9.out.below hb)
  have oX1_10 := Lib.hid (oX1_9.out.below hb)
  have t_10 := Lib.hid (later_below t_9.out hb)
  have z_10 := hb.size
  clear hb cA0_9 cBW0_9 cBX0_9 r0_9 r1_9 oS0_9 oS1_9 oW0_9 oX0_9 oX1_9 t_9
  have oG0_10 := Lib.hid hown0
  have lG0 := Lib.hid (hown0.lt)
  clear hown0
  have hb : Below w10.heap.size w10 (w10.alloc (.cells #[.slice AG0 (runTape xs ks).length kG0] 29)) := (Below.refl _ _).alloc (Nat.le_refl _) _
  have cBG0_11 : (w10.alloc (.cells #[.slice AG0 (runTape xs ks).length kG0] 29)).cell? ⟨w10.heap.size, 0, none⟩ = some (.slice AG0 (runTape xs ks).length kG0) := by go_simp
  have cA0_11 := later_cell cA0_10 hb
  have cBW0_11 := later_cell cBW0_10 hb
  have cBX0_11 := later_cell cBX0_10 hb
  have r0_11 := Lib.hid (later_rd r0_10.out t_10.out hb)
  have r1_11 := Lib.hid (later_rd r1_10.out t_10.out hb)
  have oS0_11 := Lib.hid (oS0_10.out.below hb)
  have oS1_11 := Lib.hid (oS1_10.out.below hb)
  have oW0_11 := Lib.hid (oW0_10.out.below hb)
  have oX0_11 := Lib.hid (oX0_10.out.below hb)
  have oX1_11 := Lib.hid (oX1_10.out.below hb)
  have oG0_11 := Lib.hid (oG0_10.out.below hb)
  have t_11 := Lib.hid (later_below t_10.out hb)
  have z_11 := hb.size
  simp only [World.size_alloc] at z_11
  clear hb cA0_10 cBW0_10 cBX0_10 r0_10 r1_10 oS0_10 oS1_10 oW0_10 oX0_10 oX1_10 oG0_10 t_10
  go_wp2_with fail
  refine (eqTape_same _ _ _ _ _ _ hR0 (oG0_11.out.rd (by omega) encTI_len) (oW0_11.out.rd (by omega) encTI_len)).mono ?_
  rintro e w12 ⟨rfl, hb⟩
  have cA0_12 := later_cell cA0_11 hb
  have cBW0_12 := later_cell cBW0_11 hb
  have cBX0_12 := later_cell cBX0_11 hb
  have cBG0_12 := later_cell cBG0_11 hb
  have r0_12 := Lib.hid (later_rd r0_11.out t_11.out hb)
  have r1_12 := Lib.hid (later_rd r1_11.out t_11.out hb)
  have oS0_12 := Lib.hid (oS0_11.out.below hb)
  have oS1_12 := Lib.hid (oS1_11.out.below hb)
  have oW0_12 := Lib.hid (oW0_11.out.below hb)
  have oX0_12 := Lib.hid (oX0_11.out.below hb)
  have oX1_12 := Lib.hid (oX1_11.out.below hb)
  have oG0_12 := Lib.hid (oG0_11.out.below hb)
  have t_12 := Lib.hid (later_below t_11.out hb)
  have z_12 := hb.size
  simp only [World.size_alloc] at z_12
  clear hb cA0_11 cBW0_11 cBX0_11 cBG0_11 r0_11 r1_11 oS0_11 oS1_11 oW0_11 oX0_11 oX1_11 oG0_11 t_11
  go_wp2_with fail
  refine wp_region_in 4 [(0, false), (1, false), (2, true), (3, true)] (fun w1 w' => Below w1.heap.size w1 w') (by kernel_rfl) (by kernel_rfl) (fun _ _ d _ _ h => by cases d <;> exact h) (fun w13 hs => ⟨Below.refl _ _, ?_⟩)
  have hb := hs.below w12.heap.size
  clear hs
  have cA0_13 := later_cell cA0_12 hb
  have cBW0_13 := later_cell cBW0_12 hb
  have cBX0_13 := later_cell cBX0_12 hb
  have cBG0_13 := later_cell cBG0_12 hb
  have r0_13 := Lib.hid (later_rd r0_12.out t_12.out hb)
  have r1_13 := Lib.hid (later_rd r1_12.out t_12.out hb)
  have oS0_13 := Lib.hid (oS0_12.out.below hb)
  have oS1_13 := Lib.hid (oS1_12.out.below hb)
  have oW0_13 := Lib.hid (oW0_12.out.below hb)
  have oX0_13 := Lib.hid (oX0_12.out.below hb)
  have oX1_13 := Lib.hid (oX1_12.out.below hb)
  have oG0_13 := Lib.hid (oG0_12.out.below hb)
  have t_13 := Lib.hid (later_below t_12.out hb)
  have z_13 := hb.size
  clear hb cA0_12 cBW0_12 cBX0_12 cBG0_12 r0_12 r1_12 oS0_12 oS1_12 oW0_12 oX0_12 oX1_12 oG0_12 t_12
  have H1 := held_below cBX0_13
  have H2 := held_below cA0_13
  (refine wpH_held rfl ?_; go_big_quiet_step (rfl); refine wpQuiet_nil ?_)
  (refine wpH_held rfl ?_; go_big_quiet_step (rfl); refine wpQuiet_nil ?_)
  clear H1 H2
  refine wpH_move rfl ?_
  go_wp2_with fail
  refine (toTape_any _ _ _ _ hb0 (r0_13.out.mono t_13.out.size)).mono ?_
  rintro e w14 ⟨gT0_14, kT0_14, rfl, hown, hb⟩
  have hbR := Lib.hid hb
  have cA0_14 := later_cell cA0_13 hb
  have cBW0_14 := later_cell cBW0_13 hb
  have cBX0_14 := later_cell cBX0_13 hb
  have cBG0_14 := later_cell cBG0_13 hb
  have r0_14 := Lib.hid (later_rd r0_13.out t_13.out hb)
  have r1_14 := Lib.hid (later_rd r1_13.out t_13.out hb)
  have oS0_14 := Lib.hid (oS0_13.out.below hb)
  have oS1_14 := Lib.hid (oS1_13.out.below hb)
  have oW0_14 := Lib.hid (oW0_13.out.below hb)
  have oX0_14 := Lib.hid (oX0_13.out.below hb)
  have oX1_14 := Lib.hid (oX1_13.out.below hb)
  have oG0_14 := Lib.hid (oG0_13.out.below hb)
  have t_14 := Lib.hid (later_below t_13.out hb)
  have z_14 := hb.size
  clear hb cA0_13 cBW0_13 cBX0_13 cBG0_13 r0_13 r1_13 oS0_13 oS1_13 oW0_13 oX0_13 oX1_13 oG0_13 t_13
  have oT0_14_14 := Lib.hid hown
  have lT0_14 := Lib.hid (hown.lt)
  clear hown
  go_wp2_with fail
  refine ⟨hbR.out, ?_⟩
  refine wpH_move rfl ?_
  go_wp2_with fail
  refine (eqTape_same _ _ _ _ _ _ hb0 (oX0_14.out.rd (by omega) encTI_len) (oT0_14_14.out.rd (by omega) encTI_len)).mono ?_
  rintro e w15 ⟨rfl, hb⟩
  have hbS := Lib.hid (hbR.out.trans (hb.mono hbR.out.size))
  have cA0_15 := later_cell cA0_14 hb
  have cBW0_15 := later_cell cBW0_14 hb
  have cBX0_15 := later_cell cBX0_14 hb
  have cBG0_15 := later_cell cBG0_14 hb
  have r0_15 := Lib.hid (later_rd r0_14.out t_14.out hb)
  have r1_15 := Lib.hid (later_rd r1_14.out t_14.out hb)
  have oS0_15 := Lib.hid (oS0_14.out.below hb)
  have oS1_15 := Lib.hid (oS1_14.out.below hb)
  have oW0_15 := Lib.hid (oW0_14.out.below hb)
  have oX0_15 := Lib.hid (oX0_14.out.below hb)
  have oX1_15 := Lib.hid (oX1_14.out.below hb)
  have oG0_15 := Lib.hid (oG0_14.out.below hb)
  have oT0_14_15 := Lib.hid (oT0_14_14.out.below hb)
  have t_15 := Lib.hid (later_below t_14.out hb)
  have z_15 := hb.size
  clear hb cA0_14 cBW0_14 cBX0_14 cBG0_14 r0_14 r1_14 oS0_14 oS1_14 oW0_14 oX0_14 oX1_14 oG0_14 oT0_14_14 t_14
  go_wp2_with fail
  refine ⟨hbS.out, ?_⟩
  clear hbR hbS
  (refine wpH_nil ?_; simp only [List.drop_succ_cons, List.drop_zero])
  go_wp2_with fail
  refine (toIntS_any _ _ _ _ hb1 (r1_15.out.mono t_15.out.size)).mono ?_
  rintro e w16 ⟨gT1_15, kT1_15, rfl, hown, hb⟩
  have cA0_16 := later_cell cA0_15 hb
  have cBW0_16 := later_cell cBW0_15 hb
  have cBX0_16 := later_cell cBX0_15 hb
  have cBG0_16 := later_cell cBG0_15 hb
  have r0_16 := Lib.hid (later_rd r0_15.out t_15.out hb)
  have r1_16 := Lib.hid (later_rd r1_15.out t_15.out hb)
  have oS0_16 := Lib.hid (oS0_15.out.below hb)
  have oS1_16 := Lib.hid (oS1_15.out.below hb)
  have oW0_16 := Lib.hid (oW0_15.out.below hb)
  have oX0_16 := Lib.hid (oX0_15.out.below hb)
  have oX1_16 := Lib.hid (oX1_15.out.below hb)
  have oG0_16 := Lib.hid (oG0_15.out.below hb)
  have oT0_14_16 := Lib.hid (oT0_14_15.out.below hb)
  have t_16 := Lib.hid (later_below t_15.out hb)
  have z_16 := hb.size
  clear hb cA0_15 cBW0_15 cBX0_15 cBG0_15 r0_15 r1_15 oS0_15 oS1_15 oW0_15 oX0_15 oX1_15 oG0_15 oT0_14_15 t_15
  have oT1_15_16 := Lib.hid hown
  have lT1_15 := Lib.hid (hown.lt)
  clear hown
  go_wp2_with fail
  refine (eqIntS_same _ _ _ _ _ _ hb1 (oX1_16.out.rd (by omega) encI_len) (oT1_15_16.out.rd (by omega) encI_len)).mono ?_
  rintro e w17 ⟨rfl, hb⟩
  have cA0_17 := later_cell cA0_16 hb
  have cBW0_17 := later_cell cBW0_16 hb
  have cBX0_17 := later_cell cBX0_16 hb
  have cBG0_17 := later_cell cBG0_16 hb
  have r0_17 := Lib.hid (later_rd r0_16.out t_16.out hb)
  have r1_17 := Lib.hid (later_rd r1_16.out t_16.out hb)
  have oS0_17 := Lib.hid (oS0_16.out.below hb)
  have oS1_17 := Lib.hid (oS1_16.out.below hb)
  have oW0_17 := Lib.hid (oW0_16.out.below hb)
  have oX0_17 := Lib.hid (oX0_16.out.below hb)
  have oX1_17 := Lib.hid (oX1_16.out.below hb)
  have oG0_17 := Lib.hid (oG0_16.out.below hb)
  have oT0_14_17 := Lib.hid (oT0_14_16.out.below hb)
  have oT1_15_17 := Lib.hid (oT1_15_16.out.below hb)
  have t_17 := Lib.hid (later_below t_16.out hb)
  have z_17 := hb.size
  clear hb cA0_16 cBW0_16 cBX0_16 cBG0_16 r0_16 r1_16 oS0_16 oS1_16 oW0_16 oX0_16 oX1_16 oG0_16 oT0_14_16 oT1_15_16 t_16
  go_wp2_with fail
  refine (markTape_any (some ⟨gX0, 0, none⟩) kX0 _ 1 _ _ hb0 (by omega) oX0_17.out).mono ?_
  rintro e w18 ⟨rfl, hown, hg⟩
  have cA0_18 := grown_cell cA0_17 hg lX0.out (by simp only []; omega)
  have cBW0_18 := grown_cell cBW0_17 hg lX0.out (by simp only []; omega)
  have cBX0_18 := grown_cell cBX0_17 hg lX0.out (by simp only []; omega)
  have cBG0_18 := grown_cell cBG0_17 hg lX0.out (by simp only []; omega)
  have r0_18 := Lib.hid (grown_rd r0_17.out hg lX0.out (by omega))
  have r1_18 := Lib.hid (grown_rd r1_17.out hg lX0.out (by omega))
  have oS0_18 := Lib.hid (grown_own oS0_17.out hg lS0.out lX0.out (by omega))
  have oS1_18 := Lib.hid (grown_own oS1_17.out hg lS1.out lX0.out (by omega))
  have oW0_18 := Lib.hid (grown_own oW0_17.out hg lW0.out lX0.out (by omega))
  have oX1_18 := Lib.hid (grown_own oX1_17.out hg lX1.out lX0.out (by omega))
  have oG0_18 := Lib.hid (grown_own oG0_17.out hg lG0.out lX0.out (by omega))
  have oT0_14_18 := Lib.hid (grown_own oT0_14_17.out hg lT0_14.out lX0.out (by omega))
  have oT1_15_18 := Lib.hid (grown_own oT1_15_17.out hg lT1_15.out lX0.out (by omega))
  have t_18 := Lib.hid (grown_below t_17.out hg lX0.out (by omega))
  have z_18 := hg.size
  clear hg cA0_17 cBW0_17 cBX0_17 cBG0_17 r0_17 r1_17 oS0_17 oS1_17 oW0_17 oX1_17 oG0_17 oT0_14_17 oT1_15_17 t_17
  have oX0_18 := Lib.hid hown
  clear hown oX0_17
  have hk0 := mend_nonneg (1) 2 xs.length
  go_wp2_with fail
  refine (markIntS_any (some ⟨gX1, 0, none⟩) kX1 _ (1 + 2 * xs.length) _ _ hb1 (by omega) oX1_18.out).mono ?_
  rintro e w19 ⟨rfl, hown, hg⟩
  have cA0_19 := grown_cell cA0_18 hg lX1.out (by simp only []; omega)
  have cBW0_19 := grown_cell cBW0_18 hg lX1.out (by simp only []; omega)
  have cBX0_19 := grown_cell cBX0_18 hg lX1.out (by simp only []; omega)
  have cBG0_19 := grown_cell cBG0_18 hg lX1.out (by simp only []; omega)
  have r0_19 := Lib.hid (grown_rd r0_18.out hg lX1.out (by omega))
  have r1_19 := Lib.hid (grown_rd r1_18.out hg lX1.out (by omega))
  have oS0_19 := Lib.hid (grown_own oS0_18.out hg lS0.out lX1.out (by omega))
  have oS1_19 := Lib.hid (grown_own oS1_18.out hg lS1.out lX1.out (by omega))
  have oW0_19 := Lib.hid (grown_own oW0_18.out hg lW0.out lX1.out (by omega))
  have oX0_19 := Lib.hid (grown_own oX0_18.out hg lX0.out lX1.out (by omega))
  have oG0_19 := Lib.hid (grown_own oG0_18.out hg lG0.out lX1.out (by omega))
  have oT0_14_19 := Lib.hid (grown_own oT0_14_18.out hg lT0_14.out lX1.out (by omega))
  have oT1_15_19 := Lib.hid (grown_own oT1_15_18.out hg lT1_15.out lX1.out (by omega))
  have t_19 := Lib.hid (grown_below t_18.out hg lX1.out (by omega))
  have z_19 := hg.size
  clear hg cA0_18 cBW0_18 cBX0_18 cBG0_18 r0_18 r1_18 oS0_18 oS1_18 oW0_18 oX0_18 oG0_18 oT0_14_18 oT1_15_18 t_18
  have oX1_19 := Lib.hid hown
  clear hown oX1_18
  have hk1 := mend_nonneg ((1 + 2 * xs.length)) 1 ks.length
  go_wp2_with fail
  refine (eqTape_same _ _ _ _ _ _ hR0 (oG0_19.out.rd (by omega) encTI_len) (oW0_19.out.rd (by omega) encTI_len)).mono ?_
  rintro e w20 ⟨rfl, hb⟩
  have cA0_20 := later_cell cA0_19 hb
  have cBW0_20 := later_cell cBW0_19 hb
  have cBX0_20 := later_cell cBX0_19 hb
  have cBG0_20 := later_cell cBG0_19 hb
  have r0_20 := Lib.hid (later_rd r0_19.out t_19.out hb)
  have r1_20 := Lib.hid (later_rd r1_19.out t_19.out hb)
  have oS0_20 := Lib.hid (oS0_19.out.below hb)
  have oS1_20 := Lib.hid (oS1_19.out.below hb)
  have oW0_20 := Lib.hid (oW0_19.out.below hb)
  have oX0_20 := Lib.hid (oX0_19.out.below hb)
  have oX1_20 := Lib.hid (oX1_19.out.below hb)
  have oG0_20 := Lib.hid (oG0_19.out.below hb)
  have oT0_14_20 := Lib.hid (oT0_14_19.out.below hb)
  have oT1_15_20 := Lib.hid (oT1_15_19.out.below hb)
  have t_20 := Lib.hid (later_below t_19.out hb)
  have z_20 := hb.size
  clear hb cA0_19 cBW0_19 cBX0_19 cBG0_19 r0_19 r1_19 oS0_19 oS1_19 oW0_19 oX0_19 oX1_19 oG0_19 oT0_14_19 oT1_15_19 t_19
  go_wp2_with fail
  refine (markTape_any AG0 kG0 _ 1 _ _ hR0 (by omega) oG0_20.out).mono ?_
  rintro e w21 ⟨rfl, hown, hg⟩
  have cA0_21 := grown_cell cA0_20 hg lG0.out (by simp only []; omega)
  have cBW0_21 := grown_cell cBW0_20 hg lG0.out (by simp only []; omega)
  have cBX0_21 := grown_cell cBX0_20 hg lG0.out (by simp only []; omega)
  have cBG0_21 := grown_cell cBG0_20 hg lG0.out (by simp only []; omega)
  have r0_21 := Lib.hid (grown_rd r0_20.out hg lG0.out (by omega))
  have r1_21 := Lib.hid (grown_rd r1_20.out hg lG0.out (by omega))
  have oS0_21 := Lib.hid (grown_own oS0_20.out hg lS0.out lG0.out (by omega))
  have oS1_21 := Lib.hid (grown_own oS1_20.out hg lS1.out lG0.out (by omega))
  have oW0_21 := Lib.hid (grown_own oW0_20.out hg lW0.out lG0.out (by omega))
  have oX0_21 := Lib.hid (grown_own oX0_20.out hg lX0.out lG0.out (by omega))
  have oX1_21 := Lib.hid (grown_own oX1_20.out hg lX1.out lG0.out (by omega))
  have oT0_14_21 := Lib.hid (grown_own oT0_14_20.out hg lT0_14.out lG0.out (by omega))
  have oT1_15_21 := Lib.hid (grown_own oT1_15_20.out hg lT1_15.out lG0.out (by omega))
  have t_21 := Lib.hid (grown_below t_20.out hg lG0.out (by omega))
  have z_21 := hg.size
  clear hg cA0_20 cBW0_20 cBX0_20 cBG0_20 r0_20 r1_20 oS0_20 oS1_20 oW0_20 oX0_20 oX1_20 oT0_14_20 oT1_15_20 t_20
  have oG0_21 := Lib.hid hown
  clear hown oG0_20
  have hj0 := mend_nonneg (1) 2 (runTape xs ks).length
  go_wp2_with fail
  have hrm := oG0_21.out.rdm (by omega) encTI_len
  refine (heldTape_any AG0 kG0 1 _ _ _ hR0 (by omega) (Nat.le_refl _) hrm).mono ?_
  rintro e w22 ⟨rfl, hb⟩
  clear hrm
  have cA0_22 := later_cell cA0_21 hb
  have cBW0_22 := later_cell cBW0_21 hb
  have cBX0_22 := later_cell cBX0_21 hb
  have cBG0_22 := later_cell cBG0_21 hb
  have r0_22 := Lib.hid (later_rd r0_21.out t_21.out hb)
  have r1_22 := Lib.hid (later_rd r1_21.out t_21.out hb)
  have oS0_22 := Lib.hid (oS0_21.out.below hb)
  have oS1_22 := Lib.hid (oS1_21.out.below hb)
  have oW0_22 := Lib.hid (oW0_21.out.below hb)
  have oX0_22 := Lib.hid (oX0_21.out.below hb)
  have oX1_22 := Lib.hid (oX1_21.out.below hb)
  have oG0_22 := Lib.hid (oG0_21.out.below hb)
  have oT0_14_22 := Lib.hid (oT0_14_21.out.below hb)
  have oT1_15_22 := Lib.hid (oT1_15_21.out.below hb)
  have t_22 := Lib.hid (later_below t_21.out hb)
  have z_22 := hb.size
  clear hb cA0_21 cBW0_21 cBX0_21 cBG0_21 r0_21 r1_21 oS0_21 oS1_21 oW0_21 oX0_21 oX1_21 oG0_21 oT0_14_21 oT1_15_21 t_21
  go_wp2_with fail
  refine (toTape_any _ _ _ _ hb0 (r0_22.out.mono t_22.out.size)).mono ?_
  rintro e w23 ⟨gY0, kY0, rfl, hown, hb⟩
  have cA0_23 := later_cell cA0_22 hb
  have cBW0_23 := later_cell cBW0_22 hb
  have cBX0_23 := later_cell cBX0_22 hb
  have cBG0_23 := later_cell cBG0_22 hb
  have r0_23 := Lib.hid (later_rd r0_22.out t_22.out hb)
  have r1_23 := Lib.hid (later_rd r1_22.out t_22.out hb)
  have oS0_23 := Lib.hid (oS0_22.out.below hb)
  have oS1_23 := Lib.hid (oS1_22.out.below hb)
  have oW0_23 := Lib.hid (oW0_22.out.below hb)
  have oX0_23 := Lib.hid (oX0_22.out.below hb)
  have oX1_23 := Lib.hid (oX1_22.out.below hb)
  have oG0_23 := Lib.hid (oG0_22.out.below hb)
  have oT0_14_23 := Lib.hid (oT0_14_22.out.below hb)
  have oT1_15_23 := Lib.hid (oT1_15_22.out.below hb)
  have t_23 := Lib.hid (later_below t_22.out hb)
  have z_23 := hb.size
  clear hb cA0_22 cBW0_22 cBX0_22 cBG0_22 r0_22 r1_22 oS0_22 oS1_22 oW0_22 oX0_22 oX1_22 oG0_22 oT0_14_22 oT1_15_22 t_22
  have oY0_23 := Lib.hid hown
  have lY0 := Lib.hid (hown.lt)
  clear hown
  go_wp2_with fail
  refine (toIntS_any _ _ _ _ hb1 (r1_23.out.mono t_23.out.size)).mono ?_
  rintro e w24 ⟨gY1, kY1, rfl, hown, hb⟩
  have cA0_24 := later_cell cA0_23 hb
  have cBW0_24 := later_cell cBW0_23 hb
  have cBX0_24 := later_cell cBX0_23 hb
  have cBG0_24 := later_cell cBG0_23 hb
  have r0_24 := Lib.hid (later_rd r0_23.out t_23.out hb)
  have r1_24 := Lib.hid (later_rd r1_23.out t_23.out hb)
  have oS0_24 := Lib.hid (oS0_23.out.below hb)
  have oS1_24 := Lib.hid (oS1_23.out.below hb)
  have oW0_24 := Lib.hid (oW0_23.out.below hb)
  have oX0_24 := Lib.hid (oX0_23.out.below hb)
  have oX1_24 := Lib.hid (oX1_23.out.below hb)
  have oG0_24 := Lib.hid (oG0_23.out.below hb)
  have oT0_14_24 := Lib.hid (oT0_14_23.out.below hb)
  have oT1_15_24 := Lib.hid (oT1_15_23.out.below hb)
  have oY0_24 := Lib.hid (oY0_23.out.below hb)
  have t_24 := Lib.hid (later_below t_23.out hb)
  have z_24 := hb.size
  clear hb cA0_23 cBW0_23 cBX0_23 cBG0_23 r0_23 r1_23 oS0_23 oS1_23 oW0_23 oX0_23 oX1_23 oG0_23 oT0_14_23 oT1_15_23 oY0_23 t_23
  have oY1_24 := Lib.hid hown
  have lY1 := Lib.hid (hown.lt)
  clear hown
  go_wp2_with fail
  refine (implRunMacros_any (some ⟨gY0, 0, none⟩) kY0 xs (some ⟨gY1, 0, none⟩) kY1 ks _ hb0 (oY0_24.out.rd (by omega) encTI_len) hb1 (oY1_24.out.rd (by omega) encI_len)).mono ?_
  rintro e w25 ⟨AH0, kH0, rfl, hown0, hb⟩
  have cA0_25 := later_cell cA0_24 hb
  have cBW0_25 := later_cell cBW0_24 hb
  have cBX0_25 := later_cell cBX0_24 hb
  have cBG0_25 := later_cell cBG0_24 hb
  have r0_25 := Lib.hid (later_rd r0_24.out t_24.out hb)
  have r1_25 := Lib.hid (later_rd r1_24.out t_24.out hb)
  have oS0_25 := Lib.hid (oS0_24.out.below hb)
  have oS1_25 := Lib.hid (oS1_24.out.below hb)
  have oW0_25 := Lib.hid (oW0_24.out.below hb)
  have oX0_25 := Lib.hid (oX0_24.out.below hb)
  have oX1_25 := Lib.hid (oX1_24.out.below hb)
  have oG0_25 := Lib.hid (oG0_24.out.below hb)
  have oT0_14_25 := Lib.hid (oT0_14_24.out.below hb)
  have oT1_15_25 := Lib.hid (oT1_15_24.out.below hb)
  have oY0_25 := Lib.hid (oY0_24.out.below hb)
  have oY1_25 := Lib.hid (oY1_24.out.below hb)
  have t_25 := Lib.hid (later_below t_24.out hb)
  have z_25 := hb.size
  clear hb cA0_24 cBW0_24 cBX0_24 cBG0_24 r0_24 r1_24 oS0_24 oS1_24 oW0_24 oX0_24 oX1_24 oG0_24 oT0_14_24 oT1_15_24 oY0_24 oY1_24 t_24
  have oH0_25 := Lib.hid hown0
  have lH0 := Lib.hid (hown0.lt)
  clear hown0
  have hb : Below w25.heap.size w25 (w25.alloc (.cells #[.slice AH0 (runTape xs ks).length kH0] 29)) := (Below.refl _ _).alloc (Nat.le_refl _) _
  have cBH0_26 : (w25.alloc (.cells #[.slice AH0 (runTape xs ks).length kH0] 29)).cell? ⟨w25.heap.size, 0, none⟩ = some (.slice AH0 (runTape xs ks).length kH0) := by go_simp
  have cA0_26 := later_cell cA0_25 hb
  have cBW0_26 := later_cell cBW0_25 hb
  have cBX0_26 := later_cell cBX0_25 hb
  have cBG0_26 := later_cell cBG0_25 hb
  have r0_26 := Lib.hid (later_rd r0_25.out t_25.out hb)
  have r1_26 := Lib.hid (later_rd r1_25.out t_25.out hb)
  have oS0_26 := Lib.hid (oS0_25.out.below hb)
  have oS1_26 := Lib.hid (oS1_25.out.below hb)
  have oW0_26 := Lib.hid (oW0_25.out.below hb)
  have oX0_26 := Lib.hid (oX0_25.out.below hb)
  have oX1_26 := Lib.hid (oX1_25.out.below hb)
  have oG0_26 := Lib.hid (oG0_25.out.below hb)
  have oT0_14_26 := Lib.hid (oT0_14_25.out.below hb)
  have oT1_15_26 := Lib.hid (oT1_15_25.out.below hb)
  have oY0_26 := Lib.hid (oY0_25.out.below hb)
  have oY1_26 := Lib.hid (oY1_25.out.below hb)
  have oH0_26 := Lib.hid (oH0_25.out.below hb)
  have t_26 := Lib.hid (later_below t_25.out hb)
  have z_26 := hb.size
  simp only [World.size_alloc] at z_26
  clear hb cA0_25 cBW0_25 cBX0_25 cBG0_25 r0_25 r1_25 oS0_25 oS1_25 oW0_25 oX0_25 oX1_25 oG0_25 oT0_14_25 oT1_15_25 oY0_25 oY1_25 oH0_25 t_25
  go_wp2_with fail
  refine (eqTape_same _ _ _ _ _ _ hR0 (oH0_26.out.rd (by omega) encTI_len) (oW0_26.out.rd (by omega) encTI_len)).mono ?_
  rintro e w27 ⟨rfl, hb⟩
  have cA0_27 := later_cell cA0_26 hb
  have cBW0_27 := later_cell cBW0_26 hb
  have cBX0_27 := later_cell cBX0_26 hb
  have cBG0_27 := later_cell cBG0_26 hb
  have cBH0_27 := later_cell cBH0_26 hb
  have r0_27 := Lib.hid (later_rd r0_26.out t_26.out hb)
  have r1_27 := Lib.hid (later_rd r1_26.out t_26.out hb)
  have oS0_27 := Lib.hid (oS0_26.out.below hb)
  have oS1_27 := Lib.hid (oS1_26.out.below hb)
  have oW0_27 := Lib.hid (oW0_26.out.below hb)
  have oX0_27 := Lib.hid (oX0_26.out.below hb)
  have oX1_27 := Lib.hid (oX1_26.out.below hb)
  have oG0_27 := Lib.hid (oG0_26.out.below hb)
  have oT0_14_27 := Lib.hid (oT0_14_26.out.below hb)
  have oT1_15_27 := Lib.hid (oT1_15_26.out.below hb)
  have oY0_27 := Lib.hid (oY0_26.out.below hb)
  have oY1_27 := Lib.hid (oY1_26.out.below hb)
  have oH0_27 := Lib.hid (oH0_26.out.below hb)
  have t_27 := Lib.hid (later_below t_26.out hb)
  have z_27 := hb.size
  simp only [World.size_alloc] at z_27
  clear hb cA0_26 cBW0_26 cBX0_26 cBG0_26 cBH0_26 r0_26 r1_26 oS0_26 oS1_26 oW0_26 oX0_26 oX1_26 oG0_26 oT0_14_26 oT1_15_26 oY0_26 oY1_26 oH0_26 t_26
  go_wp2_with fail
  have hrm := oG0_27.out.rdm (by omega) encTI_len
  refine (heldTape_any AG0 kG0 1 _ _ _ hR0 (by omega) (Nat.le_refl _) hrm).mono ?_
  rintro e w28 ⟨rfl, hb⟩
  clear hrm
  have cA0_28 := later_cell cA0_27 hb
  have cBW0_28 := later_cell cBW0_27 hb
  have cBX0_28 := later_cell cBX0_27 hb
  have cBG0_28 := later_cell cBG0_27 hb
  have cBH0_28 := later_cell cBH0_27 hb
  have r0_28 := Lib.hid (later_rd r0_27.out t_27.out hb)
  have r1_28 := Lib.hid (later_rd r1_27.out t_27.out hb)
  have oS0_28 := Lib.hid (oS0_27.out.below hb)
  have oS1_28 := Lib.hid (oS1_27.out.below hb)
  have oW0_28 := Lib.hid (oW0_27.out.below hb)
  have oX0_28 := Lib.hid (oX0_27.out.below hb)
  have oX1_28 := Lib.hid (oX1_27.out.below hb)
  have oG0_28 := Lib.hid (oG0_27.out.below hb)
  have oT0_14_28 := Lib.hid (oT0_14_27.out.below hb)
  have oT1_15_28 := Lib.hid (oT1_15_27.out.below hb)
  have oY0_28 := Lib.hid (oY0_27.out.below hb)
  have oY1_28 := Lib.hid (oY1_27.out.below hb)
  have oH0_28 := Lib.hid (oH0_27.out.below hb)
  have t_28 := Lib.hid (later_below t_27.out hb)
  have z_28 := hb.size
  clear hb cA0_27 cBW0_27 cBX0_27 cBG0_27 cBH0_27 r0_27 r1_27 oS0_27 oS1_27 oW0_27 oX0_27 oX1_27 oG0_27 oT0_14_27 oT1_15_27 oY0_27 oY1_27 oH0_27 t_27
  go_wp2
  go_ret
  exact ⟨rfl, t_28.out⟩

theorem el_TI {H : Type} {enc : TypeId × Value → H} {w : World} {base : Nat} {spare : Nat → Bool} {held : Bool} (n : Nat) (cs : List Value) (x : DataW H × List MemPlace) (h : DataW.trod enc Try.prog w base spare held n 90 cs = some x) : ∃ y, cs = encTI y := by
  have hC : Try.prog.cellsOf 90 = 2 := by kernel_rfl
  have hCbool : Try.prog.cellsOf 4 = 1 := by kernel_rfl
  have hCint : Try.prog.cellsOf 3 = 1 := by kernel_rfl
  obtain ⟨z0, z1, m, _, hl, h0, h1⟩ := trod_struct2 Try.underlying90 h
  rw [hC] at hl
  obtain ⟨c0, c1, rfl⟩ := list2 hl
  obtain ⟨y0, e0, _⟩ := DataW.trod_int Try.underlying3 h0
  rw [hCint] at e0
  simp only [List.drop_zero, List.take_succ_cons, List.take_zero, List.cons.injEq, and_true] at e0
  subst e0
  obtain ⟨y1, e1, _⟩ := DataW.trod_bool Try.underlying4 h1
  rw [hCbool] at e1
  simp only [List.drop_zero, List.drop_succ_cons, List.take_succ_cons, List.take_zero, List.cons.injEq, and_true] at e1
  subst e1
  exact ⟨(y0, y1), rfl⟩

theorem el_I {H : Type} {enc : TypeId × Value → H} {w : World} {base : Nat} {spare : Nat → Bool} {held : Bool} (n : Nat) (cs : List Value) (x : DataW H × List MemPlace) (h : DataW.trod enc Try.prog w base spare held n 3 cs = some x) : ∃ y, cs = encI y := by
  obtain ⟨y, rfl, _⟩ := DataW.trod_int Try.underlying3 h
  exact ⟨y, rfl⟩

set_option maxRecDepth 100000 in
theorem lawRunMacros_lifted (os : Os) (started : os.Started) (H : Type) (enc : TypeId × Value → H) :
    ReturnsInHanded {} Try.checked os 8 .any (Rows.fnExactRunMacrosSpec.pre6 enc Try.prog Try.f8 Rows.fnExactRunMacrosRow.domain false) (Rows.fnExactRunMacrosSpec.post enc Try.prog Try.f8 false true false false) := by
  refine returnsInHanded_of_change (C := Try.checked) Try.own started (by kernel_rfl) Try.func8
    (ChangeSpec.witness6 (enc := enc) (C := Try.checked) false ⟨#[], #[.agg #[.slice none 0 0], .slice none 0 0], []⟩ 8 (by kernel_rfl) (by kernel_rfl) (by kernel_rfl) (by kernel_rfl)) ?_
  intro W base args ds gs before hval0 hW hcnd _
  have hval : ∀ (j : Nat) t v, Try.f8.params[j]? = some t → args[j]? = some v → Value.okWide Try.prog W .any base t v := hval0
  have hW' := hW
  obtain ⟨p, q, hA0, hV, rfl, hfz, hnd⟩ := hW
  have hA : DataW.TrodAll enc Try.prog W 0 (fun _ => true) true Try.f8.params.toList args.toList ds p := hA0
  rw [Try.params8] at hA hval
  obtain ⟨v0, v1, d0, d1, p0, p1, hargs, rfl, rfl, a0, a1⟩ := trodAll_two hA
  obtain ⟨rfl, rfl⟩ := trodVars_none hV
  subst hargs
  have b0 := a0
  have b1 := a1
  obtain ⟨fu0, hf0⟩ := a0
  obtain ⟨cs0, rfl, hsz0⟩ := okWide_struct Try.underlying24 (hval 0 24 v0 rfl rfl)
  obtain ⟨y0, m0, _, hl0, hy0⟩ := trod_struct1 Try.underlying24 hf0
  have hC0 : Try.prog.cellsOf 24 = 1 := by kernel_rfl
  have hD0 : Try.prog.cellsOf 22 = 1 := by kernel_rfl
  obtain ⟨x0, rfl⟩ := arr1 (hsz0.trans hC0)
  simp only [hD0, Value.cells, List.drop_zero, List.take_succ_cons, List.take_zero] at hy0
  obtain ⟨A0, c0, xs, he0, hm0, hr0⟩ := open_list encTI 2 (by omega) Try.underlying22 (by kernel_rfl) el_TI hy0
  simp only [List.cons.injEq, and_true] at he0; subst he0
  obtain ⟨fu1, hf1⟩ := a1
  obtain ⟨ad1, ln1, cp1, rfl⟩ := okWide_slice Try.underlying33 (hval 1 33 v1 rfl rfl)
  obtain ⟨A1, c1, ks, he1, hm1, hr1⟩ := open_list encI 1 (by omega) Try.underlying33 (by kernel_rfl) el_I hf1
  simp only [Value.cells, List.cons.injEq, and_true] at he1; rw [he1] at hW' b1 ⊢; clear he1
  clear hA0 hval0
  simp only [List.append_nil] at hW'
  refine (lawRunMacros_any A0 c0 xs A1 c1 ks W hm0 hr0 hm1 hr1).mono fun e W' ⟨he, hw⟩ => ?_
  subst he
  exact ⟨_, rfl, post_of_below (pa := p0 ++ (p1)) (pv := []) hW' (fun _ _ _ => trodAll_mk1 (shut_bool Try.underlying4 true)) (fun sp hsp => trodAll_mk2 (stays Try.laidOut (by kernel_rfl) (of_decide_eq_true (by kernel_rfl)) b0 hw (fun x hx => hW'.lt x (by simp [hx])) (fun x hx => hsp x (by simp [hx]))) (stays Try.laidOut (by kernel_rfl) (of_decide_eq_true (by kernel_rfl)) b1 hw (fun x hx => hW'.lt x (by simp [hx])) (fun x hx => hsp x (by simp [hx])))) (fun _ _ => rfl) (by simp) hw (ok_one (by kernel_rfl) rfl (okWide_bool_mk Try.underlying4 true))⟩
theorem lawRunMacros_holds : Rows.FnExactRunMacrosSaid :=
  OpenClaim.holds_of_wide 8 Try.f8 rfl rfl rfl rfl rfl rfl rfl ⟨rfl, rfl, rfl, rfl, rfl⟩ rfl rfl rfl rfl rfl (by kernel_rfl) Try.func8 (by kernel_rfl)
    (of_decide_eq_true (by kernel_rfl)) (by unfold Func.isWrapper; first | (rw [if_pos (by decide +kernel)]; kernel_rfl) | (rw [if_neg (by decide +kernel)]; exact ⟨rfl, rfl⟩))
    (fun os started H enc _ => lawRunMacros_lifted os started H enc)

end Go.Proofs.Ytobfjpopicndnaa
