/- FnExactNewTape returns true for every argument, and each argument reads as before. No conditions. Printed by laws_tape.py. -/
import Derived.Test.YtobfjpopicndnaaNewTape
import Derived.Test.YtobfjpopicndnaaTape
import Derived.Test.YtobfjpopicndnaaWrap
import Derived.Test.YtobfjpopicndnaaOpen
namespace Go.Proofs.Ytobfjpopicndnaa
open Go.RowKit Go.ChangeShapes Go.WideShapes Go.ChangeAt Go.Deep
open Go.ChangeMaps (open_string shut_string)

set_option maxRecDepth 100000 in
set_option maxHeartbeats 4000000 in
theorem lawNewTape_any (A0 : Option Addr) (c0 : Nat) (xs : List (Int)) (w : World) (_hm0 : xs.length ≤ maxLen) (hr0 : Rd encI 1 w w.heap.size A0 xs) :
    Calls Try.prog 4 #[.slice A0 xs.length c0] w fun e w' => e = .returned (.bool true) ∧ Below w.heap.size w w' := by
  by_cases hc0 : (xs.length : Int) ≤ 1048576
  case neg =>
    clear hr0
    go_enter Try.func4, Try.ntmps4
    go_wp2
    go_ret
    exact ⟨rfl, by repeat (first | exact Below.refl _ _ | assumption | refine Below.alloc ?_ (by first | (simp; done) | (simp; omega) | omega) _ | refine Below.setCell ?_ (by first | (simp; done) | (simp; omega) | omega) _ | refine Below.drew ?_)⟩
  have hb0 : xs.length ≤ 2097152 := by omega
  have hR0 : (newTape xs).length ≤ 2097152 := by have := newTape_len xs; omega
  have r0_0 := Lib.hid hr0
  have t_0 := Lib.hid (Below.refl w.heap.size w)
  clear hr0
  go_enter Try.func4, Try.ntmps4
  go_wp2_with fail
  refine (toIntS_any _ _ _ _ hb0 (r0_0.out.mono t_0.out.size)).mono ?_
  rintro e w1 ⟨gS0, kS0, rfl, hown, hb⟩
  have r0_1 := Lib.hid (later_rd r0_0.out t_0.out hb)
  have t_1 := Lib.hid (later_below t_0.out hb)
  have z_1 := hb.size
  clear hb r0_0 t_0
  have oS0_1 := Lib.hid hown
  have lS0 := Lib.hid (hown.lt)
  clear hown
  go_wp2_with fail
  refine (specNewTape_any (some ⟨gS0, 0, none⟩) kS0 xs _ hb0 (oS0_1.out.rd (by omega) encI_len)).mono ?_
  rintro e w2 ⟨AW0, kW0, rfl, hown0, hb⟩
  have r0_2 := Lib.hid (later_rd r0_1.out t_1.out hb)
  have oS0_2 := Lib.hid (oS0_1.out.below hb)
  have t_2 := Lib.hid (later_below t_1.out hb)
  have z_2 := hb.size
  clear hb r0_1 oS0_1 t_1
  have oW0_2 := Lib.hid hown0
  have lW0 := Lib.hid (hown0.lt)
  clear hown0
  have hb : Below w2.heap.size w2 (w2.alloc (.cells #[.slice AW0 (newTape xs).length kW0] 29)) := (Below.refl _ _).alloc (Nat.le_refl _) _
  have cBW0_3 : (w2.alloc (.cells #[.slice AW0 (newTape xs).length kW0] 29)).cell? ⟨w2.heap.size, 0, none⟩ = some (.slice AW0 (newTape xs).length kW0) := by go_simp
  have r0_3 := Lib.hid (later_rd r0_2.out t_2.out hb)
  have oS0_3 := Lib.hid (oS0_2.out.below hb)
  have oW0_3 := Lib.hid (oW0_2.out.below hb)
  have t_3 := Lib.hid (later_below t_2.out hb)
  have z_3 := hb.size
  simp only [World.size_alloc] at z_3
  clear hb r0_2 oS0_2 oW0_2 t_2
  go_wp2_with fail
  refine (toIntS_any _ _ _ _ hb0 (r0_3.out.mono t_3.out.size)).mono ?_
  rintro e w4 ⟨gX0, kX0, rfl, hown, hb⟩
  have cBW0_4 := later_cell cBW0_3 hb
  have r0_4 := Lib.hid (later_rd r0_3.out t_3.out hb)
  have oS0_4 := Lib.hid (oS0_3.out.below hb)
  have oW0_4 := Lib.hid (oW0_3.out.below hb)
  have t_4 := Lib.hid (later_below t_3.out hb)
  have z_4 := hb.size
  simp only [World.size_alloc] at z_4
  clear hb cBW0_3 r0_3 oS0_3 oW0_3 t_3
  simp only [World.size_alloc] at hown
  have oX0_4 := Lib.hid hown
  have lX0 := Lib.hid (hown.lt)
  clear hown
  go_wp2_with fail
  refine (implNewTape_any (some ⟨gX0, 0, none⟩) kX0 xs _ hb0 (oX0_4.out.rd (by omega) encI_len)).mono ?_
  rintro e w5 ⟨AG0, kG0, rfl, hown0, hb⟩
  have cBW0_5 := later_cell cBW0_4 hb
  have r0_5 := Lib.hid (later_rd r0_4.out t_4.out hb)
  have oS0_5 := Lib.hid (oS0_4.out.below hb)
  have oW0_5 := Lib.hid (oW0_4.out.below hb)
  have oX0_5 := Lib.hid (oX0_4.out.below hb)
  have t_5 := Lib.hid (later_below t_4.out hb)
  have z_5 := hb.size
  clear hb cBW0_4 r0_4 oS0_4 oW0_4 oX0_4 t_4
  have oG0_5 := Lib.hid hown0
  have lG0 := Lib.hid (hown0.lt)
  clear hown0
  have hb : Below w5.heap.size w5 (w5.alloc (.cells #[.slice AG0 (newTape xs).length kG0] 29)) := (Below.refl _ _).alloc (Nat.le_refl _) _
  have cBG0_6 : (w5.alloc (.cells #[.slice AG0 (newTape xs).length kG0] 29)).cell? ⟨w5.heap.size, 0, none⟩ = some (.slice AG0 (newTape xs).length kG0) := by go_simp
  have cBW0_6 := later_cell cBW0_5 hb
  have r0_6 := Lib.hid (later_rd r0_5.out t_5.out hb)
  have oS0_6 := Lib.hid (oS0_5.out.below hb)
  have oW0_6 := Lib.hid (oW0_5.out.below hb)
  have oX0_6 := Lib.hid (oX0_5.out.below hb)
  have oG0_6 := Lib.hid (oG0_5.out.below hb)
  have t_6 := Lib.hid (later_below t_5.out hb)
  have z_6 := hb.size
  simp only [World.size_alloc] at z_6
  clear hb cBW0_5 r0_5 oS0_5 oW0_5 oX0_5 oG0_5 t_5
  go_wp2_with fail
  refine (eqTape_same _ _ _ _ _ _ hR0 (oG0_6.out.rd (by omega) encTI_len) (oW0_6.out.rd (by omega) encTI_len)).mono ?_
  rintro e w7 ⟨rfl, hb⟩
  have cBW0_7 := later_cell cBW0_6 hb
  have cBG0_7 := later_cell cBG0_6 hb
  have r0_7 := Lib.hid (later_rd r0_6.out t_6.out hb)
  have oS0_7 := Lib.hid (oS0_6.out.below hb)
  have oW0_7 := Lib.hid (oW0_6.out.below hb)
  have oX0_7 := Lib.hid (oX0_6.out.below hb)
  have oG0_7 := Lib.hid (oG0_6.out.below hb)
  have t_7 := Lib.hid (later_below t_6.out hb)
  have z_7 := hb.size
  simp only [World.size_alloc] at z_7
  clear hb cBW0_6 cBG0_6 r0_6 oS0_6 oW0_6 oX0_6 oG0_6 t_6
  go_wp2_with fail
  refine (toIntS_any _ _ _ _ hb0 (r0_7.out.mono t_7.out.size)).mono ?_
  rintro e w8 ⟨gT0_7, kT0_7, rfl, hown, hb⟩
  have cBW0_8 := later_cell cBW0_7 hb
  have cBG0_8 := later_cell cBG0_7 hb
  have r0_8 := Lib.hid (later_rd r0_7.out t_7.out hb)
  have oS0_8 := Lib.hid (oS0_7.out.below hb)
  have oW0_8 := Lib.hid (oW0_7.out.below hb)
  have oX0_8 := Lib.hid (oX0_7.out.below hb)
  have oG0_8 := Lib.hid (oG0_7.out.below hb)
  have t_8 := Lib.hid (later_below t_7.out hb)
  have z_8 := hb.size
  clear hb cBW0_7 cBG0_7 r0_7 oS0_7 oW0_7 oX0_7 oG0_7 t_7
  have oT0_7_8 := Lib.hid hown
  have lT0_7 := Lib.hid (hown.lt)
  clear hown
  go_wp2_with fail
  refine (eqIntS_same _ _ _ _ _ _ hb0 (oX0_8.out.rd (by omega) encI_len) (oT0_7_8.out.rd (by omega) encI_len)).mono ?_
  rintro e w9 ⟨rfl, hb⟩
  have cBW0_9 := later_cell cBW0_8 hb
  have cBG0_9 := later_cell cBG0_8 hb
  have r0_9 := Lib.hid (later_rd r0_8.out t_8.out hb)
  have oS0_9 := Lib.hid (oS0_8.out.below hb)
  have oW0_9 := Lib.hid (oW0_8.out.below hb)
  have oX0_9 := Lib.hid (oX0_8.out.below hb)
  have oG0_9 := Lib.hid (oG0_8.out.below hb)
  have oT0_7_9 := Lib.hid (oT0_7_8.out.below hb)
  have t_9 := Lib.hid (later_below t_8.out hb)
  have z_9 := hb.size
  clear hb cBW0_8 cBG0_8 r0_8 oS0_8 oW0_8 oX0_8 oG0_8 oT0_7_8 t_8
  go_wp2_with fail
  refine (markIntS_any (some ⟨gX0, 0, none⟩) kX0 _ 1 _ _ hb0 (by omega) oX0_9.out).mono ?_
  rintro e w10 ⟨rfl, hown, hg⟩
  have cBW0_10 := grown_cell cBW0_9 hg lX0.out (by simp only []; omega)
  have cBG0_10 := grown_cell cBG0_9 hg lX0.out (by simp only []; omega)
  have r0_10 := Lib.hid (grown_rd r0_9.out hg lX0.out (by omega))
  have oS0_10 := Lib.hid (grown_own oS0_9.out hg lS0.out lX0.out (by omega))
  have oW0_10 := Lib.hid (grown_own oW0_9.out hg lW0.out lX0.out (by omega))
  have oG0_10 := Lib.hid (grown_own oG0_9.out hg lG0.out lX0.out (by omega))
  have oT0_7_10 := Lib.hid (grown_own oT0_7_9.out hg lT0_7.out lX0.out (by omega))
  have t_10 := Lib.hid (grown_below t_9.out hg lX0.out (by omega))
  have z_10 := hg.size
  clear hg cBW0_9 cBG0_9 r0_9 oS0_9 oW0_9 oG0_9 oT0_7_9 t_9
  have oX0_10 := Lib.hid hown
  clear hown oX0_9
  have hk0 := mend_nonneg (1) 1 xs.length
  go_wp2_with fail
  refine (eqTape_same _ _ _ _ _ _ hR0 (oG0_10.out.rd (by omega) encTI_len) (oW0_10.out.rd (by omega) encTI_len)).mono ?_
  rintro e w11 ⟨rfl, hb⟩
  have cBW0_11 := later_cell cBW0_10 hb
  have cBG0_11 := later_cell cBG0_10 hb
  have r0_11 := Lib.hid (later_rd r0_10.out t_10.out hb)
  have oS0_11 := Lib.hid (oS0_10.out.below hb)
  have oW0_11 := Lib.hid (oW0_10.out.below hb)
  have oX0_11 := Lib.hid (oX0_10.out.below hb)
  have oG0_11 := Lib.hid (oG0_10.out.below hb)
  have oT0_7_11 := Lib.hid (oT0_7_10.out.below hb)
  have t_11 := Lib.hid (later_below t_10.out hb)
  have z_11 := hb.size
  clear hb cBW0_10 cBG0_10 r0_10 oS0_10 oW0_10 oX0_10 oG0_10 oT0_7_10 t_10
  go_wp2_with fail
  refine (markTape_any AG0 kG0 _ 1 _ _ hR0 (by omega) oG0_11.out).mono ?_
  rintro e w12 ⟨rfl, hown, hg⟩
  have cBW0_12 := grown_cell cBW0_11 hg lG0.out (by simp only []; omega)
  have cBG0_12 := grown_cell cBG0_11 hg lG0.out (by simp only []; omega)
  have r0_12 := Lib.hid (grown_rd r0_11.out hg lG0.out (by omega))
  have oS0_12 := Lib.hid (grown_own oS0_11.out hg lS0.out lG0.out (by omega))
  have oW0_12 := Lib.hid (grown_own oW0_11.out hg lW0.out lG0.out (by omega))
  have oX0_12 := Lib.hid (grown_own oX0_11.out hg lX0.out lG0.out (by omega))
  have oT0_7_12 := Lib.hid (grown_own oT0_7_11.out hg lT0_7.out lG0.out (by omega))
  have t_12 := Lib.hid (grown_below t_11.out hg lG0.out (by omega))
  have z_12 := hg.size
  clear hg cBW0_11 cBG0_11 r0_11 oS0_11 oW0_11 oX0_11 oT0_7_11 t_11
  have oG0_12 := Lib.hid hown
  clear hown oG0_11
  have hj0 := mend_nonneg (1) 2 (newTape xs).length
  go_wp2_with fail
  have hrm := oG0_12.out.rdm (by omega) encTI_len
  refine (heldTape_any AG0 kG0 1 _ _ _ hR0 (by omega) (Nat.le_refl _) hrm).mono ?_
  rintro e w13 ⟨rfl, hb⟩
  clear hrm
  have cBW0_13 := later_cell cBW0_12 hb
  have cBG0_13 := later_cell cBG0_12 hb
  have r0_13 := Lib.hid (later_rd r0_12.out t_12.out hb)
  have oS0_13 := Lib.hid (oS0_12.out.below hb)
  have oW0_13 := Lib.hid (oW0_12.out.below hb)
  have oX0_13 := Lib.hid (oX0_12.out.below hb)
  have oG0_13 := Lib.hid (oG0_12.out.below hb)
  have oT0_7_13 := Lib.hid (oT0_7_12.out.below hb)
  have t_13 := Lib.hid (later_below t_12.out hb)
  have z_13 := hb.size
  clear hb cBW0_12 cBG0_12 r0_12 oS0_12 oW0_12 oX0_12 oG0_12 oT0_7_12 t_12
  go_wp2_with fail
  refine (toIntS_any _ _ _ _ hb0 (r0_13.out.mono t_13.out.size)).mono ?_
  rintro e w14 ⟨gY0, kY0, rfl, hown, hb⟩
  have cBW0_14 := later_cell cBW0_13 hb
  have cBG0_14 := later_cell cBG0_13 hb
  have r0_14 := Lib.hid (later_rd r0_13.out t_13.out hb)
  have oS0_14 := Lib.hid (oS0_13.out.below hb)
  have oW0_14 := Lib.hid (oW0_13.out.below hb)
  have oX0_14 := Lib.hid (oX0_13.out.below hb)
  have oG0_14 := Lib.hid (oG0_13.out.below hb)
  have oT0_7_14 := Lib.hid (oT0_7_13.out.below hb)
  have t_14 := Lib.hid (later_below t_13.out hb)
  have z_14 := hb.size
  clear hb cBW0_13 cBG0_13 r0_13 oS0_13 oW0_13 oX0_13 oG0_13 oT0_7_13 t_13
  have oY0_14 := Lib.hid hown
  have lY0 := Lib.hid (hown.lt)
  clear hown
  go_wp2_with fail
  refine (implNewTape_any (some ⟨gY0, 0, none⟩) kY0 xs _ hb0 (oY0_14.out.rd (by omega) encI_len)).mono ?_
  rintro e w15 ⟨AH0, kH0, rfl, hown0, hb⟩
  have cBW0_15 := later_cell cBW0_14 hb
  have cBG0_15 := later_cell cBG0_14 hb
  have r0_15 := Lib.hid (later_rd r0_14.out t_14.out hb)
  have oS0_15 := Lib.hid (oS0_14.out.below hb)
  have oW0_15 := Lib.hid (oW0_14.out.below hb)
  have oX0_15 := Lib.hid (oX0_14.out.below hb)
  have oG0_15 := Lib.hid (oG0_14.out.below hb)
  have oT0_7_15 := Lib.hid (oT0_7_14.out.below hb)
  have oY0_15 := Lib.hid (oY0_14.out.below hb)
  have t_15 := Lib.hid (later_below t_14.out hb)
  have z_15 := hb.size
  clear hb cBW0_14 cBG0_14 r0_14 oS0_14 oW0_14 oX0_14 oG0_14 oT0_7_14 oY0_14 t_14
  have oH0_15 := Lib.hid hown0
  have lH0 := Lib.hid (hown0.lt)
  clear hown0
  have hb : Below w15.heap.size w15 (w15.alloc (.cells #[.slice AH0 (newTape xs).length kH0] 29)) := (Below.refl _ _).alloc (Nat.le_refl _) _
  have cBH0_16 : (w15.alloc (.cells #[.slice AH0 (newTape xs).length kH0] 29)).cell? ⟨w15.heap.size, 0, none⟩ = some (.slice AH0 (newTape xs).length kH0) := by go_simp
  have cBW0_16 := later_cell cBW0_15 hb
  have cBG0_16 := later_cell cBG0_15 hb
  have r0_16 := Lib.hid (later_rd r0_15.out t_15.out hb)
  have oS0_16 := Lib.hid (oS0_15.out.below hb)
  have oW0_16 := Lib.hid (oW0_15.out.below hb)
  have oX0_16 := Lib.hid (oX0_15.out.below hb)
  have oG0_16 := Lib.hid (oG0_15.out.below hb)
  have oT0_7_16 := Lib.hid (oT0_7_15.out.below hb)
  have oY0_16 := Lib.hid (oY0_15.out.below hb)
  have oH0_16 := Lib.hid (oH0_15.out.below hb)
  have t_16 := Lib.hid (later_below t_15.out hb)
  have z_16 := hb.size
  simp only [World.size_alloc] at z_16
  clear hb cBW0_15 cBG0_15 r0_15 oS0_15 oW0_15 oX0_15 oG0_15 oT0_7_15 oY0_15 oH0_15 t_15
  go_wp2_with fail
  refine (eqTape_same _ _ _ _ _ _ hR0 (oH0_16.out.rd (by omega) encTI_len) (oW0_16.out.rd (by omega) encTI_len)).mono ?_
  rintro e w17 ⟨rfl, hb⟩
  have cBW0_17 := later_cell cBW0_16 hb
  have cBG0_17 := later_cell cBG0_16 hb
  have cBH0_17 := later_cell cBH0_16 hb
  have r0_17 := Lib.hid (later_rd r0_16.out t_16.out hb)
  have oS0_17 := Lib.hid (oS0_16.out.below hb)
  have oW0_17 := Lib.hid (oW0_16.out.below hb)
  have oX0_17 := Lib.hid (oX0_16.out.below hb)
  have oG0_17 := Lib.hid (oG0_16.out.below hb)
  have oT0_7_17 := Lib.hid (oT0_7_16.out.below hb)
  have oY0_17 := Lib.hid (oY0_16.out.below hb)
  have oH0_17 := Lib.hid (oH0_16.out.below hb)
  have t_17 := Lib.hid (later_below t_16.out hb)
  have z_17 := hb.size
  simp only [World.size_alloc] at z_17
  clear hb cBW0_16 cBG0_16 cBH0_16 r0_16 oS0_16 oW0_16 oX0_16 oG0_16 oT0_7_16 oY0_16 oH0_16 t_16
  go_wp2_with fail
  have hrm := oG0_17.out.rdm (by omega) encTI_len
  refine (heldTape_any AG0 kG0 1 _ _ _ hR0 (by omega) (Nat.le_refl _) hrm).mono ?_
  rintro e w18 ⟨rfl, hb⟩
  clear hrm
  have cBW0_18 := later_cell cBW0_17 hb
  have cBG0_18 := later_cell cBG0_17 hb
  have cBH0_18 := later_cell cBH0_17 hb
  have r0_18 := Lib.hid (later_rd r0_17.out t_17.out hb)
  have oS0_18 := Lib.hid (oS0_17.out.below hb)
  have oW0_18 := Lib.hid (oW0_17.out.below hb)
  have oX0_18 := Lib.hid (oX0_17.out.below hb)
  have oG0_18 := Lib.hid (oG0_17.out.below hb)
  have oT0_7_18 := Lib.hid (oT0_7_17.out.below hb)
  have oY0_18 := Lib.hid (oY0_17.out.below hb)
  have oH0_18 := Lib.hid (oH0_17.out.below hb)
  have t_18 := Lib.hid (later_below t_17.out hb)
  have z_18 := hb.size
  clear hb cBW0_17 cBG0_17 cBH0_17 r0_17 oS0_17 oW0_17 oX0_17 oG0_17 oT0_7_17 oY0_17 oH0_17 t_17
  go_wp2
  go_ret
  exact ⟨rfl, t_18.out⟩

theorem el_I {H : Type} {enc : TypeId × Value → H} {w : World} {base : Nat} {spare : Nat → Bool} {held : Bool} (n : Nat) (cs : List Value) (x : DataW H × List MemPlace) (h : DataW.trod enc Try.prog w base spare held n 3 cs = some x) : ∃ y, cs = encI y := by
  obtain ⟨y, rfl, _⟩ := DataW.trod_int Try.underlying3 h
  exact ⟨y, rfl⟩

set_option maxRecDepth 100000 in
theorem lawNewTape_lifted (os : Os) (started : os.Started) (H : Type) (enc : TypeId × Value → H) :
    ReturnsInHanded {} Try.checked os 4 .any (Rows.fnExactNewTapeSpec.pre6 enc Try.prog Try.f4 Rows.fnExactNewTapeRow.domain false) (Rows.fnExactNewTapeSpec.post enc Try.prog Try.f4 false true false false) := by
  refine returnsInHanded_of_change (C := Try.checked) Try.own started (by kernel_rfl) Try.func4
    (ChangeSpec.witness6 (enc := enc) (C := Try.checked) false ⟨#[], #[.slice none 0 0], []⟩ 8 (by kernel_rfl) (by kernel_rfl) (by kernel_rfl) (by kernel_rfl)) ?_
  intro W base args ds gs before hval0 hW hcnd _
  have hval : ∀ (j : Nat) t v, Try.f4.params[j]? = some t → args[j]? = some v → Value.okWide Try.prog W .any base t v := hval0
  have hW' := hW
  obtain ⟨p, q, hA0, hV, rfl, hfz, hnd⟩ := hW
  have hA : DataW.TrodAll enc Try.prog W 0 (fun _ => true) true Try.f4.params.toList args.toList ds p := hA0
  rw [Try.params4] at hA hval
  obtain ⟨v0, d0, hargs, rfl, a0⟩ := trodAll_one hA
  obtain ⟨rfl, rfl⟩ := trodVars_none hV
  subst hargs
  have b0 := a0
  obtain ⟨fu0, hf0⟩ := a0
  obtain ⟨ad0, ln0, cp0, rfl⟩ := okWide_slice Try.underlying33 (hval 0 33 v0 rfl rfl)
  obtain ⟨A0, c0, xs, he0, hm0, hr0⟩ := open_list encI 1 (by omega) Try.underlying33 (by kernel_rfl) el_I hf0
  simp only [Value.cells, List.cons.injEq, and_true] at he0; rw [he0] at hW' b0 ⊢; clear he0
  clear hA0 hval0
  simp only [List.append_nil] at hW'
  refine (lawNewTape_any A0 c0 xs W hm0 hr0).mono fun e W' ⟨he, hw⟩ => ?_
  subst he
  exact ⟨_, rfl, post_of_below (pa := p) (pv := []) hW' (fun _ _ _ => trodAll_mk1 (shut_bool Try.underlying4 true)) (fun sp hsp => trodAll_mk1 (stays Try.laidOut (by kernel_rfl) (of_decide_eq_true (by kernel_rfl)) b0 hw (fun x hx => hW'.lt x (by simp [hx])) (fun x hx => hsp x (by simp [hx])))) (fun _ _ => rfl) (by simp) hw (ok_one (by kernel_rfl) rfl (okWide_bool_mk Try.underlying4 true))⟩
theorem lawNewTape_holds : Rows.FnExactNewTapeSaid :=
  OpenClaim.holds_of_wide 4 Try.f4 rfl rfl rfl rfl rfl rfl rfl ⟨rfl, rfl, rfl, rfl, rfl⟩ rfl rfl rfl rfl rfl (by kernel_rfl) Try.func4 (by kernel_rfl)
    (of_decide_eq_true (by kernel_rfl)) (by unfold Func.isWrapper; first | (rw [if_pos (by decide +kernel)]; kernel_rfl) | (rw [if_neg (by decide +kernel)]; exact ⟨rfl, rfl⟩))
    (fun os started H enc _ => lawNewTape_lifted os started H enc)

end Go.Proofs.Ytobfjpopicndnaa
