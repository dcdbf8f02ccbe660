/- FnExactTapeRuns returns true: a concrete walk. Printed by gen_nsy.py. -/
import Derived.Test.YtjeffognhcbiaaaNsR
namespace Go.Proofs.Ytjeffognhcbiaaa
open Go Go.RowKit
set_option maxRecDepth 100000 in
set_option maxHeartbeats 8000000 in
theorem lawTr_T (W : World) (A : Option Addr) (c : Nat) (t : List Itm) (L : List (List Int)) (gi : GI (fun b => b < W.heap.size) W) (hrt : RepI (fun b => b < W.heap.size) W (.sl (t.map zK)) (.slice A t.length c)) (hM2 : wT t) (hB2 : t.length ≤ 1048576)
    (hsz2 : 0 ≤ szT t 1048576) (hS : GivesS t L true) (hI : GivesR t L true) (hl : L.length ≤ 1000000) (hfl : L.flatten.length ≤ 1000000) (hbl : ∀ o ∈ L, o.length ≤ 1000000) :
    Calls Try.prog 3 #[.agg #[.slice A t.length c]] W fun e w' => e = .returned (.bool true) ∧ Below W.heap.size W w' := by
  have hl4 : L.length ≤ 4000000 := by omega
  have HBL : Hid (∀ o ∈ L, o.length ≤ 4000000) := Lib.hid fun o ho => by have := hbl o ho; omega
  have HS := Lib.hid hS
  have HI := Lib.hid hI
  have HM2 := Lib.hid hM2
  have GI0 := Lib.hid gi
  obtain ⟨s2, hs2⟩ : ∃ s2, Hid (szT t 1048576 = s2) := ⟨_, Lib.hid rfl⟩
  have hs20 : 0 ≤ s2 := by rw [← hs2.out]; exact hsz2
  have hb0 : Below W.heap.size W (W.alloc (.cells #[.slice A t.length c] 24)) := below1 W _
  have F_1 := Lib.hid (⟨hb0, by simp, by go_simp, hrt.mono (fun _ h => h) (fun b hb => hb0.block b hb)⟩ : AgR W A c t (W.alloc (.cells #[.slice A t.length c] 24)))
  have cF_1 := F_1.out.bx
  clear hS hI hM2 gi hrt hsz2 hb0 hbl
  go_enter Try.func3, Try.ntmps3
  go_wp2_with fail
  refine (szTape_call HM2.out (by omega) (by omega) F_1.out.nowt (F_1.out.gi GI0.out)).mono ?_
  rintro e w2 ⟨rfl, hb⟩
  rw [hs2.out]
  have F_2 := Lib.hid (F_1.out.below hb)
  have cF_2 := F_2.out.bx
  have z2 := hb.size
  try simp only [World.size_alloc] at z2
  clear hb F_1 cF_1
  have l1 := F_2.out.lt
  go_wp2_with fail
  refine (yW hB2 F_2.out.nowt (F_2.out.gi GI0.out)).mono ?_
  rintro e w3 ⟨a1, k1, rfl, cc, hb⟩
  have F_3 := Lib.hid (F_2.out.below hb)
  have cF_3 := F_3.out.bx
  have z3 := hb.size
  try simp only [World.size_alloc] at z3
  clear hb F_2 cF_2
  try simp only [World.size_alloc] at cc
  have T1_3 := Lib.hid (cc)
  clear cc
  go_wp2_with fail
  refine (HS.out _ _ _ (T1_3.out.rep (by omega)) (F_3.out.gi GI0.out)).mono ?_
  rintro e w4 ⟨uw, rfl, cc, hb⟩
  have F_4 := Lib.hid (F_3.out.below hb)
  have T1_4 := Lib.hid (T1_3.out.below (by omega) hb)
  have cF_4 := F_4.out.bx
  have z4 := hb.size
  try simp only [World.size_alloc] at z4
  clear hb F_3 T1_3 cF_3
  try simp only [World.size_alloc] at cc
  have GW_4 := Lib.hid (cc)
  clear cc
  clear T1_4
  go_wp2_with fail
  refine (yW hB2 F_4.out.nowt (F_4.out.gi GI0.out)).mono ?_
  rintro e w5 ⟨a0, k0, rfl, cc, hb⟩
  have F_5 := Lib.hid (F_4.out.below hb)
  have GW_5 := Lib.hid (GW_4.out.below (by omega) hb)
  have cF_5 := F_5.out.bx
  have z5 := hb.size
  try simp only [World.size_alloc] at z5
  clear hb F_4 GW_4 cF_4
  try simp only [World.size_alloc] at cc
  have T0_5 := Lib.hid (cc)
  clear cc
  have hb : Below w5.heap.size w5 (w5.alloc (.cells #[.slice a0 t.length k0] 31)) := below1 w5 _
  have X1_6 : (w5.alloc (.cells #[.slice a0 t.length k0] 31)).cell? ⟨w5.heap.size, 0, none⟩ = some (.slice a0 t.length k0) := by go_simp
  have q6 : (w5.alloc (.cells #[.slice a0 t.length k0] 31)).heap.size = w5.heap.size + 1 := by simp
  have F_6 := Lib.hid (F_5.out.below hb)
  have GW_6 := Lib.hid (GW_5.out.below (by omega) hb)
  have T0_6 := Lib.hid (T0_5.out.below (by omega) hb)
  have cF_6 := F_6.out.bx
  have z6 := hb.size
  try simp only [World.size_alloc] at z6
  clear hb F_5 GW_5 T0_5 cF_5
  go_wp2_with fail
  refine (HI.out _ _ _ (T0_6.out.rep (by omega)) (F_6.out.gi GI0.out)).mono ?_
  rintro e w7 ⟨ug, rfl, cc, hb⟩
  have F_7 := Lib.hid (F_6.out.below hb)
  have GW_7 := Lib.hid (GW_6.out.below (by omega) hb)
  have T0_7 := Lib.hid (T0_6.out.below (by omega) hb)
  have X1_7 := (hb.cell (p := ⟨w5.heap.size, 0, none⟩) (by show w5.heap.size < _; omega)).trans X1_6
  have cF_7 := F_7.out.bx
  have z7 := hb.size
  try simp only [World.size_alloc] at z7
  clear hb F_6 GW_6 T0_6 X1_6 cF_6
  try simp only [World.size_alloc] at cc
  have GG_7 := Lib.hid (cc)
  clear cc
  go_wp2_with fail
  refine (x9 GG_7.out GW_7.out hl4 HBL.out (by omega) (by omega) (F_7.out.gi GI0.out)).mono ?_
  rintro e w8 ⟨rfl, hb⟩
  have F_8 := Lib.hid (F_7.out.below hb)
  have GW_8 := Lib.hid (GW_7.out.below (by omega) hb)
  have T0_8 := Lib.hid (T0_7.out.below (by omega) hb)
  have X1_8 := (hb.cell (p := ⟨w5.heap.size, 0, none⟩) (by show w5.heap.size < _; omega)).trans X1_7
  have GG_8 := Lib.hid (GG_7.out.below hb)
  have cF_8 := F_8.out.bx
  have z8 := hb.size
  try simp only [World.size_alloc] at z8
  clear hb F_7 GW_7 T0_7 X1_7 GG_7 cF_7
  go_wp2_with fail
  refine wp_region_in 4 [(0, false), (1, false), (2, true), (3, true)] (fun w1 w' => Below w1.heap.size w1 w') (by kernel_rfl) (by kernel_rfl) (fun _ _ d _ _ h => by cases d <;> exact h) (fun w9 hs => ⟨Below.refl _ _, ?_⟩)
  have hb := hs.below w8.heap.size
  clear hs
  have F_9 := Lib.hid (F_8.out.below hb)
  have GW_9 := Lib.hid (GW_8.out.below (by omega) hb)
  have T0_9 := Lib.hid (T0_8.out.below (by omega) hb)
  have X1_9 := (hb.cell (p := ⟨w5.heap.size, 0, none⟩) (by show w5.heap.size < _; omega)).trans X1_8
  have GG_9 := Lib.hid (GG_8.out.below hb)
  have cF_9 := F_9.out.bx
  have z9 := hb.size
  try simp only [World.size_alloc] at z9
  clear hb F_8 GW_8 T0_8 X1_8 GG_8 cF_8
  have H1 := held_below X1_9
  have H2 := held_below cF_9
  (refine zS rfl ?_; go_big_quiet_step (rfl); refine wpQuiet_nil ?_)
  (refine zS rfl ?_; go_big_quiet_step (rfl); refine wpQuiet_nil ?_)
  clear H1 H2
  refine xC rfl ?_
  go_wp2_with fail
  refine (yW hB2 F_9.out.nowt (F_9.out.gi GI0.out)).mono ?_
  rintro e w10 ⟨a2, k2, rfl, cc, hb⟩
  have hbR := Lib.hid hb
  have F_10 := Lib.hid (F_9.out.below hb)
  have GW_10 := Lib.hid (GW_9.out.below (by omega) hb)
  have T0_10 := Lib.hid (T0_9.out.below (by omega) hb)
  have X1_10 := (hb.cell (p := ⟨w5.heap.size, 0, none⟩) (by show w5.heap.size < _; omega)).trans X1_9
  have GG_10 := Lib.hid (GG_9.out.below hb)
  have cF_10 := F_10.out.bx
  have z10 := hb.size
  try simp only [World.size_alloc] at z10
  clear hb F_9 GW_9 T0_9 X1_9 GG_9 cF_9
  try simp only [World.size_alloc] at cc
  have T2_10 := Lib.hid (cc)
  clear cc
  go_wp2_with fail
  refine ⟨hbR.out, ?_⟩
  refine xC rfl ?_
  go_wp2_with fail
  refine (eqTape_call (by omega) (T0_10.out.rep (by omega)) (T2_10.out.rep (by omega)) (F_10.out.gi GI0.out)).mono ?_
  rintro e w11 ⟨rfl, hb⟩
  have hbR := Lib.hid (hbR.out.trans (hb.mono hbR.out.size))
  have F_11 := Lib.hid (F_10.out.below hb)
  have GW_11 := Lib.hid (GW_10.out.below (by omega) hb)
  have T0_11 := Lib.hid (T0_10.out.below (by omega) hb)
  have X1_11 := (hb.cell (p := ⟨w5.heap.size, 0, none⟩) (by show w5.heap.size < _; omega)).trans X1_10
  have GG_11 := Lib.hid (GG_10.out.below hb)
  have T2_11 := Lib.hid (T2_10.out.below (by omega) hb)
  have cF_11 := F_11.out.bx
  have z11 := hb.size
  try simp only [World.size_alloc] at z11
  clear hb F_10 GW_10 T0_10 X1_10 GG_10 T2_10 cF_10
  go_wp2_with fail
  refine ⟨hbR.out, ?_⟩
  clear hbR
  (refine wpH_nil ?_; simp only [List.drop_succ_cons, List.drop_zero])
  clear T2_11
  go_wp2_with fail
  refine (markTape_call (k := 1) T0_11.out (by omega) (by omega) (F_11.out.glo GI0.out (by omega)) (by omega)).mono ?_
  rintro e w12 ⟨rfl, hf⟩
  clear T0_11
  have F_12 := Lib.hid (F_11.out.fr hf (by omega))
  have GW_12 := Lib.hid (GW_11.out.fr (by omega) hf (by omega))
  have X1_12 := (hf.cell (p := ⟨w5.heap.size, 0, none⟩) (by show w5.heap.size < _; omega) (by show w5.heap.size < _ ∨ _ ≤ w5.heap.size; omega)).trans X1_11
  have GG_12 := Lib.hid (GG_11.out.fr hf (by omega))
  have cF_12 := F_12.out.bx
  have z12 := hf.size
  try simp only [World.size_alloc] at z12
  clear hf F_11 GW_11 X1_11 GG_11 cF_11
  have hq2 : ¬ ((1 + 2 * t.length : Nat) : Int) < 0 := by omega
  go_wp2_with fail
  refine (x9 GG_12.out GW_12.out hl4 HBL.out (by omega) (by omega) (F_12.out.gi GI0.out)).mono ?_
  rintro e w13 ⟨rfl, hb⟩
  have F_13 := Lib.hid (F_12.out.below hb)
  have GW_13 := Lib.hid (GW_12.out.below (by omega) hb)
  have X1_13 := (hb.cell (p := ⟨w5.heap.size, 0, none⟩) (by show w5.heap.size < _; omega)).trans X1_12
  have GG_13 := Lib.hid (GG_12.out.below hb)
  have cF_13 := F_13.out.bx
  have z13 := hb.size
  try simp only [World.size_alloc] at z13
  clear hb F_12 GW_12 X1_12 GG_12 cF_12
  go_wp2_with fail
  refine (markGotN (k0 := 1) GG_13.out (by omega) (by omega)).mono ?_
  rintro e w14 ⟨rfl, cc, hf⟩
  clear GG_13
  have F_14 := Lib.hid (F_13.out.fr hf (by omega))
  have GW_14 := Lib.hid (GW_13.out.fr (by omega) hf (by omega))
  have X1_14 := (hf.cell (p := ⟨w5.heap.size, 0, none⟩) (by show w5.heap.size < _; omega) (by show w5.heap.size < _ ∨ _ ≤ w5.heap.size; omega)).trans X1_13
  have cF_14 := F_14.out.bx
  have z14 := hf.size
  try simp only [World.size_alloc] at z14
  clear hf F_13 GW_13 X1_13 cF_13
  try simp only [World.size_alloc] at cc
  have GM_14 := Lib.hid (cc)
  clear cc
  go_wp2_with fail
  refine (heldN_call (k := 1) GM_14.out (by omega) (by omega) (by omega) (F_14.out.gi GI0.out)).mono ?_
  rintro e w15 ⟨rfl, hb⟩
  have F_15 := Lib.hid (F_14.out.below hb)
  have GW_15 := Lib.hid (GW_14.out.below (by omega) hb)
  have X1_15 := (hb.cell (p := ⟨w5.heap.size, 0, none⟩) (by show w5.heap.size < _; omega)).trans X1_14
  have GM_15 := Lib.hid (GM_14.out.below hb)
  have cF_15 := F_15.out.bx
  have z15 := hb.size
  try simp only [World.size_alloc] at z15
  clear hb F_14 GW_14 X1_14 GM_14 cF_14
  have hm : ¬ ((1 + L.flatten.length : Nat) : Int) < 0 := by omega
  go_wp2_with fail
  refine (yW hB2 F_15.out.nowt (F_15.out.gi GI0.out)).mono ?_
  rintro e w16 ⟨a3, k3, rfl, cc, hb⟩
  have F_16 := Lib.hid (F_15.out.below hb)
  have GW_16 := Lib.hid (GW_15.out.below (by omega) hb)
  have X1_16 := (hb.cell (p := ⟨w5.heap.size, 0, none⟩) (by show w5.heap.size < _; omega)).trans X1_15
  have GM_16 := Lib.hid (GM_15.out.below hb)
  have cF_16 := F_16.out.bx
  have z16 := hb.size
  try simp only [World.size_alloc] at z16
  clear hb F_15 GW_15 X1_15 GM_15 cF_15
  try simp only [World.size_alloc] at cc
  have T3_16 := Lib.hid (cc)
  clear cc
  go_wp2_with fail
  refine (HI.out _ _ _ (T3_16.out.rep (by omega)) (F_16.out.gi GI0.out)).mono ?_
  rintro e w17 ⟨uh, rfl, cc, hb⟩
  have F_17 := Lib.hid (F_16.out.below hb)
  have GW_17 := Lib.hid (GW_16.out.below (by omega) hb)
  have X1_17 := (hb.cell (p := ⟨w5.heap.size, 0, none⟩) (by show w5.heap.size < _; omega)).trans X1_16
  have GM_17 := Lib.hid (GM_16.out.below hb)
  have T3_17 := Lib.hid (T3_16.out.below (by omega) hb)
  have cF_17 := F_17.out.bx
  have z17 := hb.size
  try simp only [World.size_alloc] at z17
  clear hb F_16 GW_16 X1_16 GM_16 T3_16 cF_16
  try simp only [World.size_alloc] at cc
  have GH_17 := Lib.hid (cc)
  clear cc
  clear T3_17
  go_wp2_with fail
  refine (x9 GH_17.out GW_17.out hl4 HBL.out (by omega) (by omega) (F_17.out.gi GI0.out)).mono ?_
  rintro e w18 ⟨rfl, hb⟩
  have F_18 := Lib.hid (F_17.out.below hb)
  have GW_18 := Lib.hid (GW_17.out.below (by omega) hb)
  have X1_18 := (hb.cell (p := ⟨w5.heap.size, 0, none⟩) (by show w5.heap.size < _; omega)).trans X1_17
  have GM_18 := Lib.hid (GM_17.out.below hb)
  have GH_18 := Lib.hid (GH_17.out.below hb)
  have cF_18 := F_18.out.bx
  have z18 := hb.size
  try simp only [World.size_alloc] at z18
  clear hb F_17 GW_17 X1_17 GM_17 GH_17 cF_17
  go_wp2_with fail
  refine (heldN_call (k := 1) GM_18.out (by omega) (by omega) (by omega) (F_18.out.gi GI0.out)).mono ?_
  rintro e w19 ⟨rfl, hb⟩
  have F_19 := Lib.hid (F_18.out.below hb)
  have GW_19 := Lib.hid (GW_18.out.below (by omega) hb)
  have X1_19 := (hb.cell (p := ⟨w5.heap.size, 0, none⟩) (by show w5.heap.size < _; omega)).trans X1_18
  have GM_19 := Lib.hid (GM_18.out.below hb)
  have GH_19 := Lib.hid (GH_18.out.below hb)
  have cF_19 := F_19.out.bx
  have z19 := hb.size
  try simp only [World.size_alloc] at z19
  clear hb F_18 GW_18 X1_18 GM_18 GH_18 cF_18
  go_wp2
  go_ret
  exact ⟨rfl, F_19.out.bt⟩
set_option maxRecDepth 100000 in
set_option maxHeartbeats 8000000 in
theorem lawTr_F (W : World) (A : Option Addr) (c : Nat) (t : List Itm) (L : List (List Int)) (gi : GI (fun b => b < W.heap.size) W) (hrt : RepI (fun b => b < W.heap.size) W (.sl (t.map zK)) (.slice A t.length c)) (hM2 : wT t) (hB2 : t.length ≤ 1048576)
    (hsz2 : 0 ≤ szT t 1048576) (hS : GivesS t L false) (hI : GivesR t L false) (hl : L.length ≤ 1000000) (hfl : L.flatten.length ≤ 1000000) (hbl : ∀ o ∈ L, o.length ≤ 1000000) :
    Calls Try.prog 3 #[.agg #[.slice A t.length c]] W fun e w' => e = .returned (.bool true) ∧ Below W.heap.size W w' := by
  have hl4 : L.length ≤ 4000000 := by omega
  have HBL : Hid (∀ o ∈ L, o.length ≤ 4000000) := Lib.hid fun o ho => by have := hbl o ho; omega
  have HS := Lib.hid hS
  have HI := Lib.hid hI
  have HM2 := Lib.hid hM2
  have GI0 := Lib.hid gi
  obtain ⟨s2, hs2⟩ : ∃ s2, Hid (szT t 1048576 = s2) := ⟨_, Lib.hid rfl⟩
  have hs20 : 0 ≤ s2 := by rw [← hs2.out]; exact hsz2
  have hb0 : Below W.heap.size W (W.alloc (.cells #[.slice A t.length c] 24)) := below1 W _
  have F_1 := Lib.hid (⟨hb0, by simp, by go_simp, hrt.mono (fun _ h => h) (fun b hb => hb0.block b hb)⟩ : AgR W A c t (W.alloc (.cells #[.slice A t.length c] 24)))
  have cF_1 := F_1.out.bx
  clear hS hI hM2 gi hrt hsz2 hb0 hbl
  go_enter Try.func3, Try.ntmps3
  go_wp2_with fail
  refine (szTape_call HM2.out (by omega) (by omega) F_1.out.nowt (F_1.out.gi GI0.out)).mono ?_
  rintro e w2 ⟨rfl, hb⟩
  rw [hs2.out]
  have F_2 := Lib.hid (F_1.out.below hb)
  have cF_2 := F_2.out.bx
  have z2 := hb.size
  try simp only [World.size_alloc] at z2
  clear hb F_1 cF_1
  have l1 := F_2.out.lt
  go_wp2_with fail
  refine (yW hB2 F_2.out.nowt (F_2.out.gi GI0.out)).mono ?_
  rintro e w3 ⟨a1, k1, rfl, cc, hb⟩
  have F_3 := Lib.hid (F_2.out.below hb)
  have cF_3 := F_3.out.bx
  have z3 := hb.size
  try simp only [World.size_alloc] at z3
  clear hb F_2 cF_2
  try simp only [World.size_alloc] at cc
  have T1_3 := Lib.hid (cc)
  clear cc
  go_wp2_with fail
  refine (HS.out _ _ _ (T1_3.out.rep (by omega)) (F_3.out.gi GI0.out)).mono ?_
  rintro e w4 ⟨uw, rfl, cc, hb⟩
  have F_4 := Lib.hid (F_3.out.below hb)
  have T1_4 := Lib.hid (T1_3.out.below (by omega) hb)
  have cF_4 := F_4.out.bx
  have z4 := hb.size
  try simp only [World.size_alloc] at z4
  clear hb F_3 T1_3 cF_3
  try simp only [World.size_alloc] at cc
  have GW_4 := Lib.hid (cc)
  clear cc
  clear T1_4
  go_wp2_with fail
  refine (yW hB2 F_4.out.nowt (F_4.out.gi GI0.out)).mono ?_
  rintro e w5 ⟨a0, k0, rfl, cc, hb⟩
  have F_5 := Lib.hid (F_4.out.below hb)
  have GW_5 := Lib.hid (GW_4.out.below (by omega) hb)
  have cF_5 := F_5.out.bx
  have z5 := hb.size
  try simp only [World.size_alloc] at z5
  clear hb F_4 GW_4 cF_4
  try simp only [World.size_alloc] at cc
  have T0_5 := Lib.hid (cc)
  clear cc
  have hb : Below w5.heap.size w5 (w5.alloc (.cells #[.slice a0 t.length k0] 31)) := below1 w5 _
  have X1_6 : (w5.alloc (.cells #[.slice a0 t.length k0] 31)).cell? ⟨w5.heap.size, 0, none⟩ = some (.slice a0 t.length k0) := by go_simp
  have q6 : (w5.alloc (.cells #[.slice a0 t.length k0] 31)).heap.size = w5.heap.size + 1 := by simp
  have F_6 := Lib.hid (F_5.out.below hb)
  have GW_6 := Lib.hid (GW_5.out.below (by omega) hb)
  have T0_6 := Lib.hid (T0_5.out.below (by omega) hb)
  have cF_6 := F_6.out.bx
  have z6 := hb.size
  try simp only [World.size_alloc] at z6
  clear hb F_5 GW_5 T0_5 cF_5
  go_wp2_with fail
  refine (HI.out _ _ _ (T0_6.out.rep (by omega)) (F_6.out.gi GI0.out)).mono ?_
  rintro e w7 ⟨ug, rfl, cc, hb⟩
  have F_7 := Lib.hid (F_6.out.below hb)
  have GW_7 := Lib.hid (GW_6.out.below (by omega) hb)
  have T0_7 := Lib.hid (T0_6.out.below (by omega) hb)
  have X1_7 := (hb.cell (p := ⟨w5.heap.size, 0, none⟩) (by show w5.heap.size < _; omega)).trans X1_6
  have cF_7 := F_7.out.bx
  have z7 := hb.size
  try simp only [World.size_alloc] at z7
  clear hb F_6 GW_6 T0_6 X1_6 cF_6
  try simp only [World.size_alloc] at cc
  have GG_7 := Lib.hid (cc)
  clear cc
  go_wp2_with fail
  refine (x9 GG_7.out GW_7.out hl4 HBL.out (by omega) (by omega) (F_7.out.gi GI0.out)).mono ?_
  rintro e w8 ⟨rfl, hb⟩
  have F_8 := Lib.hid (F_7.out.below hb)
  have GW_8 := Lib.hid (GW_7.out.below (by omega) hb)
  have T0_8 := Lib.hid (T0_7.out.below (by omega) hb)
  have X1_8 := (hb.cell (p := ⟨w5.heap.size, 0, none⟩) (by show w5.heap.size < _; omega)).trans X1_7
  have GG_8 := Lib.hid (GG_7.out.below hb)
  have cF_8 := F_8.out.bx
  have z8 := hb.size
  try simp only [World.size_alloc] at z8
  clear hb F_7 GW_7 T0_7 X1_7 GG_7 cF_7
  go_wp2_with fail
  refine wp_region_in 4 [(0, false), (1, false), (2, true), (3, true)] (fun w1 w' => Below w1.heap.size w1 w') (by kernel_rfl) (by kernel_rfl) (fun _ _ d _ _ h => by cases d <;> exact h) (fun w9 hs => ⟨Below.refl _ _, ?_⟩)
  have hb := hs.below w8.heap.size
  clear hs
  have F_9 := Lib.hid (F_8.out.below hb)
  have GW_9 := Lib.hid (GW_8.out.below (by omega) hb)
  have T0_9 := Lib.hid (T0_8.out.below (by omega) hb)
  have X1_9 := (hb.cell (p := ⟨w5.heap.size, 0, none⟩) (by show w5.heap.size < _; omega)).trans X1_8
  have GG_9 := Lib.hid (GG_8.out.below hb)
  have cF_9 := F_9.out.bx
  have z9 := hb.size
  try simp only [World.size_alloc] at z9
  clear hb F_8 GW_8 T0_8 X1_8 GG_8 cF_8
  have H1 := held_below X1_9
  have H2 := held_below cF_9
  (refine zS rfl ?_; go_big_quiet_step (rfl); refine wpQuiet_nil ?_)
  (refine zS rfl ?_; go_big_quiet_step (rfl); refine wpQuiet_nil ?_)
  clear H1 H2
  refine xC rfl ?_
  go_wp2_with fail
  refine (yW hB2 F_9.out.nowt (F_9.out.gi GI0.out)).mono ?_
  rintro e w10 ⟨a2, k2, rfl, cc, hb⟩
  have hbR := Lib.hid hb
  have F_10 := Lib.hid (F_9.out.below hb)
  have GW_10 := Lib.hid (GW_9.out.below (by omega) hb)
  have T0_10 := Lib.hid (T0_9.out.below (by omega) hb)
  have X1_10 := (hb.cell (p := ⟨w5.heap.size, 0, none⟩) (by show w5.heap.size < _; omega)).trans X1_9
  have GG_10 := Lib.hid (GG_9.out.below hb)
  have cF_10 := F_10.out.bx
  have z10 := hb.size
  try simp only [World.size_alloc] at z10
  clear hb F_9 GW_9 T0_9 X1_9 GG_9 cF_9
  try simp only [World.size_alloc] at cc
  have T2_10 := Lib.hid (cc)
  clear cc
  go_wp2_with fail
  refine ⟨hbR.out, ?_⟩
  refine xC rfl ?_
  go_wp2_with fail
  refine (eqTape_call (by omega) (T0_10.out.rep (by omega)) (T2_10.out.rep (by omega)) (F_10.out.gi GI0.out)).mono ?_
  rintro e w11 ⟨rfl, hb⟩
  have hbR := Lib.hid (hbR.out.trans (hb.mono hbR.out.size))
  have F_11 := Lib.hid (F_10.out.below hb)
  have GW_11 := Lib.hid (GW_10.out.below (by omega) hb)
  have T0_11 := Lib.hid (T0_10.out.below (by omega) hb)
  have X1_11 := (hb.cell (p := ⟨w5.heap.size, 0, none⟩) (by show w5.heap.size < _; omega)).trans X1_10
  have GG_11 := Lib.hid (GG_10.out.below hb)
  have T2_11 := Lib.hid (T2_10.out.below (by omega) hb)
  have cF_11 := F_11.out.bx
  have z11 := hb.size
  try simp only [World.size_alloc] at z11
  clear hb F_10 GW_10 T0_10 X1_10 GG_10 T2_10 cF_10
  go_wp2_with fail
  refine ⟨hbR.out, ?_⟩
  clear hbR
  (refine wpH_nil ?_; simp only [List.drop_succ_cons, List.drop_zero])
  clear T2_11
  go_wp2_with fail
  refine (markTape_call (k := 1) T0_11.out (by omega) (by omega) (F_11.out.glo GI0.out (by omega)) (by omega)).mono ?_
  rintro e w12 ⟨rfl, hf⟩
  clear T0_11
  have F_12 := Lib.hid (F_11.out.fr hf (by omega))
  have GW_12 := Lib.hid (GW_11.out.fr (by omega) hf (by omega))
  have X1_12 := (hf.cell (p := ⟨w5.heap.size, 0, none⟩) (by show w5.heap.size < _; omega) (by show w5.heap.size < _ ∨ _ ≤ w5.heap.size; omega)).trans X1_11
  have GG_12 := Lib.hid (GG_11.out.fr hf (by omega))
  have cF_12 := F_12.out.bx
  have z12 := hf.size
  try simp only [World.size_alloc] at z12
  clear hf F_11 GW_11 X1_11 GG_11 cF_11
  have hq2 : ¬ ((1 + 2 * t.length : Nat) : Int) < 0 := by omega
  go_wp2_with fail
  refine (x9 GG_12.out GW_12.out hl4 HBL.out (by omega) (by omega) (F_12.out.gi GI0.out)).mono ?_
  rintro e w13 ⟨rfl, hb⟩
  have F_13 := Lib.hid (F_12.out.below hb)
  have GW_13 := Lib.hid (GW_12.out.below (by omega) hb)
  have X1_13 := (hb.cell (p := ⟨w5.heap.size, 0, none⟩) (by show w5.heap.size < _; omega)).trans X1_12
  have GG_13 := Lib.hid (GG_12.out.below hb)
  have cF_13 := F_13.out.bx
  have z13 := hb.size
  try simp only [World.size_alloc] at z13
  clear hb F_12 GW_12 X1_12 GG_12 cF_12
  go_wp2_with fail
  refine (markGotN (k0 := 1) GG_13.out (by omega) (by omega)).mono ?_
  rintro e w14 ⟨rfl, cc, hf⟩
  clear GG_13
  have F_14 := Lib.hid (F_13.out.fr hf (by omega))
  have GW_14 := Lib.hid (GW_13.out.fr (by omega) hf (by omega))
  have X1_14 := (hf.cell (p := ⟨w5.heap.size, 0, none⟩) (by show w5.heap.size < _; omega) (by show w5.heap.size < _ ∨ _ ≤ w5.heap.size; omega)).trans X1_13
  have cF_14 := F_14.out.bx
  have z14 := hf.size
  try simp only [World.size_alloc] at z14
  clear hf F_13 GW_13 X1_13 cF_13
  try simp only [World.size_alloc] at cc
  have GM_14 := Lib.hid (cc)
  clear cc
  go_wp2_with fail
  refine (heldN_call (k := 1) GM_14.out (by omega) (by omega) (by omega) (F_14.out.gi GI0.out)).mono ?_
  rintro e w15 ⟨rfl, hb⟩
  have F_15 := Lib.hid (F_14.out.below hb)
  have GW_15 := Lib.hid (GW_14.out.below (by omega) hb)
  have X1_15 := (hb.cell (p := ⟨w5.heap.size, 0, none⟩) (by show w5.heap.size < _; omega)).trans X1_14
  have GM_15 := Lib.hid (GM_14.out.below hb)
  have cF_15 := F_15.out.bx
  have z15 := hb.size
  try simp only [World.size_alloc] at z15
  clear hb F_14 GW_14 X1_14 GM_14 cF_14
  have hm : ¬ ((1 + L.flatten.length : Nat) : Int) < 0 := by omega
  go_wp2_with fail
  refine (yW hB2 F_15.out.nowt (F_15.out.gi GI0.out)).mono ?_
  rintro e w16 ⟨a3, k3, rfl, cc, hb⟩
  have F_16 := Lib.hid (F_15.out.below hb)
  have GW_16 := Lib.hid (GW_15.out.below (by omega) hb)
  have X1_16 := (hb.cell (p := ⟨w5.heap.size, 0, none⟩) (by show w5.heap.size < _; omega)).trans X1_15
  have GM_16 := Lib.hid (GM_15.out.below hb)
  have cF_16 := F_16.out.bx
  have z16 := hb.size
  try simp only [World.size_alloc] at z16
  clear hb F_15 GW_15 X1_15 GM_15 cF_15
  try simp only [World.size_alloc] at cc
  have T3_16 := Lib.hid (cc)
  clear cc
  go_wp2_with fail
  refine (HI.out _ _ _ (T3_16.out.rep (by omega)) (F_16.out.gi GI0.out)).mono ?_
  rintro e w17 ⟨uh, rfl, cc, hb⟩
  have F_17 := Lib.hid (F_16.out.below hb)
  have GW_17 := Lib.hid (GW_16.out.below (by omega) hb)
  have X1_17 := (hb.cell (p := ⟨w5.heap.size, 0, none⟩) (by show w5.heap.size < _; omega)).trans X1_16
  have GM_17 := Lib.hid (GM_16.out.below hb)
  have T3_17 := Lib.hid (T3_16.out.below (by omega) hb)
  have cF_17 := F_17.out.bx
  have z17 := hb.size
  try simp only [World.size_alloc] at z17
  clear hb F_16 GW_16 X1_16 GM_16 T3_16 cF_16
  try simp only [World.size_alloc] at cc
  have GH_17 := Lib.hid (cc)
  clear cc
  clear T3_17
  go_wp2_with fail
  refine (x9 GH_17.out GW_17.out hl4 HBL.out (by omega) (by omega) (F_17.out.gi GI0.out)).mono ?_
  rintro e w18 ⟨rfl, hb⟩
  have F_18 := Lib.hid (F_17.out.below hb)
  have GW_18 := Lib.hid (GW_17.out.below (by omega) hb)
  have X1_18 := (hb.cell (p := ⟨w5.heap.size, 0, none⟩) (by show w5.heap.size < _; omega)).trans X1_17
  have GM_18 := Lib.hid (GM_17.out.below hb)
  have GH_18 := Lib.hid (GH_17.out.below hb)
  have cF_18 := F_18.out.bx
  have z18 := hb.size
  try simp only [World.size_alloc] at z18
  clear hb F_17 GW_17 X1_17 GM_17 GH_17 cF_17
  go_wp2_with fail
  refine (heldN_call (k := 1) GM_18.out (by omega) (by omega) (by omega) (F_18.out.gi GI0.out)).mono ?_
  rintro e w19 ⟨rfl, hb⟩
  have F_19 := Lib.hid (F_18.out.below hb)
  have GW_19 := Lib.hid (GW_18.out.below (by omega) hb)
  have X1_19 := (hb.cell (p := ⟨w5.heap.size, 0, none⟩) (by show w5.heap.size < _; omega)).trans X1_18
  have GM_19 := Lib.hid (GM_18.out.below hb)
  have GH_19 := Lib.hid (GH_18.out.below hb)
  have cF_19 := F_19.out.bx
  have z19 := hb.size
  try simp only [World.size_alloc] at z19
  clear hb F_18 GW_18 X1_18 GM_18 GH_18 cF_18
  go_wp2
  go_ret
  exact ⟨rfl, F_19.out.bt⟩
set_option maxRecDepth 100000 in
theorem lawTr_big (W : World) (A : Option Addr) (c : Nat) (t : List Itm) (gi : GI (fun b => b < W.heap.size) W) (hrt : RepI (fun b => b < W.heap.size) W (.sl (t.map zK)) (.slice A t.length c)) (hM2 : wT t) (hsz2 : szT t 1048576 < 0) :
    Calls Try.prog 3 #[.agg #[.slice A t.length c]] W fun e w' => e = .returned (.bool true) ∧ Below W.heap.size W w' := by
  have HM2 := Lib.hid hM2
  have GI0 := Lib.hid gi
  obtain ⟨s2, hs2⟩ : ∃ s2, Hid (szT t 1048576 = s2) := ⟨_, Lib.hid rfl⟩
  have hs20 : s2 < 0 := by rw [← hs2.out]; exact hsz2
  have hb0 : Below W.heap.size W (W.alloc (.cells #[.slice A t.length c] 24)) := below1 W _
  have F_1 := Lib.hid (⟨hb0, by simp, by go_simp, hrt.mono (fun _ h => h) (fun b hb => hb0.block b hb)⟩ : AgR W A c t (W.alloc (.cells #[.slice A t.length c] 24)))
  have cF_1 := F_1.out.bx
  clear hM2 gi hrt hsz2 hb0
  go_enter Try.func3, Try.ntmps3
  go_wp2_with fail
  refine (szTape_call HM2.out (by omega) (by omega) F_1.out.nowt (F_1.out.gi GI0.out)).mono ?_
  rintro e w3 ⟨rfl, hb⟩
  rw [hs2.out]
  have F_3 := Lib.hid (F_1.out.below hb)
  clear hb F_1 cF_1
  go_wp2
  go_ret
  exact ⟨rfl, F_3.out.bt⟩
theorem rep_tape {w : World} {t : List Itm} {v : Value} (h : RepF (fun b => b < w.heap.size) (fun _ => none) w (.agg (yK t)) v) : ∃ A c, v = .agg #[.slice A t.length c] ∧ RepI (fun b => b < w.heap.size) w (.sl (t.map zK)) (.slice A t.length c) := by
  obtain ⟨us, rfl, h⟩ := h
  cases h with
  | cons h h2 =>
    cases h2
    cases h with
    | imm h =>
      obtain ⟨A, c, e⟩ := rep_sl h
      rw [List.length_map] at e
      subst e
      exact ⟨A, c, rfl, h⟩
theorem lawTr_run (t : List Itm) (hM2 : wT t) {w : World} (vals : List Value) (hv : All2 (RepF (fun b => b < w.heap.size) (fun _ => none) w) [.agg (yK t)] vals) (gi : GI (fun b => b < w.heap.size) w) :
    Calls Try.prog 3 vals.toArray w fun e w' => e = .returned (.bool true) ∧ Below w.heap.size w w' := by
  cases hv with
  | cons h1 hv =>
    cases hv
    obtain ⟨A, c, rfl, hrt⟩ := rep_tape h1
    by_cases hsz : szT t 1048576 < 0
    · exact lawTr_big w A c t gi hrt hM2 hsz
    have hsz' : 0 ≤ szT t 1048576 := by omega
    have hB2 := szT_ok hsz' (by omega)
    have hTB : wF t := by rw [wF]; omega
    cases h : yT t with
    | false => exact lawTr_F w A c t [] gi hrt hM2 hB2 hsz' (givesS_no hTB h) (givesR_no hTB h) (by simp) (by simp) (fun o ho => by cases ho)
    | true =>
      have h60 := (tapeOk_parts h).1
      have hlen := rsK_len t t.length
      have hmem : ∀ o ∈ runsT t, o.length ≤ t.length := fun o ho => rsP_len2 t t.length (by rw [rsK_all]; exact ho)
      rw [rsK_all] at hlen
      have hfl := flat_bd hmem
      have h3 : (runsT t).length * t.length ≤ 60 * 60 := Nat.mul_le_mul (by omega) h60
      exact lawTr_T w A c t (runsT t) gi hrt hM2 hB2 hsz' (givesS_yes hTB h) (givesR_yes hTB h) (by omega) (by omega) (fun o ho => by have := hmem o ho; omega)
end Go.Proofs.Ytjeffognhcbiaaa
