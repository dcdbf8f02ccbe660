/- FnExactTapePieces returns true: a concrete walk. Printed by gen_nst.py. -/
import Derived.Test.YtjeffognhcbiaaaGreatDoorNsQ
import Derived.Test.YtjeffognhcbiaaaGreatDoorMrC
namespace Go.Proofs.YtjeffognhcbiaaaGreatDoor
open Go Go.RowKit
set_option maxRecDepth 100000 in
set_option maxHeartbeats 8000000 in
theorem lawTp_T (W : World) (A : Option Addr) (c : Nat) (es : List Ent) (A2 : Option Addr) (c2 : Nat) (t : List Itm) (l : List Pc) (gi : GI (fun b => b < W.heap.size) W) (hr : RdE W W.heap.size A (enL es)) (hc : es.length ≤ c)
    (hrt : RepI (fun b => b < W.heap.size) W (.sl (t.map yO)) (.slice A2 t.length c2)) (hM : kN es) (hB : vV es) (hM2 : qP t) (hB2 : t.length ≤ 1048576)
    (hsz : 0 ≤ wR es 1048576) (hsz2 : 0 ≤ szT t (wR es 1048576)) (hsum : 1 + (es.map fun e => e.o.length + 1).sum ≤ 8388608)
    (hS : qT 7 es t l true) (hI : qT 10 es t l true) (hl : l.length ≤ 1000000) :
    Calls Tryz.prog 3 #[.agg #[.slice A es.length c], .agg #[.slice A2 t.length c2]] W fun e w' => e = .returned (.bool true) ∧ Below W.heap.size W w' := by
  have hl4 : l.length ≤ 4000000 := by omega
  have HS := Lib.hid hS
  have HI := Lib.hid hI
  have HB := Lib.hid hB
  have HM := Lib.hid hM
  have HM2 := Lib.hid hM2
  have GI0 := Lib.hid gi
  have HSUM := Lib.hid hsum
  obtain ⟨s, hs⟩ : ∃ s, Hid (wR es 1048576 = s) := ⟨_, Lib.hid rfl⟩
  have hs0 : 0 ≤ s := by rw [← hs.out]; exact hsz
  have hs1 : s ≤ 1048576 := by rw [← hs.out]; exact (szDi_ge (by omega)).2
  obtain ⟨s2, hs2⟩ : ∃ s2, Hid (szT t s = s2) := ⟨_, Lib.hid rfl⟩
  have hs20 : 0 ≤ s2 := by rw [← hs2.out, ← hs.out]; exact hsz2
  have hb0 : Below W.heap.size W ((W.alloc (.cells #[.slice A es.length c] 24)).alloc (.cells #[.slice A2 t.length c2] 27)) := below2 W _ _
  have F_1 := Lib.hid (⟨hb0, by simp, by go_simp, by go_simp, hr.below hb0 (Nat.le_refl _), hrt.mono (fun _ h => h) (fun b hb => hb0.block b hb)⟩ : AgT W A c es A2 c2 t ((W.alloc (.cells #[.slice A es.length c] 24)).alloc (.cells #[.slice A2 t.length c2] 27)))
  have cF_1 := F_1.out.bx
  have dF_1 := F_1.out.bx2
  clear hS hI hB hM hM2 gi hr hrt hsum hsz hsz2 hb0
  go_enter Tryz.func3, Tryz.ntmps3
  go_wp2_with fail
  refine (szDic_call HM.out (by omega) (by omega) F_1.out.now hc (F_1.out.gi GI0.out)).mono ?_
  rintro e w2 ⟨rfl, hb⟩
  rw [hs.out]
  have F_2 := Lib.hid (F_1.out.below hb)
  have cF_2 := F_2.out.bx
  have dF_2 := F_2.out.bx2
  have z2 := hb.size
  try simp only [World.size_alloc] at z2
  clear hb F_1 cF_1 dF_1
  go_wp2_with fail
  refine (szTape_call HM2.out hs0 hs1 F_2.out.nowt (F_2.out.gi GI0.out)).mono ?_
  rintro e w3 ⟨rfl, hb⟩
  rw [hs2.out]
  have F_3 := Lib.hid (F_2.out.below hb)
  have cF_3 := F_3.out.bx
  have dF_3 := F_3.out.bx2
  have z3 := hb.size
  try simp only [World.size_alloc] at z3
  clear hb F_2 cF_2 dF_2
  have l1 := F_3.out.lt
  go_wp2_with fail
  refine x8 9 [(0, false), (2, false), (1, true), (3, true), (4, true), (5, false), (6, false), (7, false), (8, false)] (fun w1 w' => Below w1.heap.size w1 w') (by kernel_rfl) (by kernel_rfl) (fun _ _ d _ _ h => by cases d <;> exact h) (fun w4 hs => ⟨Below.refl _ _, ?_⟩)
  have hb := hs.below w3.heap.size
  clear hs
  have F_4 := Lib.hid (F_3.out.below hb)
  have cF_4 := F_4.out.bx
  have dF_4 := F_4.out.bx2
  have z4 := hb.size
  try simp only [World.size_alloc] at z4
  clear hb F_3 cF_3 dF_3
  have H1 := xR cF_4
  have H2 := xR dF_4
  (refine xE rfl ?_; go_big_quiet_step (rfl); refine wpQuiet_nil ?_)
  (refine xE rfl ?_; go_big_quiet_step (rfl); refine wpQuiet_nil ?_)
  clear H1 H2
  refine xT rfl ?_
  go_wp2_with fail
  refine (wK HB.out F_4.out.now).mono ?_
  rintro e w5 ⟨g1, xs1, rfl, cc, hb⟩
  have hbR := Lib.hid hb
  have F_5 := Lib.hid (F_4.out.below hb)
  have cF_5 := F_5.out.bx
  have dF_5 := F_5.out.bx2
  have z5 := hb.size
  try simp only [World.size_alloc] at z5
  clear hb F_4 cF_4 dF_4
  try simp only [World.size_alloc] at cc
  have C1_5 := Lib.hid (cc)
  clear cc
  go_wp2_with fail
  refine ⟨hbR.out, ?_⟩
  refine xT rfl ?_
  go_wp2_with fail
  refine (wF hB2 F_5.out.nowt (F_5.out.gi GI0.out)).mono ?_
  rintro e w6 ⟨a1, k1, rfl, cc, hb⟩
  have hbR := Lib.hid (hbR.out.trans (hb.mono hbR.out.size))
  have F_6 := Lib.hid (F_5.out.below hb)
  have C1_6 := Lib.hid (C1_5.out.below hb)
  have cF_6 := F_6.out.bx
  have dF_6 := F_6.out.bx2
  have z6 := hb.size
  try simp only [World.size_alloc] at z6
  clear hb F_5 C1_5 cF_5 dF_5
  try simp only [World.size_alloc] at cc
  have T1_6 := Lib.hid (cc)
  clear cc
  go_wp2_with fail
  refine ⟨hbR.out, ?_⟩
  refine xT rfl ?_
  go_wp2_with fail
  refine (HS.out _ _ _ _ _ C1_6.out.rd (Nat.le_refl _) (T1_6.out.rep (by omega)) (F_6.out.gi GI0.out)).mono ?_
  rintro e w7 ⟨uw, rfl, cc, hb⟩
  have hbR := Lib.hid (hbR.out.trans (hb.mono hbR.out.size))
  have F_7 := Lib.hid (F_6.out.below hb)
  have C1_7 := Lib.hid (C1_6.out.below hb)
  have T1_7 := Lib.hid (T1_6.out.below (by omega) hb)
  have cF_7 := F_7.out.bx
  have dF_7 := F_7.out.bx2
  have z7 := hb.size
  try simp only [World.size_alloc] at z7
  clear hb F_6 C1_6 T1_6 cF_6 dF_6
  try simp only [World.size_alloc] at cc
  have GW_7 := Lib.hid (cc)
  clear cc
  go_wp2_with fail
  refine ⟨hbR.out, ?_⟩
  clear hbR
  (refine xE rfl ?_; go_big_quiet_step (rfl); refine wpQuiet_nil ?_)
  (refine xE rfl ?_; go_big_quiet_step (rfl); refine wpQuiet_nil ?_)
  (refine xE rfl ?_; go_big_quiet_step (rfl); refine wpQuiet_nil ?_)
  (refine xE rfl ?_; go_big_quiet_step (rfl); refine wpQuiet_nil ?_)
  (refine vK ?_; simp only [List.drop_succ_cons, List.drop_zero])
  clear C1_7 T1_7
  go_wp2_with fail
  refine (wK HB.out F_7.out.now).mono ?_
  rintro e w8 ⟨g0, xs0, rfl, cc, hb⟩
  have F_8 := Lib.hid (F_7.out.below hb)
  have GW_8 := Lib.hid (GW_7.out.below (by omega) hb)
  have cF_8 := F_8.out.bx
  have dF_8 := F_8.out.bx2
  have z8 := hb.size
  try simp only [World.size_alloc] at z8
  clear hb F_7 GW_7 cF_7 dF_7
  try simp only [World.size_alloc] at cc
  have C0_8 := Lib.hid (cc)
  clear cc
  have hb : Below w8.heap.size w8 (w8.alloc (.cells #[.slice (some ⟨g0, 0, none⟩) es.length es.length] 35)) := qU w8 _
  have X0_9 : (w8.alloc (.cells #[.slice (some ⟨g0, 0, none⟩) es.length es.length] 35)).cell? ⟨w8.heap.size, 0, none⟩ = some (.slice (some ⟨g0, 0, none⟩) es.length es.length) := by go_simp
  have q9 : (w8.alloc (.cells #[.slice (some ⟨g0, 0, none⟩) es.length es.length] 35)).heap.size = w8.heap.size + 1 := by simp
  have F_9 := Lib.hid (F_8.out.below hb)
  have GW_9 := Lib.hid (GW_8.out.below (by omega) hb)
  have C0_9 := Lib.hid (C0_8.out.below hb)
  have cF_9 := F_9.out.bx
  have dF_9 := F_9.out.bx2
  have z9 := hb.size
  try simp only [World.size_alloc] at z9
  clear hb F_8 GW_8 C0_8 cF_8 dF_8
  go_wp2_with fail
  refine (wF hB2 F_9.out.nowt (F_9.out.gi GI0.out)).mono ?_
  rintro e w10 ⟨a0, k0, rfl, cc, hb⟩
  have F_10 := Lib.hid (F_9.out.below hb)
  have GW_10 := Lib.hid (GW_9.out.below (by omega) hb)
  have C0_10 := Lib.hid (C0_9.out.below hb)
  have X0_10 := (hb.cell (p := ⟨w8.heap.size, 0, none⟩) (by show w8.heap.size < _; omega)).trans X0_9
  have cF_10 := F_10.out.bx
  have dF_10 := F_10.out.bx2
  have z10 := hb.size
  try simp only [World.size_alloc] at z10
  clear hb F_9 GW_9 C0_9 X0_9 cF_9 dF_9
  try simp only [World.size_alloc] at cc
  have T0_10 := Lib.hid (cc)
  clear cc
  have hb : Below w10.heap.size w10 (w10.alloc (.cells #[.slice a0 t.length k0] 39)) := qU w10 _
  have X1_11 : (w10.alloc (.cells #[.slice a0 t.length k0] 39)).cell? ⟨w10.heap.size, 0, none⟩ = some (.slice a0 t.length k0) := by go_simp
  have q11 : (w10.alloc (.cells #[.slice a0 t.length k0] 39)).heap.size = w10.heap.size + 1 := by simp
  have F_11 := Lib.hid (F_10.out.below hb)
  have GW_11 := Lib.hid (GW_10.out.below (by omega) hb)
  have C0_11 := Lib.hid (C0_10.out.below hb)
  have X0_11 := (hb.cell (p := ⟨w8.heap.size, 0, none⟩) (by show w8.heap.size < _; omega)).trans X0_10
  have T0_11 := Lib.hid (T0_10.out.below (by omega) hb)
  have cF_11 := F_11.out.bx
  have dF_11 := F_11.out.bx2
  have z11 := hb.size
  try simp only [World.size_alloc] at z11
  clear hb F_10 GW_10 C0_10 X0_10 T0_10 cF_10 dF_10
  go_wp2_with fail
  refine (HI.out _ _ _ _ _ C0_11.out.rd (Nat.le_refl _) (T0_11.out.rep (by omega)) (F_11.out.gi GI0.out)).mono ?_
  rintro e w12 ⟨ug, rfl, cc, hb⟩
  have F_12 := Lib.hid (F_11.out.below hb)
  have GW_12 := Lib.hid (GW_11.out.below (by omega) hb)
  have C0_12 := Lib.hid (C0_11.out.below hb)
  have X0_12 := (hb.cell (p := ⟨w8.heap.size, 0, none⟩) (by show w8.heap.size < _; omega)).trans X0_11
  have T0_12 := Lib.hid (T0_11.out.below (by omega) hb)
  have X1_12 := (hb.cell (p := ⟨w10.heap.size, 0, none⟩) (by show w10.heap.size < _; omega)).trans X1_11
  have cF_12 := F_12.out.bx
  have dF_12 := F_12.out.bx2
  have z12 := hb.size
  try simp only [World.size_alloc] at z12
  clear hb F_11 GW_11 C0_11 X0_11 T0_11 X1_11 cF_11 dF_11
  try simp only [World.size_alloc] at cc
  have GG_12 := Lib.hid (cc)
  clear cc
  go_wp2_with fail
  refine (vQ GG_12.out GW_12.out hl4 (by omega) (by omega) (F_12.out.gi GI0.out)).mono ?_
  rintro e w13 ⟨rfl, hb⟩
  have F_13 := Lib.hid (F_12.out.below hb)
  have GW_13 := Lib.hid (GW_12.out.below (by omega) hb)
  have C0_13 := Lib.hid (C0_12.out.below hb)
  have X0_13 := (hb.cell (p := ⟨w8.heap.size, 0, none⟩) (by show w8.heap.size < _; omega)).trans X0_12
  have T0_13 := Lib.hid (T0_12.out.below (by omega) hb)
  have X1_13 := (hb.cell (p := ⟨w10.heap.size, 0, none⟩) (by show w10.heap.size < _; omega)).trans X1_12
  have GG_13 := Lib.hid (GG_12.out.below (by omega) hb)
  have cF_13 := F_13.out.bx
  have dF_13 := F_13.out.bx2
  have z13 := hb.size
  try simp only [World.size_alloc] at z13
  clear hb F_12 GW_12 C0_12 X0_12 T0_12 X1_12 GG_12 cF_12 dF_12
  go_wp2_with fail
  refine x8 4 [(0, false), (1, false), (2, true), (3, true)] (fun w1 w' => Below w1.heap.size w1 w') (by kernel_rfl) (by kernel_rfl) (fun _ _ d _ _ h => by cases d <;> exact h) (fun w14 hs => ⟨Below.refl _ _, ?_⟩)
  have hb := hs.below w13.heap.size
  clear hs
  have F_14 := Lib.hid (F_13.out.below hb)
  have GW_14 := Lib.hid (GW_13.out.below (by omega) hb)
  have C0_14 := Lib.hid (C0_13.out.below hb)
  have X0_14 := (hb.cell (p := ⟨w8.heap.size, 0, none⟩) (by show w8.heap.size < _; omega)).trans X0_13
  have T0_14 := Lib.hid (T0_13.out.below (by omega) hb)
  have X1_14 := (hb.cell (p := ⟨w10.heap.size, 0, none⟩) (by show w10.heap.size < _; omega)).trans X1_13
  have GG_14 := Lib.hid (GG_13.out.below (by omega) hb)
  have cF_14 := F_14.out.bx
  have dF_14 := F_14.out.bx2
  have z14 := hb.size
  try simp only [World.size_alloc] at z14
  clear hb F_13 GW_13 C0_13 X0_13 T0_13 X1_13 GG_13 cF_13 dF_13
  have H1 := xR X0_14
  have H2 := xR cF_14
  (refine xE rfl ?_; go_big_quiet_step (rfl); refine wpQuiet_nil ?_)
  (refine xE rfl ?_; go_big_quiet_step (rfl); refine wpQuiet_nil ?_)
  clear H1 H2
  refine xT rfl ?_
  go_wp2_with fail
  refine (wK HB.out F_14.out.now).mono ?_
  rintro e w15 ⟨g2, xs2, rfl, cc, hb⟩
  have hbR := Lib.hid hb
  have F_15 := Lib.hid (F_14.out.below hb)
  have GW_15 := Lib.hid (GW_14.out.below (by omega) hb)
  have C0_15 := Lib.hid (C0_14.out.below hb)
  have X0_15 := (hb.cell (p := ⟨w8.heap.size, 0, none⟩) (by show w8.heap.size < _; omega)).trans X0_14
  have T0_15 := Lib.hid (T0_14.out.below (by omega) hb)
  have X1_15 := (hb.cell (p := ⟨w10.heap.size, 0, none⟩) (by show w10.heap.size < _; omega)).trans X1_14
  have GG_15 := Lib.hid (GG_14.out.below (by omega) hb)
  have cF_15 := F_15.out.bx
  have dF_15 := F_15.out.bx2
  have z15 := hb.size
  try simp only [World.size_alloc] at z15
  clear hb F_14 GW_14 C0_14 X0_14 T0_14 X1_14 GG_14 cF_14 dF_14
  try simp only [World.size_alloc] at cc
  have C2_15 := Lib.hid (cc)
  clear cc
  go_wp2_with fail
  refine ⟨hbR.out, ?_⟩
  refine xT rfl ?_
  go_wp2_with fail
  refine (eqDic_call HB.out C0_15.out.rd (Nat.le_refl _) C2_15.out.rd (Nat.le_refl _) (F_15.out.gi GI0.out)).mono ?_
  rintro e w16 ⟨rfl, hb⟩
  have hbR := Lib.hid (hbR.out.trans (hb.mono hbR.out.size))
  have F_16 := Lib.hid (F_15.out.below hb)
  have GW_16 := Lib.hid (GW_15.out.below (by omega) hb)
  have C0_16 := Lib.hid (C0_15.out.below hb)
  have X0_16 := (hb.cell (p := ⟨w8.heap.size, 0, none⟩) (by show w8.heap.size < _; omega)).trans X0_15
  have T0_16 := Lib.hid (T0_15.out.below (by omega) hb)
  have X1_16 := (hb.cell (p := ⟨w10.heap.size, 0, none⟩) (by show w10.heap.size < _; omega)).trans X1_15
  have GG_16 := Lib.hid (GG_15.out.below (by omega) hb)
  have C2_16 := Lib.hid (C2_15.out.below hb)
  have cF_16 := F_16.out.bx
  have dF_16 := F_16.out.bx2
  have z16 := hb.size
  try simp only [World.size_alloc] at z16
  clear hb F_15 GW_15 C0_15 X0_15 T0_15 X1_15 GG_15 C2_15 cF_15 dF_15
  go_wp2_with fail
  refine ⟨hbR.out, ?_⟩
  clear hbR
  (refine vK ?_; simp only [List.drop_succ_cons, List.drop_zero])
  clear C2_16
  go_wp2_with fail
  refine x8 4 [(0, false), (1, false), (2, true), (3, true)] (fun w1 w' => Below w1.heap.size w1 w') (by kernel_rfl) (by kernel_rfl) (fun _ _ d _ _ h => by cases d <;> exact h) (fun w17 hs => ⟨Below.refl _ _, ?_⟩)
  have hb := hs.below w16.heap.size
  clear hs
  have F_17 := Lib.hid (F_16.out.below hb)
  have GW_17 := Lib.hid (GW_16.out.below (by omega) hb)
  have C0_17 := Lib.hid (C0_16.out.below hb)
  have X0_17 := (hb.cell (p := ⟨w8.heap.size, 0, none⟩) (by show w8.heap.size < _; omega)).trans X0_16
  have T0_17 := Lib.hid (T0_16.out.below (by omega) hb)
  have X1_17 := (hb.cell (p := ⟨w10.heap.size, 0, none⟩) (by show w10.heap.size < _; omega)).trans X1_16
  have GG_17 := Lib.hid (GG_16.out.below (by omega) hb)
  have cF_17 := F_17.out.bx
  have dF_17 := F_17.out.bx2
  have z17 := hb.size
  try simp only [World.size_alloc] at z17
  clear hb F_16 GW_16 C0_16 X0_16 T0_16 X1_16 GG_16 cF_16 dF_16
  have H1 := xR X1_17
  have H2 := xR dF_17
  (refine xE rfl ?_; go_big_quiet_step (rfl); refine wpQuiet_nil ?_)
  (refine xE rfl ?_; go_big_quiet_step (rfl); refine wpQuiet_nil ?_)
  clear H1 H2
  refine xT rfl ?_
  go_wp2_with fail
  refine (wF hB2 F_17.out.nowt (F_17.out.gi GI0.out)).mono ?_
  rintro e w18 ⟨a2, k2, rfl, cc, hb⟩
  have hbR := Lib.hid hb
  have F_18 := Lib.hid (F_17.out.below hb)
  have GW_18 := Lib.hid (GW_17.out.below (by omega) hb)
  have C0_18 := Lib.hid (C0_17.out.below hb)
  have X0_18 := (hb.cell (p := ⟨w8.heap.size, 0, none⟩) (by show w8.heap.size < _; omega)).trans X0_17
  have T0_18 := Lib.hid (T0_17.out.below (by omega) hb)
  have X1_18 := (hb.cell (p := ⟨w10.heap.size, 0, none⟩) (by show w10.heap.size < _; omega)).trans X1_17
  have GG_18 := Lib.hid (GG_17.out.below (by omega) hb)
  have cF_18 := F_18.out.bx
  have dF_18 := F_18.out.bx2
  have z18 := hb.size
  try simp only [World.size_alloc] at z18
  clear hb F_17 GW_17 C0_17 X0_17 T0_17 X1_17 GG_17 cF_17 dF_17
  try simp only [World.size_alloc] at cc
  have T2_18 := Lib.hid (cc)
  clear cc
  go_wp2_with fail
  refine ⟨hbR.out, ?_⟩
  refine xT rfl ?_
  go_wp2_with fail
  refine (eqTape_call (by omega) (T0_18.out.rep (by omega)) (T2_18.out.rep (by omega)) (F_18.out.gi GI0.out)).mono ?_
  rintro e w19 ⟨rfl, hb⟩
  have hbR := Lib.hid (hbR.out.trans (hb.mono hbR.out.size))
  have F_19 := Lib.hid (F_18.out.below hb)
  have GW_19 := Lib.hid (GW_18.out.below (by omega) hb)
  have C0_19 := Lib.hid (C0_18.out.below hb)
  have X0_19 := (hb.cell (p := ⟨w8.heap.size, 0, none⟩) (by show w8.heap.size < _; omega)).trans X0_18
  have T0_19 := Lib.hid (T0_18.out.below (by omega) hb)
  have X1_19 := (hb.cell (p := ⟨w10.heap.size, 0, none⟩) (by show w10.heap.size < _; omega)).trans X1_18
  have GG_19 := Lib.hid (GG_18.out.below (by omega) hb)
  have T2_19 := Lib.hid (T2_18.out.below (by omega) hb)
  have cF_19 := F_19.out.bx
  have dF_19 := F_19.out.bx2
  have z19 := hb.size
  try simp only [World.size_alloc] at z19
  clear hb F_18 GW_18 C0_18 X0_18 T0_18 X1_18 GG_18 T2_18 cF_18 dF_18
  go_wp2_with fail
  refine ⟨hbR.out, ?_⟩
  clear hbR
  (refine vK ?_; simp only [List.drop_succ_cons, List.drop_zero])
  clear T2_19
  go_wp2_with fail
  refine (markDic_call (k0 := 1) C0_19.out HB.out HSUM.out (F_19.out.glo GI0.out (by omega)) (by omega)).mono ?_
  rintro e w20 ⟨⟨q1, rfl, hq1⟩, hf⟩
  clear C0_19
  have F_20 := Lib.hid (F_19.out.fr hf (by omega))
  have GW_20 := Lib.hid (GW_19.out.fr (by omega) hf (by omega))
  have X0_20 := (hf.cell (p := ⟨w8.heap.size, 0, none⟩) (by show w8.heap.size < _; omega) (by show w8.heap.size < _ ∨ _ ≤ w8.heap.size; omega)).trans X0_19
  have T0_20 := Lib.hid (T0_19.out.fr (by omega) hf (by omega))
  have X1_20 := (hf.cell (p := ⟨w10.heap.size, 0, none⟩) (by show w10.heap.size < _; omega) (by show w10.heap.size < _ ∨ _ ≤ w10.heap.size; omega)).trans X1_19
  have GG_20 := Lib.hid (GG_19.out.fr (by omega) hf (by omega))
  have cF_20 := F_20.out.bx
  have dF_20 := F_20.out.bx2
  have z20 := hf.size
  try simp only [World.size_alloc] at z20
  clear hf F_19 GW_19 X0_19 T0_19 X1_19 GG_19 cF_19 dF_19
  go_wp2_with fail
  refine (markTape_call (k := q1) T0_20.out (by omega) (by omega) (F_20.out.glo GI0.out (by omega)) (by omega)).mono ?_
  rintro e w21 ⟨rfl, hf⟩
  clear T0_20
  have F_21 := Lib.hid (F_20.out.fr hf (by omega))
  have GW_21 := Lib.hid (GW_20.out.fr (by omega) hf (by omega))
  have X0_21 := (hf.cell (p := ⟨w8.heap.size, 0, none⟩) (by show w8.heap.size < _; omega) (by show w8.heap.size < _ ∨ _ ≤ w8.heap.size; omega)).trans X0_20
  have X1_21 := (hf.cell (p := ⟨w10.heap.size, 0, none⟩) (by show w10.heap.size < _; omega) (by show w10.heap.size < _ ∨ _ ≤ w10.heap.size; omega)).trans X1_20
  have GG_21 := Lib.hid (GG_20.out.fr (by omega) hf (by omega))
  have cF_21 := F_21.out.bx
  have dF_21 := F_21.out.bx2
  have z21 := hf.size
  try simp only [World.size_alloc] at z21
  clear hf F_20 GW_20 X0_20 X1_20 GG_20 cF_20 dF_20
  have hq2 : ¬ ((q1 + 2 * t.length : Nat) : Int) < 0 := by omega
  go_wp2_with fail
  refine (vQ GG_21.out GW_21.out hl4 (by omega) (by omega) (F_21.out.gi GI0.out)).mono ?_
  rintro e w22 ⟨rfl, hb⟩
  have F_22 := Lib.hid (F_21.out.below hb)
  have GW_22 := Lib.hid (GW_21.out.below (by omega) hb)
  have X0_22 := (hb.cell (p := ⟨w8.heap.size, 0, none⟩) (by show w8.heap.size < _; omega)).trans X0_21
  have X1_22 := (hb.cell (p := ⟨w10.heap.size, 0, none⟩) (by show w10.heap.size < _; omega)).trans X1_21
  have GG_22 := Lib.hid (GG_21.out.below (by omega) hb)
  have cF_22 := F_22.out.bx
  have dF_22 := F_22.out.bx2
  have z22 := hb.size
  try simp only [World.size_alloc] at z22
  clear hb F_21 GW_21 X0_21 X1_21 GG_21 cF_21 dF_21
  go_wp2_with fail
  refine (markP_call (k := 1) GG_22.out hl4 (by omega) (F_22.out.glo GI0.out (by omega)) (by omega)).mono ?_
  rintro e w23 ⟨rfl, cc, hf⟩
  clear GG_22
  have F_23 := Lib.hid (F_22.out.fr hf (by omega))
  have GW_23 := Lib.hid (GW_22.out.fr (by omega) hf (by omega))
  have X0_23 := (hf.cell (p := ⟨w8.heap.size, 0, none⟩) (by show w8.heap.size < _; omega) (by show w8.heap.size < _ ∨ _ ≤ w8.heap.size; omega)).trans X0_22
  have X1_23 := (hf.cell (p := ⟨w10.heap.size, 0, none⟩) (by show w10.heap.size < _; omega) (by show w10.heap.size < _ ∨ _ ≤ w10.heap.size; omega)).trans X1_22
  have cF_23 := F_23.out.bx
  have dF_23 := F_23.out.bx2
  have z23 := hf.size
  try simp only [World.size_alloc] at z23
  clear hf F_22 GW_22 X0_22 X1_22 cF_22 dF_22
  try simp only [World.size_alloc] at cc
  have GM_23 := Lib.hid (cc)
  clear cc
  go_wp2_with fail
  refine (heldP_call (k := 1) (n := l.length) GM_23.out hl4 (by omega) (by omega) (F_23.out.gi GI0.out)).mono ?_
  rintro e w24 ⟨rfl, hb⟩
  have F_24 := Lib.hid (F_23.out.below hb)
  have GW_24 := Lib.hid (GW_23.out.below (by omega) hb)
  have X0_24 := (hb.cell (p := ⟨w8.heap.size, 0, none⟩) (by show w8.heap.size < _; omega)).trans X0_23
  have X1_24 := (hb.cell (p := ⟨w10.heap.size, 0, none⟩) (by show w10.heap.size < _; omega)).trans X1_23
  have GM_24 := Lib.hid (GM_23.out.below (by omega) hb)
  have cF_24 := F_24.out.bx
  have dF_24 := F_24.out.bx2
  have z24 := hb.size
  try simp only [World.size_alloc] at z24
  clear hb F_23 GW_23 X0_23 X1_23 GM_23 cF_23 dF_23
  have hm : ¬ ((1 + 3 * l.length : Nat) : Int) < 0 := by omega
  go_wp2_with fail
  refine x8 9 [(0, false), (2, false), (1, true), (3, true), (4, true), (5, false), (6, false), (7, false), (8, false)] (fun w1 w' => Below w1.heap.size w1 w') (by kernel_rfl) (by kernel_rfl) (fun _ _ d _ _ h => by cases d <;> exact h) (fun w25 hs => ⟨Below.refl _ _, ?_⟩)
  have hb := hs.below w24.heap.size
  clear hs
  have F_25 := Lib.hid (F_24.out.below hb)
  have GW_25 := Lib.hid (GW_24.out.below (by omega) hb)
  have X0_25 := (hb.cell (p := ⟨w8.heap.size, 0, none⟩) (by show w8.heap.size < _; omega)).trans X0_24
  have X1_25 := (hb.cell (p := ⟨w10.heap.size, 0, none⟩) (by show w10.heap.size < _; omega)).trans X1_24
  have GM_25 := Lib.hid (GM_24.out.below (by omega) hb)
  have cF_25 := F_25.out.bx
  have dF_25 := F_25.out.bx2
  have z25 := hb.size
  try simp only [World.size_alloc] at z25
  clear hb F_24 GW_24 X0_24 X1_24 GM_24 cF_24 dF_24
  have H1 := xR cF_25
  have H2 := xR dF_25
  (refine xE rfl ?_; go_big_quiet_step (rfl); refine wpQuiet_nil ?_)
  (refine xE rfl ?_; go_big_quiet_step (rfl); refine wpQuiet_nil ?_)
  clear H1 H2
  refine xT rfl ?_
  go_wp2_with fail
  refine (wK HB.out F_25.out.now).mono ?_
  rintro e w26 ⟨g3, xs3, rfl, cc, hb⟩
  have hbR := Lib.hid hb
  have F_26 := Lib.hid (F_25.out.below hb)
  have GW_26 := Lib.hid (GW_25.out.below (by omega) hb)
  have X0_26 := (hb.cell (p := ⟨w8.heap.size, 0, none⟩) (by show w8.heap.size < _; omega)).trans X0_25
  have X1_26 := (hb.cell (p := ⟨w10.heap.size, 0, none⟩) (by show w10.heap.size < _; omega)).trans X1_25
  have GM_26 := Lib.hid (GM_25.out.below (by omega) hb)
  have cF_26 := F_26.out.bx
  have dF_26 := F_26.out.bx2
  have z26 := hb.size
  try simp only [World.size_alloc] at z26
  clear hb F_25 GW_25 X0_25 X1_25 GM_25 cF_25 dF_25
  try simp only [World.size_alloc] at cc
  have C3_26 := Lib.hid (cc)
  clear cc
  go_wp2_with fail
  refine ⟨hbR.out, ?_⟩
  refine xT rfl ?_
  go_wp2_with fail
  refine (wF hB2 F_26.out.nowt (F_26.out.gi GI0.out)).mono ?_
  rintro e w27 ⟨a3, k3, rfl, cc, hb⟩
  have hbR := Lib.hid (hbR.out.trans (hb.mono hbR.out.size))
  have F_27 := Lib.hid (F_26.out.below hb)
  have GW_27 := Lib.hid (GW_26.out.below (by omega) hb)
  have X0_27 := (hb.cell (p := ⟨w8.heap.size, 0, none⟩) (by show w8.heap.size < _; omega)).trans X0_26
  have X1_27 := (hb.cell (p := ⟨w10.heap.size, 0, none⟩) (by show w10.heap.size < _; omega)).trans X1_26
  have GM_27 := Lib.hid (GM_26.out.below (by omega) hb)
  have C3_27 := Lib.hid (C3_26.out.below hb)
  have cF_27 := F_27.out.bx
  have dF_27 := F_27.out.bx2
  have z27 := hb.size
  try simp only [World.size_alloc] at z27
  clear hb F_26 GW_26 X0_26 X1_26 GM_26 C3_26 cF_26 dF_26
  try simp only [World.size_alloc] at cc
  have T3_27 := Lib.hid (cc)
  clear cc
  go_wp2_with fail
  refine ⟨hbR.out, ?_⟩
  refine xT rfl ?_
  go_wp2_with fail
  refine (HI.out _ _ _ _ _ C3_27.out.rd (Nat.le_refl _) (T3_27.out.rep (by omega)) (F_27.out.gi GI0.out)).mono ?_
  rintro e w28 ⟨uh, rfl, cc, hb⟩
  have hbR := Lib.hid (hbR.out.trans (hb.mono hbR.out.size))
  have F_28 := Lib.hid (F_27.out.below hb)
  have GW_28 := Lib.hid (GW_27.out.below (by omega) hb)
  have X0_28 := (hb.cell (p := ⟨w8.heap.size, 0, none⟩) (by show w8.heap.size < _; omega)).trans X0_27
  have X1_28 := (hb.cell (p := ⟨w10.heap.size, 0, none⟩) (by show w10.heap.size < _; omega)).trans X1_27
  have GM_28 := Lib.hid (GM_27.out.below (by omega) hb)
  have C3_28 := Lib.hid (C3_27.out.below hb)
  have T3_28 := Lib.hid (T3_27.out.below (by omega) hb)
  have cF_28 := F_28.out.bx
  have dF_28 := F_28.out.bx2
  have z28 := hb.size
  try simp only [World.size_alloc] at z28
  clear hb F_27 GW_27 X0_27 X1_27 GM_27 C3_27 T3_27 cF_27 dF_27
  try simp only [World.size_alloc] at cc
  have GH_28 := Lib.hid (cc)
  clear cc
  go_wp2_with fail
  refine ⟨hbR.out, ?_⟩
  clear hbR
  (refine xE rfl ?_; go_big_quiet_step (rfl); refine wpQuiet_nil ?_)
  (refine xE rfl ?_; go_big_quiet_step (rfl); refine wpQuiet_nil ?_)
  (refine xE rfl ?_; go_big_quiet_step (rfl); refine wpQuiet_nil ?_)
  (refine xE rfl ?_; go_big_quiet_step (rfl); refine wpQuiet_nil ?_)
  (refine vK ?_; simp only [List.drop_succ_cons, List.drop_zero])
  clear C3_28 T3_28
  go_wp2_with fail
  refine (vQ GH_28.out GW_28.out hl4 (by omega) (by omega) (F_28.out.gi GI0.out)).mono ?_
  rintro e w29 ⟨rfl, hb⟩
  have F_29 := Lib.hid (F_28.out.below hb)
  have GW_29 := Lib.hid (GW_28.out.below (by omega) hb)
  have X0_29 := (hb.cell (p := ⟨w8.heap.size, 0, none⟩) (by show w8.heap.size < _; omega)).trans X0_28
  have X1_29 := (hb.cell (p := ⟨w10.heap.size, 0, none⟩) (by show w10.heap.size < _; omega)).trans X1_28
  have GM_29 := Lib.hid (GM_28.out.below (by omega) hb)
  have GH_29 := Lib.hid (GH_28.out.below (by omega) hb)
  have cF_29 := F_29.out.bx
  have dF_29 := F_29.out.bx2
  have z29 := hb.size
  try simp only [World.size_alloc] at z29
  clear hb F_28 GW_28 X0_28 X1_28 GM_28 GH_28 cF_28 dF_28
  go_wp2_with fail
  refine (heldP_call (k := 1) (n := l.length) GM_29.out hl4 (by omega) (by omega) (F_29.out.gi GI0.out)).mono ?_
  rintro e w30 ⟨rfl, hb⟩
  have F_30 := Lib.hid (F_29.out.below hb)
  have GW_30 := Lib.hid (GW_29.out.below (by omega) hb)
  have X0_30 := (hb.cell (p := ⟨w8.heap.size, 0, none⟩) (by show w8.heap.size < _; omega)).trans X0_29
  have X1_30 := (hb.cell (p := ⟨w10.heap.size, 0, none⟩) (by show w10.heap.size < _; omega)).trans X1_29
  have GM_30 := Lib.hid (GM_29.out.below (by omega) hb)
  have GH_30 := Lib.hid (GH_29.out.below (by omega) hb)
  have cF_30 := F_30.out.bx
  have dF_30 := F_30.out.bx2
  have z30 := hb.size
  try simp only [World.size_alloc] at z30
  clear hb F_29 GW_29 X0_29 X1_29 GM_29 GH_29 cF_29 dF_29
  go_wp2
  go_ret
  exact ⟨rfl, F_30.out.bt⟩
set_option maxRecDepth 100000 in
set_option maxHeartbeats 8000000 in
theorem lawTp_F (W : World) (A : Option Addr) (c : Nat) (es : List Ent) (A2 : Option Addr) (c2 : Nat) (t : List Itm) (l : List Pc) (gi : GI (fun b => b < W.heap.size) W) (hr : RdE W W.heap.size A (enL es)) (hc : es.length ≤ c)
    (hrt : RepI (fun b => b < W.heap.size) W (.sl (t.map yO)) (.slice A2 t.length c2)) (hM : kN es) (hB : vV es) (hM2 : qP t) (hB2 : t.length ≤ 1048576)
    (hsz : 0 ≤ wR es 1048576) (hsz2 : 0 ≤ szT t (wR es 1048576)) (hsum : 1 + (es.map fun e => e.o.length + 1).sum ≤ 8388608)
    (hS : qT 7 es t l false) (hI : qT 10 es t l false) (hl : l.length ≤ 1000000) :
    Calls Tryz.prog 3 #[.agg #[.slice A es.length c], .agg #[.slice A2 t.length c2]] W fun e w' => e = .returned (.bool true) ∧ Below W.heap.size W w' := by
  have hl4 : l.length ≤ 4000000 := by omega
  have HS := Lib.hid hS
  have HI := Lib.hid hI
  have HB := Lib.hid hB
  have HM := Lib.hid hM
  have HM2 := Lib.hid hM2
  have GI0 := Lib.hid gi
  have HSUM := Lib.hid hsum
  obtain ⟨s, hs⟩ : ∃ s, Hid (wR es 1048576 = s) := ⟨_, Lib.hid rfl⟩
  have hs0 : 0 ≤ s := by rw [← hs.out]; exact hsz
  have hs1 : s ≤ 1048576 := by rw [← hs.out]; exact (szDi_ge (by omega)).2
  obtain ⟨s2, hs2⟩ : ∃ s2, Hid (szT t s = s2) := ⟨_, Lib.hid rfl⟩
  have hs20 : 0 ≤ s2 := by rw [← hs2.out, ← hs.out]; exact hsz2
  have hb0 : Below W.heap.size W ((W.alloc (.cells #[.slice A es.length c] 24)).alloc (.cells #[.slice A2 t.length c2] 27)) := below2 W _ _
  have F_1 := Lib.hid (⟨hb0, by simp, by go_simp, by go_simp, hr.below hb0 (Nat.le_refl _), hrt.mono (fun _ h => h) (fun b hb => hb0.block b hb)⟩ : AgT W A c es A2 c2 t ((W.alloc (.cells #[.slice A es.length c] 24)).alloc (.cells #[.slice A2 t.length c2] 27)))
  have cF_1 := F_1.out.bx
  have dF_1 := F_1.out.bx2
  clear hS hI hB hM hM2 gi hr hrt hsum hsz hsz2 hb0
  go_enter Tryz.func3, Tryz.ntmps3
  go_wp2_with fail
  refine (szDic_call HM.out (by omega) (by omega) F_1.out.now hc (F_1.out.gi GI0.out)).mono ?_
  rintro e w2 ⟨rfl, hb⟩
  rw [hs.out]
  have F_2 := Lib.hid (F_1.out.below hb)
  have cF_2 := F_2.out.bx
  have dF_2 := F_2.out.bx2
  have z2 := hb.size
  try simp only [World.size_alloc] at z2
  clear hb F_1 cF_1 dF_1
  go_wp2_with fail
  refine (szTape_call HM2.out hs0 hs1 F_2.out.nowt (F_2.out.gi GI0.out)).mono ?_
  rintro e w3 ⟨rfl, hb⟩
  rw [hs2.out]
  have F_3 := Lib.hid (F_2.out.below hb)
  have cF_3 := F_3.out.bx
  have dF_3 := F_3.out.bx2
  have z3 := hb.size
  try simp only [World.size_alloc] at z3
  clear hb F_2 cF_2 dF_2
  have l1 := F_3.out.lt
  go_wp2_with fail
  refine x8 9 [(0, false), (2, false), (1, true), (3, true), (4, true), (5, false), (6, false), (7, false), (8, false)] (fun w1 w' => Below w1.heap.size w1 w') (by kernel_rfl) (by kernel_rfl) (fun _ _ d _ _ h => by cases d <;> exact h) (fun w4 hs => ⟨Below.refl _ _, ?_⟩)
  have hb := hs.below w3.heap.size
  clear hs
  have F_4 := Lib.hid (F_3.out.below hb)
  have cF_4 := F_4.out.bx
  have dF_4 := F_4.out.bx2
  have z4 := hb.size
  try simp only [World.size_alloc] at z4
  clear hb F_3 cF_3 dF_3
  have H1 := xR cF_4
  have H2 := xR dF_4
  (refine xE rfl ?_; go_big_quiet_step (rfl); refine wpQuiet_nil ?_)
  (refine xE rfl ?_; go_big_quiet_step (rfl); refine wpQuiet_nil ?_)
  clear H1 H2
  refine xT rfl ?_
  go_wp2_with fail
  refine (wK HB.out F_4.out.now).mono ?_
  rintro e w5 ⟨g1, xs1, rfl, cc, hb⟩
  have hbR := Lib.hid hb
  have F_5 := Lib.hid (F_4.out.below hb)
  have cF_5 := F_5.out.bx
  have dF_5 := F_5.out.bx2
  have z5 := hb.size
  try simp only [World.size_alloc] at z5
  clear hb F_4 cF_4 dF_4
  try simp only [World.size_alloc] at cc
  have C1_5 := Lib.hid (cc)
  clear cc
  go_wp2_with fail
  refine ⟨hbR.out, ?_⟩
  refine xT rfl ?_
  go_wp2_with fail
  refine (wF hB2 F_5.out.nowt (F_5.out.gi GI0.out)).mono ?_
  rintro e w6 ⟨a1, k1, rfl, cc, hb⟩
  have hbR := Lib.hid (hbR.out.trans (hb.mono hbR.out.size))
  have F_6 := Lib.hid (F_5.out.below hb)
  have C1_6 := Lib.hid (C1_5.out.below hb)
  have cF_6 := F_6.out.bx
  have dF_6 := F_6.out.bx2
  have z6 := hb.size
  try simp only [World.size_alloc] at z6
  clear hb F_5 C1_5 cF_5 dF_5
  try simp only [World.size_alloc] at cc
  have T1_6 := Lib.hid (cc)
  clear cc
  go_wp2_with fail
  refine ⟨hbR.out, ?_⟩
  refine xT rfl ?_
  go_wp2_with fail
  refine (HS.out _ _ _ _ _ C1_6.out.rd (Nat.le_refl _) (T1_6.out.rep (by omega)) (F_6.out.gi GI0.out)).mono ?_
  rintro e w7 ⟨uw, rfl, cc, hb⟩
  have hbR := Lib.hid (hbR.out.trans (hb.mono hbR.out.size))
  have F_7 := Lib.hid (F_6.out.below hb)
  have C1_7 := Lib.hid (C1_6.out.below hb)
  have T1_7 := Lib.hid (T1_6.out.below (by omega) hb)
  have cF_7 := F_7.out.bx
  have dF_7 := F_7.out.bx2
  have z7 := hb.size
  try simp only [World.size_alloc] at z7
  clear hb F_6 C1_6 T1_6 cF_6 dF_6
  try simp only [World.size_alloc] at cc
  have GW_7 := Lib.hid (cc)
  clear cc
  go_wp2_with fail
  refine ⟨hbR.out, ?_⟩
  clear hbR
  (refine xE rfl ?_; go_big_quiet_step (rfl); refine wpQuiet_nil ?_)
  (refine xE rfl ?_; go_big_quiet_step (rfl); refine wpQuiet_nil ?_)
  (refine xE rfl ?_; go_big_quiet_step (rfl); refine wpQuiet_nil ?_)
  (refine xE rfl ?_; go_big_quiet_step (rfl); refine wpQuiet_nil ?_)
  (refine vK ?_; simp only [List.drop_succ_cons, List.drop_zero])
  clear C1_7 T1_7
  go_wp2_with fail
  refine (wK HB.out F_7.out.now).mono ?_
  rintro e w8 ⟨g0, xs0, rfl, cc, hb⟩
  have F_8 := Lib.hid (F_7.out.below hb)
  have GW_8 := Lib.hid (GW_7.out.below (by omega) hb)
  have cF_8 := F_8.out.bx
  have dF_8 := F_8.out.bx2
  have z8 := hb.size
  try simp only [World.size_alloc] at z8
  clear hb F_7 GW_7 cF_7 dF_7
  try simp only [World.size_alloc] at cc
  have C0_8 := Lib.hid (cc)
  clear cc
  have hb : Below w8.heap.size w8 (w8.alloc (.cells #[.slice (some ⟨g0, 0, none⟩) es.length es.length] 35)) := qU w8 _
  have X0_9 : (w8.alloc (.cells #[.slice (some ⟨g0, 0, none⟩) es.length es.length] 35)).cell? ⟨w8.heap.size, 0, none⟩ = some (.slice (some ⟨g0, 0, none⟩) es.length es.length) := by go_simp
  have q9 : (w8.alloc (.cells #[.slice (some ⟨g0, 0, none⟩) es.length es.length] 35)).heap.size = w8.heap.size + 1 := by simp
  have F_9 := Lib.hid (F_8.out.below hb)
  have GW_9 := Lib.hid (GW_8.out.below (by omega) hb)
  have C0_9 := Lib.hid (C0_8.out.below hb)
  have cF_9 := F_9.out.bx
  have dF_9 := F_9.out.bx2
  have z9 := hb.size
  try simp only [World.size_alloc] at z9
  clear hb F_8 GW_8 C0_8 cF_8 dF_8
  go_wp2_with fail
  refine (wF hB2 F_9.out.nowt (F_9.out.gi GI0.out)).mono ?_
  rintro e w10 ⟨a0, k0, rfl, cc, hb⟩
  have F_10 := Lib.hid (F_9.out.below hb)
  have GW_10 := Lib.hid (GW_9.out.below (by omega) hb)
  have C0_10 := Lib.hid (C0_9.out.below hb)
  have X0_10 := (hb.cell (p := ⟨w8.heap.size, 0, none⟩) (by show w8.heap.size < _; omega)).trans X0_9
  have cF_10 := F_10.out.bx
  have dF_10 := F_10.out.bx2
  have z10 := hb.size
  try simp only [World.size_alloc] at z10
  clear hb F_9 GW_9 C0_9 X0_9 cF_9 dF_9
  try simp only [World.size_alloc] at cc
  have T0_10 := Lib.hid (cc)
  clear cc
  have hb : Below w10.heap.size w10 (w10.alloc (.cells #[.slice a0 t.length k0] 39)) := qU w10 _
  have X1_11 : (w10.alloc (.cells #[.slice a0 t.length k0] 39)).cell? ⟨w10.heap.size, 0, none⟩ = some (.slice a0 t.length k0) := by go_simp
  have q11 : (w10.alloc (.cells #[.slice a0 t.length k0] 39)).heap.size = w10.heap.size + 1 := by simp
  have F_11 := Lib.hid (F_10.out.below hb)
  have GW_11 := Lib.hid (GW_10.out.below (by omega) hb)
  have C0_11 := Lib.hid (C0_10.out.below hb)
  have X0_11 := (hb.cell (p := ⟨w8.heap.size, 0, none⟩) (by show w8.heap.size < _; omega)).trans X0_10
  have T0_11 := Lib.hid (T0_10.out.below (by omega) hb)
  have cF_11 := F_11.out.bx
  have dF_11 := F_11.out.bx2
  have z11 := hb.size
  try simp only [World.size_alloc] at z11
  clear hb F_10 GW_10 C0_10 X0_10 T0_10 cF_10 dF_10
  go_wp2_with fail
  refine (HI.out _ _ _ _ _ C0_11.out.rd (Nat.le_refl _) (T0_11.out.rep (by omega)) (F_11.out.gi GI0.out)).mono ?_
  rintro e w12 ⟨ug, rfl, cc, hb⟩
  have F_12 := Lib.hid (F_11.out.below hb)
  have GW_12 := Lib.hid (GW_11.out.below (by omega) hb)
  have C0_12 := Lib.hid (C0_11.out.below hb)
  have X0_12 := (hb.cell (p := ⟨w8.heap.size, 0, none⟩) (by show w8.heap.size < _; omega)).trans X0_11
  have T0_12 := Lib.hid (T0_11.out.below (by omega) hb)
  have X1_12 := (hb.cell (p := ⟨w10.heap.size, 0, none⟩) (by show w10.heap.size < _; omega)).trans X1_11
  have cF_12 := F_12.out.bx
  have dF_12 := F_12.out.bx2
  have z12 := hb.size
  try simp only [World.size_alloc] at z12
  clear hb F_11 GW_11 C0_11 X0_11 T0_11 X1_11 cF_11 dF_11
  try simp only [World.size_alloc] at cc
  have GG_12 := Lib.hid (cc)
  clear cc
  go_wp2_with fail
  refine (vQ GG_12.out GW_12.out hl4 (by omega) (by omega) (F_12.out.gi GI0.out)).mono ?_
  rintro e w13 ⟨rfl, hb⟩
  have F_13 := Lib.hid (F_12.out.below hb)
  have GW_13 := Lib.hid (GW_12.out.below (by omega) hb)
  have C0_13 := Lib.hid (C0_12.out.below hb)
  have X0_13 := (hb.cell (p := ⟨w8.heap.size, 0, none⟩) (by show w8.heap.size < _; omega)).trans X0_12
  have T0_13 := Lib.hid (T0_12.out.below (by omega) hb)
  have X1_13 := (hb.cell (p := ⟨w10.heap.size, 0, none⟩) (by show w10.heap.size < _; omega)).trans X1_12
  have GG_13 := Lib.hid (GG_12.out.below (by omega) hb)
  have cF_13 := F_13.out.bx
  have dF_13 := F_13.out.bx2
  have z13 := hb.size
  try simp only [World.size_alloc] at z13
  clear hb F_12 GW_12 C0_12 X0_12 T0_12 X1_12 GG_12 cF_12 dF_12
  go_wp2_with fail
  refine x8 4 [(0, false), (1, false), (2, true), (3, true)] (fun w1 w' => Below w1.heap.size w1 w') (by kernel_rfl) (by kernel_rfl) (fun _ _ d _ _ h => by cases d <;> exact h) (fun w14 hs => ⟨Below.refl _ _, ?_⟩)
  have hb := hs.below w13.heap.size
  clear hs
  have F_14 := Lib.hid (F_13.out.below hb)
  have GW_14 := Lib.hid (GW_13.out.below (by omega) hb)
  have C0_14 := Lib.hid (C0_13.out.below hb)
  have X0_14 := (hb.cell (p := ⟨w8.heap.size, 0, none⟩) (by show w8.heap.size < _; omega)).trans X0_13
  have T0_14 := Lib.hid (T0_13.out.below (by omega) hb)
  have X1_14 := (hb.cell (p := ⟨w10.heap.size, 0, none⟩) (by show w10.heap.size < _; omega)).trans X1_13
  have GG_14 := Lib.hid (GG_13.out.below (by omega) hb)
  have cF_14 := F_14.out.bx
  have dF_14 := F_14.out.bx2
  have z14 := hb.size
  try simp only [World.size_alloc] at z14
  clear hb F_13 GW_13 C0_13 X0_13 T0_13 X1_13 GG_13 cF_13 dF_13
  have H1 := xR X0_14
  have H2 := xR cF_14
  (refine xE rfl ?_; go_big_quiet_step (rfl); refine wpQuiet_nil ?_)
  (refine xE rfl ?_; go_big_quiet_step (rfl); refine wpQuiet_nil ?_)
  clear H1 H2
  refine xT rfl ?_
  go_wp2_with fail
  refine (wK HB.out F_14.out.now).mono ?_
  rintro e w15 ⟨g2, xs2, rfl, cc, hb⟩
  have hbR := Lib.hid hb
  have F_15 := Lib.hid (F_14.out.below hb)
  have GW_15 := Lib.hid (GW_14.out.below (by omega) hb)
  have C0_15 := Lib.hid (C0_14.out.below hb)
  have X0_15 := (hb.cell (p := ⟨w8.heap.size, 0, none⟩) (by show w8.heap.size < _; omega)).trans X0_14
  have T0_15 := Lib.hid (T0_14.out.below (by omega) hb)
  have X1_15 := (hb.cell (p := ⟨w10.heap.size, 0, none⟩) (by show w10.heap.size < _; omega)).trans X1_14
  have GG_15 := Lib.hid (GG_14.out.below (by omega) hb)
  have cF_15 := F_15.out.bx
  have dF_15 := F_15.out.bx2
  have z15 := hb.size
  try simp only [World.size_alloc] at z15
  clear hb F_14 GW_14 C0_14 X0_14 T0_14 X1_14 GG_14 cF_14 dF_14
  try simp only [World.size_alloc] at cc
  have C2_15 := Lib.hid (cc)
  clear cc
  go_wp2_with fail
  refine ⟨hbR.out, ?_⟩
  refine xT rfl ?_
  go_wp2_with fail
  refine (eqDic_call HB.out C0_15.out.rd (Nat.le_refl _) C2_15.out.rd (Nat.le_refl _) (F_15.out.gi GI0.out)).mono ?_
  rintro e w16 ⟨rfl, hb⟩
  have hbR := Lib.hid (hbR.out.trans (hb.mono hbR.out.size))
  have F_16 := Lib.hid (F_15.out.below hb)
  have GW_16 := Lib.hid (GW_15.out.below (by omega) hb)
  have C0_16 := Lib.hid (C0_15.out.below hb)
  have X0_16 := (hb.cell (p := ⟨w8.heap.size, 0, none⟩) (by show w8.heap.size < _; omega)).trans X0_15
  have T0_16 := Lib.hid (T0_15.out.below (by omega) hb)
  have X1_16 := (hb.cell (p := ⟨w10.heap.size, 0, none⟩) (by show w10.heap.size < _; omega)).trans X1_15
  have GG_16 := Lib.hid (GG_15.out.below (by omega) hb)
  have C2_16 := Lib.hid (C2_15.out.below hb)
  have cF_16 := F_16.out.bx
  have dF_16 := F_16.out.bx2
  have z16 := hb.size
  try simp only [World.size_alloc] at z16
  clear hb F_15 GW_15 C0_15 X0_15 T0_15 X1_15 GG_15 C2_15 cF_15 dF_15
  go_wp2_with fail
  refine ⟨hbR.out, ?_⟩
  clear hbR
  (refine vK ?_; simp only [List.drop_succ_cons, List.drop_zero])
  clear C2_16
  go_wp2_with fail
  refine x8 4 [(0, false), (1, false), (2, true), (3, true)] (fun w1 w' => Below w1.heap.size w1 w') (by kernel_rfl) (by kernel_rfl) (fun _ _ d _ _ h => by cases d <;> exact h) (fun w17 hs => ⟨Below.refl _ _, ?_⟩)
  have hb := hs.below w16.heap.size
  clear hs
  have F_17 := Lib.hid (F_16.out.below hb)
  have GW_17 := Lib.hid (GW_16.out.below (by omega) hb)
  have C0_17 := Lib.hid (C0_16.out.below hb)
  have X0_17 := (hb.cell (p := ⟨w8.heap.size, 0, none⟩) (by show w8.heap.size < _; omega)).trans X0_16
  have T0_17 := Lib.hid (T0_16.out.below (by omega) hb)
  have X1_17 := (hb.cell (p := ⟨w10.heap.size, 0, none⟩) (by show w10.heap.size < _; omega)).trans X1_16
  have GG_17 := Lib.hid (GG_16.out.below (by omega) hb)
  have cF_17 := F_17.out.bx
  have dF_17 := F_17.out.bx2
  have z17 := hb.size
  try simp only [World.size_alloc] at z17
  clear hb F_16 GW_16 C0_16 X0_16 T0_16 X1_16 GG_16 cF_16 dF_16
  have H1 := xR X1_17
  have H2 := xR dF_17
  (refine xE rfl ?_; go_big_quiet_step (rfl); refine wpQuiet_nil ?_)
  (refine xE rfl ?_; go_big_quiet_step (rfl); refine wpQuiet_nil ?_)
  clear H1 H2
  refine xT rfl ?_
  go_wp2_with fail
  refine (wF hB2 F_17.out.nowt (F_17.out.gi GI0.out)).mono ?_
  rintro e w18 ⟨a2, k2, rfl, cc, hb⟩
  have hbR := Lib.hid hb
  have F_18 := Lib.hid (F_17.out.below hb)
  have GW_18 := Lib.hid (GW_17.out.below (by omega) hb)
  have C0_18 := Lib.hid (C0_17.out.below hb)
  have X0_18 := (hb.cell (p := ⟨w8.heap.size, 0, none⟩) (by show w8.heap.size < _; omega)).trans X0_17
  have T0_18 := Lib.hid (T0_17.out.below (by omega) hb)
  have X1_18 := (hb.cell (p := ⟨w10.heap.size, 0, none⟩) (by show w10.heap.size < _; omega)).trans X1_17
  have GG_18 := Lib.hid (GG_17.out.below (by omega) hb)
  have cF_18 := F_18.out.bx
  have dF_18 := F_18.out.bx2
  have z18 := hb.size
  try simp only [World.size_alloc] at z18
  clear hb F_17 GW_17 C0_17 X0_17 T0_17 X1_17 GG_17 cF_17 dF_17
  try simp only [World.size_alloc] at cc
  have T2_18 := Lib.hid (cc)
  clear cc
  go_wp2_with fail
  refine ⟨hbR.out, ?_⟩
  refine xT rfl ?_
  go_wp2_with fail
  refine (eqTape_call (by omega) (T0_18.out.rep (by omega)) (T2_18.out.rep (by omega)) (F_18.out.gi GI0.out)).mono ?_
  rintro e w19 ⟨rfl, hb⟩
  have hbR := Lib.hid (hbR.out.trans (hb.mono hbR.out.size))
  have F_19 := Lib.hid (F_18.out.below hb)
  have GW_19 := Lib.hid (GW_18.out.below (by omega) hb)
  have C0_19 := Lib.hid (C0_18.out.below hb)
  have X0_19 := (hb.cell (p := ⟨w8.heap.size, 0, none⟩) (by show w8.heap.size < _; omega)).trans X0_18
  have T0_19 := Lib.hid (T0_18.out.below (by omega) hb)
  have X1_19 := (hb.cell (p := ⟨w10.heap.size, 0, none⟩) (by show w10.heap.size < _; omega)).trans X1_18
  have GG_19 := Lib.hid (GG_18.out.below (by omega) hb)
  have T2_19 := Lib.hid (T2_18.out.below (by omega) hb)
  have cF_19 := F_19.out.bx
  have dF_19 := F_19.out.bx2
  have z19 := hb.size
  try simp only [World.size_alloc] at z19
  clear hb F_18 GW_18 C0_18 X0_18 T0_18 X1_18 GG_18 T2_18 cF_18 dF_18
  go_wp2_with fail
  refine ⟨hbR.out, ?_⟩
  clear hbR
  (refine vK ?_; simp only [List.drop_succ_cons, List.drop_zero])
  clear T2_19
  go_wp2_with fail
  refine (markDic_call (k0 := 1) C0_19.out HB.out HSUM.out (F_19.out.glo GI0.out (by omega)) (by omega)).mono ?_
  rintro e w20 ⟨⟨q1, rfl, hq1⟩, hf⟩
  clear C0_19
  have F_20 := Lib.hid (F_19.out.fr hf (by omega))
  have GW_20 := Lib.hid (GW_19.out.fr (by omega) hf (by omega))
  have X0_20 := (hf.cell (p := ⟨w8.heap.size, 0, none⟩) (by show w8.heap.size < _; omega) (by show w8.heap.size < _ ∨ _ ≤ w8.heap.size; omega)).trans X0_19
  have T0_20 := Lib.hid (T0_19.out.fr (by omega) hf (by omega))
  have X1_20 := (hf.cell (p := ⟨w10.heap.size, 0, none⟩) (by show w10.heap.size < _; omega) (by show w10.heap.size < _ ∨ _ ≤ w10.heap.size; omega)).trans X1_19
  have GG_20 := Lib.hid (GG_19.out.fr (by omega) hf (by omega))
  have cF_20 := F_20.out.bx
  have dF_20 := F_20.out.bx2
  have z20 := hf.size
  try simp only [World.size_alloc] at z20
  clear hf F_19 GW_19 X0_19 T0_19 X1_19 GG_19 cF_19 dF_19
  go_wp2_with fail
  refine (markTape_call (k := q1) T0_20.out (by omega) (by omega) (F_20.out.glo GI0.out (by omega)) (by omega)).mono ?_
  rintro e w21 ⟨rfl, hf⟩
  clear T0_20
  have F_21 := Lib.hid (F_20.out.fr hf (by omega))
  have GW_21 := Lib.hid (GW_20.out.fr (by omega) hf (by omega))
  have X0_21 := (hf.cell (p := ⟨w8.heap.size, 0, none⟩) (by show w8.heap.size < _; omega) (by show w8.heap.size < _ ∨ _ ≤ w8.heap.size; omega)).trans X0_20
  have X1_21 := (hf.cell (p := ⟨w10.heap.size, 0, none⟩) (by show w10.heap.size < _; omega) (by show w10.heap.size < _ ∨ _ ≤ w10.heap.size; omega)).trans X1_20
  have GG_21 := Lib.hid (GG_20.out.fr (by omega) hf (by omega))
  have cF_21 := F_21.out.bx
  have dF_21 := F_21.out.bx2
  have z21 := hf.size
  try simp only [World.size_alloc] at z21
  clear hf F_20 GW_20 X0_20 X1_20 GG_20 cF_20 dF_20
  have hq2 : ¬ ((q1 + 2 * t.length : Nat) : Int) < 0 := by omega
  go_wp2_with fail
  refine (vQ GG_21.out GW_21.out hl4 (by omega) (by omega) (F_21.out.gi GI0.out)).mono ?_
  rintro e w22 ⟨rfl, hb⟩
  have F_22 := Lib.hid (F_21.out.below hb)
  have GW_22 := Lib.hid (GW_21.out.below (by omega) hb)
  have X0_22 := (hb.cell (p := ⟨w8.heap.size, 0, none⟩) (by show w8.heap.size < _; omega)).trans X0_21
  have X1_22 := (hb.cell (p := ⟨w10.heap.size, 0, none⟩) (by show w10.heap.size < _; omega)).trans X1_21
  have GG_22 := Lib.hid (GG_21.out.below (by omega) hb)
  have cF_22 := F_22.out.bx
  have dF_22 := F_22.out.bx2
  have z22 := hb.size
  try simp only [World.size_alloc] at z22
  clear hb F_21 GW_21 X0_21 X1_21 GG_21 cF_21 dF_21
  go_wp2_with fail
  refine (markP_call (k := 1) GG_22.out hl4 (by omega) (F_22.out.glo GI0.out (by omega)) (by omega)).mono ?_
  rintro e w23 ⟨rfl, cc, hf⟩
  clear GG_22
  have F_23 := Lib.hid (F_22.out.fr hf (by omega))
  have GW_23 := Lib.hid (GW_22.out.fr (by omega) hf (by omega))
  have X0_23 := (hf.cell (p := ⟨w8.heap.size, 0, none⟩) (by show w8.heap.size < _; omega) (by show w8.heap.size < _ ∨ _ ≤ w8.heap.size; omega)).trans X0_22
  have X1_23 := (hf.cell (p := ⟨w10.heap.size, 0, none⟩) (by show w10.heap.size < _; omega) (by show w10.heap.size < _ ∨ _ ≤ w10.heap.size; omega)).trans X1_22
  have cF_23 := F_23.out.bx
  have dF_23 := F_23.out.bx2
  have z23 := hf.size
  try simp only [World.size_alloc] at z23
  clear hf F_22 GW_22 X0_22 X1_22 cF_22 dF_22
  try simp only [World.size_alloc] at cc
  have GM_23 := Lib.hid (cc)
  clear cc
  go_wp2_with fail
  refine (heldP_call (k := 1) (n := l.length) GM_23.out hl4 (by omega) (by omega) (F_23.out.gi GI0.out)).mono ?_
  rintro e w24 ⟨rfl, hb⟩
  have F_24 := Lib.hid (F_23.out.below hb)
  have GW_24 := Lib.hid (GW_23.out.below (by omega) hb)
  have X0_24 := (hb.cell (p := ⟨w8.heap.size, 0, none⟩) (by show w8.heap.size < _; omega)).trans X0_23
  have X1_24 := (hb.cell (p := ⟨w10.heap.size, 0, none⟩) (by show w10.heap.size < _; omega)).trans X1_23
  have GM_24 := Lib.hid (GM_23.out.below (by omega) hb)
  have cF_24 := F_24.out.bx
  have dF_24 := F_24.out.bx2
  have z24 := hb.size
  try simp only [World.size_alloc] at z24
  clear hb F_23 GW_23 X0_23 X1_23 GM_23 cF_23 dF_23
  have hm : ¬ ((1 + 3 * l.length : Nat) : Int) < 0 := by omega
  go_wp2_with fail
  refine x8 9 [(0, false), (2, false), (1, true), (3, true), (4, true), (5, false), (6, false), (7, false), (8, false)] (fun w1 w' => Below w1.heap.size w1 w') (by kernel_rfl) (by kernel_rfl) (fun _ _ d _ _ h => by cases d <;> exact h) (fun w25 hs => ⟨Below.refl _ _, ?_⟩)
  have hb := hs.below w24.heap.size
  clear hs
  have F_25 := Lib.hid (F_24.out.below hb)
  have GW_25 := Lib.hid (GW_24.out.below (by omega) hb)
  have X0_25 := (hb.cell (p := ⟨w8.heap.size, 0, none⟩) (by show w8.heap.size < _; omega)).trans X0_24
  have X1_25 := (hb.cell (p := ⟨w10.heap.size, 0, none⟩) (by show w10.heap.size < _; omega)).trans X1_24
  have GM_25 := Lib.hid (GM_24.out.below (by omega) hb)
  have cF_25 := F_25.out.bx
  have dF_25 := F_25.out.bx2
  have z25 := hb.size
  try simp only [World.size_alloc] at z25
  clear hb F_24 GW_24 X0_24 X1_24 GM_24 cF_24 dF_24
  have H1 := xR cF_25
  have H2 := xR dF_25
  (refine xE rfl ?_; go_big_quiet_step (rfl); refine wpQuiet_nil ?_)
  (refine xE rfl ?_; go_big_quiet_step (rfl); refine wpQuiet_nil ?_)
  clear H1 H2
  refine xT rfl ?_
  go_wp2_with fail
  refine (wK HB.out F_25.out.now).mono ?_
  rintro e w26 ⟨g3, xs3, rfl, cc, hb⟩
  have hbR := Lib.hid hb
  have F_26 := Lib.hid (F_25.out.below hb)
  have GW_26 := Lib.hid (GW_25.out.below (by omega) hb)
  have X0_26 := (hb.cell (p := ⟨w8.heap.size, 0, none⟩) (by show w8.heap.size < _; omega)).trans X0_25
  have X1_26 := (hb.cell (p := ⟨w10.heap.size, 0, none⟩) (by show w10.heap.size < _; omega)).trans X1_25
  have GM_26 := Lib.hid (GM_25.out.below (by omega) hb)
  have cF_26 := F_26.out.bx
  have dF_26 := F_26.out.bx2
  have z26 := hb.size
  try simp only [World.size_alloc] at z26
  clear hb F_25 GW_25 X0_25 X1_25 GM_25 cF_25 dF_25
  try simp only [World.size_alloc] at cc
  have C3_26 := Lib.hid (cc)
  clear cc
  go_wp2_with fail
  refine ⟨hbR.out, ?_⟩
  refine xT rfl ?_
  go_wp2_with fail
  refine (wF hB2 F_26.out.nowt (F_26.out.gi GI0.out)).mono ?_
  rintro e w27 ⟨a3, k3, rfl, cc, hb⟩
  have hbR := Lib.hid (hbR.out.trans (hb.mono hbR.out.size))
  have F_27 := Lib.hid (F_26.out.below hb)
  have GW_27 := Lib.hid (GW_26.out.below (by omega) hb)
  have X0_27 := (hb.cell (p := ⟨w8.heap.size, 0, none⟩) (by show w8.heap.size < _; omega)).trans X0_26
  have X1_27 := (hb.cell (p := ⟨w10.heap.size, 0, none⟩) (by show w10.heap.size < _; omega)).trans X1_26
  have GM_27 := Lib.hid (GM_26.out.below (by omega) hb)
  have C3_27 := Lib.hid (C3_26.out.below hb)
  have cF_27 := F_27.out.bx
  have dF_27 := F_27.out.bx2
  have z27 := hb.size
  try simp only [World.size_alloc] at z27
  clear hb F_26 GW_26 X0_26 X1_26 GM_26 C3_26 cF_26 dF_26
  try simp only [World.size_alloc] at cc
  have T3_27 := Lib.hid (cc)
  clear cc
  go_wp2_with fail
  refine ⟨hbR.out, ?_⟩
  refine xT rfl ?_
  go_wp2_with fail
  refine (HI.out _ _ _ _ _ C3_27.out.rd (Nat.le_refl _) (T3_27.out.rep (by omega)) (F_27.out.gi GI0.out)).mono ?_
  rintro e w28 ⟨uh, rfl, cc, hb⟩
  have hbR := Lib.hid (hbR.out.trans (hb.mono hbR.out.size))
  have F_28 := Lib.hid (F_27.out.below hb)
  have GW_28 := Lib.hid (GW_27.out.below (by omega) hb)
  have X0_28 := (hb.cell (p := ⟨w8.heap.size, 0, none⟩) (by show w8.heap.size < _; omega)).trans X0_27
  have X1_28 := (hb.cell (p := ⟨w10.heap.size, 0, none⟩) (by show w10.heap.size < _; omega)).trans X1_27
  have GM_28 := Lib.hid (GM_27.out.below (by omega) hb)
  have C3_28 := Lib.hid (C3_27.out.below hb)
  have T3_28 := Lib.hid (T3_27.out.below (by omega) hb)
  have cF_28 := F_28.out.bx
  have dF_28 := F_28.out.bx2
  have z28 := hb.size
  try simp only [World.size_alloc] at z28
  clear hb F_27 GW_27 X0_27 X1_27 GM_27 C3_27 T3_27 cF_27 dF_27
  try simp only [World.size_alloc] at cc
  have GH_28 := Lib.hid (cc)
  clear cc
  go_wp2_with fail
  refine ⟨hbR.out, ?_⟩
  clear hbR
  (refine xE rfl ?_; go_big_quiet_step (rfl); refine wpQuiet_nil ?_)
  (refine xE rfl ?_; go_big_quiet_step (rfl); refine wpQuiet_nil ?_)
  (refine xE rfl ?_; go_big_quiet_step (rfl); refine wpQuiet_nil ?_)
  (refine xE rfl ?_; go_big_quiet_step (rfl); refine wpQuiet_nil ?_)
  (refine vK ?_; simp only [List.drop_succ_cons, List.drop_zero])
  clear C3_28 T3_28
  go_wp2_with fail
  refine (vQ GH_28.out GW_28.out hl4 (by omega) (by omega) (F_28.out.gi GI0.out)).mono ?_
  rintro e w29 ⟨rfl, hb⟩
  have F_29 := Lib.hid (F_28.out.below hb)
  have GW_29 := Lib.hid (GW_28.out.below (by omega) hb)
  have X0_29 := (hb.cell (p := ⟨w8.heap.size, 0, none⟩) (by show w8.heap.size < _; omega)).trans X0_28
  have X1_29 := (hb.cell (p := ⟨w10.heap.size, 0, none⟩) (by show w10.heap.size < _; omega)).trans X1_28
  have GM_29 := Lib.hid (GM_28.out.below (by omega) hb)
  have GH_29 := Lib.hid (GH_28.out.below (by omega) hb)
  have cF_29 := F_29.out.bx
  have dF_29 := F_29.out.bx2
  have z29 := hb.size
  try simp only [World.size_alloc] at z29
  clear hb F_28 GW_28 X0_28 X1_28 GM_28 GH_28 cF_28 dF_28
  go_wp2_with fail
  refine (heldP_call (k := 1) (n := l.length) GM_29.out hl4 (by omega) (by omega) (F_29.out.gi GI0.out)).mono ?_
  rintro e w30 ⟨rfl, hb⟩
  have F_30 := Lib.hid (F_29.out.below hb)
  have GW_30 := Lib.hid (GW_29.out.below (by omega) hb)
  have X0_30 := (hb.cell (p := ⟨w8.heap.size, 0, none⟩) (by show w8.heap.size < _; omega)).trans X0_29
  have X1_30 := (hb.cell (p := ⟨w10.heap.size, 0, none⟩) (by show w10.heap.size < _; omega)).trans X1_29
  have GM_30 := Lib.hid (GM_29.out.below (by omega) hb)
  have GH_30 := Lib.hid (GH_29.out.below (by omega) hb)
  have cF_30 := F_30.out.bx
  have dF_30 := F_30.out.bx2
  have z30 := hb.size
  try simp only [World.size_alloc] at z30
  clear hb F_29 GW_29 X0_29 X1_29 GM_29 GH_29 cF_29 dF_29
  go_wp2
  go_ret
  exact ⟨rfl, F_30.out.bt⟩
set_option maxRecDepth 100000 in
theorem lawTp_big (W : World) (A : Option Addr) (c : Nat) (es : List Ent) (A2 : Option Addr) (c2 : Nat) (t : List Itm) (gi : GI (fun b => b < W.heap.size) W) (hr : RdE W W.heap.size A (enL es)) (hc : es.length ≤ c)
    (hrt : RepI (fun b => b < W.heap.size) W (.sl (t.map yO)) (.slice A2 t.length c2)) (hM : kN es) (hsz : wR es 1048576 < 0) :
    Calls Tryz.prog 3 #[.agg #[.slice A es.length c], .agg #[.slice A2 t.length c2]] W fun e w' => e = .returned (.bool true) ∧ Below W.heap.size W w' := by
  have HM := Lib.hid hM
  have GI0 := Lib.hid gi
  obtain ⟨s, hs⟩ : ∃ s, Hid (wR es 1048576 = s) := ⟨_, Lib.hid rfl⟩
  have hs0 : s < 0 := by rw [← hs.out]; exact hsz
  have hb0 : Below W.heap.size W ((W.alloc (.cells #[.slice A es.length c] 24)).alloc (.cells #[.slice A2 t.length c2] 27)) := below2 W _ _
  have F_1 := Lib.hid (⟨hb0, by simp, by go_simp, by go_simp, hr.below hb0 (Nat.le_refl _), hrt.mono (fun _ h => h) (fun b hb => hb0.block b hb)⟩ : AgT W A c es A2 c2 t ((W.alloc (.cells #[.slice A es.length c] 24)).alloc (.cells #[.slice A2 t.length c2] 27)))
  have cF_1 := F_1.out.bx
  have dF_1 := F_1.out.bx2
  clear hM gi hr hrt hsz hb0
  go_enter Tryz.func3, Tryz.ntmps3
  go_wp2_with fail
  refine (szDic_call HM.out (by omega) (by omega) F_1.out.now hc (F_1.out.gi GI0.out)).mono ?_
  rintro e w2 ⟨rfl, hb⟩
  rw [hs.out]
  have F_2 := Lib.hid (F_1.out.below hb)
  clear hb F_1 cF_1 dF_1
  go_wp2
  go_ret
  exact ⟨rfl, F_2.out.bt⟩
set_option maxRecDepth 100000 in
theorem lawTp_big2 (W : World) (A : Option Addr) (c : Nat) (es : List Ent) (A2 : Option Addr) (c2 : Nat) (t : List Itm) (gi : GI (fun b => b < W.heap.size) W) (hr : RdE W W.heap.size A (enL es)) (hc : es.length ≤ c)
    (hrt : RepI (fun b => b < W.heap.size) W (.sl (t.map yO)) (.slice A2 t.length c2)) (hM : kN es) (hM2 : qP t) (hsz : 0 ≤ wR es 1048576) (hsz2 : szT t (wR es 1048576) < 0) :
    Calls Tryz.prog 3 #[.agg #[.slice A es.length c], .agg #[.slice A2 t.length c2]] W fun e w' => e = .returned (.bool true) ∧ Below W.heap.size W w' := by
  have HM := Lib.hid hM
  have HM2 := Lib.hid hM2
  have GI0 := Lib.hid gi
  obtain ⟨s, hs⟩ : ∃ s, Hid (wR es 1048576 = s) := ⟨_, Lib.hid rfl⟩
  have hs0 : 0 ≤ s := by rw [← hs.out]; exact hsz
  have hs1 : s ≤ 1048576 := by rw [← hs.out]; exact (szDi_ge (by omega)).2
  obtain ⟨s2, hs2⟩ : ∃ s2, Hid (szT t s = s2) := ⟨_, Lib.hid rfl⟩
  have hs20 : s2 < 0 := by rw [← hs2.out, ← hs.out]; exact hsz2
  have hb0 : Below W.heap.size W ((W.alloc (.cells #[.slice A es.length c] 24)).alloc (.cells #[.slice A2 t.length c2] 27)) := below2 W _ _
  have F_1 := Lib.hid (⟨hb0, by simp, by go_simp, by go_simp, hr.below hb0 (Nat.le_refl _), hrt.mono (fun _ h => h) (fun b hb => hb0.block b hb)⟩ : AgT W A c es A2 c2 t ((W.alloc (.cells #[.slice A es.length c] 24)).alloc (.cells #[.slice A2 t.length c2] 27)))
  have cF_1 := F_1.out.bx
  have dF_1 := F_1.out.bx2
  clear hM hM2 gi hr hrt hsz hsz2 hb0
  go_enter Tryz.func3, Tryz.ntmps3
  go_wp2_with fail
  refine (szDic_call HM.out (by omega) (by omega) F_1.out.now hc (F_1.out.gi GI0.out)).mono ?_
  rintro e w2 ⟨rfl, hb⟩
  rw [hs.out]
  have F_2 := Lib.hid (F_1.out.below hb)
  have cF_2 := F_2.out.bx
  have dF_2 := F_2.out.bx2
  clear hb F_1 cF_1 dF_1
  go_wp2_with fail
  refine (szTape_call HM2.out hs0 hs1 F_2.out.nowt (F_2.out.gi GI0.out)).mono ?_
  rintro e w3 ⟨rfl, hb⟩
  rw [hs2.out]
  have F_3 := Lib.hid (F_2.out.below hb)
  clear hb F_2 cF_2 dF_2
  go_wp2
  go_ret
  exact ⟨rfl, F_3.out.bt⟩
theorem rep_dic {w : World} {es : List Ent} {v : Value} (h : RepF (fun b => b < w.heap.size) (fun _ => none) w (.agg (wL es)) v) : ∃ A c, v = .agg #[.slice A es.length c] ∧ es.length ≤ c ∧ RdE w w.heap.size A (enL es) := by
  obtain ⟨us, rfl, h⟩ := h
  cases h with
  | cons h h2 =>
    cases h2
    cases h with
    | imm h =>
      obtain ⟨A, c, rfl, h2, h3⟩ := rep_ents h (fun b hb => hb)
      exact ⟨A, c, rfl, h2, h3⟩
theorem rep_tape {w : World} {t : List Itm} {v : Value} (h : RepF (fun b => b < w.heap.size) (fun _ => none) w (.agg (xU t)) v) : ∃ A c, v = .agg #[.slice A t.length c] ∧ RepI (fun b => b < w.heap.size) w (.sl (t.map yO)) (.slice A t.length c) := by
  obtain ⟨us, rfl, h⟩ := h
  cases h with
  | cons h h2 =>
    cases h2
    cases h with
    | imm h =>
      obtain ⟨A, c, e⟩ := rep_sl h
      rw [List.length_map] at e
      subst e
      exact ⟨A, c, rfl, h⟩
theorem tpc_len {es : List Ent} {t : List Itm} : (tpc es t).length ≤ t.length := by
  have h1 := tpF_len es (runsT t) 0
  rw [(runsT_ok t).2, List.length_map] at h1
  exact h1
theorem lawTp_run (es : List Ent) (t : List Itm) (hM : kN es) (hM2 : qP t) {w : World} (vals : List Value) (hv : All2 (RepF (fun b => b < w.heap.size) (fun _ => none) w) [.agg (wL es), .agg (xU t)] vals) (gi : GI (fun b => b < w.heap.size) w) :
    Calls Tryz.prog 3 vals.toArray w fun e w' => e = .returned (.bool true) ∧ Below w.heap.size w w' := by
  cases hv with
  | cons h1 hv => cases hv with
    | cons h2 hv =>
      cases hv
      obtain ⟨A, c, rfl, hc, hr⟩ := rep_dic h1
      obtain ⟨A2, c2, rfl, hrt⟩ := rep_tape h2
      by_cases hsz : wR es 1048576 < 0
      · exact lawTp_big w A c es A2 c2 t gi hr hc hrt hM hsz
      have hsz' : 0 ≤ wR es 1048576 := by omega
      have hge := (szDi_ge (es := es) (l := 1048576) (by omega)).2
      by_cases hsz2 : szT t (wR es 1048576) < 0
      · exact lawTp_big2 w A c es A2 c2 t gi hr hc hrt hM hM2 hsz' hsz2
      have hsz2' : 0 ≤ szT t (wR es 1048576) := by omega
      have hB := szDi_ok hsz' (by omega)
      have hsum := szDi_sum hsz'
      have hB2 := szT_ok hsz2' hge
      have hTB : TapeB t := by rw [TapeB]; omega
      have hl := tpc_len (es := es) (t := t)
      cases h : qH es t with
      | false => exact lawTp_F w A c es A2 c2 t [] gi hr hc hrt hM hB hM2 hB2 hsz' hsz2' (by omega) (givesP_no (specTpN_pf es t hB hTB h)) (givesP_no (implTpN_pf es t hB hTB h)) (by simp)
      | true =>
        have h60 := (tapeOk_parts (by rw [qH, Bool.and_eq_true] at h; exact h.2)).1
        exact lawTp_T w A c es A2 c2 t (tpc es t) gi hr hc hrt hM hB hM2 hB2 hsz' hsz2' (by omega) (givesP_yes (specTpY_pf es t hB hTB h)) (givesP_yes (implTpY_pf es t hB hTB h)) (by omega)
end Go.Proofs.YtjeffognhcbiaaaGreatDoor
