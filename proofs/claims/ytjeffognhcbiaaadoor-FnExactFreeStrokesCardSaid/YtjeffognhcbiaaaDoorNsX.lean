/- FnExactFreeStrokes returns true: a concrete walk. Printed by gen_nsx.py. -/
import Derived.Test.YtjeffognhcbiaaaDoorNsT
import Derived.Test.YtjeffognhcbiaaaDoorFrB
namespace Go.Proofs.YtjeffognhcbiaaaDoor
open Go Go.RowKit
set_option maxRecDepth 100000 in
set_option maxHeartbeats 4000000 in
theorem lawFrS_T (W : World) (A : Option Addr) (c : Nat) (es : List Ent) (m : Int) (n : Int) (L Li : List Int) (k : Nat) (gi : GI (fun b => b < W.heap.size) W) (hr : RdE W W.heap.size A (enL es)) (hc : es.length ≤ c) (hM : qS es) (hB : vP es)
    (hsz : 0 ≤ wT es 1048576) (hsum : 1 + (es.map fun e => e.o.length + 1).sum ≤ 8388608)
    (hS : qQ 6 es [.int .i64 m, .int .i64 n] L k true) (hI : qQ 8 es [.int .i64 m, .int .i64 n] Li Li.length true) (hE : Li = L.take k) (hLi : Li.length ≤ 1000000) :
    Calls Tryd.prog 3 #[.agg #[.slice A es.length c], .int .i64 m, .int .i64 n] W fun e w' => e = .returned (.bool true) ∧ Below W.heap.size W w' := by
  have hEt : Li.take Li.length = L.take k := by rw [List.take_length]; exact hE
  have hLt : (Li.take Li.length).length ≤ 4000000 := by rw [List.take_length]; omega
  have hL4 : Li.length ≤ 4000000 := by omega
  have HS := Lib.hid hS
  have HI := Lib.hid hI
  have HB := Lib.hid hB
  have HM := Lib.hid hM
  have GI0 := Lib.hid gi
  have HSUM := Lib.hid hsum
  have HE := Lib.hid hEt
  obtain ⟨s, hs⟩ : ∃ s, Hid (wT es 1048576 = s) := ⟨_, Lib.hid rfl⟩
  have hs0 : 0 ≤ s := by rw [← hs.out]; exact hsz
  have hb0 : Below W.heap.size W (W.alloc (.cells #[.slice A es.length c] 24)) := v7 W _
  have F_1 := Lib.hid (⟨hb0, by simp, by go_simp, hr.below hb0 (Nat.le_refl _)⟩ : Ag W A c es (W.alloc (.cells #[.slice A es.length c] 24)))
  have cF_1 := F_1.out.bx
  clear hS hI hB hM gi hr hsum hsz hb0 hEt
  go_enter Tryd.func3, Tryd.ntmps3
  go_wp2_with fail
  refine (szDic_call HM.out (by omega) (by omega) F_1.out.now hc (F_1.out.gi GI0.out)).mono ?_
  rintro e w2 ⟨rfl, hb⟩
  rw [hs.out]
  have F_2 := Lib.hid (F_1.out.below hb)
  have cF_2 := F_2.out.bx
  have z2 := hb.size
  try simp only [World.size_alloc] at z2
  clear hb F_1 cF_1
  go_wp2_with fail
  refine (x9 HB.out F_2.out.now).mono ?_
  rintro e w3 ⟨g1, xsg1, rfl, cc, hb⟩
  have F_3 := Lib.hid (F_2.out.below hb)
  have cF_3 := F_3.out.bx
  have z3 := hb.size
  try simp only [World.size_alloc] at z3
  clear hb F_2 cF_2
  have C1_3 := Lib.hid (cc)
  clear cc
  have l2 := F_3.out.lt
  go_wp2_with fail
  refine (HS.out _ _ _ C1_3.out.rd (Nat.le_refl _) (F_3.out.gi GI0.out)).mono ?_
  rintro e w4 ⟨uw, rfl, gg, hb⟩
  have F_4 := Lib.hid (F_3.out.below hb)
  have C1_4 := Lib.hid (C1_3.out.below hb)
  have cF_4 := F_4.out.bx
  have z4 := hb.size
  try simp only [World.size_alloc] at z4
  clear hb F_3 C1_3 cF_3
  try simp only [World.size_alloc] at gg
  have GW_4 := Lib.hid (gg)
  clear gg
  clear C1_4
  go_wp2_with fail
  refine (x9 HB.out F_4.out.now).mono ?_
  rintro e w5 ⟨g0, xsg0, rfl, cc, hb⟩
  have F_5 := Lib.hid (F_4.out.below hb)
  have GW_5 := Lib.hid (GW_4.out.below (by omega) hb)
  have cF_5 := F_5.out.bx
  have z5 := hb.size
  try simp only [World.size_alloc] at z5
  clear hb F_4 GW_4 cF_4
  have C0_5 := Lib.hid (cc)
  clear cc
  have lF := F_5.out.lt
  have hb : Below w5.heap.size w5 (w5.alloc (.cells #[.slice (some ⟨g0, 0, none⟩) es.length es.length] 31)) := v7 w5 _
  have X0_6 : (w5.alloc (.cells #[.slice (some ⟨g0, 0, none⟩) es.length es.length] 31)).cell? ⟨w5.heap.size, 0, none⟩ = some (.slice (some ⟨g0, 0, none⟩) es.length es.length) := by go_simp
  have q6 : (w5.alloc (.cells #[.slice (some ⟨g0, 0, none⟩) es.length es.length] 31)).heap.size = w5.heap.size + 1 := by simp
  have F_6 := Lib.hid (F_5.out.below hb)
  have GW_6 := Lib.hid (GW_5.out.below (by omega) hb)
  have C0_6 := Lib.hid (C0_5.out.below hb)
  have cF_6 := F_6.out.bx
  have z6 := hb.size
  try simp only [World.size_alloc] at z6
  clear hb F_5 GW_5 C0_5 cF_5
  go_wp2_with fail
  refine (HI.out _ _ _ C0_6.out.rd (Nat.le_refl _) (F_6.out.gi GI0.out)).mono ?_
  rintro e w7 ⟨ug, rfl, gg, hb⟩
  have F_7 := Lib.hid (F_6.out.below hb)
  have GW_7 := Lib.hid (GW_6.out.below (by omega) hb)
  have C0_7 := Lib.hid (C0_6.out.below hb)
  have X0_7 := (hb.cell (p := ⟨w5.heap.size, 0, none⟩) (by show w5.heap.size < _; omega)).trans X0_6
  have cF_7 := F_7.out.bx
  have z7 := hb.size
  try simp only [World.size_alloc] at z7
  clear hb F_6 GW_6 C0_6 X0_6 cF_6
  try simp only [World.size_alloc] at gg
  have GG_7 := Lib.hid (gg)
  clear gg
  go_wp2_with fail
  refine (v8 GG_7.out GW_7.out HE.out hLt (by omega) (by omega) (F_7.out.gi GI0.out)).mono ?_
  rintro e w8 ⟨rfl, hb⟩
  have F_8 := Lib.hid (F_7.out.below hb)
  have GW_8 := Lib.hid (GW_7.out.below (by omega) hb)
  have C0_8 := Lib.hid (C0_7.out.below hb)
  have X0_8 := (hb.cell (p := ⟨w5.heap.size, 0, none⟩) (by show w5.heap.size < _; omega)).trans X0_7
  have GG_8 := Lib.hid (GG_7.out.below (by omega) hb)
  have cF_8 := F_8.out.bx
  have z8 := hb.size
  try simp only [World.size_alloc] at z8
  clear hb F_7 GW_7 C0_7 X0_7 GG_7 cF_7
  go_wp2_with fail
  refine wp_region_in 4 [(0, false), (1, false), (2, true), (3, true)] (fun w1 w' => Below w1.heap.size w1 w') (by kernel_rfl) (by kernel_rfl) (fun _ _ d _ _ h => by cases d <;> exact h) (fun w9 hs => ⟨Below.refl _ _, ?_⟩)
  have hb := hs.below w8.heap.size
  clear hs
  have F_9 := Lib.hid (F_8.out.below hb)
  have GW_9 := Lib.hid (GW_8.out.below (by omega) hb)
  have C0_9 := Lib.hid (C0_8.out.below hb)
  have X0_9 := (hb.cell (p := ⟨w5.heap.size, 0, none⟩) (by show w5.heap.size < _; omega)).trans X0_8
  have GG_9 := Lib.hid (GG_8.out.below (by omega) hb)
  have cF_9 := F_9.out.bx
  have z9 := hb.size
  try simp only [World.size_alloc] at z9
  clear hb F_8 GW_8 C0_8 X0_8 GG_8 cF_8
  have H1 := held_below X0_9
  have H2 := held_below cF_9
  (refine wpH_held rfl ?_; go_big_quiet_step (rfl); refine wpQuiet_nil ?_)
  (refine wpH_held rfl ?_; go_big_quiet_step (rfl); refine wpQuiet_nil ?_)
  clear H1 H2
  refine wpH_move rfl ?_
  go_wp2_with fail
  refine (x9 HB.out F_9.out.now).mono ?_
  rintro e w10 ⟨g2, xs2, rfl, cc, hb⟩
  have hbR := Lib.hid hb
  have F_10 := Lib.hid (F_9.out.below hb)
  have GW_10 := Lib.hid (GW_9.out.below (by omega) hb)
  have C0_10 := Lib.hid (C0_9.out.below hb)
  have X0_10 := (hb.cell (p := ⟨w5.heap.size, 0, none⟩) (by show w5.heap.size < _; omega)).trans X0_9
  have GG_10 := Lib.hid (GG_9.out.below (by omega) hb)
  have cF_10 := F_10.out.bx
  have z10 := hb.size
  try simp only [World.size_alloc] at z10
  clear hb F_9 GW_9 C0_9 X0_9 GG_9 cF_9
  have C2_10 := Lib.hid (cc)
  clear cc
  go_wp2_with fail
  refine ⟨hbR.out, ?_⟩
  refine wpH_move rfl ?_
  go_wp2_with fail
  refine (eqDic_call HB.out C0_10.out.rd (Nat.le_refl _) C2_10.out.rd (Nat.le_refl _) (F_10.out.gi GI0.out)).mono ?_
  rintro e w11 ⟨rfl, hb⟩
  have hbS := Lib.hid (hbR.out.trans (hb.mono hbR.out.size))
  have F_11 := Lib.hid (F_10.out.below hb)
  have GW_11 := Lib.hid (GW_10.out.below (by omega) hb)
  have C0_11 := Lib.hid (C0_10.out.below hb)
  have X0_11 := (hb.cell (p := ⟨w5.heap.size, 0, none⟩) (by show w5.heap.size < _; omega)).trans X0_10
  have GG_11 := Lib.hid (GG_10.out.below (by omega) hb)
  have C2_11 := Lib.hid (C2_10.out.below hb)
  have cF_11 := F_11.out.bx
  have z11 := hb.size
  try simp only [World.size_alloc] at z11
  clear hb F_10 GW_10 C0_10 X0_10 GG_10 C2_10 cF_10
  go_wp2_with fail
  refine ⟨hbS.out, ?_⟩
  clear hbR hbS C2_11
  (refine wpH_nil ?_; simp only [List.drop_succ_cons, List.drop_zero])
  go_wp2_with fail
  refine (markDic_call (k0 := 1) C0_11.out HB.out HSUM.out (F_11.out.glo GI0.out (by omega)) (by omega)).mono ?_
  rintro e w12 ⟨⟨k1, rfl, hkk⟩, hf⟩
  clear C0_11
  have F_12 := Lib.hid (F_11.out.fr hf (by omega))
  have GW_12 := Lib.hid (GW_11.out.fr (by omega) hf (by omega))
  have X0_12 := (hf.cell (p := ⟨w5.heap.size, 0, none⟩) (by show w5.heap.size < _; omega) (by show w5.heap.size < _ ∨ _ ≤ w5.heap.size; omega)).trans X0_11
  have GG_12 := Lib.hid (GG_11.out.fr (by omega) hf (by omega))
  have cF_12 := F_12.out.bx
  have z12 := hf.size
  try simp only [World.size_alloc] at z12
  clear hf F_11 GW_11 X0_11 GG_11 cF_11
  have hk1 : ¬ ((k1 : Nat) : Int) < 0 := by omega
  go_wp2_with fail
  refine (v8 GG_12.out GW_12.out HE.out hLt (by omega) (by omega) (F_12.out.gi GI0.out)).mono ?_
  rintro e w13 ⟨rfl, hb⟩
  have F_13 := Lib.hid (F_12.out.below hb)
  have GW_13 := Lib.hid (GW_12.out.below (by omega) hb)
  have X0_13 := (hb.cell (p := ⟨w5.heap.size, 0, none⟩) (by show w5.heap.size < _; omega)).trans X0_12
  have GG_13 := Lib.hid (GG_12.out.below (by omega) hb)
  have cF_13 := F_13.out.bx
  have z13 := hb.size
  try simp only [World.size_alloc] at z13
  clear hb F_12 GW_12 X0_12 GG_12 cF_12
  go_wp2_with fail
  refine (markGot (k := 1) GG_13.out hL4 (by omega) (by omega) (F_13.out.glo GI0.out (by omega)) (by omega)).mono ?_
  rintro e w14 ⟨rfl, gm, hf⟩
  clear GG_13
  have F_14 := Lib.hid (F_13.out.fr hf (by omega))
  have GW_14 := Lib.hid (GW_13.out.fr (by omega) hf (by omega))
  have X0_14 := (hf.cell (p := ⟨w5.heap.size, 0, none⟩) (by show w5.heap.size < _; omega) (by show w5.heap.size < _ ∨ _ ≤ w5.heap.size; omega)).trans X0_13
  have cF_14 := F_14.out.bx
  have z14 := hf.size
  try simp only [World.size_alloc] at z14
  clear hf F_13 GW_13 X0_13 cF_13
  have GM_14 := Lib.hid (gm)
  clear gm
  go_wp2_with fail
  refine (heldGot (k := 1) GM_14.out hL4 (by omega) (by omega) (F_14.out.gi GI0.out)).mono ?_
  rintro e w15 ⟨rfl, hb⟩
  have F_15 := Lib.hid (F_14.out.below hb)
  have GW_15 := Lib.hid (GW_14.out.below (by omega) hb)
  have X0_15 := (hb.cell (p := ⟨w5.heap.size, 0, none⟩) (by show w5.heap.size < _; omega)).trans X0_14
  have GM_15 := Lib.hid (GM_14.out.below (by omega) hb)
  have cF_15 := F_15.out.bx
  have z15 := hb.size
  try simp only [World.size_alloc] at z15
  clear hb F_14 GW_14 X0_14 GM_14 cF_14
  go_wp2_with fail
  refine (x9 HB.out F_15.out.now).mono ?_
  rintro e w16 ⟨g3, xsg3, rfl, cc, hb⟩
  have F_16 := Lib.hid (F_15.out.below hb)
  have GW_16 := Lib.hid (GW_15.out.below (by omega) hb)
  have X0_16 := (hb.cell (p := ⟨w5.heap.size, 0, none⟩) (by show w5.heap.size < _; omega)).trans X0_15
  have GM_16 := Lib.hid (GM_15.out.below (by omega) hb)
  have cF_16 := F_16.out.bx
  have z16 := hb.size
  try simp only [World.size_alloc] at z16
  clear hb F_15 GW_15 X0_15 GM_15 cF_15
  have C3_16 := Lib.hid (cc)
  clear cc
  go_wp2_with fail
  refine (HI.out _ _ _ C3_16.out.rd (Nat.le_refl _) (F_16.out.gi GI0.out)).mono ?_
  rintro e w17 ⟨uh, rfl, gg, hb⟩
  have F_17 := Lib.hid (F_16.out.below hb)
  have GW_17 := Lib.hid (GW_16.out.below (by omega) hb)
  have X0_17 := (hb.cell (p := ⟨w5.heap.size, 0, none⟩) (by show w5.heap.size < _; omega)).trans X0_16
  have GM_17 := Lib.hid (GM_16.out.below (by omega) hb)
  have C3_17 := Lib.hid (C3_16.out.below hb)
  have cF_17 := F_17.out.bx
  have z17 := hb.size
  try simp only [World.size_alloc] at z17
  clear hb F_16 GW_16 X0_16 GM_16 C3_16 cF_16
  try simp only [World.size_alloc] at gg
  have GH_17 := Lib.hid (gg)
  clear gg
  clear C3_17
  go_wp2_with fail
  refine (v8 GH_17.out GW_17.out HE.out hLt (by omega) (by omega) (F_17.out.gi GI0.out)).mono ?_
  rintro e w18 ⟨rfl, hb⟩
  have F_18 := Lib.hid (F_17.out.below hb)
  have GW_18 := Lib.hid (GW_17.out.below (by omega) hb)
  have X0_18 := (hb.cell (p := ⟨w5.heap.size, 0, none⟩) (by show w5.heap.size < _; omega)).trans X0_17
  have GM_18 := Lib.hid (GM_17.out.below (by omega) hb)
  have GH_18 := Lib.hid (GH_17.out.below (by omega) hb)
  have cF_18 := F_18.out.bx
  have z18 := hb.size
  try simp only [World.size_alloc] at z18
  clear hb F_17 GW_17 X0_17 GM_17 GH_17 cF_17
  go_wp2_with fail
  refine (heldGot (k := 1) GM_18.out hL4 (by omega) (by omega) (F_18.out.gi GI0.out)).mono ?_
  rintro e w19 ⟨rfl, hb⟩
  have F_19 := Lib.hid (F_18.out.below hb)
  have GW_19 := Lib.hid (GW_18.out.below (by omega) hb)
  have X0_19 := (hb.cell (p := ⟨w5.heap.size, 0, none⟩) (by show w5.heap.size < _; omega)).trans X0_18
  have GM_19 := Lib.hid (GM_18.out.below (by omega) hb)
  have GH_19 := Lib.hid (GH_18.out.below (by omega) hb)
  have cF_19 := F_19.out.bx
  have z19 := hb.size
  try simp only [World.size_alloc] at z19
  clear hb F_18 GW_18 X0_18 GM_18 GH_18 cF_18
  go_wp2
  go_ret
  exact ⟨rfl, F_19.out.t⟩
set_option maxRecDepth 100000 in
set_option maxHeartbeats 4000000 in
theorem lawFrS_F (W : World) (A : Option Addr) (c : Nat) (es : List Ent) (m : Int) (n : Int) (L Li : List Int) (k : Nat) (gi : GI (fun b => b < W.heap.size) W) (hr : RdE W W.heap.size A (enL es)) (hc : es.length ≤ c) (hM : qS es) (hB : vP es)
    (hsz : 0 ≤ wT es 1048576) (hsum : 1 + (es.map fun e => e.o.length + 1).sum ≤ 8388608)
    (hS : qQ 6 es [.int .i64 m, .int .i64 n] L k false) (hI : qQ 8 es [.int .i64 m, .int .i64 n] Li Li.length false) (hE : Li = L.take k) (hLi : Li.length ≤ 1000000) :
    Calls Tryd.prog 3 #[.agg #[.slice A es.length c], .int .i64 m, .int .i64 n] W fun e w' => e = .returned (.bool true) ∧ Below W.heap.size W w' := by
  have hEt : Li.take Li.length = L.take k := by rw [List.take_length]; exact hE
  have hLt : (Li.take Li.length).length ≤ 4000000 := by rw [List.take_length]; omega
  have hL4 : Li.length ≤ 4000000 := by omega
  have HS := Lib.hid hS
  have HI := Lib.hid hI
  have HB := Lib.hid hB
  have HM := Lib.hid hM
  have GI0 := Lib.hid gi
  have HSUM := Lib.hid hsum
  have HE := Lib.hid hEt
  obtain ⟨s, hs⟩ : ∃ s, Hid (wT es 1048576 = s) := ⟨_, Lib.hid rfl⟩
  have hs0 : 0 ≤ s := by rw [← hs.out]; exact hsz
  have hb0 : Below W.heap.size W (W.alloc (.cells #[.slice A es.length c] 24)) := v7 W _
  have F_1 := Lib.hid (⟨hb0, by simp, by go_simp, hr.below hb0 (Nat.le_refl _)⟩ : Ag W A c es (W.alloc (.cells #[.slice A es.length c] 24)))
  have cF_1 := F_1.out.bx
  clear hS hI hB hM gi hr hsum hsz hb0 hEt
  go_enter Tryd.func3, Tryd.ntmps3
  go_wp2_with fail
  refine (szDic_call HM.out (by omega) (by omega) F_1.out.now hc (F_1.out.gi GI0.out)).mono ?_
  rintro e w2 ⟨rfl, hb⟩
  rw [hs.out]
  have F_2 := Lib.hid (F_1.out.below hb)
  have cF_2 := F_2.out.bx
  have z2 := hb.size
  try simp only [World.size_alloc] at z2
  clear hb F_1 cF_1
  go_wp2_with fail
  refine (x9 HB.out F_2.out.now).mono ?_
  rintro e w3 ⟨g1, xsg1, rfl, cc, hb⟩
  have F_3 := Lib.hid (F_2.out.below hb)
  have cF_3 := F_3.out.bx
  have z3 := hb.size
  try simp only [World.size_alloc] at z3
  clear hb F_2 cF_2
  have C1_3 := Lib.hid (cc)
  clear cc
  have l2 := F_3.out.lt
  go_wp2_with fail
  refine (HS.out _ _ _ C1_3.out.rd (Nat.le_refl _) (F_3.out.gi GI0.out)).mono ?_
  rintro e w4 ⟨uw, rfl, gg, hb⟩
  have F_4 := Lib.hid (F_3.out.below hb)
  have C1_4 := Lib.hid (C1_3.out.below hb)
  have cF_4 := F_4.out.bx
  have z4 := hb.size
  try simp only [World.size_alloc] at z4
  clear hb F_3 C1_3 cF_3
  try simp only [World.size_alloc] at gg
  have GW_4 := Lib.hid (gg)
  clear gg
  clear C1_4
  go_wp2_with fail
  refine (x9 HB.out F_4.out.now).mono ?_
  rintro e w5 ⟨g0, xsg0, rfl, cc, hb⟩
  have F_5 := Lib.hid (F_4.out.below hb)
  have GW_5 := Lib.hid (GW_4.out.below (by omega) hb)
  have cF_5 := F_5.out.bx
  have z5 := hb.size
  try simp only [World.size_alloc] at z5
  clear hb F_4 GW_4 cF_4
  have C0_5 := Lib.hid (cc)
  clear cc
  have lF := F_5.out.lt
  have hb : Below w5.heap.size w5 (w5.alloc (.cells #[.slice (some ⟨g0, 0, none⟩) es.length es.length] 31)) := v7 w5 _
  have X0_6 : (w5.alloc (.cells #[.slice (some ⟨g0, 0, none⟩) es.length es.length] 31)).cell? ⟨w5.heap.size, 0, none⟩ = some (.slice (some ⟨g0, 0, none⟩) es.length es.length) := by go_simp
  have q6 : (w5.alloc (.cells #[.slice (some ⟨g0, 0, none⟩) es.length es.length] 31)).heap.size = w5.heap.size + 1 := by simp
  have F_6 := Lib.hid (F_5.out.below hb)
  have GW_6 := Lib.hid (GW_5.out.below (by omega) hb)
  have C0_6 := Lib.hid (C0_5.out.below hb)
  have cF_6 := F_6.out.bx
  have z6 := hb.size
  try simp only [World.size_alloc] at z6
  clear hb F_5 GW_5 C0_5 cF_5
  go_wp2_with fail
  refine (HI.out _ _ _ C0_6.out.rd (Nat.le_refl _) (F_6.out.gi GI0.out)).mono ?_
  rintro e w7 ⟨ug, rfl, gg, hb⟩
  have F_7 := Lib.hid (F_6.out.below hb)
  have GW_7 := Lib.hid (GW_6.out.below (by omega) hb)
  have C0_7 := Lib.hid (C0_6.out.below hb)
  have X0_7 := (hb.cell (p := ⟨w5.heap.size, 0, none⟩) (by show w5.heap.size < _; omega)).trans X0_6
  have cF_7 := F_7.out.bx
  have z7 := hb.size
  try simp only [World.size_alloc] at z7
  clear hb F_6 GW_6 C0_6 X0_6 cF_6
  try simp only [World.size_alloc] at gg
  have GG_7 := Lib.hid (gg)
  clear gg
  go_wp2_with fail
  refine (v8 GG_7.out GW_7.out HE.out hLt (by omega) (by omega) (F_7.out.gi GI0.out)).mono ?_
  rintro e w8 ⟨rfl, hb⟩
  have F_8 := Lib.hid (F_7.out.below hb)
  have GW_8 := Lib.hid (GW_7.out.below (by omega) hb)
  have C0_8 := Lib.hid (C0_7.out.below hb)
  have X0_8 := (hb.cell (p := ⟨w5.heap.size, 0, none⟩) (by show w5.heap.size < _; omega)).trans X0_7
  have GG_8 := Lib.hid (GG_7.out.below (by omega) hb)
  have cF_8 := F_8.out.bx
  have z8 := hb.size
  try simp only [World.size_alloc] at z8
  clear hb F_7 GW_7 C0_7 X0_7 GG_7 cF_7
  go_wp2_with fail
  refine wp_region_in 4 [(0, false), (1, false), (2, true), (3, true)] (fun w1 w' => Below w1.heap.size w1 w') (by kernel_rfl) (by kernel_rfl) (fun _ _ d _ _ h => by cases d <;> exact h) (fun w9 hs => ⟨Below.refl _ _, ?_⟩)
  have hb := hs.below w8.heap.size
  clear hs
  have F_9 := Lib.hid (F_8.out.below hb)
  have GW_9 := Lib.hid (GW_8.out.below (by omega) hb)
  have C0_9 := Lib.hid (C0_8.out.below hb)
  have X0_9 := (hb.cell (p := ⟨w5.heap.size, 0, none⟩) (by show w5.heap.size < _; omega)).trans X0_8
  have GG_9 := Lib.hid (GG_8.out.below (by omega) hb)
  have cF_9 := F_9.out.bx
  have z9 := hb.size
  try simp only [World.size_alloc] at z9
  clear hb F_8 GW_8 C0_8 X0_8 GG_8 cF_8
  have H1 := held_below X0_9
  have H2 := held_below cF_9
  (refine wpH_held rfl ?_; go_big_quiet_step (rfl); refine wpQuiet_nil ?_)
  (refine wpH_held rfl ?_; go_big_quiet_step (rfl); refine wpQuiet_nil ?_)
  clear H1 H2
  refine wpH_move rfl ?_
  go_wp2_with fail
  refine (x9 HB.out F_9.out.now).mono ?_
  rintro e w10 ⟨g2, xs2, rfl, cc, hb⟩
  have hbR := Lib.hid hb
  have F_10 := Lib.hid (F_9.out.below hb)
  have GW_10 := Lib.hid (GW_9.out.below (by omega) hb)
  have C0_10 := Lib.hid (C0_9.out.below hb)
  have X0_10 := (hb.cell (p := ⟨w5.heap.size, 0, none⟩) (by show w5.heap.size < _; omega)).trans X0_9
  have GG_10 := Lib.hid (GG_9.out.below (by omega) hb)
  have cF_10 := F_10.out.bx
  have z10 := hb.size
  try simp only [World.size_alloc] at z10
  clear hb F_9 GW_9 C0_9 X0_9 GG_9 cF_9
  have C2_10 := Lib.hid (cc)
  clear cc
  go_wp2_with fail
  refine ⟨hbR.out, ?_⟩
  refine wpH_move rfl ?_
  go_wp2_with fail
  refine (eqDic_call HB.out C0_10.out.rd (Nat.le_refl _) C2_10.out.rd (Nat.le_refl _) (F_10.out.gi GI0.out)).mono ?_
  rintro e w11 ⟨rfl, hb⟩
  have hbS := Lib.hid (hbR.out.trans (hb.mono hbR.out.size))
  have F_11 := Lib.hid (F_10.out.below hb)
  have GW_11 := Lib.hid (GW_10.out.below (by omega) hb)
  have C0_11 := Lib.hid (C0_10.out.below hb)
  have X0_11 := (hb.cell (p := ⟨w5.heap.size, 0, none⟩) (by show w5.heap.size < _; omega)).trans X0_10
  have GG_11 := Lib.hid (GG_10.out.below (by omega) hb)
  have C2_11 := Lib.hid (C2_10.out.below hb)
  have cF_11 := F_11.out.bx
  have z11 := hb.size
  try simp only [World.size_alloc] at z11
  clear hb F_10 GW_10 C0_10 X0_10 GG_10 C2_10 cF_10
  go_wp2_with fail
  refine ⟨hbS.out, ?_⟩
  clear hbR hbS C2_11
  (refine wpH_nil ?_; simp only [List.drop_succ_cons, List.drop_zero])
  go_wp2_with fail
  refine (markDic_call (k0 := 1) C0_11.out HB.out HSUM.out (F_11.out.glo GI0.out (by omega)) (by omega)).mono ?_
  rintro e w12 ⟨⟨k1, rfl, hkk⟩, hf⟩
  clear C0_11
  have F_12 := Lib.hid (F_11.out.fr hf (by omega))
  have GW_12 := Lib.hid (GW_11.out.fr (by omega) hf (by omega))
  have X0_12 := (hf.cell (p := ⟨w5.heap.size, 0, none⟩) (by show w5.heap.size < _; omega) (by show w5.heap.size < _ ∨ _ ≤ w5.heap.size; omega)).trans X0_11
  have GG_12 := Lib.hid (GG_11.out.fr (by omega) hf (by omega))
  have cF_12 := F_12.out.bx
  have z12 := hf.size
  try simp only [World.size_alloc] at z12
  clear hf F_11 GW_11 X0_11 GG_11 cF_11
  have hk1 : ¬ ((k1 : Nat) : Int) < 0 := by omega
  go_wp2_with fail
  refine (v8 GG_12.out GW_12.out HE.out hLt (by omega) (by omega) (F_12.out.gi GI0.out)).mono ?_
  rintro e w13 ⟨rfl, hb⟩
  have F_13 := Lib.hid (F_12.out.below hb)
  have GW_13 := Lib.hid (GW_12.out.below (by omega) hb)
  have X0_13 := (hb.cell (p := ⟨w5.heap.size, 0, none⟩) (by show w5.heap.size < _; omega)).trans X0_12
  have GG_13 := Lib.hid (GG_12.out.below (by omega) hb)
  have cF_13 := F_13.out.bx
  have z13 := hb.size
  try simp only [World.size_alloc] at z13
  clear hb F_12 GW_12 X0_12 GG_12 cF_12
  go_wp2_with fail
  refine (markGot (k := 1) GG_13.out hL4 (by omega) (by omega) (F_13.out.glo GI0.out (by omega)) (by omega)).mono ?_
  rintro e w14 ⟨rfl, gm, hf⟩
  clear GG_13
  have F_14 := Lib.hid (F_13.out.fr hf (by omega))
  have GW_14 := Lib.hid (GW_13.out.fr (by omega) hf (by omega))
  have X0_14 := (hf.cell (p := ⟨w5.heap.size, 0, none⟩) (by show w5.heap.size < _; omega) (by show w5.heap.size < _ ∨ _ ≤ w5.heap.size; omega)).trans X0_13
  have cF_14 := F_14.out.bx
  have z14 := hf.size
  try simp only [World.size_alloc] at z14
  clear hf F_13 GW_13 X0_13 cF_13
  have GM_14 := Lib.hid (gm)
  clear gm
  go_wp2_with fail
  refine (heldGot (k := 1) GM_14.out hL4 (by omega) (by omega) (F_14.out.gi GI0.out)).mono ?_
  rintro e w15 ⟨rfl, hb⟩
  have F_15 := Lib.hid (F_14.out.below hb)
  have GW_15 := Lib.hid (GW_14.out.below (by omega) hb)
  have X0_15 := (hb.cell (p := ⟨w5.heap.size, 0, none⟩) (by show w5.heap.size < _; omega)).trans X0_14
  have GM_15 := Lib.hid (GM_14.out.below (by omega) hb)
  have cF_15 := F_15.out.bx
  have z15 := hb.size
  try simp only [World.size_alloc] at z15
  clear hb F_14 GW_14 X0_14 GM_14 cF_14
  go_wp2_with fail
  refine (x9 HB.out F_15.out.now).mono ?_
  rintro e w16 ⟨g3, xsg3, rfl, cc, hb⟩
  have F_16 := Lib.hid (F_15.out.below hb)
  have GW_16 := Lib.hid (GW_15.out.below (by omega) hb)
  have X0_16 := (hb.cell (p := ⟨w5.heap.size, 0, none⟩) (by show w5.heap.size < _; omega)).trans X0_15
  have GM_16 := Lib.hid (GM_15.out.below (by omega) hb)
  have cF_16 := F_16.out.bx
  have z16 := hb.size
  try simp only [World.size_alloc] at z16
  clear hb F_15 GW_15 X0_15 GM_15 cF_15
  have C3_16 := Lib.hid (cc)
  clear cc
  go_wp2_with fail
  refine (HI.out _ _ _ C3_16.out.rd (Nat.le_refl _) (F_16.out.gi GI0.out)).mono ?_
  rintro e w17 ⟨uh, rfl, gg, hb⟩
  have F_17 := Lib.hid (F_16.out.below hb)
  have GW_17 := Lib.hid (GW_16.out.below (by omega) hb)
  have X0_17 := (hb.cell (p := ⟨w5.heap.size, 0, none⟩) (by show w5.heap.size < _; omega)).trans X0_16
  have GM_17 := Lib.hid (GM_16.out.below (by omega) hb)
  have C3_17 := Lib.hid (C3_16.out.below hb)
  have cF_17 := F_17.out.bx
  have z17 := hb.size
  try simp only [World.size_alloc] at z17
  clear hb F_16 GW_16 X0_16 GM_16 C3_16 cF_16
  try simp only [World.size_alloc] at gg
  have GH_17 := Lib.hid (gg)
  clear gg
  clear C3_17
  go_wp2_with fail
  refine (v8 GH_17.out GW_17.out HE.out hLt (by omega) (by omega) (F_17.out.gi GI0.out)).mono ?_
  rintro e w18 ⟨rfl, hb⟩
  have F_18 := Lib.hid (F_17.out.below hb)
  have GW_18 := Lib.hid (GW_17.out.below (by omega) hb)
  have X0_18 := (hb.cell (p := ⟨w5.heap.size, 0, none⟩) (by show w5.heap.size < _; omega)).trans X0_17
  have GM_18 := Lib.hid (GM_17.out.below (by omega) hb)
  have GH_18 := Lib.hid (GH_17.out.below (by omega) hb)
  have cF_18 := F_18.out.bx
  have z18 := hb.size
  try simp only [World.size_alloc] at z18
  clear hb F_17 GW_17 X0_17 GM_17 GH_17 cF_17
  go_wp2_with fail
  refine (heldGot (k := 1) GM_18.out hL4 (by omega) (by omega) (F_18.out.gi GI0.out)).mono ?_
  rintro e w19 ⟨rfl, hb⟩
  have F_19 := Lib.hid (F_18.out.below hb)
  have GW_19 := Lib.hid (GW_18.out.below (by omega) hb)
  have X0_19 := (hb.cell (p := ⟨w5.heap.size, 0, none⟩) (by show w5.heap.size < _; omega)).trans X0_18
  have GM_19 := Lib.hid (GM_18.out.below (by omega) hb)
  have GH_19 := Lib.hid (GH_18.out.below (by omega) hb)
  have cF_19 := F_19.out.bx
  have z19 := hb.size
  try simp only [World.size_alloc] at z19
  clear hb F_18 GW_18 X0_18 GM_18 GH_18 cF_18
  go_wp2
  go_ret
  exact ⟨rfl, F_19.out.t⟩
set_option maxRecDepth 100000 in
theorem lawFrS_big (W : World) (A : Option Addr) (c : Nat) (es : List Ent) (m : Int) (n : Int) (gi : GI (fun b => b < W.heap.size) W) (hr : RdE W W.heap.size A (enL es)) (hc : es.length ≤ c) (hM : qS es)
    (hsz : wT es 1048576 < 0) :
    Calls Tryd.prog 3 #[.agg #[.slice A es.length c], .int .i64 m, .int .i64 n] W fun e w' => e = .returned (.bool true) ∧ Below W.heap.size W w' := by
  have HM := Lib.hid hM
  have GI0 := Lib.hid gi
  obtain ⟨s, hs⟩ : ∃ s, Hid (wT es 1048576 = s) := ⟨_, Lib.hid rfl⟩
  have hs0 : s < 0 := by rw [← hs.out]; exact hsz
  have hb0 : Below W.heap.size W (W.alloc (.cells #[.slice A es.length c] 24)) := v7 W _
  have F_1 := Lib.hid (⟨hb0, by simp, by go_simp, hr.below hb0 (Nat.le_refl _)⟩ : Ag W A c es (W.alloc (.cells #[.slice A es.length c] 24)))
  have cF_1 := F_1.out.bx
  clear hM gi hr hsz hb0
  go_enter Tryd.func3, Tryd.ntmps3
  go_wp2_with fail
  refine (szDic_call HM.out (by omega) (by omega) F_1.out.now hc (F_1.out.gi GI0.out)).mono ?_
  rintro e w2 ⟨rfl, hb⟩
  rw [hs.out]
  have F_2 := Lib.hid (F_1.out.below hb)
  clear hb F_1 cF_1
  go_wp2
  go_ret
  exact ⟨rfl, F_2.out.t⟩
theorem rep_dic {w : World} {es : List Ent} {v : Value} (h : RepF (fun b => b < w.heap.size) (fun _ => none) w (.agg (wQ es)) v) : ∃ A c, v = .agg #[.slice A es.length c] ∧ es.length ≤ c ∧ RdE w w.heap.size A (enL es) := by
  obtain ⟨us, rfl, h⟩ := h
  cases h with
  | cons h h2 =>
    cases h2
    cases h with
    | imm h =>
      obtain ⟨A, c, rfl, h2, h3⟩ := rep_ents h (fun b hb => hb)
      exact ⟨A, c, rfl, h2, h3⟩
theorem lawFrS_run (es : List Ent) (m n : Int) (hM : qS es) {w : World} (vals : List Value) (hv : All2 (RepF (fun b => b < w.heap.size) (fun _ => none) w) [.agg (wQ es), .c (int m), .c (int n)] vals) (gi : GI (fun b => b < w.heap.size) w) :
    Calls Tryd.prog 3 vals.toArray w fun e w' => e = .returned (.bool true) ∧ Below w.heap.size w w' := by
  cases hv with
  | cons h1 hv => cases hv with
    | cons h2 hv => cases hv with
      | cons h3 hv =>
        cases hv
        obtain ⟨A, c, rfl, hc, hr⟩ := rep_dic h1
        have e2 := vB (show Rep _ _ w (int m) _ from h2)
        have e3 := vB (show Rep _ _ w (int n) _ from h3)
        subst e2 e3
        by_cases hsz : wT es 1048576 < 0
        · exact lawFrS_big w A c es m n gi hr hc hM hsz
        have hsz' : 0 ≤ wT es 1048576 := by omega
        have hB := szDi_ok hsz' (by omega)
        have hsum := szDi_sum hsz'
        have one : ∀ x ∈ [Value.int .i64 m, .int .i64 n], x.oneCell' = true := fun x hx => by
          rcases List.mem_cons.1 hx with rfl | hx
          · rfl
          · rcases List.mem_cons.1 hx with rfl | hx
            · rfl
            · cases hx
        cases h : vT es m n with
        | false =>
          exact lawFrS_F w A c es m n [] [] 0 gi hr hc hM hB (by omega) (by omega) (gives_no one (frS_no es m n hB h)) (gives_no one (frI_no es m n hB h)) rfl (by simp)
        | true =>
          have h' := h
          rw [vT, Bool.and_eq_true, Bool.and_eq_true, okS, inZ, inZ, decide_eq_true_eq, decide_eq_true_eq] at h'
          obtain ⟨p, rfl⟩ : ∃ p : Nat, m = (p : Int) := ⟨m.toNat, by omega⟩
          obtain ⟨q, rfl⟩ : ∃ q : Nat, n = (q : Int) := ⟨n.toNat, by omega⟩
          have hlen := (frS_asc es p p 0 q (by omega)).2
          exact lawFrS_T w A c es _ _ (frS es p 0 q) (frS es p 0 q) (frS es p 0 q).length gi hr hc hM hB (by omega) (by omega) (gives_yes one (Nat.le_refl _) (frS_yes es p q hB h)) (gives_yes one (Nat.le_refl _) (frI_yes es p q hB h)) (by rw [List.take_length]) (by omega)
end Go.Proofs.YtjeffognhcbiaaaDoor
