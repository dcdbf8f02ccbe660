/- FnExactPrefixConflicts returns true: a concrete walk. Printed by gen_nsj.py. -/
import Derived.Test.YtjeffognhcbiaaaDoorNsV
import Derived.Test.YtjeffognhcbiaaaDoorNsH
import Derived.Test.YtjeffognhcbiaaaDoorNsT
namespace Go.Proofs.YtjeffognhcbiaaaDoor
open Go Go.RowKit
structure AgO (W : World) (A : Option Addr) (c : Nat) (es : List Ent) (A2 : Option Addr) (c2 : Nat) (o : List Int) (w : World) : Prop extends Ag W A c es w where
  ro : RepI (fun b => b < W.heap.size) w (.sl (o.map yG)) (.slice A2 o.length c2)
section
variable {W w w' : World} {A : Option Addr} {c : Nat} {es : List Ent} {A2 : Option Addr} {c2 : Nat} {o : List Int}
theorem AgO.below (h : AgO W A c es A2 c2 o w) (hb : Below w.heap.size w w') : AgO W A c es A2 c2 o w' :=
  ⟨h.toAg.below hb, h.ro.mono (fun _ h => h) (fun b hb' => hb.block b (by have := h.lt; omega))⟩
theorem AgO.fr {lo hi : Nat} (h : AgO W A c es A2 c2 o w) (hf : Fr lo hi w w') (hlo : W.heap.size < lo) : AgO W A c es A2 c2 o w' :=
  ⟨h.toAg.fr hf hlo, h.ro.mono (fun _ h => h) (fun b hb' => hf.block b (by have := h.lt; omega) (by omega))⟩
theorem AgO.now (h : AgO W A c es A2 c2 o w) : RdE w w.heap.size A (enL es) := h.toAg.now
theorem AgO.nowo (h : AgO W A c es A2 c2 o w) : Rep (fun b => b < w.heap.size) (fun _ => none) w (.sl (o.map yG)) (.slice A2 o.length c2) := Rep.imm (h.ro.mono (fun b hb => by have := h.lt; omega) (fun _ _ => rfl))
theorem AgO.gi (h : AgO W A c es A2 c2 o w) (gi : GI (fun b => b < W.heap.size) W) : GI (fun b => b < w.heap.size) w := h.toAg.gi gi
theorem AgO.glo {lo : Nat} (h : AgO W A c es A2 c2 o w) (gi : GI (fun b => b < W.heap.size) W) (hlo : W.heap.size ≤ lo) : GI (fun b => b < lo) w := h.toAg.glo gi hlo
end
theorem ints_plain (l : List Int) : qA (l.map yG) := fun x hx c hc => by
  obtain ⟨i, _, rfl⟩ := List.mem_map.1 hx
  simp only [yG, List.mem_singleton] at hc
  subst hc
  exact ⟨_, rfl, rfl⟩
def CpI (lo hi : Nat) (w : World) (A : Option Addr) (c : Nat) (o : List Int) : Prop := GotF 3 1 lo hi w (o.map yG) o.length (.slice A o.length c)
section
variable {o : List Int} {A2 : Option Addr} {c2 : Nat}
theorem gotF_ref {t : TypeId} {sz : Nat} {els : List (List Cell)} {k : Nat} {v : Value} {I : Nat → Prop} {β : Nat → Option BI} {w w' : World} (hp : qA els) (h : Rep I β w' (.ref 0 0 k) v) (hk : k ≤ els.length) (ho : ObjAt I β w' (fun b => w.heap.size ≤ b) 0 ⟨t, sz, els⟩) : GotF t sz w.heap.size w'.heap.size w' els k v :=
  ⟨hk, hp, β, obj_flat hp ho rfl fun q B hB hb hM => ⟨fun h => h, ⟨hM, (ho.lt hB hb).1⟩, rfl⟩, ref_rep h rfl⟩
theorem x7 {w : World} (hB : o.length ≤ 1048576) (hr : Rep (fun b => b < w.heap.size) (fun _ => none) w (.sl (o.map yG)) (.slice A2 o.length c2)) (gi : GI (fun b => b < w.heap.size) w) :
    Calls Tryd.prog 15 #[.slice A2 o.length c2] w fun e w' => ∃ A c, e = .returned (.slice A o.length c) ∧ CpI w.heap.size w'.heap.size w' A c o ∧ Below w.heap.size w w' := by
  refine (vD (toIntS_pf o (by omega)) gi (vals := [_]) (.cons hr .nil)).mono ?_
  rintro e w' ⟨v, I', β', rfl, hv, hb, _, ho⟩
  have hg := gotF_ref (ints_plain o) (show Rep I' β' w' (.ref 0 0 o.length) v from hv) (by rw [List.length_map]; exact Nat.le_refl _) (ho 0 _ rfl)
  obtain ⟨A, c, rfl⟩ := hg.sl
  exact ⟨A, c, rfl, hg, hb⟩
theorem CpI.rep {lo hi : Nat} {w : World} {A : Option Addr} {c : Nat} (h : CpI lo hi w A c o) (hh : hi ≤ w.heap.size) : Rep (fun b => b < w.heap.size) (fun _ => none) w (.sl (o.map yG)) (.slice A o.length c) := GotF.rep' h (by rw [← List.length_map (f := yG), List.take_length]) hh
theorem CpI.below {lo hi : Nat} {w w' : World} {A : Option Addr} {c : Nat} (h : CpI lo hi w A c o) (hh : hi ≤ w.heap.size) (hb : Below w.heap.size w w') : CpI lo hi w' A c o := GotF.below h hh hb
theorem CpI.fr {lo hi lo' hi' : Nat} {w w' : World} {A : Option Addr} {c : Nat} (h : CpI lo hi w A c o) (hh : hi ≤ w.heap.size) (hf : Fr lo' hi' w w') (hd : hi ≤ lo' ∨ hi' ≤ lo) : CpI lo hi w' A c o := GotF.fr h hh hf hd
theorem eqInts_call {w : World} {A A' : Option Addr} {c c' : Nat} (hB : o.length ≤ 4000000) (hr : Rep (fun b => b < w.heap.size) (fun _ => none) w (.sl (o.map yG)) (.slice A o.length c)) (hr' : Rep (fun b => b < w.heap.size) (fun _ => none) w (.sl (o.map yG)) (.slice A' o.length c')) (gi : GI (fun b => b < w.heap.size) w) :
    Calls Tryd.prog 9 #[.slice A o.length c, .slice A' o.length c'] w fun e w' => e = .returned (.bool true) ∧ Below w.heap.size w w' :=
  qF (eqIntS_pf o hB) gi (vals := [_, _]) (.cons hr (.cons hr' .nil))
theorem markIntS_nat (l : List Int) (k : Nat) (hl : l.length ≤ 4000000) (hk : k ≤ 100000000) : PFM Tryd.prog 12 [⟨3, 1, l.map yG⟩] [.c (.ref 0 0 l.length), .c (int (k : Int))] [some ⟨3, 1, (mkI (k : Int) l.length).map yG⟩] (.c (int ((k + l.length : Nat) : Int))) := by
  have h := markIntS_pfm l k hl (by omega) (by omega)
  exact h
theorem markInts_call {w : World} {lo hi k : Nat} {A : Option Addr} {c : Nat} (h : CpI lo hi w A c o) (hB : o.length ≤ 4000000) (hk : k ≤ 100000000) (gi : GI (fun b => b < lo) w) (hlo : lo ≤ w.heap.size) :
    Calls Tryd.prog 12 #[.slice A o.length c, .int .i64 (k : Int)] w fun e w' => e = .returned (.int .i64 ((k : Int) + (o.length : Int))) ∧ Fr lo hi w w' :=
  (markF (markIntS_nat o k hB hk) h (fun h => h) (by simp [vI]) (ints_plain _) gi hlo).mono fun e w' h => ⟨h.1, h.2.2⟩
end
def GivesC (es : List Ent) (o : List Int) (L : List (List Int)) (b : Bool) : Prop := ∀ (W : World) (A : Option Addr) (c : Nat) (A2 : Option Addr) (c2 : Nat), RdE W W.heap.size A (enL es) → es.length ≤ c →
  Rep (fun b => b < W.heap.size) (fun _ => none) W (.sl (o.map yG)) (.slice A2 o.length c2) → GI (fun b => b < W.heap.size) W →
  Calls Tryd.prog 14 #[.agg #[.slice A es.length c], .slice A2 o.length c2] W fun e W' => ∃ u, e = .returned (.tuple #[u, .bool b]) ∧ GotW W'.heap.size W' L u ∧ Below W.heap.size W W'
def GivesD (es : List Ent) (o : List Int) (L : List (List Int)) (b : Bool) : Prop := ∀ (W : World) (A : Option Addr) (c : Nat) (A2 : Option Addr) (c2 : Nat), RdE W W.heap.size A (enL es) → es.length ≤ c →
  Rep (fun b => b < W.heap.size) (fun _ => none) W (.sl (o.map yG)) (.slice A2 o.length c2) → GI (fun b => b < W.heap.size) W →
  Calls Tryd.prog 16 #[.agg #[.slice A es.length c], .slice A2 o.length c2] W fun e W' => ∃ u, e = .returned (.tuple #[u, .bool b]) ∧ GotN W.heap.size W'.heap.size W' L u ∧ Below W.heap.size W W'
theorem givesC_yes {es : List Ent} {o : List Int} (hb : wX es) (ho : o.length ≤ 1048576) (h : wW es o = true) : GivesC es o (cfs es o) true := fun W A c A2 c2 hr hc hro gi => by
  refine (vD (pcS_yes es o hb ho h) gi (vals := [_, _]) (.cons (vG hr hc) (.cons hro .nil))).mono ?_
  rintro e w' ⟨v, I', β', rfl, hv, hb, hI, ho⟩
  obtain ⟨u, rfl, hg⟩ := gotW_tup hI hv (ho 0 _ rfl)
  exact ⟨u, rfl, hg, hb⟩
theorem givesC_no {es : List Ent} {o : List Int} (hb : wX es) (ho : o.length ≤ 1048576) (h : wW es o = false) : GivesC es o [] false := fun W A c A2 c2 hr hc hro gi => by
  refine (vD (pcS_no es o hb ho h) gi (vals := [_, _]) (.cons (vG hr hc) (.cons hro .nil))).mono ?_
  rintro e w' ⟨v, I', β', rfl, hv, hb, _, _⟩
  rw [nil_tup hv]
  exact ⟨_, rfl, GotW.nil _ _, hb⟩
theorem givesD_no {es : List Ent} {o : List Int} (hb : wX es) (ho : o.length ≤ 1048576) (h : wW es o = false) : GivesD es o [] false := fun W A c A2 c2 hr hc hro gi => by
  refine (vD (pcI_no es o hb ho h) gi (vals := [_, _]) (.cons (vG hr hc) (.cons hro .nil))).mono ?_
  rintro e w' ⟨v, I', β', rfl, hv, hb, _, _⟩
  rw [nil_tup hv]
  exact ⟨_, rfl, GotN.nil _ _ _, hb⟩
theorem givesD_yes {es : List Ent} {o : List Int} (hb : wX es) (ho : o.length ≤ 1048576) (h : wW es o = true) : GivesD es o (cfs es o) true := fun W A c A2 c2 hr hc hro gi =>
  pcI_yes hb ho h W A c A2 c2 hc ⟨hr, by cases hro with | imm h => exact h, gi⟩
set_option maxRecDepth 100000 in
set_option maxHeartbeats 8000000 in
theorem lawPc_T (W : World) (A : Option Addr) (c : Nat) (es : List Ent) (A2 : Option Addr) (c2 : Nat) (o : List Int) (L : List (List Int)) (gi : GI (fun b => b < W.heap.size) W) (hr : RdE W W.heap.size A (enL es)) (hc : es.length ≤ c)
    (hro : RepI (fun b => b < W.heap.size) W (.sl (o.map yG)) (.slice A2 o.length c2)) (hM : qW es) (hB : wX es) (hob : o.length ≤ 1048576)
    (hsz : 0 ≤ wS es 1048576) (hsum : 1 + (es.map fun e => e.o.length + 1).sum ≤ 8388608)
    (hS : GivesC es o L true) (hI : GivesD es o L true) (hl : L.length ≤ 1000000) (hfl : L.flatten.length ≤ 1100000) (hbl : ∀ o ∈ L, o.length ≤ 1100000) :
    Calls Tryd.prog 4 #[.agg #[.slice A es.length c], .slice A2 o.length c2] W fun e w' => e = .returned (.bool true) ∧ Below W.heap.size W w' := by
  have hl4 : L.length ≤ 4000000 := by omega
  have HBL : Hid (∀ o ∈ L, o.length ≤ 4000000) := Lib.hid fun o ho => by have := hbl o ho; omega
  have hob2 : ¬ ((o.length : Nat) : Int) > 1048576 := by omega
  have HS := Lib.hid hS
  have HI := Lib.hid hI
  have HM := Lib.hid hM
  have HB := Lib.hid hB
  have GI0 := Lib.hid gi
  have HSUM := Lib.hid hsum
  obtain ⟨s, hs⟩ : ∃ s, Hid (wS es 1048576 = s) := ⟨_, Lib.hid rfl⟩
  have hs0 : 0 ≤ s := by rw [← hs.out]; exact hsz
  have hb0 : Below W.heap.size W (W.alloc (.cells #[.slice A es.length c] 24)) := vK W _
  have F_1 := Lib.hid (⟨⟨hb0, by simp, by go_simp, hr.below hb0 (Nat.le_refl _)⟩, hro.mono (fun _ h => h) (fun b hb => hb0.block b hb)⟩ : AgO W A c es A2 c2 o (W.alloc (.cells #[.slice A es.length c] 24)))
  have cF_1 := F_1.out.bx
  clear hS hI hM hB gi hr hro hsz hb0 hbl hsum
  go_enter Tryd.func4, Tryd.ntmps4
  go_wp2_with fail
  refine (szDic_call HM.out (by omega) (by omega) F_1.out.now hc (F_1.out.gi GI0.out)).mono ?_
  rintro e w2 ⟨rfl, hb⟩
  rw [hs.out]
  have F_2 := Lib.hid (F_1.out.below hb)
  have cF_2 := F_2.out.bx
  have z2 := hb.size
  try simp only [World.size_alloc] at z2
  clear hb F_1 cF_1
  have l1 := F_2.out.lt
  go_wp2_with fail
  refine (wB HB.out F_2.out.now).mono ?_
  rintro e w3 ⟨g1, xs1, rfl, cc, hb⟩
  have F_3 := Lib.hid (F_2.out.below hb)
  have cF_3 := F_3.out.bx
  have z3 := hb.size
  try simp only [World.size_alloc] at z3
  clear hb F_2 cF_2
  try simp only [World.size_alloc] at cc
  have C1_3 := Lib.hid (cc)
  clear cc
  go_wp2_with fail
  refine (x7 hob F_3.out.nowo (F_3.out.gi GI0.out)).mono ?_
  rintro e w4 ⟨a1, k1, rfl, cc, hb⟩
  have F_4 := Lib.hid (F_3.out.below hb)
  have C1_4 := Lib.hid (C1_3.out.below hb)
  have cF_4 := F_4.out.bx
  have z4 := hb.size
  try simp only [World.size_alloc] at z4
  clear hb F_3 C1_3 cF_3
  try simp only [World.size_alloc] at cc
  have T1_4 := Lib.hid (cc)
  clear cc
  go_wp2_with fail
  refine (HS.out _ _ _ _ _ C1_4.out.rd (Nat.le_refl _) (T1_4.out.rep (by omega)) (F_4.out.gi GI0.out)).mono ?_
  rintro e w5 ⟨uw, rfl, cc, hb⟩
  have F_5 := Lib.hid (F_4.out.below hb)
  have C1_5 := Lib.hid (C1_4.out.below hb)
  have T1_5 := Lib.hid (T1_4.out.below (by omega) hb)
  have cF_5 := F_5.out.bx
  have z5 := hb.size
  try simp only [World.size_alloc] at z5
  clear hb F_4 C1_4 T1_4 cF_4
  try simp only [World.size_alloc] at cc
  have GW_5 := Lib.hid (cc)
  clear cc
  clear C1_5 T1_5
  go_wp2_with fail
  refine (wB HB.out F_5.out.now).mono ?_
  rintro e w6 ⟨g0, xs0, rfl, cc, hb⟩
  have F_6 := Lib.hid (F_5.out.below hb)
  have GW_6 := Lib.hid (GW_5.out.below (by omega) hb)
  have cF_6 := F_6.out.bx
  have z6 := hb.size
  try simp only [World.size_alloc] at z6
  clear hb F_5 GW_5 cF_5
  try simp only [World.size_alloc] at cc
  have C0_6 := Lib.hid (cc)
  clear cc
  have hb : Below w6.heap.size w6 (w6.alloc (.cells #[.slice (some ⟨g0, 0, none⟩) es.length es.length] 31)) := vK w6 _
  have X0_7 : (w6.alloc (.cells #[.slice (some ⟨g0, 0, none⟩) es.length es.length] 31)).cell? ⟨w6.heap.size, 0, none⟩ = some (.slice (some ⟨g0, 0, none⟩) es.length es.length) := by go_simp
  have q7 : (w6.alloc (.cells #[.slice (some ⟨g0, 0, none⟩) es.length es.length] 31)).heap.size = w6.heap.size + 1 := by simp
  have F_7 := Lib.hid (F_6.out.below hb)
  have GW_7 := Lib.hid (GW_6.out.below (by omega) hb)
  have C0_7 := Lib.hid (C0_6.out.below hb)
  have cF_7 := F_7.out.bx
  have z7 := hb.size
  try simp only [World.size_alloc] at z7
  clear hb F_6 GW_6 C0_6 cF_6
  go_wp2_with fail
  refine (x7 hob F_7.out.nowo (F_7.out.gi GI0.out)).mono ?_
  rintro e w8 ⟨a0, k0, rfl, cc, hb⟩
  have F_8 := Lib.hid (F_7.out.below hb)
  have GW_8 := Lib.hid (GW_7.out.below (by omega) hb)
  have C0_8 := Lib.hid (C0_7.out.below hb)
  have X0_8 := (hb.cell (p := ⟨w6.heap.size, 0, none⟩) (by show w6.heap.size < _; omega)).trans X0_7
  have cF_8 := F_8.out.bx
  have z8 := hb.size
  try simp only [World.size_alloc] at z8
  clear hb F_7 GW_7 C0_7 X0_7 cF_7
  try simp only [World.size_alloc] at cc
  have T0_8 := Lib.hid (cc)
  clear cc
  go_wp2_with fail
  refine (HI.out _ _ _ _ _ C0_8.out.rd (Nat.le_refl _) (T0_8.out.rep (by omega)) (F_8.out.gi GI0.out)).mono ?_
  rintro e w9 ⟨ug, rfl, cc, hb⟩
  have F_9 := Lib.hid (F_8.out.below hb)
  have GW_9 := Lib.hid (GW_8.out.below (by omega) hb)
  have C0_9 := Lib.hid (C0_8.out.below hb)
  have X0_9 := (hb.cell (p := ⟨w6.heap.size, 0, none⟩) (by show w6.heap.size < _; omega)).trans X0_8
  have T0_9 := Lib.hid (T0_8.out.below (by omega) hb)
  have cF_9 := F_9.out.bx
  have z9 := hb.size
  try simp only [World.size_alloc] at z9
  clear hb F_8 GW_8 C0_8 X0_8 T0_8 cF_8
  try simp only [World.size_alloc] at cc
  have GG_9 := Lib.hid (cc)
  clear cc
  go_wp2_with fail
  refine (wZ GG_9.out GW_9.out hl4 HBL.out (by omega) (by omega) (F_9.out.gi GI0.out)).mono ?_
  rintro e w10 ⟨rfl, hb⟩
  have F_10 := Lib.hid (F_9.out.below hb)
  have GW_10 := Lib.hid (GW_9.out.below (by omega) hb)
  have C0_10 := Lib.hid (C0_9.out.below hb)
  have X0_10 := (hb.cell (p := ⟨w6.heap.size, 0, none⟩) (by show w6.heap.size < _; omega)).trans X0_9
  have T0_10 := Lib.hid (T0_9.out.below (by omega) hb)
  have GG_10 := Lib.hid (GG_9.out.below hb)
  have cF_10 := F_10.out.bx
  have z10 := hb.size
  try simp only [World.size_alloc] at z10
  clear hb F_9 GW_9 C0_9 X0_9 T0_9 GG_9 cF_9
  go_wp2_with fail
  refine wp_region_in 4 [(0, false), (1, false), (2, true), (3, true)] (fun w1 w' => Below w1.heap.size w1 w') (by kernel_rfl) (by kernel_rfl) (fun _ _ d _ _ h => by cases d <;> exact h) (fun w11 hs => ⟨Below.refl _ _, ?_⟩)
  have hb := hs.below w10.heap.size
  clear hs
  have F_11 := Lib.hid (F_10.out.below hb)
  have GW_11 := Lib.hid (GW_10.out.below (by omega) hb)
  have C0_11 := Lib.hid (C0_10.out.below hb)
  have X0_11 := (hb.cell (p := ⟨w6.heap.size, 0, none⟩) (by show w6.heap.size < _; omega)).trans X0_10
  have T0_11 := Lib.hid (T0_10.out.below (by omega) hb)
  have GG_11 := Lib.hid (GG_10.out.below hb)
  have cF_11 := F_11.out.bx
  have z11 := hb.size
  try simp only [World.size_alloc] at z11
  clear hb F_10 GW_10 C0_10 X0_10 T0_10 GG_10 cF_10
  have H1 := held_below X0_11
  have H2 := held_below cF_11
  (refine wpH_held rfl ?_; go_big_quiet_step (rfl); refine wpQuiet_nil ?_)
  (refine wpH_held rfl ?_; go_big_quiet_step (rfl); refine wpQuiet_nil ?_)
  clear H1 H2
  refine wpH_move rfl ?_
  go_wp2_with fail
  refine (wB HB.out F_11.out.now).mono ?_
  rintro e w12 ⟨g2, xs2, rfl, cc, hb⟩
  have hbR := Lib.hid hb
  have F_12 := Lib.hid (F_11.out.below hb)
  have GW_12 := Lib.hid (GW_11.out.below (by omega) hb)
  have C0_12 := Lib.hid (C0_11.out.below hb)
  have X0_12 := (hb.cell (p := ⟨w6.heap.size, 0, none⟩) (by show w6.heap.size < _; omega)).trans X0_11
  have T0_12 := Lib.hid (T0_11.out.below (by omega) hb)
  have GG_12 := Lib.hid (GG_11.out.below hb)
  have cF_12 := F_12.out.bx
  have z12 := hb.size
  try simp only [World.size_alloc] at z12
  clear hb F_11 GW_11 C0_11 X0_11 T0_11 GG_11 cF_11
  try simp only [World.size_alloc] at cc
  have C2_12 := Lib.hid (cc)
  clear cc
  go_wp2_with fail
  refine ⟨hbR.out, ?_⟩
  refine wpH_move rfl ?_
  go_wp2_with fail
  refine (eqDic_call HB.out C0_12.out.rd (Nat.le_refl _) C2_12.out.rd (Nat.le_refl _) (F_12.out.gi GI0.out)).mono ?_
  rintro e w13 ⟨rfl, hb⟩
  have hbR := Lib.hid (hbR.out.trans (hb.mono hbR.out.size))
  have F_13 := Lib.hid (F_12.out.below hb)
  have GW_13 := Lib.hid (GW_12.out.below (by omega) hb)
  have C0_13 := Lib.hid (C0_12.out.below hb)
  have X0_13 := (hb.cell (p := ⟨w6.heap.size, 0, none⟩) (by show w6.heap.size < _; omega)).trans X0_12
  have T0_13 := Lib.hid (T0_12.out.below (by omega) hb)
  have GG_13 := Lib.hid (GG_12.out.below hb)
  have C2_13 := Lib.hid (C2_12.out.below hb)
  have cF_13 := F_13.out.bx
  have z13 := hb.size
  try simp only [World.size_alloc] at z13
  clear hb F_12 GW_12 C0_12 X0_12 T0_12 GG_12 C2_12 cF_12
  go_wp2_with fail
  refine ⟨hbR.out, ?_⟩
  clear hbR
  (refine wpH_nil ?_; simp only [List.drop_succ_cons, List.drop_zero])
  clear C2_13
  go_wp2_with fail
  refine (x7 hob F_13.out.nowo (F_13.out.gi GI0.out)).mono ?_
  rintro e w14 ⟨a2, k2, rfl, cc, hb⟩
  have F_14 := Lib.hid (F_13.out.below hb)
  have GW_14 := Lib.hid (GW_13.out.below (by omega) hb)
  have C0_14 := Lib.hid (C0_13.out.below hb)
  have X0_14 := (hb.cell (p := ⟨w6.heap.size, 0, none⟩) (by show w6.heap.size < _; omega)).trans X0_13
  have T0_14 := Lib.hid (T0_13.out.below (by omega) hb)
  have GG_14 := Lib.hid (GG_13.out.below hb)
  have cF_14 := F_14.out.bx
  have z14 := hb.size
  try simp only [World.size_alloc] at z14
  clear hb F_13 GW_13 C0_13 X0_13 T0_13 GG_13 cF_13
  try simp only [World.size_alloc] at cc
  have T2_14 := Lib.hid (cc)
  clear cc
  go_wp2_with fail
  refine (eqInts_call (by omega) (T0_14.out.rep (by omega)) (T2_14.out.rep (by omega)) (F_14.out.gi GI0.out)).mono ?_
  rintro e w15 ⟨rfl, hb⟩
  have F_15 := Lib.hid (F_14.out.below hb)
  have GW_15 := Lib.hid (GW_14.out.below (by omega) hb)
  have C0_15 := Lib.hid (C0_14.out.below hb)
  have X0_15 := (hb.cell (p := ⟨w6.heap.size, 0, none⟩) (by show w6.heap.size < _; omega)).trans X0_14
  have T0_15 := Lib.hid (T0_14.out.below (by omega) hb)
  have GG_15 := Lib.hid (GG_14.out.below hb)
  have T2_15 := Lib.hid (T2_14.out.below (by omega) hb)
  have cF_15 := F_15.out.bx
  have z15 := hb.size
  try simp only [World.size_alloc] at z15
  clear hb F_14 GW_14 C0_14 X0_14 T0_14 GG_14 T2_14 cF_14
  clear T2_15
  go_wp2_with fail
  refine (markDic_call (k0 := 1) C0_15.out HB.out HSUM.out (F_15.out.glo GI0.out (by omega)) (by omega)).mono ?_
  rintro e w16 ⟨⟨q1, rfl, hq1⟩, hf⟩
  clear C0_15
  have F_16 := Lib.hid (F_15.out.fr hf (by omega))
  have GW_16 := Lib.hid (GW_15.out.fr (by omega) hf (by omega))
  have X0_16 := (hf.cell (p := ⟨w6.heap.size, 0, none⟩) (by show w6.heap.size < _; omega) (by show w6.heap.size < _ ∨ _ ≤ w6.heap.size; omega)).trans X0_15
  have T0_16 := Lib.hid (T0_15.out.fr (by omega) hf (by omega))
  have GG_16 := Lib.hid (GG_15.out.fr hf (by omega))
  have cF_16 := F_16.out.bx
  have z16 := hf.size
  try simp only [World.size_alloc] at z16
  clear hf F_15 GW_15 X0_15 T0_15 GG_15 cF_15
  go_wp2_with fail
  refine (markInts_call (k := q1) T0_16.out (by omega) (by omega) (F_16.out.glo GI0.out (by omega)) (by omega)).mono ?_
  rintro e w17 ⟨rfl, hf⟩
  clear T0_16
  have F_17 := Lib.hid (F_16.out.fr hf (by omega))
  have GW_17 := Lib.hid (GW_16.out.fr (by omega) hf (by omega))
  have X0_17 := (hf.cell (p := ⟨w6.heap.size, 0, none⟩) (by show w6.heap.size < _; omega) (by show w6.heap.size < _ ∨ _ ≤ w6.heap.size; omega)).trans X0_16
  have GG_17 := Lib.hid (GG_16.out.fr hf (by omega))
  have cF_17 := F_17.out.bx
  have z17 := hf.size
  try simp only [World.size_alloc] at z17
  clear hf F_16 GW_16 X0_16 GG_16 cF_16
  have hq2 : ¬ (((q1 : Nat) : Int) + ((o.length : Nat) : Int)) < 0 := by omega
  go_wp2_with fail
  refine (wZ GG_17.out GW_17.out hl4 HBL.out (by omega) (by omega) (F_17.out.gi GI0.out)).mono ?_
  rintro e w18 ⟨rfl, hb⟩
  have F_18 := Lib.hid (F_17.out.below hb)
  have GW_18 := Lib.hid (GW_17.out.below (by omega) hb)
  have X0_18 := (hb.cell (p := ⟨w6.heap.size, 0, none⟩) (by show w6.heap.size < _; omega)).trans X0_17
  have GG_18 := Lib.hid (GG_17.out.below hb)
  have cF_18 := F_18.out.bx
  have z18 := hb.size
  try simp only [World.size_alloc] at z18
  clear hb F_17 GW_17 X0_17 GG_17 cF_17
  go_wp2_with fail
  refine (markGotN (k0 := 1) GG_18.out (by omega) (by omega)).mono ?_
  rintro e w19 ⟨rfl, cc, hf⟩
  clear GG_18
  have F_19 := Lib.hid (F_18.out.fr hf (by omega))
  have GW_19 := Lib.hid (GW_18.out.fr (by omega) hf (by omega))
  have X0_19 := (hf.cell (p := ⟨w6.heap.size, 0, none⟩) (by show w6.heap.size < _; omega) (by show w6.heap.size < _ ∨ _ ≤ w6.heap.size; omega)).trans X0_18
  have cF_19 := F_19.out.bx
  have z19 := hf.size
  try simp only [World.size_alloc] at z19
  clear hf F_18 GW_18 X0_18 cF_18
  try simp only [World.size_alloc] at cc
  have GM_19 := Lib.hid (cc)
  clear cc
  go_wp2_with fail
  refine (heldN_call (k := 1) GM_19.out (by omega) (by omega) (by omega) (F_19.out.gi GI0.out)).mono ?_
  rintro e w20 ⟨rfl, hb⟩
  have F_20 := Lib.hid (F_19.out.below hb)
  have GW_20 := Lib.hid (GW_19.out.below (by omega) hb)
  have X0_20 := (hb.cell (p := ⟨w6.heap.size, 0, none⟩) (by show w6.heap.size < _; omega)).trans X0_19
  have GM_20 := Lib.hid (GM_19.out.below hb)
  have cF_20 := F_20.out.bx
  have z20 := hb.size
  try simp only [World.size_alloc] at z20
  clear hb F_19 GW_19 X0_19 GM_19 cF_19
  have hm : ¬ ((1 + L.flatten.length : Nat) : Int) < 0 := by omega
  go_wp2_with fail
  refine (wB HB.out F_20.out.now).mono ?_
  rintro e w21 ⟨g3, xs3, rfl, cc, hb⟩
  have F_21 := Lib.hid (F_20.out.below hb)
  have GW_21 := Lib.hid (GW_20.out.below (by omega) hb)
  have X0_21 := (hb.cell (p := ⟨w6.heap.size, 0, none⟩) (by show w6.heap.size < _; omega)).trans X0_20
  have GM_21 := Lib.hid (GM_20.out.below hb)
  have cF_21 := F_21.out.bx
  have z21 := hb.size
  try simp only [World.size_alloc] at z21
  clear hb F_20 GW_20 X0_20 GM_20 cF_20
  try simp only [World.size_alloc] at cc
  have C3_21 := Lib.hid (cc)
  clear cc
  go_wp2_with fail
  refine (x7 hob F_21.out.nowo (F_21.out.gi GI0.out)).mono ?_
  rintro e w22 ⟨a3, k3, rfl, cc, hb⟩
  have F_22 := Lib.hid (F_21.out.below hb)
  have GW_22 := Lib.hid (GW_21.out.below (by omega) hb)
  have X0_22 := (hb.cell (p := ⟨w6.heap.size, 0, none⟩) (by show w6.heap.size < _; omega)).trans X0_21
  have GM_22 := Lib.hid (GM_21.out.below hb)
  have C3_22 := Lib.hid (C3_21.out.below hb)
  have cF_22 := F_22.out.bx
  have z22 := hb.size
  try simp only [World.size_alloc] at z22
  clear hb F_21 GW_21 X0_21 GM_21 C3_21 cF_21
  try simp only [World.size_alloc] at cc
  have T3_22 := Lib.hid (cc)
  clear cc
  go_wp2_with fail
  refine (HI.out _ _ _ _ _ C3_22.out.rd (Nat.le_refl _) (T3_22.out.rep (by omega)) (F_22.out.gi GI0.out)).mono ?_
  rintro e w23 ⟨uh, rfl, cc, hb⟩
  have F_23 := Lib.hid (F_22.out.below hb)
  have GW_23 := Lib.hid (GW_22.out.below (by omega) hb)
  have X0_23 := (hb.cell (p := ⟨w6.heap.size, 0, none⟩) (by show w6.heap.size < _; omega)).trans X0_22
  have GM_23 := Lib.hid (GM_22.out.below hb)
  have C3_23 := Lib.hid (C3_22.out.below hb)
  have T3_23 := Lib.hid (T3_22.out.below (by omega) hb)
  have cF_23 := F_23.out.bx
  have z23 := hb.size
  try simp only [World.size_alloc] at z23
  clear hb F_22 GW_22 X0_22 GM_22 C3_22 T3_22 cF_22
  try simp only [World.size_alloc] at cc
  have GH_23 := Lib.hid (cc)
  clear cc
  clear C3_23 T3_23
  go_wp2_with fail
  refine (wZ GH_23.out GW_23.out hl4 HBL.out (by omega) (by omega) (F_23.out.gi GI0.out)).mono ?_
  rintro e w24 ⟨rfl, hb⟩
  have F_24 := Lib.hid (F_23.out.below hb)
  have GW_24 := Lib.hid (GW_23.out.below (by omega) hb)
  have X0_24 := (hb.cell (p := ⟨w6.heap.size, 0, none⟩) (by show w6.heap.size < _; omega)).trans X0_23
  have GM_24 := Lib.hid (GM_23.out.below hb)
  have GH_24 := Lib.hid (GH_23.out.below hb)
  have cF_24 := F_24.out.bx
  have z24 := hb.size
  try simp only [World.size_alloc] at z24
  clear hb F_23 GW_23 X0_23 GM_23 GH_23 cF_23
  go_wp2_with fail
  refine (heldN_call (k := 1) GM_24.out (by omega) (by omega) (by omega) (F_24.out.gi GI0.out)).mono ?_
  rintro e w25 ⟨rfl, hb⟩
  have F_25 := Lib.hid (F_24.out.below hb)
  have GW_25 := Lib.hid (GW_24.out.below (by omega) hb)
  have X0_25 := (hb.cell (p := ⟨w6.heap.size, 0, none⟩) (by show w6.heap.size < _; omega)).trans X0_24
  have GM_25 := Lib.hid (GM_24.out.below hb)
  have GH_25 := Lib.hid (GH_24.out.below hb)
  have cF_25 := F_25.out.bx
  have z25 := hb.size
  try simp only [World.size_alloc] at z25
  clear hb F_24 GW_24 X0_24 GM_24 GH_24 cF_24
  go_wp2
  go_ret
  exact ⟨rfl, F_25.out.t⟩
set_option maxRecDepth 100000 in
set_option maxHeartbeats 8000000 in
theorem lawPc_F (W : World) (A : Option Addr) (c : Nat) (es : List Ent) (A2 : Option Addr) (c2 : Nat) (o : List Int) (L : List (List Int)) (gi : GI (fun b => b < W.heap.size) W) (hr : RdE W W.heap.size A (enL es)) (hc : es.length ≤ c)
    (hro : RepI (fun b => b < W.heap.size) W (.sl (o.map yG)) (.slice A2 o.length c2)) (hM : qW es) (hB : wX es) (hob : o.length ≤ 1048576)
    (hsz : 0 ≤ wS es 1048576) (hsum : 1 + (es.map fun e => e.o.length + 1).sum ≤ 8388608)
    (hS : GivesC es o L false) (hI : GivesD es o L false) (hl : L.length ≤ 1000000) (hfl : L.flatten.length ≤ 1100000) (hbl : ∀ o ∈ L, o.length ≤ 1100000) :
    Calls Tryd.prog 4 #[.agg #[.slice A es.length c], .slice A2 o.length c2] W fun e w' => e = .returned (.bool true) ∧ Below W.heap.size W w' := by
  have hl4 : L.length ≤ 4000000 := by omega
  have HBL : Hid (∀ o ∈ L, o.length ≤ 4000000) := Lib.hid fun o ho => by have := hbl o ho; omega
  have hob2 : ¬ ((o.length : Nat) : Int) > 1048576 := by omega
  have HS := Lib.hid hS
  have HI := Lib.hid hI
  have HM := Lib.hid hM
  have HB := Lib.hid hB
  have GI0 := Lib.hid gi
  have HSUM := Lib.hid hsum
  obtain ⟨s, hs⟩ : ∃ s, Hid (wS es 1048576 = s) := ⟨_, Lib.hid rfl⟩
  have hs0 : 0 ≤ s := by rw [← hs.out]; exact hsz
  have hb0 : Below W.heap.size W (W.alloc (.cells #[.slice A es.length c] 24)) := vK W _
  have F_1 := Lib.hid (⟨⟨hb0, by simp, by go_simp, hr.below hb0 (Nat.le_refl _)⟩, hro.mono (fun _ h => h) (fun b hb => hb0.block b hb)⟩ : AgO W A c es A2 c2 o (W.alloc (.cells #[.slice A es.length c] 24)))
  have cF_1 := F_1.out.bx
  clear hS hI hM hB gi hr hro hsz hb0 hbl hsum
  go_enter Tryd.func4, Tryd.ntmps4
  go_wp2_with fail
  refine (szDic_call HM.out (by omega) (by omega) F_1.out.now hc (F_1.out.gi GI0.out)).mono ?_
  rintro e w2 ⟨rfl, hb⟩
  rw [hs.out]
  have F_2 := Lib.hid (F_1.out.below hb)
  have cF_2 := F_2.out.bx
  have z2 := hb.size
  try simp only [World.size_alloc] at z2
  clear hb F_1 cF_1
  have l1 := F_2.out.lt
  go_wp2_with fail
  refine (wB HB.out F_2.out.now).mono ?_
  rintro e w3 ⟨g1, xs1, rfl, cc, hb⟩
  have F_3 := Lib.hid (F_2.out.below hb)
  have cF_3 := F_3.out.bx
  have z3 := hb.size
  try simp only [World.size_alloc] at z3
  clear hb F_2 cF_2
  try simp only [World.size_alloc] at cc
  have C1_3 := Lib.hid (cc)
  clear cc
  go_wp2_with fail
  refine (x7 hob F_3.out.nowo (F_3.out.gi GI0.out)).mono ?_
  rintro e w4 ⟨a1, k1, rfl, cc, hb⟩
  have F_4 := Lib.hid (F_3.out.below hb)
  have C1_4 := Lib.hid (C1_3.out.below hb)
  have cF_4 := F_4.out.bx
  have z4 := hb.size
  try simp only [World.size_alloc] at z4
  clear hb F_3 C1_3 cF_3
  try simp only [World.size_alloc] at cc
  have T1_4 := Lib.hid (cc)
  clear cc
  go_wp2_with fail
  refine (HS.out _ _ _ _ _ C1_4.out.rd (Nat.le_refl _) (T1_4.out.rep (by omega)) (F_4.out.gi GI0.out)).mono ?_
  rintro e w5 ⟨uw, rfl, cc, hb⟩
  have F_5 := Lib.hid (F_4.out.below hb)
  have C1_5 := Lib.hid (C1_4.out.below hb)
  have T1_5 := Lib.hid (T1_4.out.below (by omega) hb)
  have cF_5 := F_5.out.bx
  have z5 := hb.size
  try simp only [World.size_alloc] at z5
  clear hb F_4 C1_4 T1_4 cF_4
  try simp only [World.size_alloc] at cc
  have GW_5 := Lib.hid (cc)
  clear cc
  clear C1_5 T1_5
  go_wp2_with fail
  refine (wB HB.out F_5.out.now).mono ?_
  rintro e w6 ⟨g0, xs0, rfl, cc, hb⟩
  have F_6 := Lib.hid (F_5.out.below hb)
  have GW_6 := Lib.hid (GW_5.out.below (by omega) hb)
  have cF_6 := F_6.out.bx
  have z6 := hb.size
  try simp only [World.size_alloc] at z6
  clear hb F_5 GW_5 cF_5
  try simp only [World.size_alloc] at cc
  have C0_6 := Lib.hid (cc)
  clear cc
  have hb : Below w6.heap.size w6 (w6.alloc (.cells #[.slice (some ⟨g0, 0, none⟩) es.length es.length] 31)) := vK w6 _
  have X0_7 : (w6.alloc (.cells #[.slice (some ⟨g0, 0, none⟩) es.length es.length] 31)).cell? ⟨w6.heap.size, 0, none⟩ = some (.slice (some ⟨g0, 0, none⟩) es.length es.length) := by go_simp
  have q7 : (w6.alloc (.cells #[.slice (some ⟨g0, 0, none⟩) es.length es.length] 31)).heap.size = w6.heap.size + 1 := by simp
  have F_7 := Lib.hid (F_6.out.below hb)
  have GW_7 := Lib.hid (GW_6.out.below (by omega) hb)
  have C0_7 := Lib.hid (C0_6.out.below hb)
  have cF_7 := F_7.out.bx
  have z7 := hb.size
  try simp only [World.size_alloc] at z7
  clear hb F_6 GW_6 C0_6 cF_6
  go_wp2_with fail
  refine (x7 hob F_7.out.nowo (F_7.out.gi GI0.out)).mono ?_
  rintro e w8 ⟨a0, k0, rfl, cc, hb⟩
  have F_8 := Lib.hid (F_7.out.below hb)
  have GW_8 := Lib.hid (GW_7.out.below (by omega) hb)
  have C0_8 := Lib.hid (C0_7.out.below hb)
  have X0_8 := (hb.cell (p := ⟨w6.heap.size, 0, none⟩) (by show w6.heap.size < _; omega)).trans X0_7
  have cF_8 := F_8.out.bx
  have z8 := hb.size
  try simp only [World.size_alloc] at z8
  clear hb F_7 GW_7 C0_7 X0_7 cF_7
  try simp only [World.size_alloc] at cc
  have T0_8 := Lib.hid (cc)
  clear cc
  go_wp2_with fail
  refine (HI.out _ _ _ _ _ C0_8.out.rd (Nat.le_refl _) (T0_8.out.rep (by omega)) (F_8.out.gi GI0.out)).mono ?_
  rintro e w9 ⟨ug, rfl, cc, hb⟩
  have F_9 := Lib.hid (F_8.out.below hb)
  have GW_9 := Lib.hid (GW_8.out.below (by omega) hb)
  have C0_9 := Lib.hid (C0_8.out.below hb)
  have X0_9 := (hb.cell (p := ⟨w6.heap.size, 0, none⟩) (by show w6.heap.size < _; omega)).trans X0_8
  have T0_9 := Lib.hid (T0_8.out.below (by omega) hb)
  have cF_9 := F_9.out.bx
  have z9 := hb.size
  try simp only [World.size_alloc] at z9
  clear hb F_8 GW_8 C0_8 X0_8 T0_8 cF_8
  try simp only [World.size_alloc] at cc
  have GG_9 := Lib.hid (cc)
  clear cc
  go_wp2_with fail
  refine (wZ GG_9.out GW_9.out hl4 HBL.out (by omega) (by omega) (F_9.out.gi GI0.out)).mono ?_
  rintro e w10 ⟨rfl, hb⟩
  have F_10 := Lib.hid (F_9.out.below hb)
  have GW_10 := Lib.hid (GW_9.out.below (by omega) hb)
  have C0_10 := Lib.hid (C0_9.out.below hb)
  have X0_10 := (hb.cell (p := ⟨w6.heap.size, 0, none⟩) (by show w6.heap.size < _; omega)).trans X0_9
  have T0_10 := Lib.hid (T0_9.out.below (by omega) hb)
  have GG_10 := Lib.hid (GG_9.out.below hb)
  have cF_10 := F_10.out.bx
  have z10 := hb.size
  try simp only [World.size_alloc] at z10
  clear hb F_9 GW_9 C0_9 X0_9 T0_9 GG_9 cF_9
  go_wp2_with fail
  refine wp_region_in 4 [(0, false), (1, false), (2, true), (3, true)] (fun w1 w' => Below w1.heap.size w1 w') (by kernel_rfl) (by kernel_rfl) (fun _ _ d _ _ h => by cases d <;> exact h) (fun w11 hs => ⟨Below.refl _ _, ?_⟩)
  have hb := hs.below w10.heap.size
  clear hs
  have F_11 := Lib.hid (F_10.out.below hb)
  have GW_11 := Lib.hid (GW_10.out.below (by omega) hb)
  have C0_11 := Lib.hid (C0_10.out.below hb)
  have X0_11 := (hb.cell (p := ⟨w6.heap.size, 0, none⟩) (by show w6.heap.size < _; omega)).trans X0_10
  have T0_11 := Lib.hid (T0_10.out.below (by omega) hb)
  have GG_11 := Lib.hid (GG_10.out.below hb)
  have cF_11 := F_11.out.bx
  have z11 := hb.size
  try simp only [World.size_alloc] at z11
  clear hb F_10 GW_10 C0_10 X0_10 T0_10 GG_10 cF_10
  have H1 := held_below X0_11
  have H2 := held_below cF_11
  (refine wpH_held rfl ?_; go_big_quiet_step (rfl); refine wpQuiet_nil ?_)
  (refine wpH_held rfl ?_; go_big_quiet_step (rfl); refine wpQuiet_nil ?_)
  clear H1 H2
  refine wpH_move rfl ?_
  go_wp2_with fail
  refine (wB HB.out F_11.out.now).mono ?_
  rintro e w12 ⟨g2, xs2, rfl, cc, hb⟩
  have hbR := Lib.hid hb
  have F_12 := Lib.hid (F_11.out.below hb)
  have GW_12 := Lib.hid (GW_11.out.below (by omega) hb)
  have C0_12 := Lib.hid (C0_11.out.below hb)
  have X0_12 := (hb.cell (p := ⟨w6.heap.size, 0, none⟩) (by show w6.heap.size < _; omega)).trans X0_11
  have T0_12 := Lib.hid (T0_11.out.below (by omega) hb)
  have GG_12 := Lib.hid (GG_11.out.below hb)
  have cF_12 := F_12.out.bx
  have z12 := hb.size
  try simp only [World.size_alloc] at z12
  clear hb F_11 GW_11 C0_11 X0_11 T0_11 GG_11 cF_11
  try simp only [World.size_alloc] at cc
  have C2_12 := Lib.hid (cc)
  clear cc
  go_wp2_with fail
  refine ⟨hbR.out, ?_⟩
  refine wpH_move rfl ?_
  go_wp2_with fail
  refine (eqDic_call HB.out C0_12.out.rd (Nat.le_refl _) C2_12.out.rd (Nat.le_refl _) (F_12.out.gi GI0.out)).mono ?_
  rintro e w13 ⟨rfl, hb⟩
  have hbR := Lib.hid (hbR.out.trans (hb.mono hbR.out.size))
  have F_13 := Lib.hid (F_12.out.below hb)
  have GW_13 := Lib.hid (GW_12.out.below (by omega) hb)
  have C0_13 := Lib.hid (C0_12.out.below hb)
  have X0_13 := (hb.cell (p := ⟨w6.heap.size, 0, none⟩) (by show w6.heap.size < _; omega)).trans X0_12
  have T0_13 := Lib.hid (T0_12.out.below (by omega) hb)
  have GG_13 := Lib.hid (GG_12.out.below hb)
  have C2_13 := Lib.hid (C2_12.out.below hb)
  have cF_13 := F_13.out.bx
  have z13 := hb.size
  try simp only [World.size_alloc] at z13
  clear hb F_12 GW_12 C0_12 X0_12 T0_12 GG_12 C2_12 cF_12
  go_wp2_with fail
  refine ⟨hbR.out, ?_⟩
  clear hbR
  (refine wpH_nil ?_; simp only [List.drop_succ_cons, List.drop_zero])
  clear C2_13
  go_wp2_with fail
  refine (x7 hob F_13.out.nowo (F_13.out.gi GI0.out)).mono ?_
  rintro e w14 ⟨a2, k2, rfl, cc, hb⟩
  have F_14 := Lib.hid (F_13.out.below hb)
  have GW_14 := Lib.hid (GW_13.out.below (by omega) hb)
  have C0_14 := Lib.hid (C0_13.out.below hb)
  have X0_14 := (hb.cell (p := ⟨w6.heap.size, 0, none⟩) (by show w6.heap.size < _; omega)).trans X0_13
  have T0_14 := Lib.hid (T0_13.out.below (by omega) hb)
  have GG_14 := Lib.hid (GG_13.out.below hb)
  have cF_14 := F_14.out.bx
  have z14 := hb.size
  try simp only [World.size_alloc] at z14
  clear hb F_13 GW_13 C0_13 X0_13 T0_13 GG_13 cF_13
  try simp only [World.size_alloc] at cc
  have T2_14 := Lib.hid (cc)
  clear cc
  go_wp2_with fail
  refine (eqInts_call (by omega) (T0_14.out.rep (by omega)) (T2_14.out.rep (by omega)) (F_14.out.gi GI0.out)).mono ?_
  rintro e w15 ⟨rfl, hb⟩
  have F_15 := Lib.hid (F_14.out.below hb)
  have GW_15 := Lib.hid (GW_14.out.below (by omega) hb)
  have C0_15 := Lib.hid (C0_14.out.below hb)
  have X0_15 := (hb.cell (p := ⟨w6.heap.size, 0, none⟩) (by show w6.heap.size < _; omega)).trans X0_14
  have T0_15 := Lib.hid (T0_14.out.below (by omega) hb)
  have GG_15 := Lib.hid (GG_14.out.below hb)
  have T2_15 := Lib.hid (T2_14.out.below (by omega) hb)
  have cF_15 := F_15.out.bx
  have z15 := hb.size
  try simp only [World.size_alloc] at z15
  clear hb F_14 GW_14 C0_14 X0_14 T0_14 GG_14 T2_14 cF_14
  clear T2_15
  go_wp2_with fail
  refine (markDic_call (k0 := 1) C0_15.out HB.out HSUM.out (F_15.out.glo GI0.out (by omega)) (by omega)).mono ?_
  rintro e w16 ⟨⟨q1, rfl, hq1⟩, hf⟩
  clear C0_15
  have F_16 := Lib.hid (F_15.out.fr hf (by omega))
  have GW_16 := Lib.hid (GW_15.out.fr (by omega) hf (by omega))
  have X0_16 := (hf.cell (p := ⟨w6.heap.size, 0, none⟩) (by show w6.heap.size < _; omega) (by show w6.heap.size < _ ∨ _ ≤ w6.heap.size; omega)).trans X0_15
  have T0_16 := Lib.hid (T0_15.out.fr (by omega) hf (by omega))
  have GG_16 := Lib.hid (GG_15.out.fr hf (by omega))
  have cF_16 := F_16.out.bx
  have z16 := hf.size
  try simp only [World.size_alloc] at z16
  clear hf F_15 GW_15 X0_15 T0_15 GG_15 cF_15
  go_wp2_with fail
  refine (markInts_call (k := q1) T0_16.out (by omega) (by omega) (F_16.out.glo GI0.out (by omega)) (by omega)).mono ?_
  rintro e w17 ⟨rfl, hf⟩
  clear T0_16
  have F_17 := Lib.hid (F_16.out.fr hf (by omega))
  have GW_17 := Lib.hid (GW_16.out.fr (by omega) hf (by omega))
  have X0_17 := (hf.cell (p := ⟨w6.heap.size, 0, none⟩) (by show w6.heap.size < _; omega) (by show w6.heap.size < _ ∨ _ ≤ w6.heap.size; omega)).trans X0_16
  have GG_17 := Lib.hid (GG_16.out.fr hf (by omega))
  have cF_17 := F_17.out.bx
  have z17 := hf.size
  try simp only [World.size_alloc] at z17
  clear hf F_16 GW_16 X0_16 GG_16 cF_16
  have hq2 : ¬ (((q1 : Nat) : Int) + ((o.length : Nat) : Int)) < 0 := by omega
  go_wp2_with fail
  refine (wZ GG_17.out GW_17.out hl4 HBL.out (by omega) (by omega) (F_17.out.gi GI0.out)).mono ?_
  rintro e w18 ⟨rfl, hb⟩
  have F_18 := Lib.hid (F_17.out.below hb)
  have GW_18 := Lib.hid (GW_17.out.below (by omega) hb)
  have X0_18 := (hb.cell (p := ⟨w6.heap.size, 0, none⟩) (by show w6.heap.size < _; omega)).trans X0_17
  have GG_18 := Lib.hid (GG_17.out.below hb)
  have cF_18 := F_18.out.bx
  have z18 := hb.size
  try simp only [World.size_alloc] at z18
  clear hb F_17 GW_17 X0_17 GG_17 cF_17
  go_wp2_with fail
  refine (markGotN (k0 := 1) GG_18.out (by omega) (by omega)).mono ?_
  rintro e w19 ⟨rfl, cc, hf⟩
  clear GG_18
  have F_19 := Lib.hid (F_18.out.fr hf (by omega))
  have GW_19 := Lib.hid (GW_18.out.fr (by omega) hf (by omega))
  have X0_19 := (hf.cell (p := ⟨w6.heap.size, 0, none⟩) (by show w6.heap.size < _; omega) (by show w6.heap.size < _ ∨ _ ≤ w6.heap.size; omega)).trans X0_18
  have cF_19 := F_19.out.bx
  have z19 := hf.size
  try simp only [World.size_alloc] at z19
  clear hf F_18 GW_18 X0_18 cF_18
  try simp only [World.size_alloc] at cc
  have GM_19 := Lib.hid (cc)
  clear cc
  go_wp2_with fail
  refine (heldN_call (k := 1) GM_19.out (by omega) (by omega) (by omega) (F_19.out.gi GI0.out)).mono ?_
  rintro e w20 ⟨rfl, hb⟩
  have F_20 := Lib.hid (F_19.out.below hb)
  have GW_20 := Lib.hid (GW_19.out.below (by omega) hb)
  have X0_20 := (hb.cell (p := ⟨w6.heap.size, 0, none⟩) (by show w6.heap.size < _; omega)).trans X0_19
  have GM_20 := Lib.hid (GM_19.out.below hb)
  have cF_20 := F_20.out.bx
  have z20 := hb.size
  try simp only [World.size_alloc] at z20
  clear hb F_19 GW_19 X0_19 GM_19 cF_19
  have hm : ¬ ((1 + L.flatten.length : Nat) : Int) < 0 := by omega
  go_wp2_with fail
  refine (wB HB.out F_20.out.now).mono ?_
  rintro e w21 ⟨g3, xs3, rfl, cc, hb⟩
  have F_21 := Lib.hid (F_20.out.below hb)
  have GW_21 := Lib.hid (GW_20.out.below (by omega) hb)
  have X0_21 := (hb.cell (p := ⟨w6.heap.size, 0, none⟩) (by show w6.heap.size < _; omega)).trans X0_20
  have GM_21 := Lib.hid (GM_20.out.below hb)
  have cF_21 := F_21.out.bx
  have z21 := hb.size
  try simp only [World.size_alloc] at z21
  clear hb F_20 GW_20 X0_20 GM_20 cF_20
  try simp only [World.size_alloc] at cc
  have C3_21 := Lib.hid (cc)
  clear cc
  go_wp2_with fail
  refine (x7 hob F_21.out.nowo (F_21.out.gi GI0.out)).mono ?_
  rintro e w22 ⟨a3, k3, rfl, cc, hb⟩
  have F_22 := Lib.hid (F_21.out.below hb)
  have GW_22 := Lib.hid (GW_21.out.below (by omega) hb)
  have X0_22 := (hb.cell (p := ⟨w6.heap.size, 0, none⟩) (by show w6.heap.size < _; omega)).trans X0_21
  have GM_22 := Lib.hid (GM_21.out.below hb)
  have C3_22 := Lib.hid (C3_21.out.below hb)
  have cF_22 := F_22.out.bx
  have z22 := hb.size
  try simp only [World.size_alloc] at z22
  clear hb F_21 GW_21 X0_21 GM_21 C3_21 cF_21
  try simp only [World.size_alloc] at cc
  have T3_22 := Lib.hid (cc)
  clear cc
  go_wp2_with fail
  refine (HI.out _ _ _ _ _ C3_22.out.rd (Nat.le_refl _) (T3_22.out.rep (by omega)) (F_22.out.gi GI0.out)).mono ?_
  rintro e w23 ⟨uh, rfl, cc, hb⟩
  have F_23 := Lib.hid (F_22.out.below hb)
  have GW_23 := Lib.hid (GW_22.out.below (by omega) hb)
  have X0_23 := (hb.cell (p := ⟨w6.heap.size, 0, none⟩) (by show w6.heap.size < _; omega)).trans X0_22
  have GM_23 := Lib.hid (GM_22.out.below hb)
  have C3_23 := Lib.hid (C3_22.out.below hb)
  have T3_23 := Lib.hid (T3_22.out.below (by omega) hb)
  have cF_23 := F_23.out.bx
  have z23 := hb.size
  try simp only [World.size_alloc] at z23
  clear hb F_22 GW_22 X0_22 GM_22 C3_22 T3_22 cF_22
  try simp only [World.size_alloc] at cc
  have GH_23 := Lib.hid (cc)
  clear cc
  clear C3_23 T3_23
  go_wp2_with fail
  refine (wZ GH_23.out GW_23.out hl4 HBL.out (by omega) (by omega) (F_23.out.gi GI0.out)).mono ?_
  rintro e w24 ⟨rfl, hb⟩
  have F_24 := Lib.hid (F_23.out.below hb)
  have GW_24 := Lib.hid (GW_23.out.below (by omega) hb)
  have X0_24 := (hb.cell (p := ⟨w6.heap.size, 0, none⟩) (by show w6.heap.size < _; omega)).trans X0_23
  have GM_24 := Lib.hid (GM_23.out.below hb)
  have GH_24 := Lib.hid (GH_23.out.below hb)
  have cF_24 := F_24.out.bx
  have z24 := hb.size
  try simp only [World.size_alloc] at z24
  clear hb F_23 GW_23 X0_23 GM_23 GH_23 cF_23
  go_wp2_with fail
  refine (heldN_call (k := 1) GM_24.out (by omega) (by omega) (by omega) (F_24.out.gi GI0.out)).mono ?_
  rintro e w25 ⟨rfl, hb⟩
  have F_25 := Lib.hid (F_24.out.below hb)
  have GW_25 := Lib.hid (GW_24.out.below (by omega) hb)
  have X0_25 := (hb.cell (p := ⟨w6.heap.size, 0, none⟩) (by show w6.heap.size < _; omega)).trans X0_24
  have GM_25 := Lib.hid (GM_24.out.below hb)
  have GH_25 := Lib.hid (GH_24.out.below hb)
  have cF_25 := F_25.out.bx
  have z25 := hb.size
  try simp only [World.size_alloc] at z25
  clear hb F_24 GW_24 X0_24 GM_24 GH_24 cF_24
  go_wp2
  go_ret
  exact ⟨rfl, F_25.out.t⟩
set_option maxRecDepth 100000 in
theorem lawPc_wide (W : World) (A : Option Addr) (c : Nat) (es : List Ent) (A2 : Option Addr) (c2 : Nat) (o : List Int) (hob : ((o.length : Nat) : Int) > 1048576) :
    Calls Tryd.prog 4 #[.agg #[.slice A es.length c], .slice A2 o.length c2] W fun e w' => e = .returned (.bool true) ∧ Below W.heap.size W w' := by
  have hb : Below W.heap.size W (W.alloc (.cells #[.slice A es.length c] 24)) := vK W _
  go_enter Tryd.func4, Tryd.ntmps4
  go_wp2
  go_ret
  exact ⟨rfl, hb⟩
set_option maxRecDepth 100000 in
theorem lawPc_big (W : World) (A : Option Addr) (c : Nat) (es : List Ent) (A2 : Option Addr) (c2 : Nat) (o : List Int) (gi : GI (fun b => b < W.heap.size) W) (hr : RdE W W.heap.size A (enL es)) (hc : es.length ≤ c) (hM : qW es)
    (hob : ¬ ((o.length : Nat) : Int) > 1048576) (hsz : wS es 1048576 < 0) :
    Calls Tryd.prog 4 #[.agg #[.slice A es.length c], .slice A2 o.length c2] W fun e w' => e = .returned (.bool true) ∧ Below W.heap.size W w' := by
  have HM := Lib.hid hM
  have GI0 := Lib.hid gi
  obtain ⟨s, hs⟩ : ∃ s, Hid (wS es 1048576 = s) := ⟨_, Lib.hid rfl⟩
  have hs0 : s < 0 := by rw [← hs.out]; exact hsz
  have hb0 : Below W.heap.size W (W.alloc (.cells #[.slice A es.length c] 24)) := vK W _
  have F_1 := Lib.hid (⟨hb0, by simp, by go_simp, hr.below hb0 (Nat.le_refl _)⟩ : Ag W A c es (W.alloc (.cells #[.slice A es.length c] 24)))
  have cF_1 := F_1.out.bx
  clear hM gi hr hsz hb0
  go_enter Tryd.func4, Tryd.ntmps4
  go_wp2_with fail
  refine (szDic_call HM.out (by omega) (by omega) F_1.out.now hc (F_1.out.gi GI0.out)).mono ?_
  rintro e w2 ⟨rfl, hb⟩
  rw [hs.out]
  have F_2 := Lib.hid (F_1.out.below hb)
  clear hb F_1 cF_1
  go_wp2
  go_ret
  exact ⟨rfl, F_2.out.t⟩
theorem rep_dic {w : World} {es : List Ent} {v : Value} (h : RepF (fun b => b < w.heap.size) (fun _ => none) w (.agg (vX es)) v) : ∃ A c, v = .agg #[.slice A es.length c] ∧ es.length ≤ c ∧ RdE w w.heap.size A (enL es) := by
  obtain ⟨us, rfl, h⟩ := h
  cases h with
  | cons h h2 =>
    cases h2
    cases h with
    | imm h =>
      obtain ⟨A, c, rfl, h2, h3⟩ := rep_ents h (fun b hb => hb)
      exact ⟨A, c, rfl, h2, h3⟩
theorem cfs_mem {es : List Ent} {o p : List Int} (h : p ∈ cfs es o) : ∃ e ∈ es, e.o = p := by
  rw [cfs, List.mem_map] at h
  obtain ⟨e, he, rfl⟩ := h
  exact ⟨e, (List.mem_filter.1 he).1, rfl⟩
theorem lawPc_run (es : List Ent) (o : List Int) (hM : qW es) (_ho : o.length ≤ 9223372036854775807 ∧ ∀ n ∈ o, -9223372036854775808 ≤ n ∧ n ≤ 9223372036854775807) {w : World} (vals : List Value) (hv : All2 (RepF (fun b => b < w.heap.size) (fun _ => none) w) [.agg (vX es), .c (.sl (o.map yG))] vals) (gi : GI (fun b => b < w.heap.size) w) :
    Calls Tryd.prog 4 vals.toArray w fun e w' => e = .returned (.bool true) ∧ Below w.heap.size w w' := by
  cases hv with
  | cons h1 hv => cases hv with
    | cons h2 hv =>
      cases hv
      obtain ⟨A, c, rfl, hc, hr⟩ := rep_dic h1
      have h2' : Rep (fun b => b < w.heap.size) (fun _ => none) w (.sl (o.map yG)) _ := h2
      cases h2' with
      | imm hro =>
        obtain ⟨A2, c2, e⟩ := rep_sl hro
        rw [List.length_map] at e
        subst e
        by_cases hob : ((o.length : Nat) : Int) > 1048576
        · exact lawPc_wide w A c es A2 c2 o hob
        by_cases hsz : wS es 1048576 < 0
        · exact lawPc_big w A c es A2 c2 o gi hr hc hM hob hsz
        have hsz' : 0 ≤ wS es 1048576 := by omega
        have hB := szDi_ok hsz' (by omega)
        have hsum := szDi_sum hsz'
        have hol : o.length ≤ 1048576 := by omega
        cases h : wW es o with
        | false => exact lawPc_F w A c es A2 c2 o [] gi hr hc hro hM hB hol hsz' (by omega) (givesC_no hB hol h) (givesD_no hB hol h) (by simp) (by simp) (fun o ho => by cases ho)
        | true =>
          have hln := cfs_len es o es.length
          rw [List.take_length] at hln
          have hfl := cfs_flat o es
          have h40 := (dicOk_parts (by rw [wW, Bool.and_eq_true] at h; exact h.1)).1
          exact lawPc_T w A c es A2 c2 o (cfs es o) gi hr hc hro hM hB hol hsz' (by omega) (givesC_yes hB hol h) (givesD_yes hB hol h) (by omega) (by omega) (fun p hp => by
            obtain ⟨e, he, rfl⟩ := cfs_mem hp
            have := (hB.2 e he).1
            omega)
end Go.Proofs.YtjeffognhcbiaaaDoor
