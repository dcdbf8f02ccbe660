/- Laws of a dictionary and a tape: what their calls do, in a concrete walk. -/
import Derived.Test.YtjeffognhcbiaaaGreatDoorNsT
import Derived.Test.YtjeffognhcbiaaaGreatDoorNsF
import Derived.Test.YtjeffognhcbiaaaGreatDoorTpS
import Derived.Test.YtjeffognhcbiaaaGreatDoorPcS
namespace Go.Proofs.YtjeffognhcbiaaaGreatDoor
open Go Go.RowKit
theorem itms_plain (l : List Itm) : vX (l.map yO) := fun x hx c hc => by
  obtain ⟨i, _, rfl⟩ := List.mem_map.1 hx
  simp only [yO, List.mem_cons, List.not_mem_nil, or_false] at hc
  rcases hc with rfl | rfl
  · exact ⟨_, rfl, rfl⟩
  · exact ⟨_, rfl, rfl⟩
theorem pcs_plain (l : List Pc) : vX (l.map xO) := fun x hx c hc => by
  obtain ⟨i, _, rfl⟩ := List.mem_map.1 hx
  simp only [xO, List.mem_cons, List.not_mem_nil, or_false] at hc
  rcases hc with rfl | rfl | rfl
  · exact ⟨_, rfl, rfl⟩
  · exact ⟨_, rfl, rfl⟩
  · exact ⟨_, rfl, rfl⟩
theorem rep_sl {I : Nat → Prop} {w : World} {xs : List (List Cell)} {v : Value} (h : RepI I w (.sl xs) v) : ∃ A c, v = .slice A xs.length c := by
  generalize hx : Cell.sl xs = x at h
  cases h with
  | v _ _ => cases hx
  | nil => cases hx
  | ip _ _ _ _ _ _ _ => cases hx
  | fn _ _ _ _ _ _ _ => cases hx
  | sl0 A cap => injection hx with hx; subst hx; exact ⟨_, _, rfl⟩
  | sl ys b f sz n cap u h1 h2 h3 h4 h5 h6 => injection hx with hx; subst hx; subst h1; exact ⟨_, _, rfl⟩
theorem GotF.sl {t : TypeId} {sz lo hi : Nat} {w : World} {els : List (List Cell)} {k : Nat} {v : Value} (h : GotF t sz lo hi w els k v) : ∃ A c, v = .slice A k c := by
  have hk := h.le
  obtain ⟨A, c, e⟩ := rep_sl h.rep
  rw [List.length_take, Nat.min_eq_left hk] at e
  exact ⟨A, c, e⟩
structure AgT (W : World) (A : Option Addr) (c : Nat) (es : List Ent) (A2 : Option Addr) (c2 : Nat) (t : List Itm) (w : World) : Prop where
  bt : Below W.heap.size W w
  lt : W.heap.size + 1 < w.heap.size
  bx : w.cell? ⟨W.heap.size, 0, none⟩ = some (.slice A es.length c)
  bx2 : w.cell? ⟨W.heap.size + 1, 0, none⟩ = some (.slice A2 t.length c2)
  rd : RdE w W.heap.size A (enL es)
  rt : RepI (fun b => b < W.heap.size) w (.sl (t.map yO)) (.slice A2 t.length c2)
section
variable {W w w' : World} {A A2 : Option Addr} {c c2 : Nat} {es : List Ent} {t : List Itm}
theorem AgT.below (h : AgT W A c es A2 c2 t w) (hb : Below w.heap.size w w') : AgT W A c es A2 c2 t w' := by
  have l := h.lt
  exact ⟨h.bt.trans (hb.mono (by omega)), Nat.lt_of_lt_of_le l hb.size, (hb.cell (p := ⟨W.heap.size, 0, none⟩) (by show W.heap.size < _; omega)).trans h.bx, (hb.cell (p := ⟨W.heap.size + 1, 0, none⟩) l).trans h.bx2, h.rd.below (hb.mono (by omega)) (Nat.le_refl _), h.rt.mono (fun _ h => h) (fun b hb' => hb.block b (by omega))⟩
theorem AgT.fr {lo hi : Nat} (h : AgT W A c es A2 c2 t w) (hf : Fr lo hi w w') (hlo : W.heap.size + 1 < lo) : AgT W A c es A2 c2 t w' := by
  have l := h.lt
  have hb : Below (W.heap.size + 2) w w' := ⟨hf.os, hf.tape, hf.output, hf.size, fun k hk => hf.block k (by omega) (by omega)⟩
  exact ⟨h.bt.trans (hb.mono (by omega)), Nat.lt_of_lt_of_le l hf.size, (hb.cell (p := ⟨W.heap.size, 0, none⟩) (by show W.heap.size < _; omega)).trans h.bx, (hb.cell (p := ⟨W.heap.size + 1, 0, none⟩) (by show W.heap.size + 1 < _; omega)).trans h.bx2, h.rd.below (hb.mono (by omega)) (Nat.le_refl _), h.rt.mono (fun _ h => h) (fun b hb' => hb.block b (by omega))⟩
theorem AgT.now (h : AgT W A c es A2 c2 t w) : RdE w w.heap.size A (enL es) := h.rd.mono (by have := h.lt; omega)
theorem AgT.nowt (h : AgT W A c es A2 c2 t w) : Rep (fun b => b < w.heap.size) (fun _ => none) w (.sl (t.map yO)) (.slice A2 t.length c2) := Rep.imm (h.rt.mono (fun b hb => by have := h.lt; omega) (fun _ _ => rfl))
theorem AgT.gi (h : AgT W A c es A2 c2 t w) (gi : GI (fun b => b < W.heap.size) W) : GI (fun b => b < w.heap.size) w := GI.up gi (fun b hb => h.bt.block b hb) (by have := h.lt; omega)
theorem AgT.glo {lo : Nat} (h : AgT W A c es A2 c2 t w) (gi : GI (fun b => b < W.heap.size) W) (hlo : W.heap.size ≤ lo) : GI (fun b => b < lo) w :=
  gi.mono (fun b hb _ => Nat.lt_of_lt_of_le hb hlo) (fun b hb _ => h.bt.block b hb)
end
section
variable {W : World} {t : List Itm} {A2 : Option Addr} {c2 : Nat}
theorem qC {w : World} {I : Nat → Prop} {β : Nat → Option BI} {u : Value} (h : Rep I β w (.sl (t.map yO)) u) : RepF I β w (.agg (xU t)) (.agg #[u]) := ⟨[_], rfl, .cons h .nil⟩
theorem szTape_call {w : World} {l : Int} (hm : qP t) (h0 : 0 ≤ l) (hl : l ≤ 1048576) (hr : Rep (fun b => b < w.heap.size) (fun _ => none) w (.sl (t.map yO)) (.slice A2 t.length c2)) (gi : GI (fun b => b < w.heap.size) w) :
    Calls Tryz.prog 6 #[.agg #[.slice A2 t.length c2], .int .i64 l] w fun e w' => e = .returned (.int .i64 (szT t l)) ∧ Below w.heap.size w w' :=
  pf_val (szTape_pf t l hm h0 hl) gi (vals := [_, .int .i64 l]) (.cons (qC hr) (.cons (Rep.imm (.v _ rfl)) .nil))
def CpT (lo hi : Nat) (w : World) (A : Option Addr) (c : Nat) (t : List Itm) : Prop := GotF 102 2 lo hi w (t.map yO) t.length (.slice A t.length c)
theorem wF {w : World} (hB : t.length ≤ 1048576) (hr : Rep (fun b => b < w.heap.size) (fun _ => none) w (.sl (t.map yO)) (.slice A2 t.length c2)) (gi : GI (fun b => b < w.heap.size) w) :
    Calls Tryz.prog 9 #[.agg #[.slice A2 t.length c2]] w fun e w' => ∃ A c, e = .returned (.agg #[.slice A t.length c]) ∧ CpT w.heap.size w'.heap.size w' A c t ∧ Below w.heap.size w w' := by
  refine (qB (toTape_pf t hB) gi (vals := [_]) (.cons (qC hr) .nil)).mono ?_
  rintro e w' ⟨v, I', β', rfl, hv, hb, _, ho⟩
  obtain ⟨u, rfl, hg⟩ := gotF_agg (itms_plain t) hv (by rw [List.length_map]; exact Nat.le_refl _) (ho 0 _ rfl)
  obtain ⟨A, c, rfl⟩ := hg.sl
  exact ⟨A, c, rfl, hg, hb⟩
theorem CpT.rep {lo hi : Nat} {w : World} {A : Option Addr} {c : Nat} (h : CpT lo hi w A c t) (hh : hi ≤ w.heap.size) : Rep (fun b => b < w.heap.size) (fun _ => none) w (.sl (t.map yO)) (.slice A t.length c) := GotF.rep' h (by rw [← List.length_map (f := yO), List.take_length]) hh
theorem CpT.below {lo hi : Nat} {w w' : World} {A : Option Addr} {c : Nat} (h : CpT lo hi w A c t) (hh : hi ≤ w.heap.size) (hb : Below w.heap.size w w') : CpT lo hi w' A c t := GotF.below h hh hb
theorem CpT.fr {lo hi lo' hi' : Nat} {w w' : World} {A : Option Addr} {c : Nat} (h : CpT lo hi w A c t) (hh : hi ≤ w.heap.size) (hf : Fr lo' hi' w w') (hd : hi ≤ lo' ∨ hi' ≤ lo) : CpT lo hi w' A c t := GotF.fr h hh hf hd
theorem eqTape_call {w : World} {A A' : Option Addr} {c c' : Nat} (hB : t.length ≤ 4000000) (hr : Rep (fun b => b < w.heap.size) (fun _ => none) w (.sl (t.map yO)) (.slice A t.length c)) (hr' : Rep (fun b => b < w.heap.size) (fun _ => none) w (.sl (t.map yO)) (.slice A' t.length c')) (gi : GI (fun b => b < w.heap.size) w) :
    Calls Tryz.prog 13 #[.agg #[.slice A t.length c], .agg #[.slice A' t.length c']] w fun e w' => e = .returned (.bool true) ∧ Below w.heap.size w w' :=
  pf_val (eqTape_pf t hB) gi (vals := [_, _]) (.cons (qC hr) (.cons (qC hr') .nil))
theorem markTape_call {w : World} {lo hi k : Nat} {A : Option Addr} {c : Nat} (h : CpT lo hi w A c t) (hB : t.length ≤ 4000000) (hk : k ≤ 1000000000) (gi : GI (fun b => b < lo) w) (hlo : lo ≤ w.heap.size) :
    Calls Tryz.prog 15 #[.agg #[.slice A t.length c], .int .i64 (k : Int)] w fun e w' => e = .returned (.int .i64 ((k + 2 * t.length : Nat) : Int)) ∧ Fr lo hi w w' :=
  (markF (markTape_pfm t k hB hk) h (fun h => ⟨[_], rfl, .cons h .nil⟩) (by simp [mkTs_len]) (itms_plain _) gi hlo).mono fun e w' h => ⟨h.1, h.2.2⟩
end
section
variable {lo hi lo' hi' : Nat} {w : World} {l l' : List Pc} {k : Nat} {u u' : Value}
abbrev GotP (lo hi : Nat) (w : World) (l : List Pc) (u : Value) : Prop := GotF 58 3 lo hi w (l.map xO) l.length u
theorem GotP.re (h : GotP lo hi w l u) (hh : hi ≤ w.heap.size) : Rep (fun b => b < w.heap.size) (fun _ => none) w (.sl (l.map xO)) u := GotF.rep' h (by rw [← List.length_map (f := xO), List.take_length]) hh
theorem vQ (h : GotP lo hi w l u) (h' : GotP lo' hi' w l u') (hl : l.length ≤ 4000000) (hh : hi ≤ w.heap.size) (hh' : hi' ≤ w.heap.size) (gi : GI (fun b => b < w.heap.size) w) :
    Calls Tryz.prog 11 #[u, u'] w fun e w' => e = .returned (.bool true) ∧ Below w.heap.size w w' :=
  pf_val (eqPieceS_pf l hl) gi (vals := [_, _]) (.cons (GotP.re h hh) (.cons (GotP.re h' hh') .nil))
theorem markP_call (h : GotP lo hi w l u) (hl : l.length ≤ 4000000) (hk : k ≤ 1000000000) (gi : GI (fun b => b < lo) w) (hlo : lo ≤ w.heap.size) :
    Calls Tryz.prog 16 #[u, .int .i64 (k : Int)] w fun e w' => e = .returned (.int .i64 ((k + 3 * l.length : Nat) : Int)) ∧ GotF 58 3 lo hi w' ((kA k l.length).map xO) l.length u ∧ Fr lo hi w w' := by
  have h2 : GotF 58 3 lo hi w (l.map xO) l.length u := h
  exact markF (markPieceS_pfm l k hl hk) h2 (fun h => h) (by simp [vE]) (pcs_plain _) gi hlo
theorem heldP_call {n : Nat} (h : GotF 58 3 lo hi w ((kA k n).map xO) n u) (hn : n ≤ 4000000) (hk : k ≤ 1000000000) (hh : hi ≤ w.heap.size) (gi : GI (fun b => b < w.heap.size) w) :
    Calls Tryz.prog 17 #[u, .int .i64 (k : Int)] w fun e w' => e = .returned (.int .i64 ((k + 3 * n : Nat) : Int)) ∧ Below w.heap.size w w' := by
  have h1 := heldPieceS_pf (kA k n) k (by rw [vE]; exact hn) hk (by rw [vE])
  rw [vE] at h1
  exact pf_val h1 gi (vals := [_, .int .i64 (k : Int)]) (.cons (GotF.rep' h (List.take_of_length_le (by rw [List.length_map, vE]; exact Nat.le_refl _)) hh) (.cons (Rep.imm (.v _ rfl)) .nil))
end
def qT (f : Nat) (es : List Ent) (t : List Itm) (l : List Pc) (b : Bool) : Prop := ∀ (W : World) (A : Option Addr) (c : Nat) (A2 : Option Addr) (c2 : Nat), RdE W W.heap.size A (enL es) → es.length ≤ c →
  Rep (fun b => b < W.heap.size) (fun _ => none) W (.sl (t.map yO)) (.slice A2 t.length c2) → GI (fun b => b < W.heap.size) W →
  Calls Tryz.prog f #[.agg #[.slice A es.length c], .agg #[.slice A2 t.length c2]] W fun e W' => ∃ u, e = .returned (.tuple #[u, .bool b]) ∧ GotP W.heap.size W'.heap.size W' l u ∧ Below W.heap.size W W'
theorem givesP_yes {f : Nat} {es : List Ent} {t : List Itm} {l : List Pc} {b : Bool} (h : PF Tryz.prog f [.agg (wL es), .agg (xU t)] [⟨58, 3, l.map xO⟩] (.tup [.c (.ref 0 0 l.length), .c (boo b)])) : qT f es t l b := fun W A c A2 c2 hr hc ht gi => by
  refine (qB h gi (vals := [_, _]) (.cons (dic_rep hr hc) (.cons (qC ht) .nil))).mono ?_
  rintro e w' ⟨v, I', β', rfl, hv, hb, _, ho⟩
  obtain ⟨u, rfl, hg⟩ := gotF_tup (pcs_plain l) hv (by rw [List.length_map]; exact Nat.le_refl _) (ho 0 _ rfl)
  exact ⟨u, rfl, hg, hb⟩
theorem givesP_no {f : Nat} {es : List Ent} {t : List Itm} {b : Bool} (h : PF Tryz.prog f [.agg (wL es), .agg (xU t)] [] (.tup [.c .nil, .c (boo b)])) : qT f es t [] b := fun W A c A2 c2 hr hc ht gi => by
  refine (qB h gi (vals := [_, _]) (.cons (dic_rep hr hc) (.cons (qC ht) .nil))).mono ?_
  rintro e w' ⟨v, I', β', rfl, hv, hb, _, _⟩
  rw [nil_tup hv]
  exact ⟨_, rfl, GotF.nil _ _ _ _ _, hb⟩
end Go.Proofs.YtjeffognhcbiaaaGreatDoor
