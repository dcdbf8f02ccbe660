/- The laws that mark dictionaries: what their calls do, in a concrete walk. -/
import Derived.Test.YtjeffognhcbiaaaDoorNsC
namespace Go.Proofs.YtjeffognhcbiaaaDoor
open Go Go.RowKit
theorem vG {W : World} {A : Option Addr} {es : List Ent} {c : Nat} (h : RdE W W.heap.size A (enL es)) (hc : es.length ≤ c) : RepF (fun b => b < W.heap.size) (fun _ => none) W (.agg (vX es)) (.agg #[.slice A es.length c]) :=
  ⟨[_], rfl, .cons (Rep.imm (ents_rep h hc)) .nil⟩
theorem szDic_call {es : List Ent} {l : Int} (hb : qW es) (h0 : 0 ≤ l) (hl : l ≤ 1048576) {W : World} {A : Option Addr} {c : Nat} (hr : RdE W W.heap.size A (enL es)) (hc : es.length ≤ c) (gi : GI (fun b => b < W.heap.size) W) :
    Calls Tryd.prog 5 #[.agg #[.slice A es.length c], .int .i64 l] W fun e W' => e = .returned (.int .i64 (wS es l)) ∧ Below W.heap.size W W' := by
  refine (vD (szDictionary_pf es l hb h0 hl) gi (vals := [_, .int .i64 l]) (.cons (vG hr hc) (.cons (Rep.imm (.v _ rfl)) .nil))).mono ?_
  rintro e w' ⟨u, I', β', rfl, hv, hb, _⟩
  have e : u = .int .i64 (wS es l) := qI (show Rep I' β' w' (int (wS es l)) u from hv)
  rw [e]
  exact ⟨rfl, hb⟩
theorem eqDic_call {es : List Ent} (hb : wX es) {W : World} {A A' : Option Addr} {c c' : Nat} (hr : RdE W W.heap.size A (enL es)) (hc : es.length ≤ c) (hr' : RdE W W.heap.size A' (enL es)) (hc' : es.length ≤ c') (gi : GI (fun b => b < W.heap.size) W) :
    Calls Tryd.prog 10 #[.agg #[.slice A es.length c], .agg #[.slice A' es.length c']] W fun e W' => e = .returned (.bool true) ∧ Below W.heap.size W W' := by
  refine (vD (eqDictionary_pf es hb) gi (vals := [_, _]) (.cons (vG hr hc) (.cons (vG hr' hc') .nil))).mono ?_
  rintro e w' ⟨u, I', β', rfl, hv, hb, _⟩
  have e : u = .bool true := qI (show Rep I' β' w' (boo true) u from hv)
  rw [e]
  exact ⟨rfl, hb⟩
structure Cp (lo hi : Nat) (w : World) (g : Nat) (es : List Ent) (xs : List EnV) : Prop where
  len : xs.length = es.length
  own : Own v8 2 w lo 60 (.slice (some ⟨g, 0, none⟩) es.length es.length) xs
  ok : OkE w (g + 1) xs (enL es)
  dis : DisV xs
  lt : LtV xs hi
  lo_ : lo ≤ g
  hi_ : g < hi
theorem Cp.below {lo hi : Nat} {w w' : World} {g : Nat} {es : List Ent} {xs : List EnV} (h : Cp lo hi w g es xs) (hb : Below w.heap.size w w') : Cp lo hi w' g es xs := ⟨h.len, h.own.below hb, h.ok.below hb, h.dis, h.lt, h.lo_, h.hi_⟩
theorem Cp.rd {lo hi : Nat} {w : World} {g : Nat} {es : List Ent} {xs : List EnV} (h : Cp lo hi w g es xs) : RdE w w.heap.size (some ⟨g, 0, none⟩) (enL es) := by
  have := own_RdE (es := enL es) (by rw [enL_len]; exact h.len) (by rw [enL_len]; exact h.own) h.ok
  exact this
theorem wB {es : List Ent} (hb : wX es) {W : World} {A : Option Addr} {c : Nat} (hr : RdE W W.heap.size A (enL es)) :
    Calls Tryd.prog 7 #[.agg #[.slice A es.length c]] W fun e W' => ∃ g xs, e = .returned (.agg #[.slice (some ⟨g, 0, none⟩) es.length es.length]) ∧ Cp W.heap.size W'.heap.size W' g es xs ∧ Below W.heap.size W W' := by
  have h := toDictionary_any A c (enL es) W (by rw [enL_len]; have := hb.1; omega) (fun e he => by
    obtain ⟨k, hk⟩ := List.getElem?_of_mem he
    obtain ⟨d, hd, rfl⟩ := enL_at hk
    have := (hb.2 d (List.mem_of_getElem? hd)).1
    show d.o.length ≤ _
    omega) hr
  rw [enL_len] at h
  refine h.mono ?_
  rintro e w' ⟨g, xs, rfl, hl, hown, hok, ⟨hdis, hlt⟩, hb⟩
  have hg := hown.lt g rfl
  exact ⟨g, xs, rfl, ⟨hl, hown, hok, hdis, hlt, hg.1, hg.2⟩, hb⟩
theorem totS_of {xs : List EnV} {es : List Ent} {w : World} {base : Nat} (hl : xs.length = es.length) (h : OkE w base xs (enL es)) : totS (xs.map (·.1)) = (es.map fun e => e.o.length + 1).sum := by
  have : (xs.map (·.1)).map (fun s => s.2.1 + 1) = es.map fun e => e.o.length + 1 := by
    apply List.ext_getElem?
    intro k
    rw [List.getElem?_map, List.getElem?_map, List.getElem?_map]
    by_cases hk : k < es.length
    · obtain ⟨d, hd⟩ := xS hk
      obtain ⟨x, hx⟩ := xS (show k < xs.length by omega)
      obtain ⟨_, h2, _⟩ := h k x _ hx (enL_of hd)
      rw [hx, hd]
      simp only [Option.map_some]
      rw [h2]
    · rw [List.getElem?_eq_none (by omega), List.getElem?_eq_none (by omega)]; rfl
  rw [totS, this]
theorem markDic_call {lo hi k0 : Nat} {w : World} {g : Nat} {es : List Ent} {xs : List EnV} (h : Cp lo hi w g es xs) (hb : wX es) (ht : k0 + (es.map fun e => e.o.length + 1).sum ≤ 8388608) (gi : GI (fun b => b < lo) w) (hlo : lo ≤ w.heap.size) :
    Calls Tryd.prog 11 #[.agg #[.slice (some ⟨g, 0, none⟩) es.length es.length], .int .i64 (k0 : Int)] w fun e w' => (∃ k1 : Nat, e = .returned (.int .i64 (k1 : Int)) ∧ k1 ≤ 8388608) ∧ Fr lo hi w w' :=
  markDictionary_any g es.length xs k0 lo hi w gi hlo (by have := hb.1; omega) h.len h.own (MkS.of (es := enL es) (by rw [enL_len]; exact h.len) h.ok (fun e he => by
    obtain ⟨k, hk⟩ := List.getElem?_of_mem he
    obtain ⟨d, hd, rfl⟩ := enL_at hk
    have := (hb.2 d (List.mem_of_getElem? hd)).1
    show d.o.length ≤ _
    omega)) (DisS.of h.dis) (LtS.of h.lt) ⟨h.lo_, h.hi_⟩ (by rw [totS_of h.len h.ok]; exact ht)
structure Ag (W : World) (A : Option Addr) (c : Nat) (es : List Ent) (w : World) : Prop where
  t : Below W.heap.size W w
  lt : W.heap.size < w.heap.size
  bx : w.cell? ⟨W.heap.size, 0, none⟩ = some (.slice A es.length c)
  rd : RdE w W.heap.size A (enL es)
theorem Ag.below {W w w' : World} {A : Option Addr} {c : Nat} {es : List Ent} (h : Ag W A c es w) (hb : Below w.heap.size w w') : Ag W A c es w' :=
  ⟨h.t.trans (hb.mono (Nat.le_of_lt h.lt)), Nat.lt_of_lt_of_le h.lt hb.size, (hb.cell (p := ⟨W.heap.size, 0, none⟩) h.lt).trans h.bx, h.rd.below (hb.mono (Nat.le_of_lt h.lt)) (Nat.le_refl _)⟩
theorem Ag.now {W w : World} {A : Option Addr} {c : Nat} {es : List Ent} (h : Ag W A c es w) : RdE w w.heap.size A (enL es) := h.rd.mono (Nat.le_of_lt h.lt)
end Go.Proofs.YtjeffognhcbiaaaDoor
