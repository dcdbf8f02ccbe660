/- Dictionaries in memory: read by functions that the abstract machine knows, marked by package laws. -/
import Derived.Test.YtjeffognhcbiaaaDoorNsM
import Derived.Test.YtjeffognhcbiaaaDoorDvE
namespace Go.Proofs.YtjeffognhcbiaaaDoor
open Go Go.RowKit
theorem markDictionary_any (g n : Nat) (xs : List EnV) (k0 lo hi : Nat) (w : World) (gi : GI (fun b => b < lo) w) (hlo : lo ≤ w.heap.size) (hn : n ≤ 2097152) (hxl : xs.length = n)
    (hown : Own v8 2 w lo 60 (.slice (some ⟨g, 0, none⟩) n n) xs) (hmk : MkS w (g + 1) (xs.map (·.1))) (hdis : DisS (xs.map (·.1))) (hlt : LtS (xs.map (·.1)) hi) (hg : lo ≤ g ∧ g < hi)
    (htot : k0 + totS (xs.map (·.1)) ≤ 8388608) :
    Calls Tryd.prog 11 #[.agg #[.slice (some ⟨g, 0, none⟩) n n], .int .i64 (k0 : Int)] w fun e w' => (∃ k1 : Nat, e = .returned (.int .i64 (k1 : Int)) ∧ k1 ≤ 8388608) ∧ Fr lo hi w w' := by
  have hr1 : ∀ W1, Below w.heap.size w W1 → Calls Tryd.prog 31 #[.slice (some ⟨g, 0, none⟩) n n, .int .i64 (k0 : Int)] W1 fun e w' => (∃ k1 : Nat, e = .returned (.int .i64 (k1 : Int)) ∧ k1 ≤ 8388608) ∧ Fr lo hi W1 w' := fun W1 hb =>
    markEntryS_any g n xs k0 lo hi W1 (gi.fr (lo := lo) (hi := hi) (Fr.of_below hb)) (Nat.le_trans hlo hb.size) hn hxl (hown.below hb) (hmk.below hb) hdis hlt hg htot
  have HR := Lib.hid hr1
  clear hr1 hown hmk hdis hlt gi
  go_enter Tryd.func11, Tryd.ntmps11
  have hb : Below w.heap.size w (w.alloc (.cells #[.slice (some ⟨g, 0, none⟩) n n] 31)) := vK w _
  go_wp2_with (go_at_call 31; refine (HR.out _ (by assumption)).mono ?_; rintro e w1 ⟨⟨k1, rfl, hkk⟩, hfr⟩)
  go_ret
  exact ⟨⟨k1, rfl, hkk⟩, (Fr.of_below hb).trans hfr⟩
def enL (es : List Ent) : List EnL := es.map fun e => (e.o, ⟨⟨e.t⟩⟩)
theorem enL_at {es : List Ent} {k : Nat} {e : EnL} (h : (enL es)[k]? = some e) : ∃ d, es[k]? = some d ∧ e = (d.o, ⟨⟨d.t⟩⟩) := by
  rw [enL, List.getElem?_map] at h
  cases hd : es[k]? with
  | none => rw [hd] at h; cases h
  | some d => rw [hd] at h; cases h; exact ⟨d, rfl, rfl⟩
theorem enL_of {es : List Ent} {k : Nat} {d : Ent} (h : es[k]? = some d) : (enL es)[k]? = some (d.o, ⟨⟨d.t⟩⟩) := by
  rw [enL, List.getElem?_map, h]; rfl
theorem enL_len (es : List Ent) : (enL es).length = es.length := List.length_map _
theorem ents_rep {w : World} {B : Nat} {A : Option Addr} {es : List Ent} {c : Nat} (h : RdE w B A (enL es)) (hc : es.length ≤ c) : RepI (fun b => b < B) w (.sl (es.map xO)) (.slice A es.length c) := by
  cases es with
  | nil => exact .sl0 A c
  | cons e0 es =>
    obtain ⟨b, f, _, _, rfl, hb, _⟩ := h 0 _ (enL_of rfl)
    have hat : ∀ (i : Nat) (d : Ent), (e0 :: es)[i]? = some d → ∃ A' c', w.cell? ⟨b, f + i * 2, none⟩ = some (.slice A' d.o.length c') ∧ w.cell? ⟨b, f + i * 2 + 1, none⟩ = some (.string ⟨⟨d.t⟩⟩) ∧ Rd xX 1 w B A' d.o ∧ d.o.length ≤ c' := fun i d hd => by
      obtain ⟨b', f', A', c', e, _, h3, h4, h5, h6⟩ := h i _ (enL_of hd)
      simp only [Option.some.injEq, Addr.mk.injEq, and_true] at e
      obtain ⟨rfl, rfl⟩ := e
      exact ⟨A', c', h3, h4, h5, h6⟩
    have hex : ∀ (i j : Nat), ∃ u, ∀ x d, ((e0 :: es).map xO)[i]? = some x → x[j]? = some d → w.cell? ⟨b, f + i * 2 + j, none⟩ = some u ∧ RepI (fun b => b < B) w d u := fun i j => by
      cases hi : (e0 :: es)[i]? with
      | none =>
        refine ⟨undef, fun x d hx => ?_⟩
        rw [List.getElem?_map, hi] at hx
        cases hx
      | some p =>
        obtain ⟨A', c', h3, h4, h5, h6⟩ := hat i p hi
        match j with
        | 0 =>
          refine ⟨.slice A' p.o.length c', fun x d hx hd => ?_⟩
          rw [List.getElem?_map, hi] at hx
          cases hx
          simp only [xO, List.getElem?_cons_zero] at hd
          cases hd
          exact ⟨h3, ints_rep h5 h6⟩
        | 1 =>
          refine ⟨.string ⟨⟨p.t⟩⟩, fun x d hx hd => ?_⟩
          rw [List.getElem?_map, hi] at hx
          cases hx
          simp only [xO, List.getElem?_cons_zero, List.getElem?_cons_succ] at hd
          cases hd
          exact ⟨h4, .v _ rfl⟩
        | j + 2 =>
          refine ⟨undef, fun x d hx hd => ?_⟩
          rw [List.getElem?_map, hi] at hx
          cases hx
          simp [xO] at hd
    refine .sl _ b f 2 _ c (fun i j => Classical.choose (hex i j)) (by rw [List.length_map]) hc (fun y hy => ?_) hb (fun i j x d hx hd => (Classical.choose_spec (hex i j) x d hx hd).1) (fun i j x d hx hd => (Classical.choose_spec (hex i j) x d hx hd).2)
    obtain ⟨p, _, rfl⟩ := List.mem_map.1 hy; rfl
theorem rep_ints {I : Nat → Prop} {w : World} {B : Nat} {o : List Int} {v : Value} (h : RepI I w (.sl (o.map yG)) v) (hI : ∀ b, I b → b < B) : ∃ A c, v = .slice A o.length c ∧ o.length ≤ c ∧ Rd xX 1 w B A o := by
  generalize hx : Cell.sl (o.map yG) = x at h
  cases h with
  | v _ _ => cases hx
  | nil => cases hx
  | ip _ _ _ _ _ _ _ => cases hx
  | fn _ _ _ _ _ _ _ => cases hx
  | sl0 A cap =>
    injection hx with hx
    have : o = [] := List.map_eq_nil_iff.1 hx
    subst this
    exact ⟨A, cap, rfl, Nat.zero_le _, fun k x h => by simp at h⟩
  | sl xs b f sz n cap u h1 h2 h3 h4 h5 h6 =>
    injection hx with hx
    subst hx
    rw [List.length_map] at h1
    subst h1
    refine ⟨_, cap, rfl, h2, fun k p hp => ⟨b, f, rfl, hI b h4, fun j q hq => ?_⟩⟩
    have hx : (o.map yG)[k]? = some (yG p) := xG hp
    have hsz : sz = 1 := (h3 _ (List.mem_of_getElem? hx)).symm
    subst hsz
    cases j with
    | zero =>
      simp only [xX, List.getElem?_cons_zero, Option.some.injEq] at hq
      subst hq
      have h7 := h6 k 0 _ (int p) hx rfl
      have h8 := h5 k 0 _ (int p) hx rfl
      have e : u k 0 = .int .i64 p := repI_v h7
      rw [e] at h8
      exact h8
    | succ j => simp [xX] at hq
theorem rep_ents {I : Nat → Prop} {w : World} {B : Nat} {es : List Ent} {v : Value} (h : RepI I w (.sl (es.map xO)) v) (hI : ∀ b, I b → b < B) : ∃ A c, v = .slice A es.length c ∧ es.length ≤ c ∧ RdE w B A (enL es) := by
  generalize hx : Cell.sl (es.map xO) = x at h
  cases h with
  | v _ _ => cases hx
  | nil => cases hx
  | ip _ _ _ _ _ _ _ => cases hx
  | fn _ _ _ _ _ _ _ => cases hx
  | sl0 A cap =>
    injection hx with hx
    have : es = [] := List.map_eq_nil_iff.1 hx
    subst this
    exact ⟨A, cap, rfl, Nat.zero_le _, fun k x h => by simp [enL] at h⟩
  | sl xs b f sz n cap u h1 h2 h3 h4 h5 h6 =>
    injection hx with hx
    subst hx
    rw [List.length_map] at h1
    subst h1
    refine ⟨_, cap, rfl, h2, fun k p hp => ?_⟩
    obtain ⟨d, hd, rfl⟩ := enL_at hp
    have hx : (es.map xO)[k]? = some (xO d) := xG hd
    have hsz : sz = 2 := (h3 _ (List.mem_of_getElem? hx)).symm
    subst hsz
    have c0 := h5 k 0 _ (.sl (d.o.map yG)) hx rfl
    have r0 := h6 k 0 _ (.sl (d.o.map yG)) hx rfl
    have c1 := h5 k 1 _ (str d.t) hx rfl
    have r1 := h6 k 1 _ (str d.t) hx rfl
    obtain ⟨A', c', e, hle, hrd⟩ := rep_ints r0 hI
    rw [e] at c0
    have e1 : u k 1 = .string ⟨⟨d.t⟩⟩ := repI_v r1
    rw [e1] at c1
    exact ⟨b, f, A', c', rfl, hI b h4, c0, c1, hrd, hle⟩
theorem own_RdE {w : World} {g base : Nat} {xs : List EnV} {es : List EnL} (hl : xs.length = es.length) (h : Own v8 2 w base 60 (.slice (some ⟨g, 0, none⟩) es.length es.length) xs) (hk : OkE w (g + 1) xs es) : RdE w w.heap.size (some ⟨g, 0, none⟩) es := fun k e he => by
  have hk1 := (List.getElem?_eq_some_iff.1 he).1
  obtain ⟨x, hx⟩ := xS (show k < xs.length by omega)
  obtain ⟨h1, h2, h3⟩ := hk k x e hx he
  have d0 := h.cellAt wF hl.symm hx (j := 0) (by omega)
  have d1 := h.cellAt wF hl.symm hx (j := 1) (by omega)
  simp only [v8, Nat.add_zero, List.getElem?_cons_zero, List.getElem?_cons_succ] at d0 d1
  rw [h2] at d0
  rw [h1] at d1
  refine ⟨g, 0, x.1.1, x.1.2.2, rfl, (h.lt g rfl).2, by rw [Nat.zero_add]; exact d0, by rw [Nat.zero_add]; exact d1, h3.rd (by omega) wK, h3.cap_le⟩
end Go.Proofs.YtjeffognhcbiaaaDoor
