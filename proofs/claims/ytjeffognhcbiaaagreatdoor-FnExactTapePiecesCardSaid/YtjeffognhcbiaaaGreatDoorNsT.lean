/- What the concrete walks of laws with dictionaries carry on. -/
import Derived.Test.YtjeffognhcbiaaaGreatDoorNsM
import Derived.Test.YtjeffognhcbiaaaGreatDoorDvE
namespace Go.Proofs.YtjeffognhcbiaaaGreatDoor
open Go Go.RowKit
theorem markDictionary_any (g n : Nat) (xs : List EnV) (k0 lo hi : Nat) (w : World) (gi : GI (fun b => b < lo) w) (hlo : lo ≤ w.heap.size) (hn : n ≤ 2097152) (hxl : xs.length = n)
    (hown : Own qJ 2 w lo 82 (.slice (some ⟨g, 0, none⟩) n n) xs) (hmk : MkS w (g + 1) (xs.map (·.1))) (hdis : DisS (xs.map (·.1))) (hlt : LtS (xs.map (·.1)) hi) (hg : lo ≤ g ∧ g < hi)
    (htot : k0 + totS (xs.map (·.1)) ≤ 8388608) :
    Calls Tryz.prog 14 #[.agg #[.slice (some ⟨g, 0, none⟩) n n], .int .i64 (k0 : Int)] w fun e w' => (∃ k1 : Nat, e = .returned (.int .i64 (k1 : Int)) ∧ k1 ≤ 8388608) ∧ Fr lo hi w w' := by
  have hr1 : ∀ W1, Below w.heap.size w W1 → Calls Tryz.prog 42 #[.slice (some ⟨g, 0, none⟩) n n, .int .i64 (k0 : Int)] W1 fun e w' => (∃ k1 : Nat, e = .returned (.int .i64 (k1 : Int)) ∧ k1 ≤ 8388608) ∧ Fr lo hi W1 w' := fun W1 hb =>
    markEntryS_any g n xs k0 lo hi W1 (gi.fr (lo := lo) (hi := hi) (Fr.of_below hb)) (Nat.le_trans hlo hb.size) hn hxl (hown.below hb) (hmk.below hb) hdis hlt hg htot
  have HR := Lib.hid hr1
  clear hr1 hown hmk hdis hlt gi
  go_enter Tryz.func14, Tryz.ntmps14
  have hb : Below w.heap.size w (w.alloc (.cells #[.slice (some ⟨g, 0, none⟩) n n] 35)) := qU w _
  go_wp2_with (go_at_call 42; refine (HR.out _ (by assumption)).mono ?_; rintro e w1 ⟨⟨k1, rfl, hkk⟩, hfr⟩)
  go_ret
  exact ⟨⟨k1, rfl, hkk⟩, (Fr.of_below hb).trans hfr⟩
def enL (es : List Ent) : List EnL := es.map fun e => (e.o, ⟨⟨e.t⟩⟩)
theorem enL_at {es : List Ent} {k : Nat} {e : EnL} (h : (enL es)[k]? = some e) : ∃ d, es[k]? = some d ∧ e = (d.o, ⟨⟨d.t⟩⟩) := by
  rw [enL, List.getElem?_map] at h
  cases hd : es[k]? with
  | none => rw [hd] at h; cases h
  | some d => rw [hd] at h; cases h; exact ⟨d, rfl, rfl⟩
theorem enL_of {es : List Ent} {k : Nat} {d : Ent} (h : es[k]? = some d) : (enL es)[k]? = some (d.o, ⟨⟨d.t⟩⟩) := by
  rw [enL, List.getElem?_map, h]; rfl
theorem enL_len (es : List Ent) : (enL es).length = es.length := List.length_map _
theorem ents_rep {w : World} {B : Nat} {A : Option Addr} {es : List Ent} {c : Nat} (h : RdE w B A (enL es)) (hc : es.length ≤ c) : RepI (fun b => b < B) w (.sl (es.map xS)) (.slice A es.length c) := by
  cases es with
  | nil => exact .sl0 A c
  | cons e0 es =>
    obtain ⟨b, f, _, _, rfl, hb, _⟩ := h 0 _ (enL_of rfl)
    have hat : ∀ (i : Nat) (d : Ent), (e0 :: es)[i]? = some d → ∃ A' c', w.cell? ⟨b, f + i * 2, none⟩ = some (.slice A' d.o.length c') ∧ w.cell? ⟨b, f + i * 2 + 1, none⟩ = some (.string ⟨⟨d.t⟩⟩) ∧ Rd wU 1 w B A' d.o ∧ d.o.length ≤ c' := fun i d hd => by
      obtain ⟨b', f', A', c', e, _, h3, h4, h5, h6⟩ := h i _ (enL_of hd)
      simp only [Option.some.injEq, Addr.mk.injEq, and_true] at e
      obtain ⟨rfl, rfl⟩ := e
      exact ⟨A', c', h3, h4, h5, h6⟩
    have hex : ∀ (i j : Nat), ∃ u, ∀ x d, ((e0 :: es).map xS)[i]? = some x → x[j]? = some d → w.cell? ⟨b, f + i * 2 + j, none⟩ = some u ∧ RepI (fun b => b < B) w d u := fun i j => by
      cases hi : (e0 :: es)[i]? with
      | none =>
        refine ⟨undef, fun x d hx => ?_⟩
        rw [List.getElem?_map, hi] at hx
        cases hx
      | some p =>
        obtain ⟨A', c', h3, h4, h5, h6⟩ := hat i p hi
        match j with
        | 0 =>
          refine ⟨.slice A' p.o.length c', fun x d hx hd => ?_⟩
          rw [List.getElem?_map, hi] at hx
          cases hx
          simp only [xS, List.getElem?_cons_zero] at hd
          cases hd
          exact ⟨h3, ints_rep h5 h6⟩
        | 1 =>
          refine ⟨.string ⟨⟨p.t⟩⟩, fun x d hx hd => ?_⟩
          rw [List.getElem?_map, hi] at hx
          cases hx
          simp only [xS, List.getElem?_cons_zero, List.getElem?_cons_succ] at hd
          cases hd
          exact ⟨h4, .v _ rfl⟩
        | j + 2 =>
          refine ⟨undef, fun x d hx hd => ?_⟩
          rw [List.getElem?_map, hi] at hx
          cases hx
          simp [xS] at hd
    refine .sl _ b f 2 _ c (fun i j => Classical.choose (hex i j)) (by rw [List.length_map]) hc (fun y hy => ?_) hb (fun i j x d hx hd => (Classical.choose_spec (hex i j) x d hx hd).1) (fun i j x d hx hd => (Classical.choose_spec (hex i j) x d hx hd).2)
    obtain ⟨p, _, rfl⟩ := List.mem_map.1 hy; rfl
theorem rep_ints {I : Nat → Prop} {w : World} {B : Nat} {o : List Int} {v : Value} (h : RepI I w (.sl (o.map yW)) v) (hI : ∀ b, I b → b < B) : ∃ A c, v = .slice A o.length c ∧ o.length ≤ c ∧ Rd wU 1 w B A o := by
  generalize hx : Cell.sl (o.map yW) = x at h
  cases h with
  | v _ _ => cases hx
  | nil => cases hx
  | ip _ _ _ _ _ _ _ => cases hx
  | fn _ _ _ _ _ _ _ => cases hx
  | sl0 A cap =>
    injection hx with hx
    have : o = [] := List.map_eq_nil_iff.1 hx
    subst this
    exact ⟨A, cap, rfl, Nat.zero_le _, fun k x h => by simp at h⟩
  | sl xs b f sz n cap u h1 h2 h3 h4 h5 h6 =>
    injection hx with hx
    subst hx
    rw [List.length_map] at h1
    subst h1
    refine ⟨_, cap, rfl, h2, fun k p hp => ⟨b, f, rfl, hI b h4, fun j q hq => ?_⟩⟩
    have hx : (o.map yW)[k]? = some (yW p) := xI hp
    have hsz : sz = 1 := (h3 _ (List.mem_of_getElem? hx)).symm
    subst hsz
    cases j with
    | zero =>
      simp only [wU, List.getElem?_cons_zero, Option.some.injEq] at hq
      subst hq
      have h7 := h6 k 0 _ (int p) hx rfl
      have h8 := h5 k 0 _ (int p) hx rfl
      have e : u k 0 = .int .i64 p := repI_v h7
      rw [e] at h8
      exact h8
    | succ j => simp [wU] at hq
theorem rep_ents {I : Nat → Prop} {w : World} {B : Nat} {es : List Ent} {v : Value} (h : RepI I w (.sl (es.map xS)) v) (hI : ∀ b, I b → b < B) : ∃ A c, v = .slice A es.length c ∧ es.length ≤ c ∧ RdE w B A (enL es) := by
  generalize hx : Cell.sl (es.map xS) = x at h
  cases h with
  | v _ _ => cases hx
  | nil => cases hx
  | ip _ _ _ _ _ _ _ => cases hx
  | fn _ _ _ _ _ _ _ => cases hx
  | sl0 A cap =>
    injection hx with hx
    have : es = [] := List.map_eq_nil_iff.1 hx
    subst this
    exact ⟨A, cap, rfl, Nat.zero_le _, fun k x h => by simp [enL] at h⟩
  | sl xs b f sz n cap u h1 h2 h3 h4 h5 h6 =>
    injection hx with hx
    subst hx
    rw [List.length_map] at h1
    subst h1
    refine ⟨_, cap, rfl, h2, fun k p hp => ?_⟩
    obtain ⟨d, hd, rfl⟩ := enL_at hp
    have hx : (es.map xS)[k]? = some (xS d) := xI hd
    have hsz : sz = 2 := (h3 _ (List.mem_of_getElem? hx)).symm
    subst hsz
    have c0 := h5 k 0 _ (.sl (d.o.map yW)) hx rfl
    have r0 := h6 k 0 _ (.sl (d.o.map yW)) hx rfl
    have c1 := h5 k 1 _ (str d.t) hx rfl
    have r1 := h6 k 1 _ (str d.t) hx rfl
    obtain ⟨A', c', e, hle, hrd⟩ := rep_ints r0 hI
    rw [e] at c0
    have e1 : u k 1 = .string ⟨⟨d.t⟩⟩ := repI_v r1
    rw [e1] at c1
    exact ⟨b, f, A', c', rfl, hI b h4, c0, c1, hrd, hle⟩
theorem own_RdE {w : World} {g base : Nat} {xs : List EnV} {es : List EnL} (hl : xs.length = es.length) (h : Own qJ 2 w base 82 (.slice (some ⟨g, 0, none⟩) es.length es.length) xs) (hk : OkE w (g + 1) xs es) : RdE w w.heap.size (some ⟨g, 0, none⟩) es := fun k e he => by
  have hk1 := (List.getElem?_eq_some_iff.1 he).1
  obtain ⟨x, hx⟩ := wY (show k < xs.length by omega)
  obtain ⟨h1, h2, h3⟩ := hk k x e hx he
  have d0 := h.cellAt wS hl.symm hx (j := 0) (by omega)
  have d1 := h.cellAt wS hl.symm hx (j := 1) (by omega)
  simp only [qJ, Nat.add_zero, List.getElem?_cons_zero, List.getElem?_cons_succ] at d0 d1
  rw [h2] at d0
  rw [h1] at d1
  refine ⟨g, 0, x.1.1, x.1.2.2, rfl, (h.lt g rfl).2, by rw [Nat.zero_add]; exact d0, by rw [Nat.zero_add]; exact d1, h3.rd (by omega) vO, h3.cap_le⟩
end Go.Proofs.YtjeffognhcbiaaaGreatDoor
namespace Go.Proofs.YtjeffognhcbiaaaGreatDoor
open Go Go.RowKit
def GotI (lo hi : Nat) (w : World) (L : List Int) (k : Nat) (v : Value) : Prop := k ≤ L.length ∧ ∃ β, ObjAt noB β w (fun b => lo ≤ b ∧ b < hi) 0 ⟨3, 1, L.map yW⟩ ∧ Rep noB β w (.ref 0 0 k) v
theorem GotI.nil (lo hi : Nat) (w : World) : GotI lo hi w [] 0 (.slice none 0 0) :=
  ⟨Nat.le_refl _, fun _ => some ⟨none, 1, 0⟩, ⟨⟨none, 1, 0⟩, rfl, (fun x hx => by simp at hx), (fun _ => rfl), (fun b hb => by simp at hb)⟩, .ref0 0 1 0 rfl⟩
theorem flat_int {I I' : Nat → Prop} {β : Nat → Option BI} {w w' : World} {l : List Int} {x : List Cell} {c : Cell} {u : Value} {β' : Nat → Option BI} {i j : Nat} (hx : (l.map yW)[i]? = some x) (hj : x[j]? = some c) (h : Rep I β w c u) : Rep I' β' w' c u := by
  obtain ⟨p, _, rfl⟩ := List.mem_map.1 (List.mem_of_getElem? hx)
  have := List.mem_of_getElem? hj
  simp only [yW, List.mem_singleton] at this
  subst this
  cases h with
  | imm h => cases h with | v _ h => exact .imm (.v _ h)
theorem obj_ints {I I' : Nat → Prop} {β β' : Nat → Option BI} {w w' : World} {M M' : Nat → Prop} {l : List Int} (h : ObjAt I β w M 0 ⟨3, 1, l.map yW⟩) (hβ : β' 0 = β 0) (hb : ∀ b B, β 0 = some B → B.blk = some b → M b → ¬ I' b ∧ M' b ∧ w'.heap[b]? = w.heap[b]?) : ObjAt I' β' w' M' 0 ⟨3, 1, l.map yW⟩ := by
  obtain ⟨B, hB, h2, h3, h4⟩ := h
  refine ⟨B, hβ.trans hB, h2, h3, fun b hbb => ?_⟩
  obtain ⟨k0, k1, k2, arr, k3, k4, k5, k6, k7⟩ := h4 b hbb
  obtain ⟨q1, q2, q3⟩ := hb b B hB hbb k1
  refine ⟨k0, q2, q1, arr, q3.trans k3, k4, k5, k6, fun i j x c hx hj => ?_⟩
  obtain ⟨u, hu, hr⟩ := k7 i j x c hx hj
  exact ⟨u, hu, flat_int hx hj hr⟩
theorem GotI.keep {lo hi lo' hi' : Nat} {w w' : World} {L : List Int} {k : Nat} {v : Value} (h : GotI lo hi w L k v) (hl : lo' ≤ lo) (hh : hi ≤ hi') (hb : ∀ b, lo ≤ b → b < hi → w'.heap[b]? = w.heap[b]?) : GotI lo' hi' w' L k v := by
  obtain ⟨h1, β, h2, h3⟩ := h
  exact ⟨h1, β, obj_ints h2 rfl fun b B _ _ hM => ⟨fun h => h, ⟨by omega, by omega⟩, hb b hM.1 hM.2⟩, qF h3 rfl⟩
theorem GotI.below {lo hi : Nat} {w w' : World} {L : List Int} {k : Nat} {v : Value} (h : GotI lo hi w L k v) (hh : hi ≤ w.heap.size) (hb : Below w.heap.size w w') : GotI lo hi w' L k v :=
  h.keep (Nat.le_refl _) (Nat.le_refl _) fun b _ h2 => hb.block b (by omega)
theorem GotI.fr {lo hi lo' hi' : Nat} {w w' : World} {L : List Int} {k : Nat} {v : Value} (h : GotI lo hi w L k v) (hh : hi ≤ w.heap.size) (hf : Fr lo' hi' w w') (hd : hi ≤ lo' ∨ hi' ≤ lo) : GotI lo hi w' L k v :=
  h.keep (Nat.le_refl _) (Nat.le_refl _) fun b h1 h2 => hf.block b (by omega) (by omega)
theorem GotI.rep {lo hi : Nat} {w : World} {L : List Int} {k : Nat} {v : Value} (h : GotI lo hi w L k v) : RepI (fun b => lo ≤ b ∧ b < hi) w (.sl ((L.take k).map yW)) v := by
  obtain ⟨h1, β, ⟨B, hB, e2, e3, e4⟩, h3⟩ := h
  cases h3 with
  | imm h => cases h
  | refE _ _ A cap h => exact absurd rfl h
  | ref0 _ sz C h => rw [List.take_zero]; exact .sl0 none 0
  | ref _ _ _ b sz cap C q1 q2 q3 =>
    rw [hB] at q1
    obtain rfl : B = ⟨some b, sz, C⟩ := Option.some.inj q1
    obtain ⟨k0, k1, _, arr, k3, k4, k5, k6, k7⟩ := e4 b rfl
    have k0' : sz = 1 := k0
    subst k0'
    have hat : ∀ (i : Nat) p, (L.take k)[i]? = some p → w.cell? ⟨b, 0 * 1 + i, none⟩ = some (.int .i64 p) := fun i p hp => by
      have hp' : L[i]? = some p := by
        rw [List.getElem?_take] at hp
        split at hp
        · exact hp
        · cases hp
      obtain ⟨u, hu, hr⟩ := k7 i 0 _ (int p) (xI (f := yW) hp') rfl
      have e : u = .int .i64 p := by
        cases hr with
        | imm hr => exact repI_v hr
      have hu' : arr[i * 1 + 0]? = some u := hu
      rw [Nat.mul_one, Nat.add_zero] at hu'
      rw [cell_of_row w b _ arr _ _ k3, Nat.zero_mul, Nat.zero_add, hu', e]
    have hrd : Rd wU 1 w (b + 1) (some ⟨b, 0 * 1, none⟩) (L.take k) := fun i p hp => ⟨b, 0 * 1, rfl, Nat.lt_succ_self b, fun j q hq => by
      cases j with
      | zero =>
        simp only [wU, List.getElem?_cons_zero, Option.some.injEq] at hq
        subst hq
        have := hat i p hp
        simpa using this
      | succ j => simp [wU] at hq⟩
    have hl : (L.take k).length = k := by rw [List.length_take]; omega
    have hr := ints_repI (I := fun b => lo ≤ b ∧ b < hi) (c := cap) hrd (by omega) (fun b' f e _ => by
      simp only [Option.some.injEq, Addr.mk.injEq, and_true] at e
      obtain ⟨rfl, _⟩ := e
      exact ⟨k1.1, k1.2⟩)
    rw [hl] at hr
    exact hr
end Go.Proofs.YtjeffognhcbiaaaGreatDoor
namespace Go.Proofs.YtjeffognhcbiaaaGreatDoor
open Go Go.RowKit
end Go.Proofs.YtjeffognhcbiaaaGreatDoor
namespace Go.Proofs.YtjeffognhcbiaaaGreatDoor
open Go Go.RowKit
theorem dic_rep {W : World} {A : Option Addr} {es : List Ent} {c : Nat} (h : RdE W W.heap.size A (enL es)) (hc : es.length ≤ c) : RepF (fun b => b < W.heap.size) (fun _ => none) W (.agg (wL es)) (.agg #[.slice A es.length c]) :=
  ⟨[_], rfl, .cons (Rep.imm (ents_rep h hc)) .nil⟩
theorem szDic_call {es : List Ent} {l : Int} (hb : kN es) (h0 : 0 ≤ l) (hl : l ≤ 1048576) {W : World} {A : Option Addr} {c : Nat} (hr : RdE W W.heap.size A (enL es)) (hc : es.length ≤ c) (gi : GI (fun b => b < W.heap.size) W) :
    Calls Tryz.prog 5 #[.agg #[.slice A es.length c], .int .i64 l] W fun e W' => e = .returned (.int .i64 (wR es l)) ∧ Below W.heap.size W W' := by
  refine (qB (szDictionary_pf es l hb h0 hl) gi (vals := [_, .int .i64 l]) (.cons (dic_rep hr hc) (.cons (Rep.imm (.v _ rfl)) .nil))).mono ?_
  rintro e w' ⟨u, I', β', rfl, hv, hb, _⟩
  have e : u = .int .i64 (wR es l) := qW (show Rep I' β' w' (int (wR es l)) u from hv)
  rw [e]
  exact ⟨rfl, hb⟩
theorem eqDic_call {es : List Ent} (hb : vV es) {W : World} {A A' : Option Addr} {c c' : Nat} (hr : RdE W W.heap.size A (enL es)) (hc : es.length ≤ c) (hr' : RdE W W.heap.size A' (enL es)) (hc' : es.length ≤ c') (gi : GI (fun b => b < W.heap.size) W) :
    Calls Tryz.prog 12 #[.agg #[.slice A es.length c], .agg #[.slice A' es.length c']] W fun e W' => e = .returned (.bool true) ∧ Below W.heap.size W W' := by
  refine (qB (eqDictionary_pf es hb) gi (vals := [_, _]) (.cons (dic_rep hr hc) (.cons (dic_rep hr' hc') .nil))).mono ?_
  rintro e w' ⟨u, I', β', rfl, hv, hb, _⟩
  have e : u = .bool true := qW (show Rep I' β' w' (boo true) u from hv)
  rw [e]
  exact ⟨rfl, hb⟩
structure Cp (lo hi : Nat) (w : World) (g : Nat) (es : List Ent) (xs : List EnV) : Prop where
  len : xs.length = es.length
  own : Own qJ 2 w lo 82 (.slice (some ⟨g, 0, none⟩) es.length es.length) xs
  ok : OkE w (g + 1) xs (enL es)
  dis : DisV xs
  lt : LtV xs hi
  lo_ : lo ≤ g
  hi_ : g < hi
theorem Cp.below {lo hi : Nat} {w w' : World} {g : Nat} {es : List Ent} {xs : List EnV} (h : Cp lo hi w g es xs) (hb : Below w.heap.size w w') : Cp lo hi w' g es xs := ⟨h.len, h.own.below hb, h.ok.below hb, h.dis, h.lt, h.lo_, h.hi_⟩
theorem Cp.rd {lo hi : Nat} {w : World} {g : Nat} {es : List Ent} {xs : List EnV} (h : Cp lo hi w g es xs) : RdE w w.heap.size (some ⟨g, 0, none⟩) (enL es) := by
  have := own_RdE (es := enL es) (by rw [enL_len]; exact h.len) (by rw [enL_len]; exact h.own) h.ok
  exact this
theorem wK {es : List Ent} (hb : vV es) {W : World} {A : Option Addr} {c : Nat} (hr : RdE W W.heap.size A (enL es)) :
    Calls Tryz.prog 8 #[.agg #[.slice A es.length c]] W fun e W' => ∃ g xs, e = .returned (.agg #[.slice (some ⟨g, 0, none⟩) es.length es.length]) ∧ Cp W.heap.size W'.heap.size W' g es xs ∧ Below W.heap.size W W' := by
  have h := toDictionary_any A c (enL es) W (by rw [enL_len]; have := hb.1; omega) (fun e he => by
    obtain ⟨k, hk⟩ := List.getElem?_of_mem he
    obtain ⟨d, hd, rfl⟩ := enL_at hk
    have := (hb.2 d (List.mem_of_getElem? hd)).1
    show d.o.length ≤ _
    omega) hr
  rw [enL_len] at h
  refine h.mono ?_
  rintro e w' ⟨g, xs, rfl, hl, hown, hok, ⟨hdis, hlt⟩, hb⟩
  have hg := hown.lt g rfl
  exact ⟨g, xs, rfl, ⟨hl, hown, hok, hdis, hlt, hg.1, hg.2⟩, hb⟩
theorem totS_of {xs : List EnV} {es : List Ent} {w : World} {base : Nat} (hl : xs.length = es.length) (h : OkE w base xs (enL es)) : totS (xs.map (·.1)) = (es.map fun e => e.o.length + 1).sum := by
  have : (xs.map (·.1)).map (fun s => s.2.1 + 1) = es.map fun e => e.o.length + 1 := by
    apply List.ext_getElem?
    intro k
    rw [List.getElem?_map, List.getElem?_map, List.getElem?_map]
    by_cases hk : k < es.length
    · obtain ⟨d, hd⟩ := wY hk
      obtain ⟨x, hx⟩ := wY (show k < xs.length by omega)
      obtain ⟨_, h2, _⟩ := h k x _ hx (enL_of hd)
      rw [hx, hd]
      simp only [Option.map_some]
      rw [h2]
    · rw [List.getElem?_eq_none (by omega), List.getElem?_eq_none (by omega)]; rfl
  rw [totS, this]
theorem markDic_call {lo hi k0 : Nat} {w : World} {g : Nat} {es : List Ent} {xs : List EnV} (h : Cp lo hi w g es xs) (hb : vV es) (ht : k0 + (es.map fun e => e.o.length + 1).sum ≤ 8388608) (gi : GI (fun b => b < lo) w) (hlo : lo ≤ w.heap.size) :
    Calls Tryz.prog 14 #[.agg #[.slice (some ⟨g, 0, none⟩) es.length es.length], .int .i64 (k0 : Int)] w fun e w' => (∃ k1 : Nat, e = .returned (.int .i64 (k1 : Int)) ∧ k1 ≤ 8388608) ∧ Fr lo hi w w' :=
  markDictionary_any g es.length xs k0 lo hi w gi hlo (by have := hb.1; omega) h.len h.own (MkS.of (es := enL es) (by rw [enL_len]; exact h.len) h.ok (fun e he => by
    obtain ⟨k, hk⟩ := List.getElem?_of_mem he
    obtain ⟨d, hd, rfl⟩ := enL_at hk
    have := (hb.2 d (List.mem_of_getElem? hd)).1
    show d.o.length ≤ _
    omega)) (DisS.of h.dis) (LtS.of h.lt) ⟨h.lo_, h.hi_⟩ (by rw [totS_of h.len h.ok]; exact ht)
structure Ag (W : World) (A : Option Addr) (c : Nat) (es : List Ent) (w : World) : Prop where
  t : Below W.heap.size W w
  lt : W.heap.size < w.heap.size
  bx : w.cell? ⟨W.heap.size, 0, none⟩ = some (.slice A es.length c)
  rd : RdE w W.heap.size A (enL es)
theorem Ag.below {W w w' : World} {A : Option Addr} {c : Nat} {es : List Ent} (h : Ag W A c es w) (hb : Below w.heap.size w w') : Ag W A c es w' :=
  ⟨h.t.trans (hb.mono (Nat.le_of_lt h.lt)), Nat.lt_of_lt_of_le h.lt hb.size, (hb.cell (p := ⟨W.heap.size, 0, none⟩) h.lt).trans h.bx, h.rd.below (hb.mono (Nat.le_of_lt h.lt)) (Nat.le_refl _)⟩
theorem Ag.now {W w : World} {A : Option Addr} {c : Nat} {es : List Ent} (h : Ag W A c es w) : RdE w w.heap.size A (enL es) := h.rd.mono (Nat.le_of_lt h.lt)
end Go.Proofs.YtjeffognhcbiaaaGreatDoor
namespace Go.Proofs.YtjeffognhcbiaaaGreatDoor
open Go Go.RowKit
theorem Ag.gi {W w : World} {A : Option Addr} {c : Nat} {es : List Ent} (h : Ag W A c es w) (gi : GI (fun b => b < W.heap.size) W) : GI (fun b => b < w.heap.size) w := GI.up gi (fun b hb => h.t.block b hb) (Nat.le_of_lt h.lt)
theorem Ag.fr {W w w' : World} {A : Option Addr} {c lo hi : Nat} {es : List Ent} (h : Ag W A c es w) (hf : Fr lo hi w w') (hlo : W.heap.size < lo) : Ag W A c es w' := by
  have hb : Below (W.heap.size + 1) w w' := ⟨hf.os, hf.tape, hf.output, hf.size, fun k hk => hf.block k (by have := h.lt; omega) (by omega)⟩
  exact ⟨h.t.trans (hb.mono (Nat.le_succ _)), Nat.lt_of_lt_of_le h.lt hf.size, (hb.cell (p := ⟨W.heap.size, 0, none⟩) (Nat.lt_succ_self _)).trans h.bx, h.rd.below hb (by omega)⟩
theorem Ag.glo {W w : World} {A : Option Addr} {c lo : Nat} {es : List Ent} (h : Ag W A c es w) (gi : GI (fun b => b < W.heap.size) W) (hlo : W.heap.size ≤ lo) : GI (fun b => b < lo) w :=
  gi.mono (fun b hb _ => Nat.lt_of_lt_of_le hb hlo) (fun b hb _ => h.t.block b hb)
theorem szEs_sum : ∀ {es : List Ent} {l : Int}, 0 ≤ l → 0 ≤ kB es l → (((es.map fun e => e.o.length).sum : Nat) : Int) ≤ l
  | [], l, h, _ => by simpa using h
  | e :: es, l, h0, h => by
    have h1 := szE_ge (e := e) h0
    rw [kB] at h
    split at h
    · omega
    · have h2 : szE e l ≤ l - e.o.length := by
        unfold szE szI at *
        split
        · split at * <;> omega
        · split at * <;> split <;> omega
      have := szEs_sum (l := szE e l) (by omega) h
      simp only [List.map_cons, List.sum_cons, Int.natCast_add]
      omega
theorem szDi_sum {es : List Ent} (h : 0 ≤ wR es 1048576) : (es.map fun e => e.o.length + 1).sum ≤ 1048576 := by
  have h1 : ∀ es : List Ent, (es.map fun e => e.o.length + 1).sum = (es.map fun e => e.o.length).sum + es.length := fun es => by
    induction es with
    | nil => rfl
    | cons e es ih => simp only [List.map_cons, List.sum_cons, List.length_cons, ih]; omega
  unfold wR at h
  split at h
  · omega
  · have := szEs_sum (by omega) h
    rw [h1]
    omega
end Go.Proofs.YtjeffognhcbiaaaGreatDoor
