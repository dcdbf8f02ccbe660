/- Dictionaries copied and marked by package laws, walked concretely: every outline in a block of its own. -/
import Derived.Test.YtjeffognhcbiaaaDoorNsI
import Derived.Test.YtjeffognhcbiaaaDoorMem2
namespace Go.Proofs.YtjeffognhcbiaaaDoor
open Go.RowKit
theorem toEntry_any (A : Option Addr) (c : Nat) (o : List Int) (t : ByteArray) (w : World) (hb : o.length ≤ 2097152) (hr : Rd xX 1 w w.heap.size A o) :
    Calls Tryd.prog 40 #[.agg #[.slice A o.length c, .string t]] w fun e w' => ∃ g cap, e = .returned (.agg #[.slice (some ⟨g, 0, none⟩) o.length cap, .string t]) ∧ Own xX 1 w' w.heap.size 3 (.slice (some ⟨g, 0, none⟩) o.length cap) o ∧ Below w.heap.size w w' := by
  have hr1 : ∀ W1, Below w.heap.size w W1 → Rd xX 1 W1 W1.heap.size A o := fun W1 h => (hr.below h (Nat.le_refl _)).mono h.size
  have HR := Lib.hid hr1
  clear hr1 hr
  go_enter Tryd.func40, Tryd.ntmps40
  go_wp2_with fail
  refine (toIntS_any _ _ _ _ hb (HR.out _ (by repeat (first | exact Below.refl _ _ | assumption | refine Below.alloc ?_ (by first | (simp; done) | (simp; omega) | omega) _ | refine Below.setCell ?_ (by first | (simp; done) | (simp; omega) | omega) _ | refine Below.drew ?_)))).mono ?_
  rintro e w1 ⟨g, cap, rfl, hown, hb1⟩
  have hsz := hb1.size
  simp only [World.size_alloc] at hsz hown hb1
  have c0 : w1.cell? ⟨w.heap.size, 1, none⟩ = some (.string t) := (hb1.cell (p := ⟨w.heap.size, 1, none⟩) (by first | (simp; done) | (simp; omega) | omega)).trans (by go_simp)
  have c1 : w1.cell? ⟨w.heap.size + 1, 0, none⟩ = some (.slice none 0 0) := (hb1.cell (p := ⟨w.heap.size + 1, 0, none⟩) (by first | (simp; done) | (simp; omega) | omega)).trans (by go_simp)
  have c1' : w1.cell? ⟨w.heap.size + 1, 1, none⟩ = some (.string ⟨#[]⟩) := (hb1.cell (p := ⟨w.heap.size + 1, 1, none⟩) (by first | (simp; done) | (simp; omega) | omega)).trans (by go_simp)
  have c2 : w1.cell? ⟨w.heap.size + 2, 0, none⟩ = some (.slice none 0 0) := (hb1.cell (p := ⟨w.heap.size + 2, 0, none⟩) (by first | (simp; done) | (simp; omega) | omega)).trans (by go_simp)
  have c2' : w1.cell? ⟨w.heap.size + 2, 1, none⟩ = some (.string ⟨#[]⟩) := (hb1.cell (p := ⟨w.heap.size + 2, 1, none⟩) (by first | (simp; done) | (simp; omega) | omega)).trans (by go_simp)
  have f1 : w1.frozen? ⟨w.heap.size + 1, 0, none⟩ = false := (hb1.frozen (p := ⟨w.heap.size + 1, 0, none⟩) (by first | (simp; done) | (simp; omega) | omega)).trans (by go_simp)
  have f1' : w1.frozen? ⟨w.heap.size + 1, 1, none⟩ = false := (hb1.frozen (p := ⟨w.heap.size + 1, 1, none⟩) (by first | (simp; done) | (simp; omega) | omega)).trans (by go_simp)
  have f2 : w1.frozen? ⟨w.heap.size + 2, 0, none⟩ = false := (hb1.frozen (p := ⟨w.heap.size + 2, 0, none⟩) (by first | (simp; done) | (simp; omega) | omega)).trans (by go_simp)
  have f2' : w1.frozen? ⟨w.heap.size + 2, 1, none⟩ = false := (hb1.frozen (p := ⟨w.heap.size + 2, 1, none⟩) (by first | (simp; done) | (simp; omega) | omega)).trans (by go_simp)
  have OW := Lib.hid hown
  have hbel : Below w.heap.size w w1 := (show Below w.heap.size w _ by repeat (first | exact Below.refl _ _ | assumption | refine Below.alloc ?_ (by first | (simp; done) | (simp; omega) | omega) _ | refine Below.setCell ?_ (by first | (simp; done) | (simp; omega) | omega) _ | refine Below.drew ?_)).trans (hb1.mono (by first | (simp; done) | (simp; omega) | omega))
  have hgb := hown.block_lt.1
  clear hown hb1
  go_wp2
  refine bodyPost_ret (v := .agg #[.slice (some ⟨g, 0, none⟩) o.length cap, .string t]) (by simp [results, Tryd.results40, go_sem, c1, c1']) rfl ⟨g, cap, rfl, ?_, ?_⟩
  · refine ((((OW.out.mono (by omega)).setFar ?_ _).setFar ?_ _).setFar ?_ _).setFar ?_ _ <;> (intro e; simp [Value.ownBlock] at e; omega)
  · repeat (first | exact Below.refl _ _ | assumption | refine Below.alloc ?_ (by first | (simp; done) | (simp; omega) | omega) _ | refine Below.setCell ?_ (by first | (simp; done) | (simp; omega) | omega) _ | refine Below.drew ?_)
abbrev EnV := (Option Addr × Nat × Nat) × ByteArray
def v8 (x : EnV) : List Value := [.slice x.1.1 x.1.2.1 x.1.2.2, .string x.2]
theorem wF (x : EnV) : (v8 x).length = 2 := rfl
def zV : EnV := ((none, 0, 0), ⟨#[]⟩)
abbrev EnL := List Int × ByteArray
def RdE (w : World) (B : Nat) (A : Option Addr) (es : List EnL) : Prop := ∀ (k : Nat) (e : EnL), es[k]? = some e → ∃ b o A' c', A = some ⟨b, o, none⟩ ∧ b < B ∧ w.cell? ⟨b, o + k * 2, none⟩ = some (.slice A' e.1.length c') ∧ w.cell? ⟨b, o + k * 2 + 1, none⟩ = some (.string e.2) ∧ Rd xX 1 w B A' e.1 ∧ e.1.length ≤ c'
theorem RdE.below {w w' : World} {B B' : Nat} {A : Option Addr} {es : List EnL} (h : RdE w B A es) (hb : Below B' w w') (hB : B ≤ B') : RdE w' B A es := fun k e he => by
  obtain ⟨b, o, A', c', h1, h2, h3, h4, h5, h6⟩ := h k e he
  exact ⟨b, o, A', c', h1, h2, (hb.cell (p := ⟨b, o + k * 2, none⟩) (by show b < B'; omega)).trans h3, (hb.cell (p := ⟨b, o + k * 2 + 1, none⟩) (by show b < B'; omega)).trans h4, h5.below hb hB, h6⟩
theorem RdE.mono {w : World} {B B' : Nat} {A : Option Addr} {es : List EnL} (h : RdE w B A es) (hB : B ≤ B') : RdE w B' A es := fun k e he => by
  obtain ⟨b, o, A', c', h1, h2, h3, h4, h5, h6⟩ := h k e he
  exact ⟨b, o, A', c', h1, by omega, h3, h4, h5.mono hB, h6⟩
def OkE (w : World) (base : Nat) (xs : List EnV) (es : List EnL) : Prop := ∀ (k : Nat) (x : EnV) (e : EnL), xs[k]? = some x → es[k]? = some e → x.2 = e.2 ∧ x.1.2.1 = e.1.length ∧ Own xX 1 w base 3 (.slice x.1.1 e.1.length x.1.2.2) e.1
theorem OkE.below {w w' : World} {base : Nat} {xs : List EnV} {es : List EnL} (h : OkE w base xs es) (hb : Below w.heap.size w w') : OkE w' base xs es := fun k x e hx he => by
  obtain ⟨h1, h2, h3⟩ := h k x e hx he
  exact ⟨h1, h2, h3.below hb⟩
theorem OkE.far {w : World} {base : Nat} {xs : List EnV} {es : List EnL} (h : OkE w base xs es) {p : Addr} (hp : p.block < base) (u : Value) : OkE (w.setCell p u) base xs es := fun k x e hx he => by
  obtain ⟨h1, h2, h3⟩ := h k x e hx he
  refine ⟨h1, h2, h3.setFar (fun e' => ?_) u⟩
  have := (h3.lt _ e').1
  omega
theorem OkE.snoc {w : World} {base : Nat} {xs : List EnV} {es : List EnL} {x : EnV} {e : EnL} (h : OkE w base xs es) (he : es[xs.length]? = some e) (h1 : x.2 = e.2) (h2 : x.1.2.1 = e.1.length) (h3 : Own xX 1 w base 3 (.slice x.1.1 e.1.length x.1.2.2) e.1) : OkE w base (xs ++ [x]) es := fun k y d hy hd => by
  by_cases hk : k < xs.length
  · rw [List.getElem?_append_left hk] at hy
    exact h k y d hy hd
  · have hk2 := (List.getElem?_eq_some_iff.1 hy).1
    rw [List.length_append] at hk2
    simp only [List.length_cons, List.length_nil] at hk2
    obtain rfl : k = xs.length := by omega
    rw [List.getElem?_append_right (Nat.le_refl _), Nat.sub_self] at hy
    cases hy
    rw [he] at hd
    cases hd
    exact ⟨h1, h2, h3⟩
def DisV (xs : List EnV) : Prop := ∀ (j k : Nat) (x y : EnV) (b : Nat), j < k → xs[j]? = some x → xs[k]? = some y → (Value.slice x.1.1 x.1.2.1 x.1.2.2).ownBlock = some b → (Value.slice y.1.1 y.1.2.1 y.1.2.2).ownBlock ≠ some b
def LtV (xs : List EnV) (N : Nat) : Prop := ∀ (k : Nat) (x : EnV) (b : Nat), xs[k]? = some x → (Value.slice x.1.1 x.1.2.1 x.1.2.2).ownBlock = some b → b < N
theorem snoc_at {α : Type} {xs : List α} {x y : α} {k : Nat} (h : (xs ++ [x])[k]? = some y) : (k < xs.length ∧ xs[k]? = some y) ∨ (k = xs.length ∧ y = x) := by
  by_cases hk : k < xs.length
  · rw [List.getElem?_append_left hk] at h
    exact .inl ⟨hk, h⟩
  · have hk2 := (List.getElem?_eq_some_iff.1 h).1
    rw [List.length_append] at hk2
    simp only [List.length_cons, List.length_nil] at hk2
    obtain rfl : k = xs.length := by omega
    rw [List.getElem?_append_right (Nat.le_refl _), Nat.sub_self] at h
    cases h
    exact .inr ⟨rfl, rfl⟩
theorem DisV.snoc {xs : List EnV} {x : EnV} {N : Nat} (h : DisV xs) (hl : LtV xs N) (hx : ∀ b, (Value.slice x.1.1 x.1.2.1 x.1.2.2).ownBlock = some b → N ≤ b) : DisV (xs ++ [x]) := fun j k y z b hjk hy hz hb hc => by
  rcases snoc_at hz with ⟨hk, hz'⟩ | ⟨rfl, rfl⟩
  · rcases snoc_at hy with ⟨hj, hy'⟩ | ⟨rfl, rfl⟩
    · exact h j k y z b hjk hy' hz' hb hc
    · omega
  · rcases snoc_at hy with ⟨hj, hy'⟩ | ⟨rfl, rfl⟩
    · have h1 := hl j y b hy' hb
      have h2 := hx b hc
      omega
    · omega
theorem LtV.snoc {xs : List EnV} {x : EnV} {N M : Nat} (h : LtV xs N) (hNM : N ≤ M) (hx : ∀ b, (Value.slice x.1.1 x.1.2.1 x.1.2.2).ownBlock = some b → b < M) : LtV (xs ++ [x]) M := fun k y b hy hb => by
  rcases snoc_at hy with ⟨hk, hy'⟩ | ⟨rfl, rfl⟩
  · exact Nat.lt_of_lt_of_le (h k y b hy' hb) hNM
  · exact hx b hb
theorem OkE.nil {w : World} {base : Nat} {es : List EnL} : OkE w base [] es := fun k x e hx => by simp at hx
theorem DisV.nil : DisV [] := fun j k x y b _ hx => by simp at hx
theorem LtV.nil {N : Nat} : LtV [] N := fun k x b hx => by simp at hx
theorem infoV : (Tryd.prog.info? 60).map (fun i => (i.zero, i.size, i.bytes)) = some (some (.agg #[.slice none 0 0, .string ⟨#[]⟩]), 2, 40) := by kernel_rfl
theorem mk_V {ops : Array Oper} {rest : List Oper} {o : Oper} {a : Act} {Q : Exit → Act → World → Prop} (W : World) (hgd : o.guard = none) (l c : Operand)
    (ho : o.op = Op.makeSlice 29 l c) (n : Nat) (hl : a.eval l = .int .i64 (n : Int)) (hc : a.eval c = .int .i64 (n : Int)) (hn : n ≤ 2097152)
    (h : ∀ w', Own v8 2 w' W.heap.size 60 (.slice (some ⟨W.heap.size, 0, none⟩) n n) (List.replicate n zV) → Below W.heap.size W w' → W.heap.size < w'.heap.size → wpList Tryd.prog ops Q rest (a.put o.dst (.slice (some ⟨W.heap.size, 0, none⟩) n n)) w') : wpList Tryd.prog ops Q (o :: rest) a W :=
  wpList_mk v8 2 W hgd l c _ _ _ 40 ho Tryd.underlying29 infoV (by omega) wF zV rfl n _ _ hl hc rfl rfl (by omega) (by unfold maxLen; omega) h
theorem rep_set {ys : List EnV} {x : EnV} {n : Nat} (h : ys.length < n) : (ys ++ List.replicate (n - ys.length) zV).set ys.length x = (ys ++ [x]) ++ List.replicate (n - (ys.length + 1)) zV := by
  rw [show n - ys.length = (n - (ys.length + 1)) + 1 by omega, List.replicate_succ, List.set_append_right _ _ (Nat.le_refl _), Nat.sub_self, List.append_assoc]
  rfl
theorem toEntryS_any (A : Option Addr) (c : Nat) (es : List EnL) (w : World) (hb : es.length ≤ 2097152) (hbo : ∀ e ∈ es, e.1.length ≤ 2097152) (hr : RdE w w.heap.size A es) :
    Calls Tryd.prog 25 #[.slice A es.length c] w fun e w' => ∃ xs : List EnV, e = .returned (.slice (some ⟨w.heap.size, 0, none⟩) es.length es.length) ∧ xs.length = es.length ∧ Own v8 2 w' w.heap.size 60 (.slice (some ⟨w.heap.size, 0, none⟩) es.length es.length) xs ∧ OkE w' (w.heap.size + 1) xs es ∧ (DisV xs ∧ LtV xs w'.heap.size) ∧ Below w.heap.size w w' := by
  go_enter Tryd.func25, Tryd.ntmps25
  go_wp2_with (at_make; refine mk_V _ rfl (.tmp 6) (.tmp 6) rfl es.length rfl rfl hb ?_; rintro w1 hown1 hb1 hlt1)
  go_loopw [4] (fun i wr => ∃ (k : Nat) (ys : List EnV), k ≤ es.length ∧ ys.length = k ∧ i = .int .i64 k ∧ Below w.heap.size w wr ∧ w.heap.size < wr.heap.size ∧
    Own v8 2 wr w.heap.size 60 (.slice (some ⟨w.heap.size, 0, none⟩) es.length es.length) (ys ++ List.replicate (es.length - k) zV) ∧ OkE wr (w.heap.size + 1) ys es ∧ DisV ys ∧ LtV ys wr.heap.size) (fun i _ => es.length - (intOf i).toNat)
  case atStart => exact ⟨0, [], Nat.zero_le _, rfl, rfl, hb1, hlt1, by rw [List.nil_append, Nat.sub_zero]; exact hown1, .nil, .nil, .nil⟩
  case round =>
    obtain ⟨k, ys, hk, hyl, rfl, hbel, hlt0, hown, hoke, hdis, hltv⟩ := hrel
    by_cases hlt : k < es.length
    · obtain ⟨x, hx⟩ := xS hlt
      obtain ⟨b, o, A', c', rfl, hbB, hc0, hc1, hrd, _⟩ := (hr.below hbel (Nat.le_refl _)) k x hx
      have hbx := hbo x (List.mem_of_getElem? hx)
      have X := Lib.hid hx
      have OW := Lib.hid hown
      have OK := Lib.hid hoke
      have RD := Lib.hid hrd
      have YL := Lib.hid hyl
      have DI := Lib.hid hdis
      have LV := Lib.hid hltv
      have hk1 : (k : Int) < (es.length : Int) := by omega
      clear hx hr hown hown1 hoke hrd hyl hbo hdis hltv
      go_wp2_with fail
      refine (toEntry_any A' c' x.1 x.2 _ hbx (RD.out.mono (Nat.le_of_lt hlt0))).mono ?_
      rintro e w2 ⟨g, cap, rfl, hown', hb2⟩
      have hlt2 := Nat.lt_of_lt_of_le hlt0 hb2.size
      have hown2 := OW.out.below hb2
      have hyl := YL.out
      have hy : (ys ++ List.replicate (es.length - k) zV)[k]? = some zV := by
        rw [List.getElem?_append_right (by omega), hyl, Nat.sub_self, List.getElem?_replicate, if_pos (by omega)]
      have hlen : es.length = (ys ++ List.replicate (es.length - k) zV).length := by rw [List.length_append, List.length_replicate]; omega
      have hd0 := hown2.cellAt wF hlen hy (j := 0) (by omega)
      have f0 := hown2.frozenAt hlen (k * 2 + 0)
      have hd1 := hown2.cellAt wF hlen hy (j := 1) (by omega)
      have f1 := hown2.frozenAt hlen (k * 2 + 1)
      simp only [v8, zV, Nat.add_zero, List.getElem?_cons_zero, List.getElem?_cons_succ] at hd0 hd1 f0 f1
      have HY := Lib.hid hy
      have HL := Lib.hid hlen
      have OW2 := Lib.hid hown2
      have OWN := Lib.hid hown'
      have HB2 := Lib.hid hb2.size
      clear hy hlen hown2 hown' hyl
      go_wp2
      go_roundw
      case rel =>
        refine ⟨k + 1, ys ++ [((some ⟨g, 0, none⟩, x.1.length, cap), x.2)], by omega, ?_, by go_num, ?_, ?_, ?_, ?_, ?_, ?_⟩
        · rw [List.length_append, YL.out]; rfl
        · have h3 := hbel.trans (hb2.mono hbel.size)
          repeat (first | exact Below.refl _ _ | assumption | refine Below.alloc ?_ (by first | (simp; done) | (simp; omega) | omega) _ | refine Below.setCell ?_ (by first | (simp; done) | (simp; omega) | omega) _ | refine Below.drew ?_)
        · simp; omega
        · have h4 := OW2.out.set2 wF HL.out HY.out (x := ((some ⟨g, 0, none⟩, x.1.length, cap), x.2)) rfl
          have hyl := YL.out
          subst hyl
          rw [rep_set (by omega)] at h4
          exact h4
        · have h5 : OkE w2 (w.heap.size + 1) (ys ++ [((some ⟨g, 0, none⟩, x.1.length, cap), x.2)]) es := (OK.out.below hb2).snoc (by rw [YL.out]; exact X.out) rfl rfl (OWN.out.mono (by omega))
          exact (h5.far (by simp) _).far (by simp) _
        · exact DI.out.snoc LV.out fun b hb => (OWN.out.lt b hb).1
        · simp only [World.size_setCell]
          exact LV.out.snoc HB2.out fun b hb => (OWN.out.lt b hb).2
      case measure => simp [intOf]; omega
    · go_wp2
      go_ret
      obtain rfl : k = es.length := by omega
      rw [Nat.sub_self, List.replicate_zero, List.append_nil] at hown
      exact ⟨ys, rfl, hyl, hown, hoke, ⟨hdis, hltv⟩, hbel⟩
theorem toDictionary_any (A : Option Addr) (c : Nat) (es : List EnL) (w : World) (hb : es.length ≤ 2097152) (hbo : ∀ e ∈ es, e.1.length ≤ 2097152) (hr : RdE w w.heap.size A es) :
    Calls Tryd.prog 7 #[.agg #[.slice A es.length c]] w fun e w' => ∃ (g : Nat) (xs : List EnV), e = .returned (.agg #[.slice (some ⟨g, 0, none⟩) es.length es.length]) ∧ xs.length = es.length ∧ Own v8 2 w' w.heap.size 60 (.slice (some ⟨g, 0, none⟩) es.length es.length) xs ∧ OkE w' (g + 1) xs es ∧ (DisV xs ∧ LtV xs w'.heap.size) ∧ Below w.heap.size w w' := by
  have hr1 : ∀ W1, Below w.heap.size w W1 → RdE W1 W1.heap.size A es := fun W1 h => (hr.below h (Nat.le_refl _)).mono h.size
  have HR := Lib.hid hr1
  clear hr1 hr
  go_enter Tryd.func7, Tryd.ntmps7
  go_wp2_with fail
  refine (toEntryS_any _ _ _ _ hb hbo (HR.out _ (by repeat (first | exact Below.refl _ _ | assumption | refine Below.alloc ?_ (by first | (simp; done) | (simp; omega) | omega) _ | refine Below.setCell ?_ (by first | (simp; done) | (simp; omega) | omega) _ | refine Below.drew ?_)))).mono ?_
  rintro e w1 ⟨xs, rfl, hxl, hown, hoke, ⟨hdis, hltv⟩, hb1⟩
  have hsz := hb1.size
  simp only [World.size_alloc] at hsz hown hb1 hoke
  have c1 : w1.cell? ⟨w.heap.size + 1, 0, none⟩ = some (.slice none 0 0) := (hb1.cell (p := ⟨w.heap.size + 1, 0, none⟩) (by first | (simp; done) | (simp; omega) | omega)).trans (by go_simp)
  have c2 : w1.cell? ⟨w.heap.size + 2, 0, none⟩ = some (.slice none 0 0) := (hb1.cell (p := ⟨w.heap.size + 2, 0, none⟩) (by first | (simp; done) | (simp; omega) | omega)).trans (by go_simp)
  have f1 : w1.frozen? ⟨w.heap.size + 1, 0, none⟩ = false := (hb1.frozen (p := ⟨w.heap.size + 1, 0, none⟩) (by first | (simp; done) | (simp; omega) | omega)).trans (by go_simp)
  have f2 : w1.frozen? ⟨w.heap.size + 2, 0, none⟩ = false := (hb1.frozen (p := ⟨w.heap.size + 2, 0, none⟩) (by first | (simp; done) | (simp; omega) | omega)).trans (by go_simp)
  have OW := Lib.hid hown
  have OK := Lib.hid hoke
  have LV := Lib.hid hltv
  have hbel : Below w.heap.size w w1 := (show Below w.heap.size w _ by repeat (first | exact Below.refl _ _ | assumption | refine Below.alloc ?_ (by first | (simp; done) | (simp; omega) | omega) _ | refine Below.setCell ?_ (by first | (simp; done) | (simp; omega) | omega) _ | refine Below.drew ?_)).trans (hb1.mono (by first | (simp; done) | (simp; omega) | omega))
  clear hown hb1 hoke hltv
  go_wp2
  refine bodyPost_ret (v := .agg #[.slice (some ⟨w.heap.size + 1 + 1 + 1, 0, none⟩) es.length es.length]) (by simp [results, Tryd.results7, go_sem, c1]) rfl ⟨_, xs, rfl, hxl, ?_, ?_, ⟨hdis, ?_⟩, ?_⟩
  · refine ((OW.out.mono (by omega)).setFar ?_ _).setFar ?_ _ <;> (intro e; simp [Value.ownBlock] at e; try omega)
  · exact (OK.out.far (by simp) _).far (by simp <;> omega) _
  · simp only [World.size_setCell]; exact LV.out
  · repeat (first | exact Below.refl _ _ | assumption | refine Below.alloc ?_ (by first | (simp; done) | (simp; omega) | omega) _ | refine Below.setCell ?_ (by first | (simp; done) | (simp; omega) | omega) _ | refine Below.drew ?_)
end Go.Proofs.YtjeffognhcbiaaaDoor
