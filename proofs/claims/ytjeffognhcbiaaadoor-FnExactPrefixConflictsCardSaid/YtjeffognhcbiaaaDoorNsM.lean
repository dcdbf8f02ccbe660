/- A dictionary that package laws vL: what stays as it was. -/
import Derived.Test.YtjeffognhcbiaaaDoorNsE
import Derived.Test.YtjeffognhcbiaaaDoorAbs4
import Derived.Test.YtjeffognhcbiaaaDoorNsK
namespace Go.Proofs.YtjeffognhcbiaaaDoor
open Go Go.RowKit
def MkS (w : World) (base : Nat) (S : List SlV) : Prop := ∀ (k : Nat) (s : SlV), S[k]? = some s → ∃ o : List Int, s.2.1 = o.length ∧ o.length ≤ 2097152 ∧ Own xX 1 w base 3 (.slice s.1 o.length s.2.2) o
def totS (S : List SlV) : Nat := (S.map fun s => s.2.1 + 1).sum
theorem totS_drop {S : List SlV} {k : Nat} {s : SlV} (h : S[k]? = some s) : totS (S.drop k) = s.2.1 + 1 + totS (S.drop (k + 1)) := by
  obtain ⟨h1, h2⟩ := List.getElem?_eq_some_iff.1 h
  rw [List.drop_eq_getElem_cons h1, h2, totS, List.map_cons, List.sum_cons, totS]
theorem map_at1 {xs : List EnV} {k : Nat} {s : SlV} (h : (xs.map (·.1))[k]? = some s) : ∃ x, xs[k]? = some x ∧ x.1 = s := by
  rw [List.getElem?_map] at h
  cases hx : xs[k]? with
  | none => rw [hx] at h; cases h
  | some x => rw [hx] at h; cases h; exact ⟨x, rfl, rfl⟩
theorem DisS.of {xs : List EnV} (h : DisV xs) : DisS (xs.map (·.1)) := fun j k s t b hjk hs ht hb hc => by
  obtain ⟨x, hx, rfl⟩ := map_at1 hs
  obtain ⟨y, hy, rfl⟩ := map_at1 ht
  rcases Nat.lt_or_gt_of_ne hjk with hlt | hlt
  · exact h j k x y b hlt hx hy hb hc
  · exact h k j y x b hlt hy hx hc hb
theorem LtS.of {xs : List EnV} {N : Nat} (h : LtV xs N) : LtS (xs.map (·.1)) N := fun k s b hs hb => by
  obtain ⟨x, hx, rfl⟩ := map_at1 hs
  exact h k x b hx hb
theorem MkS.of {xs : List EnV} {es : List EnL} {w : World} {base : Nat} (hl : xs.length = es.length) (h : OkE w base xs es) (hb : ∀ e ∈ es, e.1.length ≤ 2097152) : MkS w base (xs.map (·.1)) := fun k s hs => by
  obtain ⟨x, hx, rfl⟩ := map_at1 hs
  have hk := (List.getElem?_eq_some_iff.1 hx).1
  have he : es[k]? = some (es[k]'(by omega)) := List.getElem?_eq_getElem (by omega)
  obtain ⟨_, h2, h3⟩ := h k x _ hx he
  exact ⟨_, h2, hb _ (List.getElem_mem _), h3⟩
theorem MkS.below {w w' : World} {base : Nat} {S : List SlV} (h : MkS w base S) (hb : Below w.heap.size w w') : MkS w' base S := fun k s hs => by
  obtain ⟨o, h1, h2, h3⟩ := h k s hs
  exact ⟨o, h1, h2, h3.below hb⟩
theorem MkS.far {w : World} {base : Nat} {S : List SlV} (h : MkS w base S) {p : Addr} (hp : p.block < base) (u : Value) : MkS (w.setCell p u) base S := fun k s hs => by
  obtain ⟨o, h1, h2, h3⟩ := h k s hs
  refine ⟨o, h1, h2, h3.setFar (fun e' => ?_) u⟩
  have := (h3.lt _ e').1
  omega
theorem MkS.step {w w' : World} {base : Nat} {S : List SlV} {k : Nat} {A : Option Addr} {c : Nat} {o o' : List Int} (h : MkS w base S) (hd : DisS S) (hs : S[k]? = some (A, o.length, c)) (hl : o'.length = o.length) (hb : o.length ≤ 2097152)
    (hg : w.grownBy w' (Value.slice A o.length c).ownBlock) (hown : Own xX 1 w' base 3 (.slice A o.length c) o') : MkS w' base S := fun j s hj => by
  by_cases e : j = k
  · subst e
    rw [hs] at hj
    cases hj
    exact ⟨o', hl.symm, by omega, by rw [hl]; exact hown⟩
  · obtain ⟨p, h1, h2, h3⟩ := h j s hj
    refine ⟨p, h1, h2, h3.kept hg ?_⟩
    cases hb' : (Value.slice s.1 p.length s.2.2).ownBlock with
    | none => exact .inl rfl
    | some b => exact .inr fun e' => hd j k s _ b e hj hs (by rw [vS, h1]; exact hb') e'.symm
theorem map_set1 {ys : List EnV} {S : List SlV} {k : Nat} {y : EnV} {t : ByteArray} (h : ys.map (·.1) = S) (hy : ys[k]? = some y) : (ys.set k (y.1, t)).map (·.1) = S := by
  rw [List.map_set, h]
  have : S[k]? = some y.1 := by rw [← h, List.getElem?_map, hy]; rfl
  obtain ⟨h1, h2⟩ := List.getElem?_eq_some_iff.1 this
  rw [← h2, List.set_getElem_self]
theorem GI.fr {lo hi : Nat} {w w' : World} (h : GI (fun b => b < lo) w) (hf : Fr lo hi w w') : GI (fun b => b < lo) w' := h.mono (fun b _ hb => hb) fun b hb hl => hf.block b hb (.inl hl)
set_option maxHeartbeats 1000000 in
theorem markEntryS_any (g n : Nat) (xs : List EnV) (k0 lo hi : Nat) (w : World) (gi : GI (fun b => b < lo) w) (hlo : lo ≤ w.heap.size) (hn : n ≤ 2097152) (hxl : xs.length = n)
    (hown : Own v8 2 w lo 60 (.slice (some ⟨g, 0, none⟩) n n) xs) (hmk : MkS w (g + 1) (xs.map (·.1))) (hdis : DisS (xs.map (·.1))) (hlt : LtS (xs.map (·.1)) hi) (hg : lo ≤ g ∧ g < hi)
    (htot : k0 + totS (xs.map (·.1)) ≤ 8388608) :
    Calls Tryd.prog 31 #[.slice (some ⟨g, 0, none⟩) n n, .int .i64 (k0 : Int)] w fun e w' => (∃ k1 : Nat, e = .returned (.int .i64 (k1 : Int)) ∧ k1 ≤ 8388608) ∧ Fr lo hi w w' := by
  obtain ⟨S, hS⟩ : ∃ S, xs.map (·.1) = S := ⟨_, rfl⟩
  rw [hS] at hmk hdis hlt htot
  have hSl : S.length = n := by rw [← hS, List.length_map, hxl]
  go_enter Tryd.func31, Tryd.ntmps31
  go_wp2
  go_loopw [5, 1] (fun i kk wr => ∃ (k q : Nat) (ys : List EnV), k ≤ n ∧ i = .int .i64 k ∧ kk = .int .i64 (q : Int) ∧ Hid (ys.map (·.1) = S) ∧ Own v8 2 wr lo 60 (.slice (some ⟨g, 0, none⟩) n n) ys ∧ MkS wr (g + 1) S ∧ Fr lo hi w wr ∧ q + totS (S.drop k) ≤ 8388608) (fun i _ _ => n - (intOf i).toNat)
  case atStart => exact ⟨0, k0, xs, Nat.zero_le _, rfl, rfl, hS, hown, hmk, Fr.refl _ _ _, by rw [List.drop_zero]; exact htot⟩
  case round =>
    obtain ⟨k, q, ys, hk, rfl, rfl, HY, hownr, hmkr, hfr, htr⟩ := hrel
    have hyl : ys.length = n := by
      have := congrArg List.length HY.out
      rw [List.length_map] at this
      omega
    by_cases hkn : k < n
    · obtain ⟨y, hy⟩ := xS (show k < ys.length by omega)
      have hs : S[k]? = some y.1 := by rw [← HY.out, List.getElem?_map, hy]; rfl
      obtain ⟨⟨A', n', c'⟩, t⟩ := y
      obtain ⟨o, ho1, ho2, ho3⟩ := hmkr k _ hs
      simp only at ho1 ho3
      subst ho1
      have htd := totS_drop hs
      simp only at htd
      have hd0 := hownr.cellAt wF hyl.symm hy (j := 0) (by omega)
      simp only [v8, Nat.add_zero, List.getElem?_cons_zero] at hd0
      have hk1 : (k : Int) < (n : Int) := by omega
      have hqb : q ≤ 8388608 := by omega
      have OW := Lib.hid hownr
      have MK := Lib.hid hmkr
      have FR := Lib.hid hfr
      have O3 := Lib.hid ho3
      have HS := Lib.hid hs
      have HYY := Lib.hid hy
      have YL := Lib.hid hyl
      clear hownr hmkr hfr ho3 hs hy hyl hown hmk
      go_wp2_with fail
      refine (markIntS_any A' c' o q (g + 1) _ ho2 (by omega) O3.out).mono ?_
      rintro e w2 ⟨rfl, hown', hg2⟩
      simp only [mend_eq, Nat.one_mul]
      have hqo : q + o.length ≤ 1082130432 := by omega
      have hE : ∀ b, (Value.slice A' o.length c').ownBlock = some b → g + 1 ≤ b ∧ b < hi := fun b hb => ⟨(O3.out.lt b hb).1, hlt k _ b HS.out hb⟩
      have how2 := OW.out.kept hg2 (by
        cases hb : (Value.slice A' o.length c').ownBlock with
        | none => exact .inr (by simp [Value.ownBlock])
        | some b =>
          refine .inr (fun e => ?_)
          have h9 := (hE b hb).1
          simp [Value.ownBlock] at e
          omega)
      have hmk2 := MK.out.step hdis HS.out (by rw [marks_len]) ho2 hg2 hown'
      have hfr2 := FR.out.trans (Fr.of_grown (lo := lo) (hi := hi) hg2 fun b hb => by have := hE b hb; omega)
      have hyl := YL.out
      have OW2 := Lib.hid how2
      have MK2 := Lib.hid hmk2
      have FR2 := Lib.hid hfr2
      clear how2 hmk2 hfr2 hown' hg2 hyl hd0 FR MK OW
      go_wp2_with fail
      refine (pf_plain (xs := [.int .i64 ((q + o.length : Nat) : Int)]) (markText_pf (q + o.length) (by omega)) (fun x hx => by simp at hx; subst hx; rfl) (I := fun b => b < lo) (fun b hb => Nat.lt_of_lt_of_le hb (Nat.le_trans hlo FR2.out.size)) (gi.fr FR2.out)).mono ?_
      rintro e w3 ⟨rfl, hb3⟩
      have how3 := OW2.out.below hb3
      have hd1 := how3.cellAt wF YL.out.symm HYY.out (j := 1) (by omega)
      have f1 := how3.frozenAt YL.out.symm (k * 2 + 1)
      simp only [v8, List.getElem?_cons_zero, List.getElem?_cons_succ] at hd1
      have OW3 := Lib.hid how3
      have MK3 := Lib.hid (MK2.out.below hb3)
      have FR3 := Lib.hid (FR2.out.trans (Fr.of_below (lo := lo) (hi := hi) hb3))
      clear how3 hb3 OW2 MK2 FR2
      go_wp2
      go_roundw
      case rel =>
        refine ⟨k + 1, q + o.length + 1, ys.set k ((A', o.length, c'), ⟨⟨mt (q + o.length)⟩⟩), by omega, by go_num, by go_num, map_set1 HY.out HYY.out, ?_, ?_, ?_, by omega⟩
        · exact OW3.out.setAt wF YL.out.symm HYY.out (j := 1) (by omega) rfl
        · exact MK3.out.far (by simp) _
        · exact FR3.out.trans (Fr.set _ _ _ ⟨hg.1, hg.2⟩)
      case measure => simp [intOf]; omega
    · go_wp2
      go_ret
      exact ⟨⟨q, rfl, by omega⟩, hfr⟩
end Go.Proofs.YtjeffognhcbiaaaDoor
