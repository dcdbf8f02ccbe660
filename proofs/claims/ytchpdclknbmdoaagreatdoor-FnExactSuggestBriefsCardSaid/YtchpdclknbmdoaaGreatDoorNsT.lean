/- What the concrete walks of laws with dictionaries carry on. -/
import Derived.Test.YtchpdclknbmdoaaGreatDoorOld
import Derived.Test.YtchpdclknbmdoaaGreatDoorPhonetic2
import Derived.Test.YtchpdclknbmdoaaGreatDoorAbs4
import Derived.Test.YtchpdclknbmdoaaGreatDoorAbsRead
import Derived.Test.YtchpdclknbmdoaaGreatDoorDvE
namespace Go.Proofs.YtchpdclknbmdoaaGreatDoor
open Go.RowKit
theorem Own.lit {α : Type} {enc : α → List Value} {size : Nat} {w : World} {base : Nat} {e : TypeId} {n : Nat} (hn : n = w.heap.size) (hb : base ≤ n) : Own enc size (w.alloc (.cells #[] e)) base e (.slice (some ⟨n, 0, none⟩) 0 0) [] := by
  subst hn; exact Own.lit0 hb
theorem q8 (w : World) (o : Obj) : Below w.heap.size w (w.alloc o) := (Below.refl _ _).alloc (Nat.le_refl _) _
section
variable {α : Type} {enc : α → List Value} {size : Nat} {w : World} {B : Nat}
theorem Rd.news {b o : Nat} {ys : List α} (h : Rd enc size w B (some ⟨b, o, none⟩) ys) (hsz : 0 < size) (hs : ∀ y, (enc y).length = size) : ∀ j u, (ys.flatMap enc)[j]? = some u → w.cell? ((⟨b, o, none⟩ : Addr).add j) = some u := by
  intro j u hu
  have hj : j < ys.length * size := by rw [← xX hs ys]; exact (List.getElem?_eq_some_iff.1 hu).1
  have hd : j / size < ys.length := (Nat.div_lt_iff_lt_mul hsz).2 hj
  obtain ⟨y, hy⟩ := vF hd
  have h1 := flatMap_at hs ys (j / size) y hy (j % size) (Nat.mod_lt _ hsz)
  have h2 : j / size * size + j % size = j := by rw [Nat.mul_comm]; exact Nat.div_add_mod j size
  rw [h2, hu] at h1
  obtain ⟨b', o', e, _, hc⟩ := h _ _ hy
  simp only [Option.some.injEq, Addr.mk.injEq, and_true] at e
  obtain ⟨rfl, rfl⟩ := e
  have h3 := hc _ _ h1.symm
  have h4 : (⟨b, o, none⟩ : Addr).add j = ⟨b, o + j, none⟩ := by unfold Addr.add; split <;> simp_all
  rw [h4, ← h3, Nat.add_assoc, h2]
end
section
variable {α : Type} {enc : α → List Value} {size : Nat} {w : World} {base : Nat} {e : TypeId} {g n c : Nat} {ys : List α}
theorem flatMap_set1 (hs : ∀ x, (enc x).length = size) {k j : Nat} {y x : α} {u : Value} (hy : ys[k]? = some y) (hj : j < size) (hx : enc x = (enc y).set j u) : (ys.flatMap enc).set (k * size + j) u = (ys.set k x).flatMap enc := by
  refine flatMap_set ys k y x hy (fun l => l.set (k * size + j) u) ?_
  intro m hm
  have hl : ((ys.take k).flatMap enc).length = k * size := by rw [xX hs]; congr 1; simp; have := (List.getElem?_eq_some_iff.1 hy).1; omega
  have a1 := set_append_right ((ys.take k).flatMap enc) (enc y ++ m) j u
  rw [hl] at a1
  show (ys.flatMap enc).set (k * size + j) u = _
  rw [hm, a1, set_append_left _ _ _ _ (by rw [hs]; exact hj), hx]
theorem Own.setAt (hs : ∀ x, (enc x).length = size) (h : Own enc size w base e (.slice (some ⟨g, 0, none⟩) n c) ys) (hn : n = ys.length) {k j : Nat} {y x : α} {u : Value} (hy : ys[k]? = some y) (hj : j < size) (hx : enc x = (enc y).set j u) :
    Own enc size (w.setCell ⟨g, k * size + j, none⟩ u) base e (.slice (some ⟨g, 0, none⟩) n c) (ys.set k x) := by
  subst hn
  unfold Own
  have h1 := (World.ownsRow.stored h (k * size + j) u).1
  rw [flatMap_set1 hs hy hj hx] at h1
  rw [List.length_set]
  exact h1
theorem Own.takes {A : Option Addr} (hs : ∀ x, (enc x).length = size) (h : Own enc size w base e (.slice A n c) ys) {m : Nat} (hm : m ≤ ys.length) : Own enc size w base e (.slice A m c) (ys.take m) := by
  have hl : (ys.take m).length = m := by simp; omega
  unfold Own
  rw [hl]
  refine ⟨by rw [xX hs, hl], ?_⟩
  rcases h.2 with ⟨he, hn⟩ | ⟨g, cap, cur, he, hb, hg, h1, h2, h3, h4⟩
  · simp only [Value.slice.injEq] at he
    exact .inl ⟨by rw [he.1, he.2.2]; congr 1; omega, by omega⟩
  · simp only [Value.slice.injEq] at he
    obtain ⟨rfl, rfl, rfl⟩ := he
    refine .inr ⟨g, c, cur, rfl, hb, hg, by omega, h2, h3, ?_⟩
    have h5 : (ys.flatMap enc).take (m * size) = (ys.take m).flatMap enc := by
      conv => lhs; rw [← List.take_append_drop m ys, List.flatMap_append]
      rw [List.take_append_of_le_length (by rw [xX hs, hl]; exact Nat.le_refl _), List.take_of_length_le (by rw [xX hs, hl]; exact Nat.le_refl _)]
    rw [← h5, ← h4, List.take_take, Nat.min_eq_left (Nat.mul_le_mul_right size hm)]
end

theorem Own.cap_le {α : Type} {enc : α → List Value} {size : Nat} {w : World} {base : Nat} {e : TypeId} {A : Option Addr} {n c : Nat} {ys : List α} (h : Own enc size w base e (.slice A n c) ys) : n ≤ c := by
  rcases h.2 with ⟨he, hn⟩ | ⟨g, cap, cur, he, hb, hg, h1, _⟩
  · simp only [Value.slice.injEq] at he
    omega
  · simp only [Value.slice.injEq] at he
    omega
end Go.Proofs.YtchpdclknbmdoaaGreatDoor
namespace Go.Proofs.YtchpdclknbmdoaaGreatDoor
open Go.RowKit
theorem infoI : (Tryz.prog.info? 3).map (fun i => (i.zero, i.size, i.bytes)) = some (some (.int .i64 0), 1, 8) := by kernel_rfl
theorem mk_I {ops : Array Oper} {rest : List Oper} {o : Oper} {a : Act} {Q : Exit → Act → World → Prop} (W : World) (hgd : o.guard = none) (l c : Operand)
    (ho : o.op = Op.makeSlice 27 l c) (n : Nat) (hl : a.eval l = .int .i64 (n : Int)) (hc : a.eval c = .int .i64 (n : Int)) (hn : n ≤ 2097152)
    (h : ∀ w', Own wX 1 w' W.heap.size 3 (.slice (some ⟨W.heap.size, 0, none⟩) n n) (List.replicate n (0 : Int)) → Below W.heap.size W w' → W.heap.size < w'.heap.size → wpList Tryz.prog ops Q rest (a.put o.dst (.slice (some ⟨W.heap.size, 0, none⟩) n n)) w') : wpList Tryz.prog ops Q (o :: rest) a W :=
  wpList_mk wX 1 W hgd l c _ _ _ 8 ho Tryz.underlying27 infoI (by omega) vW 0 rfl n _ _ hl hc rfl rfl (by omega) (by unfold maxLen; omega) h
theorem toIntS_any (A : Option Addr) (c : Nat) (xs : List (Int)) (w : World) (hb : xs.length ≤ 2097152) (hr : Rd wX 1 w w.heap.size A xs) :
    Calls Tryz.prog 181 #[.slice A xs.length c] w fun e w' => ∃ g cap, e = .returned (.slice (some ⟨g, 0, none⟩) xs.length cap) ∧ Own wX 1 w' w.heap.size 3 (.slice (some ⟨g, 0, none⟩) xs.length cap) xs ∧ Below w.heap.size w w' := by
  go_enter Tryz.func181, Tryz.ntmps181
  go_wp2_with (at_make; refine mk_I _ rfl (.tmp 6) (.tmp 6) rfl xs.length rfl rfl hb ?_; rintro w1 hown1 hb1 hlt1)
  go_loopw [4] (fun i wr => ∃ k : Nat, k ≤ xs.length ∧ i = .int .i64 k ∧ Below w.heap.size w wr ∧ w.heap.size < wr.heap.size ∧
    Own wX 1 wr w.heap.size 3 (.slice (some ⟨w.heap.size, 0, none⟩) xs.length xs.length) (fill xs (0 : Int) k)) (fun i _ => xs.length - (intOf i).toNat)
  case atStart => exact ⟨0, Nat.zero_le _, rfl, hb1, hlt1, by rw [fill_zero]; exact hown1⟩
  case round =>
    obtain ⟨k, hk, rfl, hbel, hlt0, hown⟩ := hrel
    by_cases hlt : k < xs.length
    · obtain ⟨x, hx⟩ := vF hlt
      obtain ⟨b, o, rfl, hbB, hc0⟩ := (hr.below hbel (Nat.le_refl _)).int hx
      have X := Lib.hid hx
      have hk1 : (k : Int) < (xs.length : Int) := by omega
      have hy := fill_at xs (0 : Int) k hlt
      have hlen := (fill_len xs (0 : Int) k hk).symm
      have hd0 := hown.cellAt vW hlen hy (j := 0) (by omega)
      have f0 := hown.frozenAt hlen (k * 1 + 0)
      simp only [wX, Nat.add_zero, Nat.mul_one, List.getElem?_cons_zero] at hd0 f0
      have OW := Lib.hid hown
      have HY := Lib.hid hy
      have HL := Lib.hid hlen
      clear hx hr hown hown1 hy hlen
      go_wp2
      go_roundw
      case rel =>
        refine ⟨k + 1, by omega, by go_num, ?_, ?_, ?_⟩
        · repeat (first | exact Below.refl _ _ | assumption | refine Below.alloc ?_ (by first | (simp; done) | (simp; omega) | omega) _ | refine Below.setCell ?_ (by first | (simp; done) | (simp; omega) | omega) _ | refine Below.drew ?_)
        · simp; omega
        · have h4 := OW.out.set1 vW HL.out HY.out (x := x) rfl
          rw [fill_set xs _ x k X.out] at h4
          exact h4
      case measure => simp [intOf]; omega
    · go_wp2
      go_ret
      obtain rfl : k = xs.length := by omega
      exact ⟨_, _, rfl, by rw [fill_all] at hown; exact hown, hbel⟩
def kO (q : Nat) : Int := ((q + 0 : Nat) : Int)
theorem markIntS_any (A : Option Addr) (c : Nat) (xs : List (Int)) (k0 base : Nat) (w : World) (hb : xs.length ≤ 2097152) (hk0 : k0 ≤ 1073741824) (hown : Own wX 1 w base 3 (.slice A xs.length c) xs) :
    Calls Tryz.prog 52 #[.slice A xs.length c, .int .i64 (k0 : Int)] w fun e w' => e = .returned (.int .i64 (mend k0 1 xs.length)) ∧
      Own wX 1 w' base 3 (.slice A xs.length c) (qT kO 1 k0 xs.length) ∧ w.grownBy w' (Value.slice A xs.length c).ownBlock := by
  have ML := Lib.hid (marks_len kO 1 k0 xs.length)
  go_enter Tryz.func52, Tryz.ntmps52
  go_wp2
  go_loopw [5, 1] (fun i kk wr => ∃ k q : Nat, k ≤ xs.length ∧ i = .int .i64 k ∧ kk = .int .i64 (q : Int) ∧ Hid (q = k0 + 1 * k) ∧ q ≤ 1082130432 ∧ w.grownBy wr (Value.slice A xs.length c).ownBlock ∧
    Own wX 1 wr base 3 (.slice A xs.length c) (kN xs (qT kO 1 k0 xs.length) k)) (fun i _ _ => xs.length - (intOf i).toNat)
  case atStart => exact ⟨0, k0, Nat.zero_le _, rfl, rfl, by show k0 = _; omega, by omega, grown_refl _ _, by rw [turn_zero]; exact hown⟩
  case round =>
    obtain ⟨k, q, hk, rfl, rfl, HQ, hq, hg, hownr⟩ := hrel
    by_cases hlt : k < xs.length
    · obtain ⟨x, hx⟩ := vF hlt
      obtain ⟨g, rfl, hbg, hgl⟩ := hown.block (by omega)
      have hlen := (turn_len xs (qT kO 1 k0 xs.length) k ML.out hk).symm
      have hy := turn_at xs (qT kO 1 k0 xs.length) k ML.out x hx
      have hd0 := hownr.cellAt vW hlen hy (j := 0) (by omega)
      have f0 := hownr.frozenAt hlen (k * 1 + 0)
      simp only [wX, Nat.add_zero, Nat.mul_one, List.getElem?_cons_zero] at hd0 f0
      have X := Lib.hid hx
      have HY := Lib.hid hy
      have HL := Lib.hid hlen
      have OW := Lib.hid hownr
      have hk1 : (k : Int) < (xs.length : Int) := by omega
      clear hx hy hlen hown hownr
      go_wp2
      go_roundw
      case rel =>
        refine ⟨k + 1, q + 1, by omega, by go_num, by go_num, ?_, ?_, ?_, ?_⟩
        · have := HQ.out
          show q + 1 = k0 + 1 * (k + 1)
          omega
        · have := HQ.out
          omega
        · refine grown_set hg _ _
        · have h4 := OW.out.set1 vW HL.out HY.out (x := kO q) rfl
          rw [turn_set xs _ k ML.out (kO q) (by rw [marks_at _ _ _ _ _ hlt, ← HQ.out])] at h4
          exact h4
      case measure => simp [intOf]; omega
    · go_wp2
      go_ret
      obtain rfl : k = xs.length := by omega
      rw [turn_all _ _ ML.out] at hownr
      exact ⟨by rw [HQ.out]; rfl, hownr, hg⟩
end Go.Proofs.YtchpdclknbmdoaaGreatDoor
namespace Go.Proofs.YtchpdclknbmdoaaGreatDoor
open Go.RowKit
theorem toEntry_any (A : Option Addr) (c : Nat) (o : List Int) (t : ByteArray) (w : World) (hb : o.length ≤ 2097152) (hr : Rd wX 1 w w.heap.size A o) :
    Calls Tryz.prog 149 #[.agg #[.slice A o.length c, .string t]] w fun e w' => ∃ g cap, e = .returned (.agg #[.slice (some ⟨g, 0, none⟩) o.length cap, .string t]) ∧ Own wX 1 w' w.heap.size 3 (.slice (some ⟨g, 0, none⟩) o.length cap) o ∧ Below w.heap.size w w' := by
  have hr1 : ∀ W1, Below w.heap.size w W1 → Rd wX 1 W1 W1.heap.size A o := fun W1 h => (hr.below h (Nat.le_refl _)).mono h.size
  have HR := Lib.hid hr1
  clear hr1 hr
  go_enter Tryz.func149, Tryz.ntmps149
  go_wp2_with fail
  refine (toIntS_any _ _ _ _ hb (HR.out _ (by repeat (first | exact Below.refl _ _ | assumption | refine Below.alloc ?_ (by first | (simp; done) | (simp; omega) | omega) _ | refine Below.setCell ?_ (by first | (simp; done) | (simp; omega) | omega) _ | refine Below.drew ?_)))).mono ?_
  rintro e w1 ⟨g, cap, rfl, hown, hb1⟩
  have hsz := hb1.size
  simp only [World.size_alloc] at hsz hown hb1
  have c0 : w1.cell? ⟨w.heap.size, 1, none⟩ = some (.string t) := (hb1.cell (p := ⟨w.heap.size, 1, none⟩) (by first | (simp; done) | (simp; omega) | omega)).trans (by go_simp)
  have c1 : w1.cell? ⟨w.heap.size + 1, 0, none⟩ = some (.slice none 0 0) := (hb1.cell (p := ⟨w.heap.size + 1, 0, none⟩) (by first | (simp; done) | (simp; omega) | omega)).trans (by go_simp)
  have c1' : w1.cell? ⟨w.heap.size + 1, 1, none⟩ = some (.string ⟨#[]⟩) := (hb1.cell (p := ⟨w.heap.size + 1, 1, none⟩) (by first | (simp; done) | (simp; omega) | omega)).trans (by go_simp)
  have c2 : w1.cell? ⟨w.heap.size + 2, 0, none⟩ = some (.slice none 0 0) := (hb1.cell (p := ⟨w.heap.size + 2, 0, none⟩) (by first | (simp; done) | (simp; omega) | omega)).trans (by go_simp)
  have c2' : w1.cell? ⟨w.heap.size + 2, 1, none⟩ = some (.string ⟨#[]⟩) := (hb1.cell (p := ⟨w.heap.size + 2, 1, none⟩) (by first | (simp; done) | (simp; omega) | omega)).trans (by go_simp)
  have f1 : w1.frozen? ⟨w.heap.size + 1, 0, none⟩ = false := (hb1.frozen (p := ⟨w.heap.size + 1, 0, none⟩) (by first | (simp; done) | (simp; omega) | omega)).trans (by go_simp)
  have f1' : w1.frozen? ⟨w.heap.size + 1, 1, none⟩ = false := (hb1.frozen (p := ⟨w.heap.size + 1, 1, none⟩) (by first | (simp; done) | (simp; omega) | omega)).trans (by go_simp)
  have f2 : w1.frozen? ⟨w.heap.size + 2, 0, none⟩ = false := (hb1.frozen (p := ⟨w.heap.size + 2, 0, none⟩) (by first | (simp; done) | (simp; omega) | omega)).trans (by go_simp)
  have f2' : w1.frozen? ⟨w.heap.size + 2, 1, none⟩ = false := (hb1.frozen (p := ⟨w.heap.size + 2, 1, none⟩) (by first | (simp; done) | (simp; omega) | omega)).trans (by go_simp)
  have OW := Lib.hid hown
  have hbel : Below w.heap.size w w1 := (show Below w.heap.size w _ by repeat (first | exact Below.refl _ _ | assumption | refine Below.alloc ?_ (by first | (simp; done) | (simp; omega) | omega) _ | refine Below.setCell ?_ (by first | (simp; done) | (simp; omega) | omega) _ | refine Below.drew ?_)).trans (hb1.mono (by first | (simp; done) | (simp; omega) | omega))
  have hgb := hown.block_lt.1
  clear hown hb1
  go_wp2
  refine bodyPost_ret (v := .agg #[.slice (some ⟨g, 0, none⟩) o.length cap, .string t]) (by simp [results, Tryz.results149, go_sem, c1, c1']) rfl ⟨g, cap, rfl, ?_, ?_⟩
  · refine ((((OW.out.mono (by omega)).setFar ?_ _).setFar ?_ _).setFar ?_ _).setFar ?_ _ <;> (intro e; simp [Value.ownBlock] at e; omega)
  · repeat (first | exact Below.refl _ _ | assumption | refine Below.alloc ?_ (by first | (simp; done) | (simp; omega) | omega) _ | refine Below.setCell ?_ (by first | (simp; done) | (simp; omega) | omega) _ | refine Below.drew ?_)
abbrev EnV := (Option Addr × Nat × Nat) × ByteArray
def qY (x : EnV) : List Value := [.slice x.1.1 x.1.2.1 x.1.2.2, .string x.2]
theorem w6 (x : EnV) : (qY x).length = 2 := rfl
def zV : EnV := ((none, 0, 0), ⟨#[]⟩)
abbrev EnL := List Int × ByteArray
def RdE (w : World) (B : Nat) (A : Option Addr) (es : List EnL) : Prop := ∀ (k : Nat) (e : EnL), es[k]? = some e → ∃ b o A' c', A = some ⟨b, o, none⟩ ∧ b < B ∧ w.cell? ⟨b, o + k * 2, none⟩ = some (.slice A' e.1.length c') ∧ w.cell? ⟨b, o + k * 2 + 1, none⟩ = some (.string e.2) ∧ Rd wX 1 w B A' e.1 ∧ e.1.length ≤ c'
theorem RdE.below {w w' : World} {B B' : Nat} {A : Option Addr} {es : List EnL} (h : RdE w B A es) (hb : Below B' w w') (hB : B ≤ B') : RdE w' B A es := fun k e he => by
  obtain ⟨b, o, A', c', h1, h2, h3, h4, h5, h6⟩ := h k e he
  exact ⟨b, o, A', c', h1, h2, (hb.cell (p := ⟨b, o + k * 2, none⟩) (by show b < B'; omega)).trans h3, (hb.cell (p := ⟨b, o + k * 2 + 1, none⟩) (by show b < B'; omega)).trans h4, h5.below hb hB, h6⟩
theorem RdE.mono {w : World} {B B' : Nat} {A : Option Addr} {es : List EnL} (h : RdE w B A es) (hB : B ≤ B') : RdE w B' A es := fun k e he => by
  obtain ⟨b, o, A', c', h1, h2, h3, h4, h5, h6⟩ := h k e he
  exact ⟨b, o, A', c', h1, by omega, h3, h4, h5.mono hB, h6⟩
def OkE (w : World) (base : Nat) (xs : List EnV) (es : List EnL) : Prop := ∀ (k : Nat) (x : EnV) (e : EnL), xs[k]? = some x → es[k]? = some e → x.2 = e.2 ∧ x.1.2.1 = e.1.length ∧ Own wX 1 w base 3 (.slice x.1.1 e.1.length x.1.2.2) e.1
theorem OkE.below {w w' : World} {base : Nat} {xs : List EnV} {es : List EnL} (h : OkE w base xs es) (hb : Below w.heap.size w w') : OkE w' base xs es := fun k x e hx he => by
  obtain ⟨h1, h2, h3⟩ := h k x e hx he
  exact ⟨h1, h2, h3.below hb⟩
theorem OkE.far {w : World} {base : Nat} {xs : List EnV} {es : List EnL} (h : OkE w base xs es) {p : Addr} (hp : p.block < base) (u : Value) : OkE (w.setCell p u) base xs es := fun k x e hx he => by
  obtain ⟨h1, h2, h3⟩ := h k x e hx he
  refine ⟨h1, h2, h3.setFar (fun e' => ?_) u⟩
  have := (h3.lt _ e').1
  omega
theorem OkE.snoc {w : World} {base : Nat} {xs : List EnV} {es : List EnL} {x : EnV} {e : EnL} (h : OkE w base xs es) (he : es[xs.length]? = some e) (h1 : x.2 = e.2) (h2 : x.1.2.1 = e.1.length) (h3 : Own wX 1 w base 3 (.slice x.1.1 e.1.length x.1.2.2) e.1) : OkE w base (xs ++ [x]) es := fun k y d hy hd => by
  by_cases hk : k < xs.length
  · rw [List.getElem?_append_left hk] at hy
    exact h k y d hy hd
  · have hk2 := (List.getElem?_eq_some_iff.1 hy).1
    rw [List.length_append] at hk2
    simp only [List.length_cons, List.length_nil] at hk2
    obtain rfl : k = xs.length := by omega
    rw [List.getElem?_append_right (Nat.le_refl _), Nat.sub_self] at hy
    cases hy
    rw [he] at hd
    cases hd
    exact ⟨h1, h2, h3⟩
def DisV (xs : List EnV) : Prop := ∀ (j k : Nat) (x y : EnV) (b : Nat), j < k → xs[j]? = some x → xs[k]? = some y → (Value.slice x.1.1 x.1.2.1 x.1.2.2).ownBlock = some b → (Value.slice y.1.1 y.1.2.1 y.1.2.2).ownBlock ≠ some b
def LtV (xs : List EnV) (N : Nat) : Prop := ∀ (k : Nat) (x : EnV) (b : Nat), xs[k]? = some x → (Value.slice x.1.1 x.1.2.1 x.1.2.2).ownBlock = some b → b < N
theorem snoc_at {α : Type} {xs : List α} {x y : α} {k : Nat} (h : (xs ++ [x])[k]? = some y) : (k < xs.length ∧ xs[k]? = some y) ∨ (k = xs.length ∧ y = x) := by
  by_cases hk : k < xs.length
  · rw [List.getElem?_append_left hk] at h
    exact .inl ⟨hk, h⟩
  · have hk2 := (List.getElem?_eq_some_iff.1 h).1
    rw [List.length_append] at hk2
    simp only [List.length_cons, List.length_nil] at hk2
    obtain rfl : k = xs.length := by omega
    rw [List.getElem?_append_right (Nat.le_refl _), Nat.sub_self] at h
    cases h
    exact .inr ⟨rfl, rfl⟩
theorem DisV.snoc {xs : List EnV} {x : EnV} {N : Nat} (h : DisV xs) (hl : LtV xs N) (hx : ∀ b, (Value.slice x.1.1 x.1.2.1 x.1.2.2).ownBlock = some b → N ≤ b) : DisV (xs ++ [x]) := fun j k y z b hjk hy hz hb hc => by
  rcases snoc_at hz with ⟨hk, hz'⟩ | ⟨rfl, rfl⟩
  · rcases snoc_at hy with ⟨hj, hy'⟩ | ⟨rfl, rfl⟩
    · exact h j k y z b hjk hy' hz' hb hc
    · omega
  · rcases snoc_at hy with ⟨hj, hy'⟩ | ⟨rfl, rfl⟩
    · have h1 := hl j y b hy' hb
      have h2 := hx b hc
      omega
    · omega
theorem LtV.snoc {xs : List EnV} {x : EnV} {N M : Nat} (h : LtV xs N) (hNM : N ≤ M) (hx : ∀ b, (Value.slice x.1.1 x.1.2.1 x.1.2.2).ownBlock = some b → b < M) : LtV (xs ++ [x]) M := fun k y b hy hb => by
  rcases snoc_at hy with ⟨hk, hy'⟩ | ⟨rfl, rfl⟩
  · exact Nat.lt_of_lt_of_le (h k y b hy' hb) hNM
  · exact hx b hb
theorem OkE.nil {w : World} {base : Nat} {es : List EnL} : OkE w base [] es := fun k x e hx => by simp at hx
theorem DisV.nil : DisV [] := fun j k x y b _ hx => by simp at hx
theorem LtV.nil {N : Nat} : LtV [] N := fun k x b hx => by simp at hx
theorem infoV : (Tryz.prog.info? 98).map (fun i => (i.zero, i.size, i.bytes)) = some (some (.agg #[.slice none 0 0, .string ⟨#[]⟩]), 2, 40) := by kernel_rfl
theorem mk_V {ops : Array Oper} {rest : List Oper} {o : Oper} {a : Act} {Q : Exit → Act → World → Prop} (W : World) (hgd : o.guard = none) (l c : Operand)
    (ho : o.op = Op.makeSlice 24 l c) (n : Nat) (hl : a.eval l = .int .i64 (n : Int)) (hc : a.eval c = .int .i64 (n : Int)) (hn : n ≤ 2097152)
    (h : ∀ w', Own qY 2 w' W.heap.size 98 (.slice (some ⟨W.heap.size, 0, none⟩) n n) (List.replicate n zV) → Below W.heap.size W w' → W.heap.size < w'.heap.size → wpList Tryz.prog ops Q rest (a.put o.dst (.slice (some ⟨W.heap.size, 0, none⟩) n n)) w') : wpList Tryz.prog ops Q (o :: rest) a W :=
  wpList_mk qY 2 W hgd l c _ _ _ 40 ho Tryz.underlying24 infoV (by omega) w6 zV rfl n _ _ hl hc rfl rfl (by omega) (by unfold maxLen; omega) h
theorem rep_set {ys : List EnV} {x : EnV} {n : Nat} (h : ys.length < n) : (ys ++ List.replicate (n - ys.length) zV).set ys.length x = (ys ++ [x]) ++ List.replicate (n - (ys.length + 1)) zV := by
  rw [show n - ys.length = (n - (ys.length + 1)) + 1 by omega, List.replicate_succ, List.set_append_right _ _ (Nat.le_refl _), Nat.sub_self, List.append_assoc]
  rfl
theorem toEntryS_any (A : Option Addr) (c : Nat) (es : List EnL) (w : World) (hb : es.length ≤ 2097152) (hbo : ∀ e ∈ es, e.1.length ≤ 2097152) (hr : RdE w w.heap.size A es) :
    Calls Tryz.prog 97 #[.slice A es.length c] w fun e w' => ∃ xs : List EnV, e = .returned (.slice (some ⟨w.heap.size, 0, none⟩) es.length es.length) ∧ xs.length = es.length ∧ Own qY 2 w' w.heap.size 98 (.slice (some ⟨w.heap.size, 0, none⟩) es.length es.length) xs ∧ OkE w' (w.heap.size + 1) xs es ∧ (DisV xs ∧ LtV xs w'.heap.size) ∧ Below w.heap.size w w' := by
  go_enter Tryz.func97, Tryz.ntmps97
  go_wp2_with (at_make; refine mk_V _ rfl (.tmp 6) (.tmp 6) rfl es.length rfl rfl hb ?_; rintro w1 hown1 hb1 hlt1)
  go_loopw [4] (fun i wr => ∃ (k : Nat) (ys : List EnV), k ≤ es.length ∧ ys.length = k ∧ i = .int .i64 k ∧ Below w.heap.size w wr ∧ w.heap.size < wr.heap.size ∧
    Own qY 2 wr w.heap.size 98 (.slice (some ⟨w.heap.size, 0, none⟩) es.length es.length) (ys ++ List.replicate (es.length - k) zV) ∧ OkE wr (w.heap.size + 1) ys es ∧ DisV ys ∧ LtV ys wr.heap.size) (fun i _ => es.length - (intOf i).toNat)
  case atStart => exact ⟨0, [], Nat.zero_le _, rfl, rfl, hb1, hlt1, by rw [List.nil_append, Nat.sub_zero]; exact hown1, .nil, .nil, .nil⟩
  case round =>
    obtain ⟨k, ys, hk, hyl, rfl, hbel, hlt0, hown, hoke, hdis, hltv⟩ := hrel
    by_cases hlt : k < es.length
    · obtain ⟨x, hx⟩ := vF hlt
      obtain ⟨b, o, A', c', rfl, hbB, hc0, hc1, hrd, _⟩ := (hr.below hbel (Nat.le_refl _)) k x hx
      have hbx := hbo x (List.mem_of_getElem? hx)
      have X := Lib.hid hx
      have OW := Lib.hid hown
      have OK := Lib.hid hoke
      have RD := Lib.hid hrd
      have YL := Lib.hid hyl
      have DI := Lib.hid hdis
      have LV := Lib.hid hltv
      have hk1 : (k : Int) < (es.length : Int) := by omega
      clear hx hr hown hown1 hoke hrd hyl hbo hdis hltv
      go_wp2_with fail
      refine (toEntry_any A' c' x.1 x.2 _ hbx (RD.out.mono (Nat.le_of_lt hlt0))).mono ?_
      rintro e w2 ⟨g, cap, rfl, hown', hb2⟩
      have hlt2 := Nat.lt_of_lt_of_le hlt0 hb2.size
      have hown2 := OW.out.below hb2
      have hyl := YL.out
      have hy : (ys ++ List.replicate (es.length - k) zV)[k]? = some zV := by
        rw [List.getElem?_append_right (by omega), hyl, Nat.sub_self, List.getElem?_replicate, if_pos (by omega)]
      have hlen : es.length = (ys ++ List.replicate (es.length - k) zV).length := by rw [List.length_append, List.length_replicate]; omega
      have hd0 := hown2.cellAt w6 hlen hy (j := 0) (by omega)
      have f0 := hown2.frozenAt hlen (k * 2 + 0)
      have hd1 := hown2.cellAt w6 hlen hy (j := 1) (by omega)
      have f1 := hown2.frozenAt hlen (k * 2 + 1)
      simp only [qY, zV, Nat.add_zero, List.getElem?_cons_zero, List.getElem?_cons_succ] at hd0 hd1 f0 f1
      have HY := Lib.hid hy
      have HL := Lib.hid hlen
      have OW2 := Lib.hid hown2
      have OWN := Lib.hid hown'
      have HB2 := Lib.hid hb2.size
      clear hy hlen hown2 hown' hyl
      go_wp2
      go_roundw
      case rel =>
        refine ⟨k + 1, ys ++ [((some ⟨g, 0, none⟩, x.1.length, cap), x.2)], by omega, ?_, by go_num, ?_, ?_, ?_, ?_, ?_, ?_⟩
        · rw [List.length_append, YL.out]; rfl
        · have h3 := hbel.trans (hb2.mono hbel.size)
          repeat (first | exact Below.refl _ _ | assumption | refine Below.alloc ?_ (by first | (simp; done) | (simp; omega) | omega) _ | refine Below.setCell ?_ (by first | (simp; done) | (simp; omega) | omega) _ | refine Below.drew ?_)
        · simp; omega
        · have h4 := OW2.out.set2 w6 HL.out HY.out (x := ((some ⟨g, 0, none⟩, x.1.length, cap), x.2)) rfl
          have hyl := YL.out
          subst hyl
          rw [rep_set (by omega)] at h4
          exact h4
        · have h5 : OkE w2 (w.heap.size + 1) (ys ++ [((some ⟨g, 0, none⟩, x.1.length, cap), x.2)]) es := (OK.out.below hb2).snoc (by rw [YL.out]; exact X.out) rfl rfl (OWN.out.mono (by omega))
          exact (h5.far (by simp) _).far (by simp) _
        · exact DI.out.snoc LV.out fun b hb => (OWN.out.lt b hb).1
        · simp only [World.size_setCell]
          exact LV.out.snoc HB2.out fun b hb => (OWN.out.lt b hb).2
      case measure => simp [intOf]; omega
    · go_wp2
      go_ret
      obtain rfl : k = es.length := by omega
      rw [Nat.sub_self, List.replicate_zero, List.append_nil] at hown
      exact ⟨ys, rfl, hyl, hown, hoke, ⟨hdis, hltv⟩, hbel⟩
theorem toDictionary_any (A : Option Addr) (c : Nat) (es : List EnL) (w : World) (hb : es.length ≤ 2097152) (hbo : ∀ e ∈ es, e.1.length ≤ 2097152) (hr : RdE w w.heap.size A es) :
    Calls Tryz.prog 34 #[.agg #[.slice A es.length c]] w fun e w' => ∃ (g : Nat) (xs : List EnV), e = .returned (.agg #[.slice (some ⟨g, 0, none⟩) es.length es.length]) ∧ xs.length = es.length ∧ Own qY 2 w' w.heap.size 98 (.slice (some ⟨g, 0, none⟩) es.length es.length) xs ∧ OkE w' (g + 1) xs es ∧ (DisV xs ∧ LtV xs w'.heap.size) ∧ Below w.heap.size w w' := by
  have hr1 : ∀ W1, Below w.heap.size w W1 → RdE W1 W1.heap.size A es := fun W1 h => (hr.below h (Nat.le_refl _)).mono h.size
  have HR := Lib.hid hr1
  clear hr1 hr
  go_enter Tryz.func34, Tryz.ntmps34
  go_wp2_with fail
  refine (toEntryS_any _ _ _ _ hb hbo (HR.out _ (by repeat (first | exact Below.refl _ _ | assumption | refine Below.alloc ?_ (by first | (simp; done) | (simp; omega) | omega) _ | refine Below.setCell ?_ (by first | (simp; done) | (simp; omega) | omega) _ | refine Below.drew ?_)))).mono ?_
  rintro e w1 ⟨xs, rfl, hxl, hown, hoke, ⟨hdis, hltv⟩, hb1⟩
  have hsz := hb1.size
  simp only [World.size_alloc] at hsz hown hb1 hoke
  have c1 : w1.cell? ⟨w.heap.size + 1, 0, none⟩ = some (.slice none 0 0) := (hb1.cell (p := ⟨w.heap.size + 1, 0, none⟩) (by first | (simp; done) | (simp; omega) | omega)).trans (by go_simp)
  have c2 : w1.cell? ⟨w.heap.size + 2, 0, none⟩ = some (.slice none 0 0) := (hb1.cell (p := ⟨w.heap.size + 2, 0, none⟩) (by first | (simp; done) | (simp; omega) | omega)).trans (by go_simp)
  have f1 : w1.frozen? ⟨w.heap.size + 1, 0, none⟩ = false := (hb1.frozen (p := ⟨w.heap.size + 1, 0, none⟩) (by first | (simp; done) | (simp; omega) | omega)).trans (by go_simp)
  have f2 : w1.frozen? ⟨w.heap.size + 2, 0, none⟩ = false := (hb1.frozen (p := ⟨w.heap.size + 2, 0, none⟩) (by first | (simp; done) | (simp; omega) | omega)).trans (by go_simp)
  have OW := Lib.hid hown
  have OK := Lib.hid hoke
  have LV := Lib.hid hltv
  have hbel : Below w.heap.size w w1 := (show Below w.heap.size w _ by repeat (first | exact Below.refl _ _ | assumption | refine Below.alloc ?_ (by first | (simp; done) | (simp; omega) | omega) _ | refine Below.setCell ?_ (by first | (simp; done) | (simp; omega) | omega) _ | refine Below.drew ?_)).trans (hb1.mono (by first | (simp; done) | (simp; omega) | omega))
  clear hown hb1 hoke hltv
  go_wp2
  refine bodyPost_ret (v := .agg #[.slice (some ⟨w.heap.size + 1 + 1 + 1, 0, none⟩) es.length es.length]) (by simp [results, Tryz.results34, go_sem, c1]) rfl ⟨_, xs, rfl, hxl, ?_, ?_, ⟨hdis, ?_⟩, ?_⟩
  · refine ((OW.out.mono (by omega)).setFar ?_ _).setFar ?_ _ <;> (intro e; simp [Value.ownBlock] at e; try omega)
  · exact (OK.out.far (by simp) _).far (by simp <;> omega) _
  · simp only [World.size_setCell]; exact LV.out
  · repeat (first | exact Below.refl _ _ | assumption | refine Below.alloc ?_ (by first | (simp; done) | (simp; omega) | omega) _ | refine Below.setCell ?_ (by first | (simp; done) | (simp; omega) | omega) _ | refine Below.drew ?_)
end Go.Proofs.YtchpdclknbmdoaaGreatDoor
namespace Go.Proofs.YtchpdclknbmdoaaGreatDoor
open Go Go.RowKit
structure Fr (lo hi : Nat) (w w' : World) : Prop where
  os : w'.os = w.os
  tape : w'.tape = w.tape
  output : w'.output = w.output
  size : w.heap.size ≤ w'.heap.size
  block : ∀ k, k < w.heap.size → (k < lo ∨ hi ≤ k) → w'.heap[k]? = w.heap[k]?
theorem Fr.refl (lo hi : Nat) (w : World) : Fr lo hi w w := ⟨rfl, rfl, rfl, Nat.le_refl _, fun _ _ _ => rfl⟩
theorem Fr.trans {lo hi : Nat} {a b c : World} (h : Fr lo hi a b) (k : Fr lo hi b c) : Fr lo hi a c :=
  ⟨k.os.trans h.os, k.tape.trans h.tape, k.output.trans h.output, Nat.le_trans h.size k.size, fun i hi' hn => (k.block i (Nat.lt_of_lt_of_le hi' h.size) hn).trans (h.block i hi' hn)⟩
theorem Fr.of_below {lo hi : Nat} {a b : World} (h : Below a.heap.size a b) : Fr lo hi a b := ⟨h.os, h.tape, h.output, h.size, fun k hk _ => h.block k hk⟩
theorem Fr.of_grown {lo hi : Nat} {a b : World} {E : Option Nat} (h : a.grownBy b E) (hE : ∀ g, E = some g → lo ≤ g ∧ g < hi) : Fr lo hi a b :=
  ⟨h.os, h.tape, h.output, h.size, fun k hk hn => h.block k hk fun e => by have := hE k e.symm; omega⟩
theorem Fr.set {lo hi : Nat} (w : World) (p : Addr) (u : Value) (h : lo ≤ p.block ∧ p.block < hi) : Fr lo hi w (w.setCell p u) :=
  ⟨rfl, rfl, rfl, by simp, fun k hk hn => by
    have hne : k ≠ p.block := by omega
    exact heap_setCell_other w p k u hne⟩
theorem plain_all2 {I : Nat → Prop} {β : Nat → Option BI} {w : World} : ∀ {xs : List Value}, (∀ x ∈ xs, x.oneCell' = true) → All2 (RepF I β w) (xs.map fun x => AVal.c (.v x)) xs
  | [], _ => .nil
  | x :: xs, h => .cons (Rep.imm (.v x (h x (List.mem_cons_self ..)))) (plain_all2 fun y hy => h y (List.mem_cons_of_mem _ hy))
theorem pf_plain {P : Program} {f : Nat} {xs : List Value} {r : Value} (h : PF P f (xs.map fun x => AVal.c (.v x)) [] (.c (.v r))) (h1 : ∀ x ∈ xs, x.oneCell' = true) {w : World} {I : Nat → Prop} (hI : ∀ b, I b → b < w.heap.size) (gi : GI I w) : Calls P f xs.toArray w fun e w' => e = .returned r ∧ Below w.heap.size w w' := by
  refine (h.run I (fun _ => none) w xs hI gi (fun o B e => by cases e) (fun o obj e => by simp at e) (fun o o' obj obj' B B' b e => by simp at e) (plain_all2 h1)).mono ?_
  rintro e w' ⟨v, I', β', rfl, hv, hk, _⟩
  have hv' : Rep I' β' w' (.v r) v := hv
  cases hv' with
  | imm hv' =>
    cases hv' with
    | v _ _ => exact ⟨rfl, ⟨hk.os, hk.tape, hk.output, hk.size, fun k hlt => hk.block k hlt fun ⟨o, B, ho, _⟩ => absurd ho (Nat.not_lt_zero _)⟩⟩
abbrev SlV := Option Addr × Nat × Nat
def vS (s : SlV) : Value := .slice s.1 s.2.1 s.2.2
def MkS (w : World) (base : Nat) (S : List SlV) : Prop := ∀ (k : Nat) (s : SlV), S[k]? = some s → ∃ o : List Int, s.2.1 = o.length ∧ o.length ≤ 2097152 ∧ Own wX 1 w base 3 (.slice s.1 o.length s.2.2) o
def DisS (S : List SlV) : Prop := ∀ (j k : Nat) (s t : SlV) (b : Nat), j ≠ k → S[j]? = some s → S[k]? = some t → (vS s).ownBlock = some b → (vS t).ownBlock ≠ some b
def LtS (S : List SlV) (N : Nat) : Prop := ∀ (k : Nat) (s : SlV) (b : Nat), S[k]? = some s → (vS s).ownBlock = some b → b < N
def totS (S : List SlV) : Nat := (S.map fun s => s.2.1 + 1).sum
theorem totS_drop {S : List SlV} {k : Nat} {s : SlV} (h : S[k]? = some s) : totS (S.drop k) = s.2.1 + 1 + totS (S.drop (k + 1)) := by
  obtain ⟨h1, h2⟩ := List.getElem?_eq_some_iff.1 h
  rw [List.drop_eq_getElem_cons h1, h2, totS, List.map_cons, List.sum_cons, totS]
theorem map_at1 {xs : List EnV} {k : Nat} {s : SlV} (h : (xs.map (·.1))[k]? = some s) : ∃ x, xs[k]? = some x ∧ x.1 = s := by
  rw [List.getElem?_map] at h
  cases hx : xs[k]? with
  | none => rw [hx] at h; cases h
  | some x => rw [hx] at h; cases h; exact ⟨x, rfl, rfl⟩
theorem DisS.of {xs : List EnV} (h : DisV xs) : DisS (xs.map (·.1)) := fun j k s t b hjk hs ht hb hc => by
  obtain ⟨x, hx, rfl⟩ := map_at1 hs
  obtain ⟨y, hy, rfl⟩ := map_at1 ht
  rcases Nat.lt_or_gt_of_ne hjk with hlt | hlt
  · exact h j k x y b hlt hx hy hb hc
  · exact h k j y x b hlt hy hx hc hb
theorem LtS.of {xs : List EnV} {N : Nat} (h : LtV xs N) : LtS (xs.map (·.1)) N := fun k s b hs hb => by
  obtain ⟨x, hx, rfl⟩ := map_at1 hs
  exact h k x b hx hb
theorem MkS.of {xs : List EnV} {es : List EnL} {w : World} {base : Nat} (hl : xs.length = es.length) (h : OkE w base xs es) (hb : ∀ e ∈ es, e.1.length ≤ 2097152) : MkS w base (xs.map (·.1)) := fun k s hs => by
  obtain ⟨x, hx, rfl⟩ := map_at1 hs
  have hk := (List.getElem?_eq_some_iff.1 hx).1
  have he : es[k]? = some (es[k]'(by omega)) := List.getElem?_eq_getElem (by omega)
  obtain ⟨_, h2, h3⟩ := h k x _ hx he
  exact ⟨_, h2, hb _ (List.getElem_mem _), h3⟩
theorem MkS.below {w w' : World} {base : Nat} {S : List SlV} (h : MkS w base S) (hb : Below w.heap.size w w') : MkS w' base S := fun k s hs => by
  obtain ⟨o, h1, h2, h3⟩ := h k s hs
  exact ⟨o, h1, h2, h3.below hb⟩
theorem MkS.far {w : World} {base : Nat} {S : List SlV} (h : MkS w base S) {p : Addr} (hp : p.block < base) (u : Value) : MkS (w.setCell p u) base S := fun k s hs => by
  obtain ⟨o, h1, h2, h3⟩ := h k s hs
  refine ⟨o, h1, h2, h3.setFar (fun e' => ?_) u⟩
  have := (h3.lt _ e').1
  omega
theorem MkS.step {w w' : World} {base : Nat} {S : List SlV} {k : Nat} {A : Option Addr} {c : Nat} {o o' : List Int} (h : MkS w base S) (hd : DisS S) (hs : S[k]? = some (A, o.length, c)) (hl : o'.length = o.length) (hb : o.length ≤ 2097152)
    (hg : w.grownBy w' (Value.slice A o.length c).ownBlock) (hown : Own wX 1 w' base 3 (.slice A o.length c) o') : MkS w' base S := fun j s hj => by
  by_cases e : j = k
  · subst e
    rw [hs] at hj
    cases hj
    exact ⟨o', hl.symm, by omega, by rw [hl]; exact hown⟩
  · obtain ⟨p, h1, h2, h3⟩ := h j s hj
    refine ⟨p, h1, h2, h3.kept hg ?_⟩
    cases hb' : (Value.slice s.1 p.length s.2.2).ownBlock with
    | none => exact .inl rfl
    | some b => exact .inr fun e' => hd j k s _ b e hj hs (by rw [vS, h1]; exact hb') e'.symm
theorem map_set1 {ys : List EnV} {S : List SlV} {k : Nat} {y : EnV} {t : ByteArray} (h : ys.map (·.1) = S) (hy : ys[k]? = some y) : (ys.set k (y.1, t)).map (·.1) = S := by
  rw [List.map_set, h]
  have : S[k]? = some y.1 := by rw [← h, List.getElem?_map, hy]; rfl
  obtain ⟨h1, h2⟩ := List.getElem?_eq_some_iff.1 this
  rw [← h2, List.set_getElem_self]
theorem GI.fr {lo hi : Nat} {w w' : World} (h : GI (fun b => b < lo) w) (hf : Fr lo hi w w') : GI (fun b => b < lo) w' := h.mono (fun b _ hb => hb) fun b hb hl => hf.block b hb (.inl hl)
set_option maxHeartbeats 1000000 in
theorem markEntryS_any (g n : Nat) (xs : List EnV) (k0 lo hi : Nat) (w : World) (gi : GI (fun b => b < lo) w) (hlo : lo ≤ w.heap.size) (hn : n ≤ 2097152) (hxl : xs.length = n)
    (hown : Own qY 2 w lo 98 (.slice (some ⟨g, 0, none⟩) n n) xs) (hmk : MkS w (g + 1) (xs.map (·.1))) (hdis : DisS (xs.map (·.1))) (hlt : LtS (xs.map (·.1)) hi) (hg : lo ≤ g ∧ g < hi)
    (htot : k0 + totS (xs.map (·.1)) ≤ 8388608) :
    Calls Tryz.prog 102 #[.slice (some ⟨g, 0, none⟩) n n, .int .i64 (k0 : Int)] w fun e w' => (∃ k1 : Nat, e = .returned (.int .i64 (k1 : Int))) ∧ Fr lo hi w w' := by
  obtain ⟨S, hS⟩ : ∃ S, xs.map (·.1) = S := ⟨_, rfl⟩
  rw [hS] at hmk hdis hlt htot
  have hSl : S.length = n := by rw [← hS, List.length_map, hxl]
  go_enter Tryz.func102, Tryz.ntmps102
  go_wp2
  go_loopw [5, 1] (fun i kk wr => ∃ (k q : Nat) (ys : List EnV), k ≤ n ∧ i = .int .i64 k ∧ kk = .int .i64 (q : Int) ∧ Hid (ys.map (·.1) = S) ∧ Own qY 2 wr lo 98 (.slice (some ⟨g, 0, none⟩) n n) ys ∧ MkS wr (g + 1) S ∧ Fr lo hi w wr ∧ q + totS (S.drop k) ≤ 8388608) (fun i _ _ => n - (intOf i).toNat)
  case atStart => exact ⟨0, k0, xs, Nat.zero_le _, rfl, rfl, hS, hown, hmk, Fr.refl _ _ _, by rw [List.drop_zero]; exact htot⟩
  case round =>
    obtain ⟨k, q, ys, hk, rfl, rfl, HY, hownr, hmkr, hfr, htr⟩ := hrel
    have hyl : ys.length = n := by
      have := congrArg List.length HY.out
      rw [List.length_map] at this
      omega
    by_cases hkn : k < n
    · obtain ⟨y, hy⟩ := vF (show k < ys.length by omega)
      have hs : S[k]? = some y.1 := by rw [← HY.out, List.getElem?_map, hy]; rfl
      obtain ⟨⟨A', n', c'⟩, t⟩ := y
      obtain ⟨o, ho1, ho2, ho3⟩ := hmkr k _ hs
      simp only at ho1 ho3
      subst ho1
      have htd := totS_drop hs
      simp only at htd
      have hd0 := hownr.cellAt w6 hyl.symm hy (j := 0) (by omega)
      simp only [qY, Nat.add_zero, List.getElem?_cons_zero] at hd0
      have hk1 : (k : Int) < (n : Int) := by omega
      have hqb : q ≤ 8388608 := by omega
      have OW := Lib.hid hownr
      have MK := Lib.hid hmkr
      have FR := Lib.hid hfr
      have O3 := Lib.hid ho3
      have HS := Lib.hid hs
      have HYY := Lib.hid hy
      have YL := Lib.hid hyl
      clear hownr hmkr hfr ho3 hs hy hyl hown hmk
      go_wp2_with fail
      refine (markIntS_any A' c' o q (g + 1) _ ho2 (by omega) O3.out).mono ?_
      rintro e w2 ⟨rfl, hown', hg2⟩
      simp only [mend_eq, Nat.one_mul]
      have hqo : q + o.length ≤ 1082130432 := by omega
      have hE : ∀ b, (Value.slice A' o.length c').ownBlock = some b → g + 1 ≤ b ∧ b < hi := fun b hb => ⟨(O3.out.lt b hb).1, hlt k _ b HS.out hb⟩
      have how2 := OW.out.kept hg2 (by
        cases hb : (Value.slice A' o.length c').ownBlock with
        | none => exact .inr (by simp [Value.ownBlock])
        | some b =>
          refine .inr (fun e => ?_)
          have h9 := (hE b hb).1
          simp [Value.ownBlock] at e
          omega)
      have hmk2 := MK.out.step hdis HS.out (by rw [marks_len]) ho2 hg2 hown'
      have hfr2 := FR.out.trans (Fr.of_grown (lo := lo) (hi := hi) hg2 fun b hb => by have := hE b hb; omega)
      have hyl := YL.out
      have OW2 := Lib.hid how2
      have MK2 := Lib.hid hmk2
      have FR2 := Lib.hid hfr2
      clear how2 hmk2 hfr2 hown' hg2 hyl hd0 FR MK OW
      go_wp2_with fail
      refine (pf_plain (xs := [.int .i64 ((q + o.length : Nat) : Int)]) (markText_pf (q + o.length) (by omega)) (fun x hx => by simp at hx; subst hx; rfl) (I := fun b => b < lo) (fun b hb => Nat.lt_of_lt_of_le hb (Nat.le_trans hlo FR2.out.size)) (gi.fr FR2.out)).mono ?_
      rintro e w3 ⟨rfl, hb3⟩
      have how3 := OW2.out.below hb3
      have hd1 := how3.cellAt w6 YL.out.symm HYY.out (j := 1) (by omega)
      have f1 := how3.frozenAt YL.out.symm (k * 2 + 1)
      simp only [qY, List.getElem?_cons_zero, List.getElem?_cons_succ] at hd1
      have OW3 := Lib.hid how3
      have MK3 := Lib.hid (MK2.out.below hb3)
      have FR3 := Lib.hid (FR2.out.trans (Fr.of_below (lo := lo) (hi := hi) hb3))
      clear how3 hb3 OW2 MK2 FR2
      go_wp2
      go_roundw
      case rel =>
        refine ⟨k + 1, q + o.length + 1, ys.set k ((A', o.length, c'), ⟨⟨mt (q + o.length)⟩⟩), by omega, by go_num, by go_num, map_set1 HY.out HYY.out, ?_, ?_, ?_, by omega⟩
        · exact OW3.out.setAt w6 YL.out.symm HYY.out (j := 1) (by omega) rfl
        · exact MK3.out.far (by simp) _
        · exact FR3.out.trans (Fr.set _ _ _ ⟨hg.1, hg.2⟩)
      case measure => simp [intOf]; omega
    · go_wp2
      go_ret
      exact ⟨⟨q, rfl⟩, hfr⟩
end Go.Proofs.YtchpdclknbmdoaaGreatDoor
namespace Go.Proofs.YtchpdclknbmdoaaGreatDoor
open Go Go.RowKit
theorem markDictionary_any (g n : Nat) (xs : List EnV) (k0 lo hi : Nat) (w : World) (gi : GI (fun b => b < lo) w) (hlo : lo ≤ w.heap.size) (hn : n ≤ 2097152) (hxl : xs.length = n)
    (hown : Own qY 2 w lo 98 (.slice (some ⟨g, 0, none⟩) n n) xs) (hmk : MkS w (g + 1) (xs.map (·.1))) (hdis : DisS (xs.map (·.1))) (hlt : LtS (xs.map (·.1)) hi) (hg : lo ≤ g ∧ g < hi)
    (htot : k0 + totS (xs.map (·.1)) ≤ 8388608) :
    Calls Tryz.prog 39 #[.agg #[.slice (some ⟨g, 0, none⟩) n n], .int .i64 (k0 : Int)] w fun e w' => (∃ k1 : Nat, e = .returned (.int .i64 (k1 : Int))) ∧ Fr lo hi w w' := by
  have hr1 : ∀ W1, Below w.heap.size w W1 → Calls Tryz.prog 102 #[.slice (some ⟨g, 0, none⟩) n n, .int .i64 (k0 : Int)] W1 fun e w' => (∃ k1 : Nat, e = .returned (.int .i64 (k1 : Int))) ∧ Fr lo hi W1 w' := fun W1 hb =>
    markEntryS_any g n xs k0 lo hi W1 (gi.fr (lo := lo) (hi := hi) (Fr.of_below hb)) (Nat.le_trans hlo hb.size) hn hxl (hown.below hb) (hmk.below hb) hdis hlt hg htot
  have HR := Lib.hid hr1
  clear hr1 hown hmk hdis hlt gi
  go_enter Tryz.func39, Tryz.ntmps39
  have hb : Below w.heap.size w (w.alloc (.cells #[.slice (some ⟨g, 0, none⟩) n n] 26)) := q8 w _
  go_wp2_with (go_at_call 102; refine (HR.out _ (by assumption)).mono ?_; rintro e w1 ⟨⟨k1, rfl⟩, hfr⟩)
  go_ret
  exact ⟨⟨k1, rfl⟩, (Fr.of_below hb).trans hfr⟩
def enL (es : List Ent) : List EnL := es.map fun e => (e.o, ⟨⟨e.t⟩⟩)
theorem ints_repI {I : Nat → Prop} {w : World} {B : Nat} {A : Option Addr} {o : List Int} {c : Nat} (h : Rd wX 1 w B A o) (hc : o.length ≤ c) (hI : ∀ b f, A = some ⟨b, f, none⟩ → b < B → I b) : RepI I w (.sl (o.map yQ)) (.slice A o.length c) := by
  cases o with
  | nil => exact .sl0 A c
  | cons x o =>
    obtain ⟨b, f, rfl, hb, _⟩ := h.int (k := 0) rfl
    have hat : ∀ (i : Nat) y, (x :: o)[i]? = some y → w.cell? ⟨b, f + i, none⟩ = some (.int .i64 y) := fun i y hy => by
      obtain ⟨b', f', e, _, h2⟩ := h.int hy
      simp only [Option.some.injEq, Addr.mk.injEq, and_true] at e
      obtain ⟨rfl, rfl⟩ := e
      exact h2
    refine .sl _ b f 1 _ c (fun i j => .int .i64 ((x :: o)[i]?.getD 0)) (by rw [List.length_map]) hc (fun y hy => ?_) (hI b f rfl hb) (fun i j y d hy hd => ?_) (fun i j y d hy hd => ?_)
    · obtain ⟨p, _, rfl⟩ := List.mem_map.1 hy; rfl
    · rw [List.getElem?_map] at hy
      cases hi : (x :: o)[i]? with
      | none => rw [hi] at hy; cases hy
      | some p =>
        rw [hi] at hy
        cases hy
        cases j with
        | zero => rw [Nat.mul_one, Nat.add_zero]; exact hat i p hi
        | succ j => simp [yQ] at hd
    · rw [List.getElem?_map] at hy
      cases hi : (x :: o)[i]? with
      | none => rw [hi] at hy; cases hy
      | some p =>
        rw [hi] at hy
        cases hy
        cases j with
        | zero =>
          simp only [yQ, List.getElem?_cons_zero] at hd
          cases hd
          exact .v _ rfl
        | succ j => simp [yQ] at hd
theorem ints_rep {w : World} {B : Nat} {A : Option Addr} {o : List Int} {c : Nat} (h : Rd wX 1 w B A o) (hc : o.length ≤ c) : RepI (fun b => b < B) w (.sl (o.map yQ)) (.slice A o.length c) := ints_repI h hc fun _ _ _ hb => hb
theorem enL_at {es : List Ent} {k : Nat} {e : EnL} (h : (enL es)[k]? = some e) : ∃ d, es[k]? = some d ∧ e = (d.o, ⟨⟨d.t⟩⟩) := by
  rw [enL, List.getElem?_map] at h
  cases hd : es[k]? with
  | none => rw [hd] at h; cases h
  | some d => rw [hd] at h; cases h; exact ⟨d, rfl, rfl⟩
theorem enL_of {es : List Ent} {k : Nat} {d : Ent} (h : es[k]? = some d) : (enL es)[k]? = some (d.o, ⟨⟨d.t⟩⟩) := by
  rw [enL, List.getElem?_map, h]; rfl
theorem enL_len (es : List Ent) : (enL es).length = es.length := List.length_map _
theorem ents_rep {w : World} {B : Nat} {A : Option Addr} {es : List Ent} {c : Nat} (h : RdE w B A (enL es)) (hc : es.length ≤ c) : RepI (fun b => b < B) w (.sl (es.map xN)) (.slice A es.length c) := by
  cases es with
  | nil => exact .sl0 A c
  | cons e0 es =>
    obtain ⟨b, f, _, _, rfl, hb, _⟩ := h 0 _ (enL_of rfl)
    have hat : ∀ (i : Nat) (d : Ent), (e0 :: es)[i]? = some d → ∃ A' c', w.cell? ⟨b, f + i * 2, none⟩ = some (.slice A' d.o.length c') ∧ w.cell? ⟨b, f + i * 2 + 1, none⟩ = some (.string ⟨⟨d.t⟩⟩) ∧ Rd wX 1 w B A' d.o ∧ d.o.length ≤ c' := fun i d hd => by
      obtain ⟨b', f', A', c', e, _, h3, h4, h5, h6⟩ := h i _ (enL_of hd)
      simp only [Option.some.injEq, Addr.mk.injEq, and_true] at e
      obtain ⟨rfl, rfl⟩ := e
      exact ⟨A', c', h3, h4, h5, h6⟩
    have hex : ∀ (i j : Nat), ∃ u, ∀ x d, ((e0 :: es).map xN)[i]? = some x → x[j]? = some d → w.cell? ⟨b, f + i * 2 + j, none⟩ = some u ∧ RepI (fun b => b < B) w d u := fun i j => by
      cases hi : (e0 :: es)[i]? with
      | none =>
        refine ⟨undef, fun x d hx => ?_⟩
        rw [List.getElem?_map, hi] at hx
        cases hx
      | some p =>
        obtain ⟨A', c', h3, h4, h5, h6⟩ := hat i p hi
        match j with
        | 0 =>
          refine ⟨.slice A' p.o.length c', fun x d hx hd => ?_⟩
          rw [List.getElem?_map, hi] at hx
          cases hx
          simp only [xN, List.getElem?_cons_zero] at hd
          cases hd
          exact ⟨h3, ints_rep h5 h6⟩
        | 1 =>
          refine ⟨.string ⟨⟨p.t⟩⟩, fun x d hx hd => ?_⟩
          rw [List.getElem?_map, hi] at hx
          cases hx
          simp only [xN, List.getElem?_cons_zero, List.getElem?_cons_succ] at hd
          cases hd
          exact ⟨h4, .v _ rfl⟩
        | j + 2 =>
          refine ⟨undef, fun x d hx hd => ?_⟩
          rw [List.getElem?_map, hi] at hx
          cases hx
          simp [xN] at hd
    refine .sl _ b f 2 _ c (fun i j => Classical.choose (hex i j)) (by rw [List.length_map]) hc (fun y hy => ?_) hb (fun i j x d hx hd => (Classical.choose_spec (hex i j) x d hx hd).1) (fun i j x d hx hd => (Classical.choose_spec (hex i j) x d hx hd).2)
    obtain ⟨p, _, rfl⟩ := List.mem_map.1 hy; rfl
theorem repI_v {I : Nat → Prop} {w : World} {x v : Value} (h : RepI I w (.v x) v) : v = x := by cases h with | v _ _ => rfl
theorem rep_ints {I : Nat → Prop} {w : World} {B : Nat} {o : List Int} {v : Value} (h : RepI I w (.sl (o.map yQ)) v) (hI : ∀ b, I b → b < B) : ∃ A c, v = .slice A o.length c ∧ o.length ≤ c ∧ Rd wX 1 w B A o := by
  generalize hx : Cell.sl (o.map yQ) = x at h
  cases h with
  | v _ _ => cases hx
  | nil => cases hx
  | ip _ _ _ _ _ _ _ => cases hx
  | fn _ _ _ _ _ _ _ => cases hx
  | sl0 A cap =>
    injection hx with hx
    have : o = [] := List.map_eq_nil_iff.1 hx
    subst this
    exact ⟨A, cap, rfl, Nat.zero_le _, fun k x h => by simp at h⟩
  | sl xs b f sz n cap u h1 h2 h3 h4 h5 h6 =>
    injection hx with hx
    subst hx
    rw [List.length_map] at h1
    subst h1
    refine ⟨_, cap, rfl, h2, fun k p hp => ⟨b, f, rfl, hI b h4, fun j q hq => ?_⟩⟩
    have hx : (o.map yQ)[k]? = some (yQ p) := xM hp
    have hsz : sz = 1 := (h3 _ (List.mem_of_getElem? hx)).symm
    subst hsz
    cases j with
    | zero =>
      simp only [wX, List.getElem?_cons_zero, Option.some.injEq] at hq
      subst hq
      have h7 := h6 k 0 _ (int p) hx rfl
      have h8 := h5 k 0 _ (int p) hx rfl
      have e : u k 0 = .int .i64 p := repI_v h7
      rw [e] at h8
      exact h8
    | succ j => simp [wX] at hq
theorem rep_ents {I : Nat → Prop} {w : World} {B : Nat} {es : List Ent} {v : Value} (h : RepI I w (.sl (es.map xN)) v) (hI : ∀ b, I b → b < B) : ∃ A c, v = .slice A es.length c ∧ es.length ≤ c ∧ RdE w B A (enL es) := by
  generalize hx : Cell.sl (es.map xN) = x at h
  cases h with
  | v _ _ => cases hx
  | nil => cases hx
  | ip _ _ _ _ _ _ _ => cases hx
  | fn _ _ _ _ _ _ _ => cases hx
  | sl0 A cap =>
    injection hx with hx
    have : es = [] := List.map_eq_nil_iff.1 hx
    subst this
    exact ⟨A, cap, rfl, Nat.zero_le _, fun k x h => by simp [enL] at h⟩
  | sl xs b f sz n cap u h1 h2 h3 h4 h5 h6 =>
    injection hx with hx
    subst hx
    rw [List.length_map] at h1
    subst h1
    refine ⟨_, cap, rfl, h2, fun k p hp => ?_⟩
    obtain ⟨d, hd, rfl⟩ := enL_at hp
    have hx : (es.map xN)[k]? = some (xN d) := xM hd
    have hsz : sz = 2 := (h3 _ (List.mem_of_getElem? hx)).symm
    subst hsz
    have c0 := h5 k 0 _ (.sl (d.o.map yQ)) hx rfl
    have r0 := h6 k 0 _ (.sl (d.o.map yQ)) hx rfl
    have c1 := h5 k 1 _ (str d.t) hx rfl
    have r1 := h6 k 1 _ (str d.t) hx rfl
    obtain ⟨A', c', e, hle, hrd⟩ := rep_ints r0 hI
    rw [e] at c0
    have e1 : u k 1 = .string ⟨⟨d.t⟩⟩ := repI_v r1
    rw [e1] at c1
    exact ⟨b, f, A', c', rfl, hI b h4, c0, c1, hrd, hle⟩
theorem own_RdE {w : World} {g base : Nat} {xs : List EnV} {es : List EnL} (hl : xs.length = es.length) (h : Own qY 2 w base 98 (.slice (some ⟨g, 0, none⟩) es.length es.length) xs) (hk : OkE w (g + 1) xs es) : RdE w w.heap.size (some ⟨g, 0, none⟩) es := fun k e he => by
  have hk1 := (List.getElem?_eq_some_iff.1 he).1
  obtain ⟨x, hx⟩ := vF (show k < xs.length by omega)
  obtain ⟨h1, h2, h3⟩ := hk k x e hx he
  have d0 := h.cellAt w6 hl.symm hx (j := 0) (by omega)
  have d1 := h.cellAt w6 hl.symm hx (j := 1) (by omega)
  simp only [qY, Nat.add_zero, List.getElem?_cons_zero, List.getElem?_cons_succ] at d0 d1
  rw [h2] at d0
  rw [h1] at d1
  refine ⟨g, 0, x.1.1, x.1.2.2, rfl, (h.lt g rfl).2, by rw [Nat.zero_add]; exact d0, by rw [Nat.zero_add]; exact d1, h3.rd (by omega) vW, h3.cap_le⟩
end Go.Proofs.YtchpdclknbmdoaaGreatDoor
namespace Go.Proofs.YtchpdclknbmdoaaGreatDoor
open Go Go.RowKit
def noB : Nat → Prop := fun _ => False
def GotI (lo hi : Nat) (w : World) (L : List Int) (k : Nat) (v : Value) : Prop := k ≤ L.length ∧ ∃ β, ObjAt noB β w (fun b => lo ≤ b ∧ b < hi) 0 ⟨3, 1, L.map yQ⟩ ∧ Rep noB β w (.ref 0 0 k) v
theorem GotI.nil (lo hi : Nat) (w : World) : GotI lo hi w [] 0 (.slice none 0 0) :=
  ⟨Nat.le_refl _, fun _ => some ⟨none, 1, 0⟩, ⟨⟨none, 1, 0⟩, rfl, (fun x hx => by simp at hx), (fun _ => rfl), (fun b hb => by simp at hb)⟩, .ref0 0 1 0 rfl⟩
theorem flat_int {I I' : Nat → Prop} {β : Nat → Option BI} {w w' : World} {l : List Int} {x : List Cell} {c : Cell} {u : Value} {β' : Nat → Option BI} {i j : Nat} (hx : (l.map yQ)[i]? = some x) (hj : x[j]? = some c) (h : Rep I β w c u) : Rep I' β' w' c u := by
  obtain ⟨p, _, rfl⟩ := List.mem_map.1 (List.mem_of_getElem? hx)
  have := List.mem_of_getElem? hj
  simp only [yQ, List.mem_singleton] at this
  subst this
  cases h with
  | imm h => cases h with | v _ h => exact .imm (.v _ h)
theorem obj_ints {I I' : Nat → Prop} {β β' : Nat → Option BI} {w w' : World} {M M' : Nat → Prop} {l : List Int} (h : ObjAt I β w M 0 ⟨3, 1, l.map yQ⟩) (hβ : β' 0 = β 0) (hb : ∀ b B, β 0 = some B → B.blk = some b → M b → ¬ I' b ∧ M' b ∧ w'.heap[b]? = w.heap[b]?) : ObjAt I' β' w' M' 0 ⟨3, 1, l.map yQ⟩ := by
  obtain ⟨B, hB, h2, h3, h4⟩ := h
  refine ⟨B, hβ.trans hB, h2, h3, fun b hbb => ?_⟩
  obtain ⟨k0, k1, k2, arr, k3, k4, k5, k6, k7⟩ := h4 b hbb
  obtain ⟨q1, q2, q3⟩ := hb b B hB hbb k1
  refine ⟨k0, q2, q1, arr, q3.trans k3, k4, k5, k6, fun i j x c hx hj => ?_⟩
  obtain ⟨u, hu, hr⟩ := k7 i j x c hx hj
  exact ⟨u, hu, flat_int hx hj hr⟩
theorem ref_rep {I I' : Nat → Prop} {β β' : Nat → Option BI} {w w' : World} {k : Nat} {v : Value} (h : Rep I β w (.ref 0 0 k) v) (hβ : β' 0 = β 0) : Rep I' β' w' (.ref 0 0 k) v := by
  cases h with
  | imm h => cases h
  | ref _ _ _ b sz cap C h1 h2 h3 => exact .ref 0 0 k b sz cap C (hβ.trans h1) h2 h3
  | refE _ _ A cap h => exact absurd rfl h
  | ref0 _ sz C h => exact .ref0 0 sz C (hβ.trans h)
theorem GotI.keep {lo hi lo' hi' : Nat} {w w' : World} {L : List Int} {k : Nat} {v : Value} (h : GotI lo hi w L k v) (hl : lo' ≤ lo) (hh : hi ≤ hi') (hb : ∀ b, lo ≤ b → b < hi → w'.heap[b]? = w.heap[b]?) : GotI lo' hi' w' L k v := by
  obtain ⟨h1, β, h2, h3⟩ := h
  exact ⟨h1, β, obj_ints h2 rfl fun b B _ _ hM => ⟨fun h => h, ⟨by omega, by omega⟩, hb b hM.1 hM.2⟩, ref_rep h3 rfl⟩
theorem GotI.below {lo hi : Nat} {w w' : World} {L : List Int} {k : Nat} {v : Value} (h : GotI lo hi w L k v) (hh : hi ≤ w.heap.size) (hb : Below w.heap.size w w') : GotI lo hi w' L k v :=
  h.keep (Nat.le_refl _) (Nat.le_refl _) fun b _ h2 => hb.block b (by omega)
theorem GotI.fr {lo hi lo' hi' : Nat} {w w' : World} {L : List Int} {k : Nat} {v : Value} (h : GotI lo hi w L k v) (hh : hi ≤ w.heap.size) (hf : Fr lo' hi' w w') (hd : hi ≤ lo' ∨ hi' ≤ lo) : GotI lo hi w' L k v :=
  h.keep (Nat.le_refl _) (Nat.le_refl _) fun b h1 h2 => hf.block b (by omega) (by omega)
theorem GotI.rep {lo hi : Nat} {w : World} {L : List Int} {k : Nat} {v : Value} (h : GotI lo hi w L k v) : RepI (fun b => lo ≤ b ∧ b < hi) w (.sl ((L.take k).map yQ)) v := by
  obtain ⟨h1, β, ⟨B, hB, e2, e3, e4⟩, h3⟩ := h
  cases h3 with
  | imm h => cases h
  | refE _ _ A cap h => exact absurd rfl h
  | ref0 _ sz C h => rw [List.take_zero]; exact .sl0 none 0
  | ref _ _ _ b sz cap C q1 q2 q3 =>
    rw [hB] at q1
    obtain rfl : B = ⟨some b, sz, C⟩ := Option.some.inj q1
    obtain ⟨k0, k1, _, arr, k3, k4, k5, k6, k7⟩ := e4 b rfl
    have k0' : sz = 1 := k0
    subst k0'
    have hat : ∀ (i : Nat) p, (L.take k)[i]? = some p → w.cell? ⟨b, 0 * 1 + i, none⟩ = some (.int .i64 p) := fun i p hp => by
      have hp' : L[i]? = some p := by
        rw [List.getElem?_take] at hp
        split at hp
        · exact hp
        · cases hp
      obtain ⟨u, hu, hr⟩ := k7 i 0 _ (int p) (xM (f := yQ) hp') rfl
      have e : u = .int .i64 p := by
        cases hr with
        | imm hr => exact repI_v hr
      have hu' : arr[i * 1 + 0]? = some u := hu
      rw [Nat.mul_one, Nat.add_zero] at hu'
      rw [cell_of_row w b _ arr _ _ k3, Nat.zero_mul, Nat.zero_add, hu', e]
    have hrd : Rd wX 1 w (b + 1) (some ⟨b, 0 * 1, none⟩) (L.take k) := fun i p hp => ⟨b, 0 * 1, rfl, Nat.lt_succ_self b, fun j q hq => by
      cases j with
      | zero =>
        simp only [wX, List.getElem?_cons_zero, Option.some.injEq] at hq
        subst hq
        have := hat i p hp
        simpa using this
      | succ j => simp [wX] at hq⟩
    have hl : (L.take k).length = k := by rw [List.length_take]; omega
    have hr := ints_repI (I := fun b => lo ≤ b ∧ b < hi) (c := cap) hrd (by omega) (fun b' f e _ => by
      simp only [Option.some.injEq, Addr.mk.injEq, and_true] at e
      obtain ⟨rfl, _⟩ := e
      exact ⟨k1.1, k1.2⟩)
    rw [hl] at hr
    exact hr
end Go.Proofs.YtchpdclknbmdoaaGreatDoor
namespace Go.Proofs.YtchpdclknbmdoaaGreatDoor
open Go Go.RowKit
theorem qJ {P : Program} {f : Nat} {ys : List AVal} {fr : List AObj} {r : AVal} (h : PF P f ys fr r) {w : World} (gi : GI (fun b => b < w.heap.size) w) {vals : List Value} (ha : All2 (RepF (fun b => b < w.heap.size) (fun _ => none) w) ys vals) :
    Calls P f vals.toArray w fun e w' => ∃ v I' β', e = .returned v ∧ RepV I' β' w' r v ∧ Below w.heap.size w w' ∧ (∀ b, I' b → b < w'.heap.size) ∧ ∀ (o : Nat) obj, fr[o]? = some obj → ObjAt I' β' w' (fun b => w.heap.size ≤ b) o obj := by
  refine (h.run _ (fun _ => none) w vals (fun b hb => hb) gi (fun o B e => by cases e) (fun o obj e => by simp at e) (fun o o' obj obj' B B' b e => by simp at e) ha).mono ?_
  rintro e w' ⟨v, I', β', rfl, hv, hk, hI, _, _, _, ho, _⟩
  refine ⟨v, I', β', rfl, hv, ⟨hk.os, hk.tape, hk.output, hk.size, fun k hlt => hk.block k hlt fun ⟨o, B, ho, _⟩ => absurd ho (Nat.not_lt_zero _)⟩, hI, fun o obj hob => ?_⟩
  refine (ho o obj (by rw [List.getElem?_map, hob]; rfl)).mayMono fun b hb => ?_
  rcases hb with ⟨o, B, ho, _⟩ | hb
  · exact absurd ho (Nat.not_lt_zero _)
  · exact hb
theorem tup_two {I : Nat → Prop} {β : Nat → Option BI} {w : World} {x y : AVal} {v : Value} (h : RepV I β w (.tup [x, y]) v) : ∃ a b, v = .tuple #[a, b] ∧ RepF I β w x a ∧ RepF I β w y b := by
  obtain ⟨vals, rfl, h1⟩ := RepV.tup.1 h
  cases h1 with
  | cons h1 h2 => cases h2 with
    | cons h2 h3 => cases h3 with
      | nil => exact ⟨_, _, rfl, h1, h2⟩
theorem qA {I : Nat → Prop} {β : Nat → Option BI} {w : World} {x v : Value} (h : Rep I β w (.v x) v) : v = x := by
  cases h with
  | imm h => exact repI_v h
theorem got_tup {I : Nat → Prop} {β : Nat → Option BI} {w w' : World} {L : List Int} {k : Nat} {b : Bool} {v : Value} (h : RepV I β w' (.tup [.c (.ref 0 0 k), .c (boo b)]) v) (hk : k ≤ L.length) (ho : ObjAt I β w' (fun b => w.heap.size ≤ b) 0 ⟨3, 1, L.map yQ⟩) :
    ∃ u, v = .tuple #[u, .bool b] ∧ GotI w.heap.size w'.heap.size w' L k u := by
  obtain ⟨u, y, rfl, h1, h2⟩ := tup_two h
  have h2' : Rep I β w' (boo b) y := h2
  have e : y = .bool b := qA h2'
  subst e
  refine ⟨u, rfl, hk, β, obj_ints ho rfl fun q B hB hb hM => ⟨fun h => h, ⟨hM, (ho.lt hB hb).1⟩, rfl⟩, ref_rep h1 rfl⟩
theorem nil_tup {I : Nat → Prop} {β : Nat → Option BI} {w : World} {b : Bool} {v : Value} (h : RepV I β w (.tup [.c .nil, .c (boo b)]) v) : v = .tuple #[.slice none 0 0, .bool b] := by
  obtain ⟨u, y, rfl, h1, h2⟩ := tup_two h
  have h2' : Rep I β w (boo b) y := h2
  have e : y = .bool b := qA h2'
  subst e
  have h1' : Rep I β w .nil u := h1
  cases h1' with
  | imm h => cases h; rfl
theorem GI.up {w0 w : World} (h : GI (fun b => b < w0.heap.size) w0) (hb : ∀ b, b < w0.heap.size → w.heap[b]? = w0.heap[b]?) (hs : w0.heap.size ≤ w.heap.size) : GI (fun b => b < w.heap.size) w := h.mono (fun b hb _ => Nat.lt_of_lt_of_le hb hs) fun b hb' _ => hb b hb'
theorem kD {lo hi lo' hi' : Nat} {w : World} {L L' : List Int} {k k' : Nat} {v v' : Value} (h : GotI lo hi w L k v) (h' : GotI lo' hi' w L' k' v') (he : L.take k = L'.take k') (hb : (L.take k).length ≤ 4000000) (hh : hi ≤ w.heap.size) (hh' : hi' ≤ w.heap.size) (gi : GI (fun b => b < w.heap.size) w) :
    Calls Tryz.prog 51 #[v, v'] w fun e w' => e = .returned (.bool true) ∧ Below w.heap.size w w' := by
  have r1 := h.rep.mono (I' := fun b => b < w.heap.size) (fun b hb => by have := hb.2; omega) (fun _ _ => rfl)
  have r2 := h'.rep.mono (I' := fun b => b < w.heap.size) (fun b hb => by have := hb.2; omega) (fun _ _ => rfl)
  rw [← he] at r2
  refine (qJ (eqIntS_pf (L.take k) hb) gi (vals := [v, v']) (.cons (Rep.imm r1) (.cons (Rep.imm r2) .nil))).mono ?_
  rintro e w' ⟨u, I', β', rfl, hv, hb, _⟩
  have e : u = .bool true := qA (show Rep I' β' w' (boo true) u from hv)
  rw [e]
  exact ⟨rfl, hb⟩
theorem markGot {lo hi : Nat} {w : World} {L : List Int} {v : Value} {k : Nat} (h : GotI lo hi w L L.length v) (hl : L.length ≤ 4000000) (hk : k ≤ 1000000) (hh : hi ≤ w.heap.size) (gi : GI (fun b => b < lo) w) (hlo : lo ≤ w.heap.size) :
    Calls Tryz.prog 52 #[v, .int .i64 (k : Int)] w fun e w' => e = .returned (.int .i64 ((k : Int) + L.length)) ∧ GotI lo hi w' (mkI k L.length) (mkI k L.length).length v ∧ Fr lo hi w w' := by
  obtain ⟨_, β, h2, h3⟩ := h
  have hin : ∀ b B, β 0 = some B → B.blk = some b → lo ≤ b ∧ b < hi := fun b B hB hb => (h2.lt hB hb).2.1
  have hβ : ∀ o B, (fun o => if o = 0 then β 0 else none) o = some B → o = 0 ∧ β 0 = some B := fun o B e => by
    simp only at e
    split at e
    · exact ⟨by assumption, e⟩
    · cases e
  have hblk : ∀ b, wW (fun o => if o = 0 then β 0 else none) 1 b → lo ≤ b ∧ b < hi := fun b ⟨o, B, _, hB, hb⟩ => hin b B (hβ o B hB).2 hb
  refine ((markIntS_pfm L k hl (by omega) (by omega)).run (fun b => b < lo) (fun o => if o = 0 then β 0 else none) w [v, .int .i64 (k : Int)] (fun b hb => Nat.lt_of_lt_of_le hb hlo) gi (fun o B e => by have := (hβ o B e).1; simp; omega) (fun o obj e => ?_) (fun o o' obj obj' B B' b e e' hne hB hB' => absurd ((hβ o B hB).1.trans (hβ o' B' hB').1.symm) hne) (.cons (ref_rep h3 rfl) (.cons (Rep.imm (.v _ rfl)) .nil))).mono ?_
  · cases o with
    | zero =>
      simp only [List.getElem?_cons_zero, Option.some.injEq] at e
      subst e
      exact obj_ints h2 rfl fun b B hB hb hM => ⟨fun hlt => by have := hM.1; omega, ⟨0, B, by simp, by simpa using hB, hb⟩, rfl⟩
    | succ o => simp at e
  · rintro e w' ⟨u, I', β', rfl, hv, hk, hI, _, _, h5, h6, _⟩
    have e : u = .int .i64 ((k : Int) + L.length) := qA (show Rep I' β' w' (int ((k : Int) + L.length)) u from hv)
    subst e
    have hβ0 : β' 0 = β 0 := by have := h5 0 (by simp); simpa using this
    have ho := h6 0 _ rfl
    refine ⟨rfl, ⟨Nat.le_refl _, β', obj_ints ho rfl fun b B hB hb _ => ⟨fun h => h, hin b B (by rw [← hβ0]; exact hB) hb, rfl⟩, ?_⟩, ⟨hk.os, hk.tape, hk.output, hk.size, fun b hb hn => hk.block b hb fun hbl => by have := hblk b hbl; omega⟩⟩
    rw [qK]
    exact ref_rep h3 hβ0
theorem heldGot {lo hi : Nat} {w : World} {k n : Nat} {v : Value} (h : GotI lo hi w (mkI k n) (mkI k n).length v) (hn : n ≤ 4000000) (hk : k ≤ 1000000) (hh : hi ≤ w.heap.size) (gi : GI (fun b => b < w.heap.size) w) :
    Calls Tryz.prog 53 #[v, .int .i64 (k : Int)] w fun e w' => e = .returned (.int .i64 ((k : Int) + n)) ∧ Below w.heap.size w w' := by
  have r1 := h.rep.mono (I' := fun b => b < w.heap.size) (fun b hb => by have := hb.2; omega) (fun _ _ => rfl)
  rw [List.take_length] at r1
  refine (qJ (heldIntS_pf (mkI k n) k (by rw [qK]; omega) (by omega) (by omega) (by rw [qK])) gi (vals := [v, .int .i64 (k : Int)]) (.cons (Rep.imm r1) (.cons (Rep.imm (.v _ rfl)) .nil))).mono ?_
  rintro e w' ⟨u, I', β', rfl, hv, hb, _⟩
  rw [qK] at hv
  have e : u = .int .i64 ((k : Int) + n) := qA (show Rep I' β' w' (int ((k : Int) + n)) u from hv)
  rw [e]
  exact ⟨rfl, hb⟩
end Go.Proofs.YtchpdclknbmdoaaGreatDoor
namespace Go.Proofs.YtchpdclknbmdoaaGreatDoor
open Go Go.RowKit
def kT (f : Nat) (es : List Ent) (xs : List Value) (L : List Int) (k : Nat) (b : Bool) : Prop := ∀ (W : World) (A : Option Addr) (c : Nat), RdE W W.heap.size A (enL es) → es.length ≤ c → GI (fun b => b < W.heap.size) W →
  Calls Tryz.prog f (Value.agg #[.slice A es.length c] :: xs).toArray W fun e W' => ∃ u, e = .returned (.tuple #[u, .bool b]) ∧ GotI W.heap.size W'.heap.size W' L k u ∧ Below W.heap.size W W'
theorem dic_rep {W : World} {A : Option Addr} {es : List Ent} {c : Nat} (h : RdE W W.heap.size A (enL es)) (hc : es.length ≤ c) : RepF (fun b => b < W.heap.size) (fun _ => none) W (.agg (vE es)) (.agg #[.slice A es.length c]) :=
  ⟨[_], rfl, .cons (Rep.imm (ents_rep h hc)) .nil⟩
theorem gives_yes {f : Nat} {es : List Ent} {xs : List Value} {L : List Int} {k : Nat} {b : Bool} (h1 : ∀ x ∈ xs, x.oneCell' = true) (hk : k ≤ L.length) (h : PF Tryz.prog f (.agg (vE es) :: xs.map fun x => AVal.c (.v x)) [⟨3, 1, L.map yQ⟩] (.tup [.c (.ref 0 0 k), .c (boo b)])) : kT f es xs L k b := fun W A c hr hc gi => by
  refine (qJ h gi (.cons (dic_rep hr hc) (plain_all2 h1))).mono ?_
  rintro e w' ⟨v, I', β', rfl, hv, hb, _, ho⟩
  obtain ⟨u, rfl, hg⟩ := got_tup hv hk (ho 0 _ rfl)
  exact ⟨u, rfl, hg, hb⟩
theorem gives_no {f : Nat} {es : List Ent} {xs : List Value} {b : Bool} (h1 : ∀ x ∈ xs, x.oneCell' = true) (h : PF Tryz.prog f (.agg (vE es) :: xs.map fun x => AVal.c (.v x)) [] (.tup [.c .nil, .c (boo b)])) : kT f es xs [] 0 b := fun W A c hr hc gi => by
  refine (qJ h gi (.cons (dic_rep hr hc) (plain_all2 h1))).mono ?_
  rintro e w' ⟨v, I', β', rfl, hv, hb, _, _⟩
  rw [nil_tup hv]
  exact ⟨_, rfl, GotI.nil _ _ _, hb⟩
theorem szDic_call {es : List Ent} {l : Int} (hb : kW es) (h0 : 0 ≤ l) (hl : l ≤ 1048576) {W : World} {A : Option Addr} {c : Nat} (hr : RdE W W.heap.size A (enL es)) (hc : es.length ≤ c) (gi : GI (fun b => b < W.heap.size) W) :
    Calls Tryz.prog 32 #[.agg #[.slice A es.length c], .int .i64 l] W fun e W' => e = .returned (.int .i64 (vR es l)) ∧ Below W.heap.size W W' := by
  refine (qJ (szDictionary_pf es l hb h0 hl) gi (vals := [_, .int .i64 l]) (.cons (dic_rep hr hc) (.cons (Rep.imm (.v _ rfl)) .nil))).mono ?_
  rintro e w' ⟨u, I', β', rfl, hv, hb, _⟩
  have e : u = .int .i64 (vR es l) := qA (show Rep I' β' w' (int (vR es l)) u from hv)
  rw [e]
  exact ⟨rfl, hb⟩
theorem eqDic_call {es : List Ent} (hb : qQ es) {W : World} {A A' : Option Addr} {c c' : Nat} (hr : RdE W W.heap.size A (enL es)) (hc : es.length ≤ c) (hr' : RdE W W.heap.size A' (enL es)) (hc' : es.length ≤ c') (gi : GI (fun b => b < W.heap.size) W) :
    Calls Tryz.prog 37 #[.agg #[.slice A es.length c], .agg #[.slice A' es.length c']] W fun e W' => e = .returned (.bool true) ∧ Below W.heap.size W W' := by
  refine (qJ (eqDictionary_pf es hb) gi (vals := [_, _]) (.cons (dic_rep hr hc) (.cons (dic_rep hr' hc') .nil))).mono ?_
  rintro e w' ⟨u, I', β', rfl, hv, hb, _⟩
  have e : u = .bool true := qA (show Rep I' β' w' (boo true) u from hv)
  rw [e]
  exact ⟨rfl, hb⟩
structure Cp (lo hi : Nat) (w : World) (g : Nat) (es : List Ent) (xs : List EnV) : Prop where
  len : xs.length = es.length
  own : Own qY 2 w lo 98 (.slice (some ⟨g, 0, none⟩) es.length es.length) xs
  ok : OkE w (g + 1) xs (enL es)
  dis : DisV xs
  lt : LtV xs hi
  lo_ : lo ≤ g
  hi_ : g < hi
theorem Cp.below {lo hi : Nat} {w w' : World} {g : Nat} {es : List Ent} {xs : List EnV} (h : Cp lo hi w g es xs) (hb : Below w.heap.size w w') : Cp lo hi w' g es xs := ⟨h.len, h.own.below hb, h.ok.below hb, h.dis, h.lt, h.lo_, h.hi_⟩
theorem Cp.rd {lo hi : Nat} {w : World} {g : Nat} {es : List Ent} {xs : List EnV} (h : Cp lo hi w g es xs) : RdE w w.heap.size (some ⟨g, 0, none⟩) (enL es) := by
  have := own_RdE (es := enL es) (by rw [enL_len]; exact h.len) (by rw [enL_len]; exact h.own) h.ok
  exact this
theorem wI {es : List Ent} (hb : qQ es) {W : World} {A : Option Addr} {c : Nat} (hr : RdE W W.heap.size A (enL es)) :
    Calls Tryz.prog 34 #[.agg #[.slice A es.length c]] W fun e W' => ∃ g xs, e = .returned (.agg #[.slice (some ⟨g, 0, none⟩) es.length es.length]) ∧ Cp W.heap.size W'.heap.size W' g es xs ∧ Below W.heap.size W W' := by
  have h := toDictionary_any A c (enL es) W (by rw [enL_len]; have := hb.1; omega) (fun e he => by
    obtain ⟨k, hk⟩ := List.getElem?_of_mem he
    obtain ⟨d, hd, rfl⟩ := enL_at hk
    have := (hb.2 d (List.mem_of_getElem? hd)).1
    show d.o.length ≤ _
    omega) hr
  rw [enL_len] at h
  refine h.mono ?_
  rintro e w' ⟨g, xs, rfl, hl, hown, hok, ⟨hdis, hlt⟩, hb⟩
  have hg := hown.lt g rfl
  exact ⟨g, xs, rfl, ⟨hl, hown, hok, hdis, hlt, hg.1, hg.2⟩, hb⟩
theorem totS_of {xs : List EnV} {es : List Ent} {w : World} {base : Nat} (hl : xs.length = es.length) (h : OkE w base xs (enL es)) : totS (xs.map (·.1)) = (es.map fun e => e.o.length + 1).sum := by
  have : (xs.map (·.1)).map (fun s => s.2.1 + 1) = es.map fun e => e.o.length + 1 := by
    apply List.ext_getElem?
    intro k
    rw [List.getElem?_map, List.getElem?_map, List.getElem?_map]
    by_cases hk : k < es.length
    · obtain ⟨d, hd⟩ := vF hk
      obtain ⟨x, hx⟩ := vF (show k < xs.length by omega)
      obtain ⟨_, h2, _⟩ := h k x _ hx (enL_of hd)
      rw [hx, hd]
      simp only [Option.map_some]
      rw [h2]
    · rw [List.getElem?_eq_none (by omega), List.getElem?_eq_none (by omega)]; rfl
  rw [totS, this]
theorem markDic_call {lo hi k0 : Nat} {w : World} {g : Nat} {es : List Ent} {xs : List EnV} (h : Cp lo hi w g es xs) (hb : qQ es) (ht : k0 + (es.map fun e => e.o.length + 1).sum ≤ 8388608) (gi : GI (fun b => b < lo) w) (hlo : lo ≤ w.heap.size) :
    Calls Tryz.prog 39 #[.agg #[.slice (some ⟨g, 0, none⟩) es.length es.length], .int .i64 (k0 : Int)] w fun e w' => (∃ k1 : Nat, e = .returned (.int .i64 (k1 : Int))) ∧ Fr lo hi w w' :=
  markDictionary_any g es.length xs k0 lo hi w gi hlo (by have := hb.1; omega) h.len h.own (MkS.of (es := enL es) (by rw [enL_len]; exact h.len) h.ok (fun e he => by
    obtain ⟨k, hk⟩ := List.getElem?_of_mem he
    obtain ⟨d, hd, rfl⟩ := enL_at hk
    have := (hb.2 d (List.mem_of_getElem? hd)).1
    show d.o.length ≤ _
    omega)) (DisS.of h.dis) (LtS.of h.lt) ⟨h.lo_, h.hi_⟩ (by rw [totS_of h.len h.ok]; exact ht)
structure Ag (W : World) (A : Option Addr) (c : Nat) (es : List Ent) (w : World) : Prop where
  t : Below W.heap.size W w
  lt : W.heap.size < w.heap.size
  bx : w.cell? ⟨W.heap.size, 0, none⟩ = some (.slice A es.length c)
  rd : RdE w W.heap.size A (enL es)
theorem Ag.below {W w w' : World} {A : Option Addr} {c : Nat} {es : List Ent} (h : Ag W A c es w) (hb : Below w.heap.size w w') : Ag W A c es w' :=
  ⟨h.t.trans (hb.mono (Nat.le_of_lt h.lt)), Nat.lt_of_lt_of_le h.lt hb.size, (hb.cell (p := ⟨W.heap.size, 0, none⟩) h.lt).trans h.bx, h.rd.below (hb.mono (Nat.le_of_lt h.lt)) (Nat.le_refl _)⟩
theorem Ag.now {W w : World} {A : Option Addr} {c : Nat} {es : List Ent} (h : Ag W A c es w) : RdE w w.heap.size A (enL es) := h.rd.mono (Nat.le_of_lt h.lt)
end Go.Proofs.YtchpdclknbmdoaaGreatDoor
namespace Go.Proofs.YtchpdclknbmdoaaGreatDoor
open Go Go.RowKit
theorem Ag.gi {W w : World} {A : Option Addr} {c : Nat} {es : List Ent} (h : Ag W A c es w) (gi : GI (fun b => b < W.heap.size) W) : GI (fun b => b < w.heap.size) w := GI.up gi (fun b hb => h.t.block b hb) (Nat.le_of_lt h.lt)
theorem Ag.fr {W w w' : World} {A : Option Addr} {c lo hi : Nat} {es : List Ent} (h : Ag W A c es w) (hf : Fr lo hi w w') (hlo : W.heap.size < lo) : Ag W A c es w' := by
  have hb : Below (W.heap.size + 1) w w' := ⟨hf.os, hf.tape, hf.output, hf.size, fun k hk => hf.block k (by have := h.lt; omega) (by omega)⟩
  exact ⟨h.t.trans (hb.mono (Nat.le_succ _)), Nat.lt_of_lt_of_le h.lt hf.size, (hb.cell (p := ⟨W.heap.size, 0, none⟩) (Nat.lt_succ_self _)).trans h.bx, h.rd.below hb (by omega)⟩
theorem Ag.glo {W w : World} {A : Option Addr} {c lo : Nat} {es : List Ent} (h : Ag W A c es w) (gi : GI (fun b => b < W.heap.size) W) (hlo : W.heap.size ≤ lo) : GI (fun b => b < lo) w :=
  gi.mono (fun b hb _ => Nat.lt_of_lt_of_le hb hlo) (fun b hb _ => h.t.block b hb)
theorem Fr.cell {lo hi : Nat} {w w' : World} (h : Fr lo hi w w') {p : Addr} (hs : p.block < w.heap.size) (hn : p.block < lo ∨ hi ≤ p.block) : w'.cell? p = w.cell? p := by
  have := h.block p.block hs hn
  unfold World.cell?
  rw [this]
theorem szEs_sum : ∀ {es : List Ent} {l : Int}, 0 ≤ l → 0 ≤ kM es l → (((es.map fun e => e.o.length).sum : Nat) : Int) ≤ l
  | [], l, h, _ => by simpa using h
  | e :: es, l, h0, h => by
    have h1 := szE_ge (e := e) h0
    rw [kM] at h
    split at h
    · omega
    · have h2 : szE e l ≤ l - e.o.length := by
        unfold szE szI at *
        split
        · split at * <;> omega
        · split at * <;> split <;> omega
      have := szEs_sum (l := szE e l) (by omega) h
      simp only [List.map_cons, List.sum_cons, Int.natCast_add]
      omega
theorem szDi_sum {es : List Ent} (h : 0 ≤ vR es 1048576) : (es.map fun e => e.o.length + 1).sum ≤ 1048576 := by
  have h1 : ∀ es : List Ent, (es.map fun e => e.o.length + 1).sum = (es.map fun e => e.o.length).sum + es.length := fun es => by
    induction es with
    | nil => rfl
    | cons e es ih => simp only [List.map_cons, List.sum_cons, List.length_cons, ih]; omega
  unfold vR at h
  split at h
  · omega
  · have := szEs_sum (by omega) h
    rw [h1]
    omega
end Go.Proofs.YtchpdclknbmdoaaGreatDoor
