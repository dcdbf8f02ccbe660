/- Words for memory that all texts of this seat share: what a slice reads as, what the call itself owns, and how both are kept. No conditions but those stated. -/
import Derived.Test.YtfebalahfhkeaaaBase
import Derived.Test.YtfebalahfhkeaaaSched
import Derived.Deep.AppendLies
import Derived.Deep.OwnRows
namespace Go.Proofs.Ytfebalahfhkeaaa
open Go.RowKit

/-! ## Reading -/
/-- the slice at A reads as xs: element k lies at k * size; all of it in one block below B -/
def Rd {α : Type} (enc : α → List Value) (size : Nat) (w : World) (B : Nat) (A : Option Addr) (xs : List α) : Prop :=
  ∀ k x, xs[k]? = some x → ∃ b o, A = some ⟨b, o, none⟩ ∧ b < B ∧ ∀ j u, (enc x)[j]? = some u → w.cell? ⟨b, o + k * size + j, none⟩ = some u

section
variable {α : Type} {enc : α → List Value} {size : Nat} {w w' : World} {B B' : Nat} {A : Option Addr} {xs : List α}
theorem Rd.nil : Rd enc size w B A [] := fun k x h => by simp at h
theorem Rd.below (h : Rd enc size w B A xs) (hb : Below B' w w') (hB : B ≤ B') : Rd enc size w' B A xs := fun k x hx => by
  obtain ⟨b, o, e, hlt, hc⟩ := h k x hx
  exact ⟨b, o, e, hlt, fun j u hu => (hb.cell (p := ⟨b, o + k * size + j, none⟩) (by show b < B'; omega)).trans (hc j u hu)⟩
theorem Rd.mono (h : Rd enc size w B A xs) (hB : B ≤ B') : Rd enc size w B' A xs := fun k x hx => by
  obtain ⟨b, o, e, hlt, hc⟩ := h k x hx
  exact ⟨b, o, e, by omega, hc⟩
theorem Rd.drop {b o : Nat} (h : Rd enc size w B (some ⟨b, o, none⟩) xs) (n : Nat) : Rd enc size w B (some ⟨b, o + n * size, none⟩) (xs.drop n) := fun k x hx => by
  rw [List.getElem?_drop] at hx
  obtain ⟨b', o', e, hlt, hc⟩ := h (n + k) x hx
  simp only [Option.some.injEq, Addr.mk.injEq, and_true] at e
  obtain ⟨rfl, rfl⟩ := e
  refine ⟨b, o + n * size, rfl, hlt, fun j u hu => ?_⟩
  have := hc j u hu
  rw [Nat.add_mul] at this
  rw [← this]
  congr 2
  omega
theorem Rd.take (h : Rd enc size w B A xs) (n : Nat) : Rd enc size w B A (xs.take n) := fun k x hx => by
  rw [List.getElem?_take] at hx
  split at hx
  · exact h k x hx
  · cases hx

theorem flatMap_at (hs : ∀ x, (enc x).length = size) : ∀ (xs : List α) (k : Nat) (x : α), xs[k]? = some x → ∀ j, j < size → (xs.flatMap enc)[k * size + j]? = (enc x)[j]?
  | [], k, x, h, _, _ => by simp at h
  | y :: ys, 0, x, h, j, hj => by
    simp only [List.getElem?_cons_zero, Option.some.injEq] at h
    subst h
    rw [List.flatMap_cons, Nat.zero_mul, Nat.zero_add, List.getElem?_append_left (by rw [hs]; exact hj)]
  | y :: ys, k + 1, x, h, j, hj => by
    rw [List.getElem?_cons_succ] at h
    rw [List.flatMap_cons, List.getElem?_append_right (by rw [hs, Nat.add_mul]; omega), hs, ← flatMap_at hs ys k x h j hj]
    congr 1
    rw [Nat.add_mul]
    omega
theorem flatMap_len (hs : ∀ x, (enc x).length = size) : ∀ xs : List α, (xs.flatMap enc).length = xs.length * size
  | [] => by simp
  | y :: ys => by rw [List.flatMap_cons, List.length_append, hs, flatMap_len hs ys, List.length_cons, Nat.add_mul]; omega

/-- what the call owns reads as what it holds -/
theorem Rd.of_own {base : Nat} {e : TypeId} {n c : Nat} (hz : 0 < size) (hs : ∀ x, (enc x).length = size) (h : w.ownsRow base e size (.slice A n c) n (xs.flatMap enc)) (hB : w.heap.size ≤ B) : Rd enc size w B A xs := fun k x hx => by
  have hl := h.1
  rw [flatMap_len hs] at hl
  have hk : k < xs.length := by
    rcases Nat.lt_or_ge k xs.length with h1 | h1
    · exact h1
    · rw [List.getElem?_eq_none h1] at hx; cases hx
  have hn : n = xs.length := (Nat.eq_of_mul_eq_mul_right hz hl).symm
  rcases h.2 with ⟨he, hn0⟩ | ⟨g, cap, cur, he, _, hg, _, _, _, htake⟩
  · omega
  · simp only [Value.slice.injEq] at he
    obtain ⟨rfl, _, _⟩ := he
    refine ⟨g, 0, rfl, by have := (Array.getElem?_eq_some_iff.1 hg).1; omega, fun j u hu => ?_⟩
    have hj : j < size := by
      rcases Nat.lt_or_ge j size with h1 | h1
      · exact h1
      · rw [List.getElem?_eq_none (by rw [hs]; exact h1)] at hu; cases hu
    rw [Nat.zero_add, cell_of_row w g _ cur e (0, 0) hg]
    have h1 := flatMap_at hs xs k x hx j hj
    rw [hu, ← htake, List.getElem?_take] at h1
    split at h1
    · simpa using h1
    · cases h1
end

theorem keep_block {w w' : World} {E : Option Nat} {b : Nat} {o : Obj} (h : w.heap[b]? = some o) (hg : w.grownBy w' E) (hne : E ≠ some b) : w'.heap[b]? = some o :=
  (hg.block b (lt_of_block h) (fun e => hne e.symm)).trans h
theorem below_grown {B : Nat} {w0 w w' : World} {E : Option Nat} (h : Below B w0 w) (hg : w.grownBy w' E) (hB : B ≤ w.heap.size) (hr : ∀ k, E = some k → B ≤ k) : Below B w0 w' := h.grown hg hB hr
theorem take_next {α : Type} {xs : List α} {k : Nat} {x : α} (h : xs[k]? = some x) : xs.take (k + 1) = xs.take k ++ [x] := by rw [List.take_add_one, h]; rfl

/-! ## The elements -/
def encI (n : Int) : List Value := [.int .i64 n]
def encTI (x : Int × Bool) : List Value := [.int .i64 x.1, .bool x.2]
def encS (s : ByteArray) : List Value := [.string s]
theorem encI_len (n : Int) : (encI n).length = 1 := rfl
theorem encTI_len (x : Int × Bool) : (encTI x).length = 2 := rfl
theorem encS_len (s : ByteArray) : (encS s).length = 1 := rfl
section
variable {w : World} {B : Nat} {A : Option Addr}
theorem Rd.int {xs : List Int} (h : Rd encI 1 w B A xs) {k : Nat} {x : Int} (hx : xs[k]? = some x) : ∃ b o, A = some ⟨b, o, none⟩ ∧ b < B ∧ w.cell? ⟨b, o + k, none⟩ = some (.int .i64 x) := by
  obtain ⟨b, o, e, hlt, hc⟩ := h k x hx
  exact ⟨b, o, e, hlt, by simpa using hc 0 _ rfl⟩
theorem Rd.str {xs : List ByteArray} (h : Rd encS 1 w B A xs) {k : Nat} {x : ByteArray} (hx : xs[k]? = some x) : ∃ b o, A = some ⟨b, o, none⟩ ∧ b < B ∧ w.cell? ⟨b, o + k, none⟩ = some (.string x) := by
  obtain ⟨b, o, e, hlt, hc⟩ := h k x hx
  exact ⟨b, o, e, hlt, by simpa using hc 0 _ rfl⟩
theorem Rd.item {xs : List (Int × Bool)} (h : Rd encTI 2 w B A xs) {k : Nat} {x : Int × Bool} (hx : xs[k]? = some x) :
    ∃ b o, A = some ⟨b, o, none⟩ ∧ b < B ∧ w.cell? ⟨b, o + k * 2, none⟩ = some (.int .i64 x.1) ∧ w.cell? ⟨b, o + k * 2 + 1, none⟩ = some (.bool x.2) := by
  obtain ⟨b, o, e, hlt, hc⟩ := h k _ hx
  exact ⟨b, o, e, hlt, by simpa using hc 0 _ rfl, by simpa using hc 1 _ rfl⟩
end
theorem at_of_lt {α : Type} {xs : List α} {k : Nat} (h : k < xs.length) : ∃ x, xs[k]? = some x := ⟨xs[k], List.getElem?_eq_getElem h⟩

/-! ## What a world keeps -/
theorem bcell {W w1 : World} {B : Nat} (hb : Below B W w1) : (∀ b o, b < B → w1.cell? ⟨b, o, none⟩ = W.cell? ⟨b, o, none⟩) ∧ (∀ b o, b < B → w1.frozen? ⟨b, o, none⟩ = W.frozen? ⟨b, o, none⟩) :=
  ⟨fun b o h => hb.cell (p := ⟨b, o, none⟩) h, fun b o h => hb.frozen (p := ⟨b, o, none⟩) h⟩
theorem grown_refl (w : World) (E : Option Nat) : w.grownBy w E := ⟨rfl, rfl, rfl, Nat.le_refl _, fun _ _ _ => rfl⟩
theorem grown_trans {a b c : World} {E : Option Nat} (h : a.grownBy b E) (k : b.grownBy c E) : a.grownBy c E :=
  ⟨k.os.trans h.os, k.tape.trans h.tape, k.output.trans h.output, Nat.le_trans h.size k.size, fun i hi hne => (k.block i (Nat.lt_of_lt_of_le hi h.size) hne).trans (h.block i hi hne)⟩
theorem grown_alloc {a w : World} {E : Option Nat} (h : a.grownBy w E) (o : Obj) : a.grownBy (w.alloc o) E := grown_trans h (World.grownBy_alloc w o E)
/-- a cell outside what may be written is read in every later world -/
theorem held_cell {a : World} {E : Option Nat} {p : Addr} {v : Value} (h : a.cell? p = some v) (hne : some p.block ≠ E) : ∀ o : In (fun w => a.grownBy w E), o.at_.cell? p = some v :=
  fun o => o.ok.cell h hne

section
variable {α : Type} {enc : α → List Value} {size : Nat} {w w' : World} {B : Nat} {A : Option Addr} {xs : List α}
theorem Same.below (h : Same w w') (B : Nat) : Below B w w' := ⟨h.os, h.tape, h.output, Nat.le_of_eq h.size.symm, fun k _ => h.block k⟩
theorem Rd.same (h : Rd enc size w B A xs) (hs : Same w w') : Rd enc size w' B A xs := h.below (hs.below B) (Nat.le_refl _)
end
/-- a cell that lies in a world is read in every world that keeps all that was there -/
theorem held_below {a : World} {p : Addr} {v : Value} (h : a.cell? p = some v) : ∀ o : In (fun w => Below a.heap.size a w), o.at_.cell? p = some v :=
  fun o => (o.ok.cell (block_lt_of_cell h)).trans h
/-! ## What the call owns -/
/-- the slice v holds xs and is the call's own, in a block from base on, which may be written and grown -/
def Own {α : Type} (enc : α → List Value) (size : Nat) (w : World) (base : Nat) (e : TypeId) (v : Value) (xs : List α) : Prop :=
  w.ownsRow base e size v xs.length (xs.flatMap enc)
section
variable {α : Type} {enc : α → List Value} {size : Nat} {w w' : World} {base : Nat} {e : TypeId} {v : Value} {xs : List α}
theorem Own.form (h : Own enc size w base e v xs) : ∃ A c, v = .slice A xs.length c := by
  rcases h.2 with ⟨rfl, hn⟩ | ⟨g, cap, cur, rfl, _⟩
  · exact ⟨none, 0, by rw [hn]⟩
  · exact ⟨_, _, rfl⟩
theorem Own.none_ : Own enc size w base e (.slice none 0 0) [] := World.ownsRow_nil w base e size
theorem Own.lit0 (hb : base ≤ w.heap.size) : Own enc size (w.alloc (.cells #[] e)) base e (.slice (some ⟨w.heap.size, 0, none⟩) 0 0) [] :=
  World.ownsRow_made w #[] 0 hb (Nat.zero_le _) (by simp)
theorem Own.lt (h : Own enc size w base e v xs) : ∀ k, v.ownBlock = some k → base ≤ k ∧ k < w.heap.size := World.ownsRow.lt h
theorem Own.kept {E : Option Nat} (h : Own enc size w base e v xs) (hg : w.grownBy w' E) (hne : v.ownBlock = none ∨ v.ownBlock ≠ E) : Own enc size w' base e v xs := World.ownsRow.kept h hg hne
theorem Own.below (h : Own enc size w base e v xs) (hb : Below w.heap.size w w') : Own enc size w' base e v xs := by
  refine ⟨h.1, ?_⟩
  rcases h.2 with hn | ⟨g, cap, cur, rfl, hbg, hg, rest⟩
  · exact .inl hn
  · exact .inr ⟨g, cap, cur, rfl, hbg, (hb.block g (lt_of_block hg)).trans hg, rest⟩
theorem Own.same (h : Own enc size w base e v xs) (hs : Same w w') : Own enc size w' base e v xs := h.below (hs.below _)
theorem Own.alloc (h : Own enc size w base e v xs) (o : Obj) : Own enc size (w.alloc o) base e v xs := World.ownsRow.alloc h o
theorem Own.setFar (h : Own enc size w base e v xs) {p : Addr} (hp : v.ownBlock ≠ some p.block) (u : Value) : Own enc size (w.setCell p u) base e v xs := ownsRow_setCell_other h hp u
theorem Own.rd {A : Option Addr} {c : Nat} (hz : 0 < size) (hs : ∀ x, (enc x).length = size) (h : Own enc size w base e (.slice A xs.length c) xs) : Rd enc size w w.heap.size A xs :=
  Rd.of_own hz hs h (Nat.le_refl _)
theorem Own.mono {base' : Nat} (h : Own enc size w base e v xs) (hb : base' ≤ base) : Own enc size w base' e v xs := by
  refine ⟨h.1, ?_⟩
  rcases h.2 with hn | ⟨g, cap, cur, rfl, hbg, rest⟩
  · exact .inl hn
  · exact .inr ⟨g, cap, cur, rfl, Nat.le_trans hb hbg, rest⟩
end

/-- 'append(out, x)': x lies in a new block of its own; behind it out holds one element more -/
theorem wpList_app {α : Type} {P : Program} {ops : Array Oper} {rest : List Oper} {o : Oper} {a : Act} {Q : Exit → Act → World → Prop} (enc : α → List Value) (size : Nat) (W : World) (hgd : o.guard = none) (s x : Operand) (t e : TypeId) (z : Value) (bytes : Nat)
    (ho : o.op = .call { callee := .builtin .append, args := #[s, x], argTypes := #[t, t] }) (ht : P.underlying t = some (.slice e)) (hinfo : (P.info? e).map (fun i => (i.zero, i.size, i.bytes)) = some (some z, size, bytes))
    (hzs : z.cells.size = size) (hsz : 0 < size) (hs : ∀ y, (enc y).length = size) (h1 : ∀ y, ∀ u ∈ enc y, u.oneCell' = true)
    (base : Nat) (v : Value) (xs : List α) (hv : a.eval s = v) (hown : Own enc size W base e v xs) (y : α) (hx : a.eval x = .slice (some ⟨W.heap.size, 0, none⟩) 1 1)
    (hbytes : (xs.length + 1) * bytes ≤ 140737488355328) (h63 : xs.length + 1 ≤ maxLen) (hbase : base ≤ W.heap.size)
    (h : ∀ g cap w', Own enc size w' base e (.slice (some ⟨g, 0, none⟩) (xs.length + 1) cap) (xs ++ [y]) → W.grownBy w' v.ownBlock → (v.ownBlock = some g ∨ W.heap.size < g) → g < w'.heap.size →
      wpList P ops Q rest (a.put o.dst (.slice (some ⟨g, 0, none⟩) (xs.length + 1) cap)) w') : wpList P ops Q (o :: rest) a (W.alloc (.cells (enc y).toArray e)) := by
  obtain ⟨i, hi, hz, hsi, hby⟩ := info_parts hinfo
  refine wpList_append_lies (W.alloc (.cells (enc y).toArray e)) hgd s x t ho base e i z size bytes ht hi hz hsi hby hzs hsz v xs.length (xs.flatMap enc) hv (Own.alloc hown _) ⟨W.heap.size, 0, none⟩ 1 1 (enc y) hx (by rw [hs]; omega)
    (World.news_of_block (cs := (enc y).toArray) (t := e) (fr := (0, 0)) (heap_alloc_new W _)) (h1 y) (by omega) h63 hbytes (by simp; omega) (W.heap.size + 1) (by simp) ?_
  intro g cap w' hown' hg hat hlt
  refine h g cap w' ?_ (grown_trans (World.grownBy_alloc W _ _) hg) (hat.imp id fun e => by omega) hlt
  unfold Own
  rw [List.length_append, List.flatMap_append]
  simpa using hown'
/-! ## 'make', and stores into what the call owns -/
theorem made_eq {α : Type} {enc : α → List Value} {size : Nat} (hs : ∀ x, (enc x).length = size) (hsz : 0 < size) (z : Value) (z0 : α) (hz : z.cells = (enc z0).toArray) (n : Nat) : (madeCells z.cells (n * size)).toList = (List.replicate n z0).flatMap enc := by
  have hlen : z.cells.size = size := by rw [hz]; simp [hs]
  apply List.ext_getElem?
  intro j
  by_cases hj : j < n * size
  · have hd : j / size < n := (Nat.div_lt_iff_lt_mul hsz).2 hj
    have hm : j % size < size := Nat.mod_lt _ hsz
    have h1 := flatMap_at hs (List.replicate n z0) (j / size) z0 (by simp [hd]) (j % size) hm
    have h2 : j / size * size + j % size = j := by rw [Nat.mul_comm]; exact Nat.div_add_mod j size
    rw [h2] at h1
    rw [h1]
    have h3 : j % size < (enc z0).length := by rw [hs]; exact hm
    simp [madeCells, hj, hz, hs]
    rw [List.getElem?_eq_getElem h3]
    rfl
  · rw [List.getElem?_eq_none (by simp [size_madeCells]; omega), List.getElem?_eq_none (by rw [flatMap_len hs]; simp; omega)]
theorem wpList_mk {α : Type} {P : Program} {ops : Array Oper} {rest : List Oper} {o : Oper} {a : Act} {Q : Exit → Act → World → Prop} (enc : α → List Value) (size : Nat) (W : World) (hgd : o.guard = none) (l c : Operand) (t e : TypeId) (z : Value) (bytes : Nat)
    (ho : o.op = Op.makeSlice t l c) (ht : P.underlying t = some (.slice e)) (hinfo : (P.info? e).map (fun i => (i.zero, i.size, i.bytes)) = some (some z, size, bytes)) (hsz : 0 < size) (hs : ∀ y, (enc y).length = size)
    (z0 : α) (hz : z.cells = (enc z0).toArray) (n : Nat) (L C : Int) (hl : a.eval l = .int .i64 L) (hc : a.eval c = .int .i64 C) (hL : L = (n : Int)) (hC : C = (n : Int)) (hbytes : bytes * n ≤ 281474976710656) (h63 : n ≤ maxLen)
    (h : ∀ w', Own enc size w' W.heap.size e (.slice (some ⟨W.heap.size, 0, none⟩) n n) (List.replicate n z0) → Below W.heap.size W w' → W.heap.size < w'.heap.size → wpList P ops Q rest (a.put o.dst (.slice (some ⟨W.heap.size, 0, none⟩) n n)) w') : wpList P ops Q (o :: rest) a W := by
  obtain ⟨i, hi, hzi, hsi, hby⟩ := info_parts hinfo
  refine wpList_make_full W hgd l c t ho W.heap.size e i z size ht hi hzi hsi .i64 .i64 L C n hl hc hL hC (by rw [hby]; exact hbytes) h63 (Nat.le_refl _) fun w' hown hg => ?_
  rw [made_eq hs hsz z z0 hz n] at hown
  have hlt : W.heap.size < w'.heap.size := by
    rcases hown.2 with ⟨h0, _⟩ | ⟨g, cap, cur, hv, _, hh, _⟩
    · cases h0
    · simp only [Value.slice.injEq, Option.some.injEq, Addr.mk.injEq, and_true] at hv
      obtain ⟨rfl, _⟩ := hv
      exact lt_of_block hh
  refine h w' ?_ ((Below.refl _ _).grown hg (Nat.le_refl _) (fun k e => by cases e)) hlt
  unfold Own
  simpa using hown

theorem set_append_left {β : Type} (l m : List β) (i : Nat) (x : β) (h : i < l.length) : (l ++ m).set i x = l.set i x ++ m := by rw [List.set_append, if_pos h]
theorem set_append_right {β : Type} (l m : List β) (i : Nat) (x : β) : (l ++ m).set (l.length + i) x = l ++ m.set i x := by rw [List.set_append, if_neg (by omega)]; congr 2; omega
theorem flatMap_set {α : Type} {enc : α → List Value} : ∀ (ys : List α) (k : Nat) (y x : α), ys[k]? = some y → ∀ (f : List Value → List Value),
    (∀ m, ys.flatMap enc = (ys.take k).flatMap enc ++ (enc y ++ m) → f (ys.flatMap enc) = (ys.take k).flatMap enc ++ (enc x ++ m)) → f (ys.flatMap enc) = (ys.set k x).flatMap enc := by
  intro ys k y x hy f hf
  have hk : k < ys.length := (List.getElem?_eq_some_iff.1 hy).1
  have hd : ys.drop k = y :: ys.drop (k + 1) := by
    rw [List.drop_eq_getElem_cons hk]
    congr 1
    have := (List.getElem?_eq_some_iff.1 hy).2
    exact this
  have h1 : ys.flatMap enc = (ys.take k).flatMap enc ++ (enc y ++ (ys.drop (k + 1)).flatMap enc) := by
    conv => lhs; rw [← List.take_append_drop k ys, hd, List.flatMap_append, List.flatMap_cons]
  rw [hf _ h1, List.set_eq_take_append_cons_drop, if_pos hk, List.flatMap_append, List.flatMap_cons]
/-- a list that is filled from the front: k places are filled, the others hold z -/
def fill {α : Type} (xs : List α) (z : α) (k : Nat) : List α := xs.take k ++ List.replicate (xs.length - k) z
theorem fill_len {α : Type} (xs : List α) (z : α) (k : Nat) (hk : k ≤ xs.length) : (fill xs z k).length = xs.length := by simp [fill]; omega
theorem fill_zero {α : Type} (xs : List α) (z : α) : fill xs z 0 = List.replicate xs.length z := by simp [fill]
theorem fill_all {α : Type} (xs : List α) (z : α) : fill xs z xs.length = xs := by simp [fill]
theorem fill_at {α : Type} (xs : List α) (z : α) (k : Nat) (hk : k < xs.length) : (fill xs z k)[k]? = some z := by
  unfold fill
  have hl : (xs.take k).length = k := by simp; omega
  rw [List.getElem?_append_right (by omega), hl, List.getElem?_replicate, if_pos (by omega)]
theorem fill_set {α : Type} (xs : List α) (z x : α) (k : Nat) (hx : xs[k]? = some x) : (fill xs z k).set k x = fill xs z (k + 1) := by
  have hk : k < xs.length := (List.getElem?_eq_some_iff.1 hx).1
  unfold fill
  rw [take_next hx, show xs.length - k = (xs.length - (k + 1)) + 1 by omega, List.replicate_succ]
  have := set_append_right (xs.take k) (z :: List.replicate (xs.length - (k + 1)) z) 0 x
  have hl : (xs.take k).length = k := by simp; omega
  rw [hl, Nat.add_zero k] at this
  rw [this]
  simp
/-- a list that is turned from the front: k places bear the new list's, the others what they held -/
def turn {α : Type} (xs ys : List α) (k : Nat) : List α := ys.take k ++ xs.drop k
theorem turn_len {α : Type} (xs ys : List α) (k : Nat) (h : ys.length = xs.length) (hk : k ≤ xs.length) : (turn xs ys k).length = xs.length := by simp [turn]; omega
theorem turn_zero {α : Type} (xs ys : List α) : turn xs ys 0 = xs := by simp [turn]
theorem turn_all {α : Type} (xs ys : List α) (h : ys.length = xs.length) : turn xs ys xs.length = ys := by simp [turn, ← h]
theorem turn_at {α : Type} (xs ys : List α) (k : Nat) (h : ys.length = xs.length) (x : α) (hx : xs[k]? = some x) : (turn xs ys k)[k]? = some x := by
  have hk : k < xs.length := (List.getElem?_eq_some_iff.1 hx).1
  unfold turn
  rw [List.getElem?_append_right (by simp; omega), List.getElem?_drop, List.length_take, Nat.min_eq_left (by omega), ← hx]
  congr 1
  omega
theorem turn_set {α : Type} (xs ys : List α) (k : Nat) (h : ys.length = xs.length) (y : α) (hy : ys[k]? = some y) : (turn xs ys k).set k y = turn xs ys (k + 1) := by
  have hk : k < xs.length := by have := (List.getElem?_eq_some_iff.1 hy).1; omega
  unfold turn
  rw [take_next hy, List.drop_eq_getElem_cons hk]
  have := set_append_right (ys.take k) (xs[k] :: xs.drop (k + 1)) 0 y
  have hl : (ys.take k).length = k := by simp; omega
  rw [hl, Nat.add_zero k] at this
  rw [this, List.set_cons_zero, List.append_assoc]
  rfl
section
variable {α : Type} {enc : α → List Value} {w : World} {base : Nat} {e : TypeId} {g n c : Nat} {ys : List α}
theorem Own.frozenAt {size : Nat} (h : Own enc size w base e (.slice (some ⟨g, 0, none⟩) n c) ys) (hn : n = ys.length) (j : Nat) : w.frozen? ⟨g, j, none⟩ = false := by
  subst hn; exact World.ownsRow.frozenAt h j
theorem Own.cellAt {size : Nat} (hs : ∀ x, (enc x).length = size) (h : Own enc size w base e (.slice (some ⟨g, 0, none⟩) n c) ys) (hn : n = ys.length) {k : Nat} {y : α} (hy : ys[k]? = some y) {j : Nat} (hj : j < size) : w.cell? ⟨g, k * size + j, none⟩ = (enc y)[j]? := by
  subst hn
  have hk : k < ys.length := (List.getElem?_eq_some_iff.1 hy).1
  rw [World.ownsRow.cellAt h (k * size + j) (by have := Nat.mul_le_mul_right size (show k + 1 ≤ ys.length by omega); rw [Nat.add_mul] at this; omega)]
  exact flatMap_at hs ys k y hy j hj
theorem Own.set1 (hs : ∀ x, (enc x).length = 1) (h : Own enc 1 w base e (.slice (some ⟨g, 0, none⟩) n c) ys) (hn : n = ys.length) {k : Nat} {y x : α} {u : Value} (hy : ys[k]? = some y) (hx : enc x = [u]) :
    Own enc 1 (w.setCell ⟨g, k, none⟩ u) base e (.slice (some ⟨g, 0, none⟩) n c) (ys.set k x) := by
  subst hn
  unfold Own
  have h1 := (World.ownsRow.stored h k u).1
  rw [flatMap_set ys k y x hy (fun l => l.set k u) ?_] at h1
  · simpa using h1
  · intro m hm
    have hl : ((ys.take k).flatMap enc).length = k := by rw [flatMap_len hs]; simp; have := (List.getElem?_eq_some_iff.1 hy).1; omega
    show (ys.flatMap enc).set k u = _
    rw [hm]
    have := set_append_right ((ys.take k).flatMap enc) (enc y ++ m) 0 u
    rw [hl, Nat.add_zero] at this
    rw [this, hx]
    obtain ⟨v, hv⟩ : ∃ v, enc y = [v] := by
      match enc y, hs y with
      | [v], _ => exact ⟨v, rfl⟩
    rw [hv]
    rfl
theorem Own.set2 (hs : ∀ x, (enc x).length = 2) (h : Own enc 2 w base e (.slice (some ⟨g, 0, none⟩) n c) ys) (hn : n = ys.length) {k : Nat} {y x : α} {u v : Value} (hy : ys[k]? = some y) (hx : enc x = [u, v]) :
    Own enc 2 ((w.setCell ⟨g, k * 2, none⟩ u).setCell ⟨g, k * 2 + 1, none⟩ v) base e (.slice (some ⟨g, 0, none⟩) n c) (ys.set k x) := by
  subst hn
  unfold Own
  have h1 := (World.ownsRow.stored (World.ownsRow.stored h (k * 2) u).1 (k * 2 + 1) v).1
  rw [flatMap_set ys k y x hy (fun l => (l.set (k * 2) u).set (k * 2 + 1) v) ?_] at h1
  · simpa using h1
  · intro m hm
    have hl : ((ys.take k).flatMap enc).length = k * 2 := by rw [flatMap_len hs]; simp; have := (List.getElem?_eq_some_iff.1 hy).1; omega
    show ((ys.flatMap enc).set (k * 2) u).set (k * 2 + 1) v = _
    rw [hm]
    have a1 := set_append_right ((ys.take k).flatMap enc) (enc y ++ m) 0 u
    rw [hl, Nat.add_zero] at a1
    have a2 := set_append_right ((ys.take k).flatMap enc) ((enc y ++ m).set 0 u) 1 v
    rw [hl] at a2
    rw [a1, a2, hx]
    obtain ⟨v1, v2, hv⟩ : ∃ v1 v2, enc y = [v1, v2] := by
      match enc y, hs y with
      | [v1, v2], _ => exact ⟨v1, v2, rfl⟩
    rw [hv]
    rfl
end

theorem Own.block {α : Type} {enc : α → List Value} {size : Nat} {w : World} {base : Nat} {e : TypeId} {A : Option Addr} {n c : Nat} {ys : List α} (h : Own enc size w base e (.slice A n c) ys) (hn : 0 < ys.length) : ∃ g, A = some ⟨g, 0, none⟩ ∧ base ≤ g ∧ g < w.heap.size := by
  rcases h.2 with ⟨he, h0⟩ | ⟨g, cap, cur, he, hb, hg, _⟩
  · omega
  · simp only [Value.slice.injEq] at he
    obtain ⟨rfl, _, _⟩ := he
    exact ⟨g, rfl, hb, lt_of_block hg⟩
theorem Own.block_lt {α : Type} {enc : α → List Value} {size : Nat} {w : World} {base : Nat} {e : TypeId} {g o n c : Nat} {ys : List α} (h : Own enc size w base e (.slice (some ⟨g, o, none⟩) n c) ys) : base ≤ g ∧ g < w.heap.size := by
  rcases h.2 with ⟨he, h0⟩ | ⟨g, cap, cur, he, hb, hg, _⟩
  · cases he
  · simp only [Value.slice.injEq, Option.some.injEq, Addr.mk.injEq] at he
    obtain ⟨⟨rfl, _⟩, _, _⟩ := he
    exact ⟨hb, lt_of_block hg⟩
theorem grown_set {w w' : World} {g : Nat} (h : w.grownBy w' (some g)) (j : Nat) (u : Value) : w.grownBy (w'.setCell ⟨g, j, none⟩ u) (some g) :=
  grown_trans h ⟨rfl, rfl, rfl, by simp [World.setCell], fun k _ hk => heap_setCell_other w' ⟨g, j, none⟩ k u (fun e => hk (by simp [e]))⟩
/-- the mark behind n elements of F marks each, from k on -/
def mend (k F n : Nat) : Int := ((k + F * n : Nat) : Int)
theorem mend_eq (k F n : Nat) : mend k F n = ((k + F * n : Nat) : Int) := rfl
theorem mend_nonneg (k F n : Nat) : 0 ≤ mend k F n := by unfold mend; omega
theorem mend_le (k F n : Nat) (h : k + F * n ≤ 1082130432) : mend k F n ≤ 1082130432 := by unfold mend; omega
/-- n marked elements, from k on, each of them F marks wide -/
def marks {α : Type} (m : Nat → α) (F k n : Nat) : List α := (List.range n).map fun i => m (k + F * i)
theorem marks_len {α : Type} (m : Nat → α) (F k n : Nat) : (marks m F k n).length = n := by simp [marks]
theorem marks_at {α : Type} (m : Nat → α) (F k n j : Nat) (h : j < n) : (marks m F k n)[j]? = some (m (k + F * j)) := by simp [marks, h]

/-! ## From world to world -/
theorem later_cell {w w' : World} {p : Addr} {v : Value} (h : w.cell? p = some v) (hb : Below w.heap.size w w') : w'.cell? p = some v := cell_later hb h
theorem later_rd {α : Type} {enc : α → List Value} {size : Nat} {w0 w w' : World} {A : Option Addr} {xs : List α} (h : Rd enc size w w0.heap.size A xs) (ht : Below w0.heap.size w0 w) (hb : Below w.heap.size w w') : Rd enc size w' w0.heap.size A xs := h.below hb ht.size
theorem later_below {w0 w w' : World} (h : Below w0.heap.size w0 w) (hb : Below w.heap.size w w') : Below w0.heap.size w0 w' := h.trans (hb.mono h.size)
theorem grown_cell {w w' : World} {p : Addr} {v u : Value} (h : w.cell? p = some v) (hg : w.grownBy w' u.ownBlock) {lo hi : Nat} (hl : ∀ g, u.ownBlock = some g → lo ≤ g ∧ g < hi) (hp : p.block < lo ∨ hi ≤ p.block) : w'.cell? p = some v :=
  hg.cell h (fun e => by have := hl _ e.symm; omega)
theorem grown_rd {α : Type} {enc : α → List Value} {size : Nat} {w0 w w' : World} {A : Option Addr} {xs : List α} {u : Value} (h : Rd enc size w w0.heap.size A xs) (hg : w.grownBy w' u.ownBlock) {lo hi : Nat} (hl : ∀ g, u.ownBlock = some g → lo ≤ g ∧ g < hi) (hp : w0.heap.size ≤ lo) : Rd enc size w' w0.heap.size A xs := fun k x hx => by
  obtain ⟨b, o, e, hlt, hc⟩ := h k x hx
  exact ⟨b, o, e, hlt, fun j v hv => hg.cell (hc j v hv) (fun e => by have := hl _ e.symm; simp at this; omega)⟩
theorem grown_below {w0 w w' : World} {u : Value} (h : Below w0.heap.size w0 w) (hg : w.grownBy w' u.ownBlock) {lo hi : Nat} (hl : ∀ g, u.ownBlock = some g → lo ≤ g ∧ g < hi) (hp : w0.heap.size ≤ lo) : Below w0.heap.size w0 w' :=
  h.grown hg h.size (fun k e => by have := hl _ e; omega)
theorem grown_own {α : Type} {enc : α → List Value} {size : Nat} {w w' : World} {base : Nat} {e : TypeId} {v u : Value} {xs : List α} (h : Own enc size w base e v xs) (hg : w.grownBy w' u.ownBlock)
    {a b lo hi : Nat} (hv : ∀ g, v.ownBlock = some g → a ≤ g ∧ g < b) (hl : ∀ g, u.ownBlock = some g → lo ≤ g ∧ g < hi) (hp : b ≤ lo ∨ hi ≤ a) : Own enc size w' base e v xs := by
  refine h.kept hg ?_
  cases e1 : v.ownBlock with
  | none => exact .inl rfl
  | some g =>
    refine .inr fun e2 => ?_
    have h1 := hv g e1
    have h2 := hl g e2.symm
    omega
/-- a call of a function value with one argument -/
theorem wpList_callv1 {P : Program} {ops : Array Oper} {rest : List Oper} {o : Oper} {a : Act} {w : World} {Q : Exit → Act → World → Prop} (hgd : o.guard = none) (f x : Operand) (ty : TypeId)
    (ho : o.op = .call { callee := .value f, args := #[x], argTypes := #[ty] }) (g : FuncId) (fn : Func) (hg : P.funcs[g]? = some fn) (hg1 : (fn.name == "runtime.NumGoroutine") = false) (hg2 : fn.body.isNone = false)
    (cap : Array Value) (hv : a.eval f = .func (.func g) #[] cap) (V : Value) (hV : a.eval x = V)
    (h : Calls P g (#[V] ++ cap) w fun e w' => ∃ v, e = .returned v ∧ wpList P ops Q rest (a.put o.dst v) w') : wpList P ops Q (o :: rest) a w := by
  refine wpList_plain hgd fun K hK => ?_
  unfold Oper.wp
  have hr : (execOp a.eval o).run P w = .ok (.enter g (#[V] ++ cap)) w := by
    have h1 : ¬ fn.name = "runtime.NumGoroutine" := by simpa using hg1
    have h2 : ¬ fn.body = none := by intro e; rw [e] at hg2; cases hg2
    unfold execOp
    simp [ho, resolve, Deferred.ofValue, hv, hV, invoke, callFunc, hg, h1, h2]
  rw [hr, Oper.upon_enter]
  refine h.mono fun e w' he => ?_
  obtain ⟨v, rfl, hn⟩ := he
  exact hK _ _ hn
theorem encI_one (y : Int) : ∀ u ∈ encI y, u.oneCell' = true := by simp [encI, Value.oneCell']
theorem encTI_one (y : Int × Bool) : ∀ u ∈ encTI y, u.oneCell' = true := by simp [encTI, Value.oneCell']
theorem encS_one (y : ByteArray) : ∀ u ∈ encS y, u.oneCell' = true := by simp [encS, Value.oneCell']
end Go.Proofs.Ytfebalahfhkeaaa
