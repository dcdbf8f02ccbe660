/- More words for memory. -/
import Derived.Test.YtjeffognhcbiaaaDoorOld
namespace Go.Proofs.YtjeffognhcbiaaaDoor
open Go.RowKit
theorem Own.lit {α : Type} {enc : α → List Value} {size : Nat} {w : World} {base : Nat} {e : TypeId} {n : Nat} (hn : n = w.heap.size) (hb : base ≤ n) : Own enc size (w.alloc (.cells #[] e)) base e (.slice (some ⟨n, 0, none⟩) 0 0) [] := by
  subst hn; exact Own.lit0 hb
theorem vK (w : World) (o : Obj) : Below w.heap.size w (w.alloc o) := (Below.refl _ _).alloc (Nat.le_refl _) _
section
variable {α : Type} {enc : α → List Value} {size : Nat} {w : World} {B : Nat}
theorem Rd.news {b o : Nat} {ys : List α} (h : Rd enc size w B (some ⟨b, o, none⟩) ys) (hsz : 0 < size) (hs : ∀ y, (enc y).length = size) : ∀ j u, (ys.flatMap enc)[j]? = some u → w.cell? ((⟨b, o, none⟩ : Addr).add j) = some u := by
  intro j u hu
  have hj : j < ys.length * size := by rw [← xN hs ys]; exact (List.getElem?_eq_some_iff.1 hu).1
  have hd : j / size < ys.length := (Nat.div_lt_iff_lt_mul hsz).2 hj
  obtain ⟨y, hy⟩ := xS hd
  have h1 := flatMap_at hs ys (j / size) y hy (j % size) (Nat.mod_lt _ hsz)
  have h2 : j / size * size + j % size = j := by rw [Nat.mul_comm]; exact Nat.div_add_mod j size
  rw [h2, hu] at h1
  obtain ⟨b', o', e, _, hc⟩ := h _ _ hy
  simp only [Option.some.injEq, Addr.mk.injEq, and_true] at e
  obtain ⟨rfl, rfl⟩ := e
  have h3 := hc _ _ h1.symm
  have h4 : (⟨b, o, none⟩ : Addr).add j = ⟨b, o + j, none⟩ := by unfold Addr.add; split <;> simp_all
  rw [h4, ← h3, Nat.add_assoc, h2]
end
section
variable {α : Type} {enc : α → List Value} {size : Nat} {w : World} {base : Nat} {e : TypeId} {g n c : Nat} {ys : List α}
theorem flatMap_set1 (hs : ∀ x, (enc x).length = size) {k j : Nat} {y x : α} {u : Value} (hy : ys[k]? = some y) (hj : j < size) (hx : enc x = (enc y).set j u) : (ys.flatMap enc).set (k * size + j) u = (ys.set k x).flatMap enc := by
  refine flatMap_set ys k y x hy (fun l => l.set (k * size + j) u) ?_
  intro m hm
  have hl : ((ys.take k).flatMap enc).length = k * size := by rw [xN hs]; congr 1; simp; have := (List.getElem?_eq_some_iff.1 hy).1; omega
  have a1 := set_append_right ((ys.take k).flatMap enc) (enc y ++ m) j u
  rw [hl] at a1
  show (ys.flatMap enc).set (k * size + j) u = _
  rw [hm, a1, set_append_left _ _ _ _ (by rw [hs]; exact hj), hx]
theorem Own.setAt (hs : ∀ x, (enc x).length = size) (h : Own enc size w base e (.slice (some ⟨g, 0, none⟩) n c) ys) (hn : n = ys.length) {k j : Nat} {y x : α} {u : Value} (hy : ys[k]? = some y) (hj : j < size) (hx : enc x = (enc y).set j u) :
    Own enc size (w.setCell ⟨g, k * size + j, none⟩ u) base e (.slice (some ⟨g, 0, none⟩) n c) (ys.set k x) := by
  subst hn
  unfold Own
  have h1 := (World.ownsRow.stored h (k * size + j) u).1
  rw [flatMap_set1 hs hy hj hx] at h1
  rw [List.length_set]
  exact h1
theorem Own.takes {A : Option Addr} (hs : ∀ x, (enc x).length = size) (h : Own enc size w base e (.slice A n c) ys) {m : Nat} (hm : m ≤ ys.length) : Own enc size w base e (.slice A m c) (ys.take m) := by
  have hl : (ys.take m).length = m := by simp; omega
  unfold Own
  rw [hl]
  refine ⟨by rw [xN hs, hl], ?_⟩
  rcases h.2 with ⟨he, hn⟩ | ⟨g, cap, cur, he, hb, hg, h1, h2, h3, h4⟩
  · simp only [Value.slice.injEq] at he
    exact .inl ⟨by rw [he.1, he.2.2]; congr 1; omega, by omega⟩
  · simp only [Value.slice.injEq] at he
    obtain ⟨rfl, rfl, rfl⟩ := he
    refine .inr ⟨g, c, cur, rfl, hb, hg, by omega, h2, h3, ?_⟩
    have h5 : (ys.flatMap enc).take (m * size) = (ys.take m).flatMap enc := by
      conv => lhs; rw [← List.take_append_drop m ys, List.flatMap_append]
      rw [List.take_append_of_le_length (by rw [xN hs, hl]; exact Nat.le_refl _), List.take_of_length_le (by rw [xN hs, hl]; exact Nat.le_refl _)]
    rw [← h5, ← h4, List.take_take, Nat.min_eq_left (Nat.mul_le_mul_right size hm)]
end
theorem run_appends {α : Type} {P : Program} (enc : α → List Value) (size : Nat) (W : World) (t ty e : TypeId) (z : Value) (bytes : Nat)
    (ht : P.underlying t = some (.slice e)) (hinfo : (P.info? e).map (fun i => (i.zero, i.size, i.bytes)) = some (some z, size, bytes))
    (hzs : z.cells.size = size) (hsz : 0 < size) (hs : ∀ y, (enc y).length = size) (h1 : ∀ y, ∀ u ∈ enc y, u.oneCell' = true)
    (base : Nat) (v : Value) (xs : List α) (hown : Own enc size W base e v xs) (A : Option Addr) (ys : List α) (c B : Nat) (hrd : Rd enc size W B A ys)
    (hbytes : (xs.length + ys.length) * bytes ≤ 140737488355328) (h63 : xs.length + ys.length ≤ maxLen) (hbase : base ≤ W.heap.size) :
    ∃ v' w', (Builtin.append_ #[t, t] ty #[v, .slice A ys.length c]).run P W = .ok v' w' ∧ Own enc size w' base e v' (xs ++ ys) ∧ W.grownBy w' v.ownBlock ∧
      (v' = .slice none 0 0 → v = .slice none 0 0) ∧ (v'.ownBlock = v.ownBlock ∨ v'.ownBlock = some W.heap.size) := by
  obtain ⟨i, hi, hz, hsi, hby⟩ := info_parts hinfo
  cases A with
  | none =>
    have hys : ys = [] := by
      cases ys with
      | nil => rfl
      | cons y ys => obtain ⟨b, o, e, _⟩ := hrd 0 y rfl; cases e
    subst hys
    refine ⟨v, W, ?_, by rw [List.append_nil]; exact hown, grown_refl _ _, id, .inl rfl⟩
    rcases hown.2 with ⟨rfl, hn⟩ | ⟨g, cap, cur, rfl, _, _, hnc, _⟩
    · simp [Builtin.append_, run_underlying ht, sizeOf, typeInfo, hi, Builtin.lenOf, Builtin.firstCells]
    · simp [Builtin.append_, run_underlying ht, sizeOf, typeInfo, hi, Builtin.lenOf, Builtin.firstCells, hnc, storeCells]
  | some ad =>
    have hnews : ∀ j u, (ys.flatMap enc)[j]? = some u → W.cell? (ad.add j) = some u := by
      intro j u hu
      cases ys with
      | nil => simp at hu
      | cons y ys =>
        obtain ⟨b, o, e, _⟩ := hrd 0 y rfl
        cases e
        exact hrd.news hsz hs j u hu
    obtain ⟨v', w', hr, h2, h3, h4, h5⟩ := run_append_own_at (P := P) W base t ty e i z size bytes ht hi hz hsi hby hzs hsz v xs.length (xs.flatMap enc) hown ad ys.length c (ys.flatMap enc) (xN hs ys) hnews
      (by intro u hu; rw [List.mem_flatMap] at hu; obtain ⟨y, _, hu⟩ := hu; exact h1 y u hu) h63 hbytes hbase
    refine ⟨v', w', hr, ?_, h3, fun h => (h4.1 h).1, h5⟩
    unfold Own
    rw [List.length_append, List.flatMap_append]
    exact h2
theorem wpList_copy {α : Type} {P : Program} {ops : Array Oper} {rest : List Oper} {o : Oper} {a : Act} {Q : Exit → Act → World → Prop} (enc : α → List Value) (size : Nat) (W : World) (hgd : o.guard = none) (s x : Operand) (t e : TypeId) (z : Value) (bytes : Nat)
    (ho : o.op = .call { callee := .builtin .append, args := #[s, x], argTypes := #[t, t] }) (ht : P.underlying t = some (.slice e)) (hinfo : (P.info? e).map (fun i => (i.zero, i.size, i.bytes)) = some (some z, size, bytes))
    (hzs : z.cells.size = size) (hsz : 0 < size) (hs : ∀ y, (enc y).length = size) (h1 : ∀ y, ∀ u ∈ enc y, u.oneCell' = true)
    (N : Nat) (hv : a.eval s = .slice (some ⟨N, 0, none⟩) 0 0) (A : Option Addr) (ys : List α) (c B : Nat) (hx : a.eval x = .slice A ys.length c) (hN : N = W.heap.size) (hrd : Rd enc size W B A ys) (hB : B ≤ W.heap.size)
    (hbytes : ys.length * bytes ≤ 140737488355328) (h63 : ys.length ≤ maxLen)
    (h : ∀ g cap w', Own enc size w' W.heap.size e (.slice (some ⟨g, 0, none⟩) ys.length cap) ys → Below W.heap.size W w' → g < w'.heap.size → W.heap.size < w'.heap.size →
      wpList P ops Q rest (a.put o.dst (.slice (some ⟨g, 0, none⟩) ys.length cap)) w') : wpList P ops Q (o :: rest) a (W.alloc (.cells #[] e)) := by
  subst hN
  obtain ⟨v', w', hr, hown, hg, hnn, hat⟩ := run_appends (P := P) enc size (W.alloc (.cells #[] e)) t o.type e z bytes ht hinfo hzs hsz hs h1 W.heap.size (.slice (some ⟨W.heap.size, 0, none⟩) 0 0) [] (Own.lit rfl (Nat.le_refl _)) A ys c W.heap.size (fun k y hk => by
      obtain ⟨b, o', e1, h2, h3⟩ := hrd k y hk
      exact ⟨b, o', e1, by omega, fun j u hu => ((vK W (.cells #[] e)).cell (p := ⟨b, o' + k * size + j, none⟩) (by show b < _; omega)).trans (h3 j u hu)⟩)
    (by simpa using hbytes) (by simpa using h63) (by simp)
  rw [List.nil_append] at hown
  refine wpList_plain hgd fun K hK => ?_
  obtain ⟨g, cap, rfl, hlt⟩ : ∃ g cap, v' = .slice (some ⟨g, 0, none⟩) ys.length cap ∧ g < w'.heap.size := by
    rcases hown.2 with ⟨he, hn⟩ | ⟨g, cap, cur, he, hb, hg, _⟩
    · have := hnn he
      simp at this
    · exact ⟨g, cap, he, lt_of_block hg⟩
  have hz : W.heap.size < w'.heap.size := by have := hg.size; simp at this; omega
  unfold Oper.wp execOp
  simp only [ho, resolve, invoke, builtin, Sem.run_bind, Sem.run_pure, Result.andThen_ok, List.map_toArray, List.map_cons, List.map_nil, hv, hx, hr]
  exact hK _ _ (h g cap w' hown ((vK W _).grown hg (by simp) (fun k e => by simp [Value.ownBlock] at e; omega)) hlt hz)
theorem Own.cap_le {α : Type} {enc : α → List Value} {size : Nat} {w : World} {base : Nat} {e : TypeId} {A : Option Addr} {n c : Nat} {ys : List α} (h : Own enc size w base e (.slice A n c) ys) : n ≤ c := by
  rcases h.2 with ⟨he, hn⟩ | ⟨g, cap, cur, he, hb, hg, h1, _⟩
  · simp only [Value.slice.injEq] at he
    omega
  · simp only [Value.slice.injEq] at he
    omega
end Go.Proofs.YtjeffognhcbiaaaDoor
