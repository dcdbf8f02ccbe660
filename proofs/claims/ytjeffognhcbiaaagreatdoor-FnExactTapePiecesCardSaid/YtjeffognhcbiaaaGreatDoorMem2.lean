/- More words for memory. -/
import Derived.Test.YtjeffognhcbiaaaGreatDoorOld
namespace Go.Proofs.YtjeffognhcbiaaaGreatDoor
open Go.RowKit
theorem Own.lit {α : Type} {enc : α → List Value} {size : Nat} {w : World} {base : Nat} {e : TypeId} {n : Nat} (hn : n = w.heap.size) (hb : base ≤ n) : Own enc size (w.alloc (.cells #[] e)) base e (.slice (some ⟨n, 0, none⟩) 0 0) [] := by
  subst hn; exact Own.lit0 hb
theorem qU (w : World) (o : Obj) : Below w.heap.size w (w.alloc o) := (Below.refl _ _).alloc (Nat.le_refl _) _
theorem below2 (w : World) (o o' : Obj) : Below w.heap.size w ((w.alloc o).alloc o') := (qU w o).alloc (by simp) _
section
variable {α : Type} {enc : α → List Value} {size : Nat} {w : World} {B : Nat}
theorem Rd.news {b o : Nat} {ys : List α} (h : Rd enc size w B (some ⟨b, o, none⟩) ys) (hsz : 0 < size) (hs : ∀ y, (enc y).length = size) : ∀ j u, (ys.flatMap enc)[j]? = some u → w.cell? ((⟨b, o, none⟩ : Addr).add j) = some u := by
  intro j u hu
  have hj : j < ys.length * size := by rw [← x4 hs ys]; exact (List.getElem?_eq_some_iff.1 hu).1
  have hd : j / size < ys.length := (Nat.div_lt_iff_lt_mul hsz).2 hj
  obtain ⟨y, hy⟩ := wY hd
  have h1 := flatMap_at hs ys (j / size) y hy (j % size) (Nat.mod_lt _ hsz)
  have h2 : j / size * size + j % size = j := by rw [Nat.mul_comm]; exact Nat.div_add_mod j size
  rw [h2, hu] at h1
  obtain ⟨b', o', e, _, hc⟩ := h _ _ hy
  simp only [Option.some.injEq, Addr.mk.injEq, and_true] at e
  obtain ⟨rfl, rfl⟩ := e
  have h3 := hc _ _ h1.symm
  have h4 : (⟨b, o, none⟩ : Addr).add j = ⟨b, o + j, none⟩ := by unfold Addr.add; split <;> simp_all
  rw [h4, ← h3, Nat.add_assoc, h2]
end
section
variable {α : Type} {enc : α → List Value} {size : Nat} {w : World} {base : Nat} {e : TypeId} {g n c : Nat} {ys : List α}
theorem flatMap_set1 (hs : ∀ x, (enc x).length = size) {k j : Nat} {y x : α} {u : Value} (hy : ys[k]? = some y) (hj : j < size) (hx : enc x = (enc y).set j u) : (ys.flatMap enc).set (k * size + j) u = (ys.set k x).flatMap enc := by
  refine flatMap_set ys k y x hy (fun l => l.set (k * size + j) u) ?_
  intro m hm
  have hl : ((ys.take k).flatMap enc).length = k * size := by rw [x4 hs]; congr 1; simp; have := (List.getElem?_eq_some_iff.1 hy).1; omega
  have a1 := set_append_right ((ys.take k).flatMap enc) (enc y ++ m) j u
  rw [hl] at a1
  show (ys.flatMap enc).set (k * size + j) u = _
  rw [hm, a1, set_append_left _ _ _ _ (by rw [hs]; exact hj), hx]
theorem Own.setAt (hs : ∀ x, (enc x).length = size) (h : Own enc size w base e (.slice (some ⟨g, 0, none⟩) n c) ys) (hn : n = ys.length) {k j : Nat} {y x : α} {u : Value} (hy : ys[k]? = some y) (hj : j < size) (hx : enc x = (enc y).set j u) :
    Own enc size (w.setCell ⟨g, k * size + j, none⟩ u) base e (.slice (some ⟨g, 0, none⟩) n c) (ys.set k x) := by
  subst hn
  unfold Own
  have h1 := (World.ownsRow.stored h (k * size + j) u).1
  rw [flatMap_set1 hs hy hj hx] at h1
  rw [List.length_set]
  exact h1
theorem Own.takes {A : Option Addr} (hs : ∀ x, (enc x).length = size) (h : Own enc size w base e (.slice A n c) ys) {m : Nat} (hm : m ≤ ys.length) : Own enc size w base e (.slice A m c) (ys.take m) := by
  have hl : (ys.take m).length = m := by simp; omega
  unfold Own
  rw [hl]
  refine ⟨by rw [x4 hs, hl], ?_⟩
  rcases h.2 with ⟨he, hn⟩ | ⟨g, cap, cur, he, hb, hg, h1, h2, h3, h4⟩
  · simp only [Value.slice.injEq] at he
    exact .inl ⟨by rw [he.1, he.2.2]; congr 1; omega, by omega⟩
  · simp only [Value.slice.injEq] at he
    obtain ⟨rfl, rfl, rfl⟩ := he
    refine .inr ⟨g, c, cur, rfl, hb, hg, by omega, h2, h3, ?_⟩
    have h5 : (ys.flatMap enc).take (m * size) = (ys.take m).flatMap enc := by
      conv => lhs; rw [← List.take_append_drop m ys, List.flatMap_append]
      rw [List.take_append_of_le_length (by rw [x4 hs, hl]; exact Nat.le_refl _), List.take_of_length_le (by rw [x4 hs, hl]; exact Nat.le_refl _)]
    rw [← h5, ← h4, List.take_take, Nat.min_eq_left (Nat.mul_le_mul_right size hm)]
end

theorem Own.cap_le {α : Type} {enc : α → List Value} {size : Nat} {w : World} {base : Nat} {e : TypeId} {A : Option Addr} {n c : Nat} {ys : List α} (h : Own enc size w base e (.slice A n c) ys) : n ≤ c := by
  rcases h.2 with ⟨he, hn⟩ | ⟨g, cap, cur, he, hb, hg, h1, _⟩
  · simp only [Value.slice.injEq] at he
    omega
  · simp only [Value.slice.injEq] at he
    omega
end Go.Proofs.YtjeffognhcbiaaaGreatDoor
