/- What the concrete walks of laws with dictionaries carry on. -/
import Derived.Test.YtjeffognhcbiaaaDoorNsD
namespace Go.Proofs.YtjeffognhcbiaaaDoor
open Go Go.RowKit
theorem Ag.gi {W w : World} {A : Option Addr} {c : Nat} {es : List Ent} (h : Ag W A c es w) (gi : GI (fun b => b < W.heap.size) W) : GI (fun b => b < w.heap.size) w := GI.up gi (fun b hb => h.t.block b hb) (Nat.le_of_lt h.lt)
theorem Ag.fr {W w w' : World} {A : Option Addr} {c lo hi : Nat} {es : List Ent} (h : Ag W A c es w) (hf : Fr lo hi w w') (hlo : W.heap.size < lo) : Ag W A c es w' := by
  have hb : Below (W.heap.size + 1) w w' := ⟨hf.os, hf.tape, hf.output, hf.size, fun k hk => hf.block k (by have := h.lt; omega) (by omega)⟩
  exact ⟨h.t.trans (hb.mono (Nat.le_succ _)), Nat.lt_of_lt_of_le h.lt hf.size, (hb.cell (p := ⟨W.heap.size, 0, none⟩) (Nat.lt_succ_self _)).trans h.bx, h.rd.below hb (by omega)⟩
theorem Ag.glo {W w : World} {A : Option Addr} {c lo : Nat} {es : List Ent} (h : Ag W A c es w) (gi : GI (fun b => b < W.heap.size) W) (hlo : W.heap.size ≤ lo) : GI (fun b => b < lo) w :=
  gi.mono (fun b hb _ => Nat.lt_of_lt_of_le hb hlo) (fun b hb _ => h.t.block b hb)
theorem szEs_sum : ∀ {es : List Ent} {l : Int}, 0 ≤ l → 0 ≤ qM es l → (((es.map fun e => e.o.length).sum : Nat) : Int) ≤ l
  | [], l, h, _ => by simpa using h
  | e :: es, l, h0, h => by
    have h1 := szE_ge (e := e) h0
    rw [qM] at h
    split at h
    · omega
    · have h2 : szE e l ≤ l - e.o.length := by
        unfold szE szI at *
        split
        · split at * <;> omega
        · split at * <;> split <;> omega
      have := szEs_sum (l := szE e l) (by omega) h
      simp only [List.map_cons, List.sum_cons, Int.natCast_add]
      omega
theorem szDi_sum {es : List Ent} (h : 0 ≤ wS es 1048576) : (es.map fun e => e.o.length + 1).sum ≤ 1048576 := by
  have h1 : ∀ es : List Ent, (es.map fun e => e.o.length + 1).sum = (es.map fun e => e.o.length).sum + es.length := fun es => by
    induction es with
    | nil => rfl
    | cons e es ih => simp only [List.map_cons, List.sum_cons, List.length_cons, ih]; omega
  unfold wS at h
  split at h
  · omega
  · have := szEs_sum (by omega) h
    rw [h1]
    omega
end Go.Proofs.YtjeffognhcbiaaaDoor
