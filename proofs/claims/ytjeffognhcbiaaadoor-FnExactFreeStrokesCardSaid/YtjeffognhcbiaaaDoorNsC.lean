/- Functions that the abstract machine knows, called in a concrete walk. -/
import Derived.Test.YtjeffognhcbiaaaDoorNsG
namespace Go.Proofs.YtjeffognhcbiaaaDoor
open Go Go.RowKit
theorem got_tup {I : Nat → Prop} {β : Nat → Option BI} {w w' : World} {L : List Int} {k : Nat} {b : Bool} {v : Value} (h : RepV I β w' (.tup [.c (.ref 0 0 k), .c (boo b)]) v) (hk : k ≤ L.length) (ho : ObjAt I β w' (fun b => w.heap.size ≤ b) 0 ⟨3, 1, L.map yO⟩) :
    ∃ u, v = .tuple #[u, .bool b] ∧ GotI w.heap.size w'.heap.size w' L k u := by
  obtain ⟨u, y, rfl, h1, h2⟩ := tup_two h
  have h2' : Rep I β w' (boo b) y := h2
  have e : y = .bool b := vB h2'
  subst e
  refine ⟨u, rfl, hk, β, obj_ints ho rfl fun q B hB hb hM => ⟨fun h => h, ⟨hM, (ho.lt hB hb).1⟩, rfl⟩, ref_rep h1 rfl⟩
theorem v8 {lo hi lo' hi' : Nat} {w : World} {L L' : List Int} {k k' : Nat} {v v' : Value} (h : GotI lo hi w L k v) (h' : GotI lo' hi' w L' k' v') (he : L.take k = L'.take k') (hb : (L.take k).length ≤ 4000000) (hh : hi ≤ w.heap.size) (hh' : hi' ≤ w.heap.size) (gi : GI (fun b => b < w.heap.size) w) :
    Calls Tryd.prog 9 #[v, v'] w fun e w' => e = .returned (.bool true) ∧ Below w.heap.size w w' := by
  have r1 := h.rep.mono (I' := fun b => b < w.heap.size) (fun b hb => by have := hb.2; omega) (fun _ _ => rfl)
  have r2 := h'.rep.mono (I' := fun b => b < w.heap.size) (fun b hb => by have := hb.2; omega) (fun _ _ => rfl)
  rw [← he] at r2
  refine (vN (eqIntS_pf (L.take k) hb) gi (vals := [v, v']) (.cons (Rep.imm r1) (.cons (Rep.imm r2) .nil))).mono ?_
  rintro e w' ⟨u, I', β', rfl, hv, hb, _⟩
  have e : u = .bool true := vB (show Rep I' β' w' (boo true) u from hv)
  rw [e]
  exact ⟨rfl, hb⟩
theorem markGot {lo hi : Nat} {w : World} {L : List Int} {v : Value} {k : Nat} (h : GotI lo hi w L L.length v) (hl : L.length ≤ 4000000) (hk : k ≤ 1000000) (hh : hi ≤ w.heap.size) (gi : GI (fun b => b < lo) w) (hlo : lo ≤ w.heap.size) :
    Calls Tryd.prog 12 #[v, .int .i64 (k : Int)] w fun e w' => e = .returned (.int .i64 ((k : Int) + L.length)) ∧ GotI lo hi w' (mkI k L.length) (mkI k L.length).length v ∧ Fr lo hi w w' := by
  obtain ⟨_, β, h2, h3⟩ := h
  have hin : ∀ b B, β 0 = some B → B.blk = some b → lo ≤ b ∧ b < hi := fun b B hB hb => (h2.lt hB hb).2.1
  have hβ : ∀ o B, (fun o => if o = 0 then β 0 else none) o = some B → o = 0 ∧ β 0 = some B := fun o B e => by
    simp only at e
    split at e
    · exact ⟨by assumption, e⟩
    · cases e
  have hblk : ∀ b, wF (fun o => if o = 0 then β 0 else none) 1 b → lo ≤ b ∧ b < hi := fun b ⟨o, B, _, hB, hb⟩ => hin b B (hβ o B hB).2 hb
  refine ((markIntS_pfm L k hl (by omega) (by omega)).run (fun b => b < lo) (fun o => if o = 0 then β 0 else none) w [v, .int .i64 (k : Int)] (fun b hb => Nat.lt_of_lt_of_le hb hlo) gi (fun o B e => by have := (hβ o B e).1; simp; omega) (fun o obj e => ?_) (fun o o' obj obj' B B' b e e' hne hB hB' => absurd ((hβ o B hB).1.trans (hβ o' B' hB').1.symm) hne) (.cons (ref_rep h3 rfl) (.cons (Rep.imm (.v _ rfl)) .nil))).mono ?_
  · cases o with
    | zero =>
      simp only [List.getElem?_cons_zero, Option.some.injEq] at e
      subst e
      exact obj_ints h2 rfl fun b B hB hb hM => ⟨fun hlt => by have := hM.1; omega, ⟨0, B, by simp, by simpa using hB, hb⟩, rfl⟩
    | succ o => simp at e
  · rintro e w' ⟨u, I', β', rfl, hv, hk, hI, _, _, h5, h6, _⟩
    have e : u = .int .i64 ((k : Int) + L.length) := vB (show Rep I' β' w' (int ((k : Int) + L.length)) u from hv)
    subst e
    have hβ0 : β' 0 = β 0 := by have := h5 0 (by simp); simpa using this
    have ho := h6 0 _ rfl
    refine ⟨rfl, ⟨Nat.le_refl _, β', obj_ints ho rfl fun b B hB hb _ => ⟨fun h => h, hin b B (by rw [← hβ0]; exact hB) hb, rfl⟩, ?_⟩, ⟨hk.os, hk.tape, hk.output, hk.size, fun b hb hn => hk.block b hb fun hbl => by have := hblk b hbl; omega⟩⟩
    rw [vL]
    exact ref_rep h3 hβ0
theorem heldGot {lo hi : Nat} {w : World} {k n : Nat} {v : Value} (h : GotI lo hi w (mkI k n) (mkI k n).length v) (hn : n ≤ 4000000) (hk : k ≤ 1000000) (hh : hi ≤ w.heap.size) (gi : GI (fun b => b < w.heap.size) w) :
    Calls Tryd.prog 13 #[v, .int .i64 (k : Int)] w fun e w' => e = .returned (.int .i64 ((k : Int) + n)) ∧ Below w.heap.size w w' := by
  have r1 := h.rep.mono (I' := fun b => b < w.heap.size) (fun b hb => by have := hb.2; omega) (fun _ _ => rfl)
  rw [List.take_length] at r1
  refine (vN (heldIntS_pf (mkI k n) k (by rw [vL]; omega) (by omega) (by omega) (by rw [vL])) gi (vals := [v, .int .i64 (k : Int)]) (.cons (Rep.imm r1) (.cons (Rep.imm (.v _ rfl)) .nil))).mono ?_
  rintro e w' ⟨u, I', β', rfl, hv, hb, _⟩
  rw [vL] at hv
  have e : u = .int .i64 ((k : Int) + n) := vB (show Rep I' β' w' (int ((k : Int) + n)) u from hv)
  rw [e]
  exact ⟨rfl, hb⟩
end Go.Proofs.YtjeffognhcbiaaaDoor
