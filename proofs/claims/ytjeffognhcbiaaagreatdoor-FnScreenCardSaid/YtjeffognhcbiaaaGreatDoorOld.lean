/- The imports and small words that all texts of this seat share. -/
import Derived.Test.YtjeffognhcbiaaaGreatDoorRows
import Derived.WalkKit
import Derived.WalkSpells
import Derived.WalkLawsBesides
import Derived.Deep.QuietTactic
import Derived.BigQuiet
import Derived.Lib.Hide
import Derived.Deep.Quiet
import Derived.StillTail
import Derived.OrdersHeld
import Derived.KernelRfl
import Derived.Deep.AppendLies
import Derived.Deep.OwnRows
import Derived.ProofKit
import Derived.Deep.Slices
namespace Go.Proofs.YtjeffognhcbiaaaGreatDoor
open Go.RowKit

end Go.Proofs.YtjeffognhcbiaaaGreatDoor

namespace Go.Proofs.YtjeffognhcbiaaaGreatDoor
open Go

section
variable {P : Program} {ops : Array Oper} {md : Region.Mode} {Q : Exit → Act → World → Prop} {S : World → Prop}
structure In (S : World → Prop) where
  at_ : World
  ok : S at_
def Cls (S : World → Prop) (w' : World) : Prop := ∃ o : In S, w' = o.at_

theorem Cls.of {w : World} (h : S w) : Cls S w := ⟨⟨w, h⟩, rfl⟩
structure Same (w w' : World) : Prop where
  heap : w'.heap = w.heap
  os : w'.os = w.os
  tape : w'.tape = w.tape
  output : w'.output = w.output
theorem Same.cell {w w' : World} (h : Same w w') (p : Addr) : w'.cell? p = w.cell? p := by unfold World.cell?; rw [h.heap]
theorem Same.frozen {w w' : World} (h : Same w w') (p : Addr) : w'.frozen? p = w.frozen? p := by unfold World.frozen?; rw [h.heap]
theorem Same.size {w w' : World} (h : Same w w') : w'.heap.size = w.heap.size := by rw [h.heap]
theorem Same.block {w w' : World} (h : Same w w') (k : Nat) : w'.heap[k]? = w.heap[k]? := by rw [h.heap]
end
end Go.Proofs.YtjeffognhcbiaaaGreatDoor

namespace Go.Proofs.YtjeffognhcbiaaaGreatDoor
open Go.RowKit
def Rd {α : Type} (enc : α → List Value) (size : Nat) (w : World) (B : Nat) (A : Option Addr) (xs : List α) : Prop :=
  ∀ k x, xs[k]? = some x → ∃ b o, A = some ⟨b, o, none⟩ ∧ b < B ∧ ∀ j u, (enc x)[j]? = some u → w.cell? ⟨b, o + k * size + j, none⟩ = some u

section
variable {α : Type} {enc : α → List Value} {size : Nat} {w w' : World} {B B' : Nat} {A : Option Addr} {xs : List α}
theorem Rd.nil : Rd enc size w B A [] := fun k x h => by simp at h
theorem Rd.below (h : Rd enc size w B A xs) (hb : Below B' w w') (hB : B ≤ B') : Rd enc size w' B A xs := fun k x hx => by
  obtain ⟨b, o, e, hlt, hc⟩ := h k x hx
  exact ⟨b, o, e, hlt, fun j u hu => (hb.cell (p := ⟨b, o + k * size + j, none⟩) (by show b < B'; omega)).trans (hc j u hu)⟩
theorem Rd.mono (h : Rd enc size w B A xs) (hB : B ≤ B') : Rd enc size w B' A xs := fun k x hx => by
  obtain ⟨b, o, e, hlt, hc⟩ := h k x hx
  exact ⟨b, o, e, by omega, hc⟩
theorem Rd.drop {b o : Nat} (h : Rd enc size w B (some ⟨b, o, none⟩) xs) (n : Nat) : Rd enc size w B (some ⟨b, o + n * size, none⟩) (xs.drop n) := fun k x hx => by
  rw [List.getElem?_drop] at hx
  obtain ⟨b', o', e, hlt, hc⟩ := h (n + k) x hx
  simp only [Option.some.injEq, Addr.mk.injEq, and_true] at e
  obtain ⟨rfl, rfl⟩ := e
  refine ⟨b, o + n * size, rfl, hlt, fun j u hu => ?_⟩
  have := hc j u hu
  rw [Nat.add_mul] at this
  rw [← this]
  congr 2
  omega
theorem Rd.take (h : Rd enc size w B A xs) (n : Nat) : Rd enc size w B A (xs.take n) := fun k x hx => by
  rw [List.getElem?_take] at hx
  split at hx
  · exact h k x hx
  · cases hx

end
def encI (n : Int) : List Value := [.int .i64 n]
def encS (s : ByteArray) : List Value := [.string s]
section
variable {w : World} {B : Nat} {A : Option Addr}
theorem Rd.int {xs : List Int} (h : Rd encI 1 w B A xs) {k : Nat} {x : Int} (hx : xs[k]? = some x) : ∃ b o, A = some ⟨b, o, none⟩ ∧ b < B ∧ w.cell? ⟨b, o + k, none⟩ = some (.int .i64 x) := by
  obtain ⟨b, o, e, hlt, hc⟩ := h k x hx
  exact ⟨b, o, e, hlt, by simpa using hc 0 _ rfl⟩
theorem Rd.str {xs : List ByteArray} (h : Rd encS 1 w B A xs) {k : Nat} {x : ByteArray} (hx : xs[k]? = some x) : ∃ b o, A = some ⟨b, o, none⟩ ∧ b < B ∧ w.cell? ⟨b, o + k, none⟩ = some (.string x) := by
  obtain ⟨b, o, e, hlt, hc⟩ := h k x hx
  exact ⟨b, o, e, hlt, by simpa using hc 0 _ rfl⟩
end
section
variable {α : Type} {enc : α → List Value} {size : Nat} {w w' : World} {B : Nat} {A : Option Addr} {xs : List α}
theorem Same.below (h : Same w w') (B : Nat) : Below B w w' := ⟨h.os, h.tape, h.output, Nat.le_of_eq h.size.symm, fun k _ => h.block k⟩
theorem Rd.same (h : Rd enc size w B A xs) (hs : Same w w') : Rd enc size w' B A xs := h.below (hs.below B) (Nat.le_refl _)
end
def Own {α : Type} (enc : α → List Value) (size : Nat) (w : World) (base : Nat) (e : TypeId) (v : Value) (xs : List α) : Prop :=
  w.ownsRow base e size v xs.length (xs.flatMap enc)
section
variable {α : Type} {enc : α → List Value} {size : Nat} {w w' : World} {base : Nat} {e : TypeId} {v : Value} {xs : List α}
theorem Own.none_ : Own enc size w base e (.slice none 0 0) [] := World.ownsRow_nil w base e size
theorem Own.lt (h : Own enc size w base e v xs) : ∀ k, v.ownBlock = some k → base ≤ k ∧ k < w.heap.size := World.ownsRow.lt h
theorem Own.kept {E : Option Nat} (h : Own enc size w base e v xs) (hg : w.grownBy w' E) (hne : v.ownBlock = none ∨ v.ownBlock ≠ E) : Own enc size w' base e v xs := World.ownsRow.kept h hg hne
theorem Own.below (h : Own enc size w base e v xs) (hb : Below w.heap.size w w') : Own enc size w' base e v xs := by
  refine ⟨h.1, ?_⟩
  rcases h.2 with hn | ⟨g, cap, cur, rfl, hbg, hg, rest⟩
  · exact .inl hn
  · exact .inr ⟨g, cap, cur, rfl, hbg, (hb.block g (lt_of_block hg)).trans hg, rest⟩
theorem Own.same (h : Own enc size w base e v xs) (hs : Same w w') : Own enc size w' base e v xs := h.below (hs.below _)
theorem Own.alloc (h : Own enc size w base e v xs) (o : Obj) : Own enc size (w.alloc o) base e v xs := World.ownsRow.alloc h o
theorem Own.mono {base' : Nat} (h : Own enc size w base e v xs) (hb : base' ≤ base) : Own enc size w base' e v xs := by
  refine ⟨h.1, ?_⟩
  rcases h.2 with hn | ⟨g, cap, cur, rfl, hbg, rest⟩
  · exact .inl hn
  · exact .inr ⟨g, cap, cur, rfl, Nat.le_trans hb hbg, rest⟩
end
def fill {α : Type} (xs : List α) (z : α) (k : Nat) : List α := xs.take k ++ List.replicate (xs.length - k) z
section
variable {α : Type} {enc : α → List Value} {w : World} {base : Nat} {e : TypeId} {g n c : Nat} {ys : List α}
end

theorem Own.block {α : Type} {enc : α → List Value} {size : Nat} {w : World} {base : Nat} {e : TypeId} {A : Option Addr} {n c : Nat} {ys : List α} (h : Own enc size w base e (.slice A n c) ys) (hn : 0 < ys.length) : ∃ g, A = some ⟨g, 0, none⟩ ∧ base ≤ g ∧ g < w.heap.size := by
  rcases h.2 with ⟨he, h0⟩ | ⟨g, cap, cur, he, hb, hg, _⟩
  · omega
  · simp only [Value.slice.injEq] at he
    obtain ⟨rfl, _, _⟩ := he
    exact ⟨g, rfl, hb, lt_of_block hg⟩
end Go.Proofs.YtjeffognhcbiaaaGreatDoor

namespace Go.Proofs.YtjeffognhcbiaaaGreatDoor
open Go.RowKit Go.ChangeShapes Go.WideShapes Go.Deep

section
variable {H : Type} {enc : TypeId × Value → H} {P : Program} {w : World} {base : Nat} {spare : Nat → Bool} {held : Bool}
theorem add_lit (b o i : Nat) : (⟨b, o, none⟩ : Addr).add i = ⟨b, o + i, none⟩ := by unfold Addr.add; split <;> simp_all
theorem spot_none {a : Addr} {v : Value} (h : w.cell? (a.add 0) = some v) : a = ⟨a.block, a.off, none⟩ := by
  have h0 : a.add 0 = a := by unfold Addr.add; simp
  rw [h0] at h
  obtain ⟨b, o, s⟩ := a
  cases s with
  | none => rfl
  | some s =>
    unfold World.cell? at h
    split at h <;> simp at h
end
section
variable {H : Type} {enc : TypeId × Value → H} {P : Program}
theorem post_of_below {f : Func} {s : ChangeSpec} {apart fresh handsOn again : Bool} {W W' : World} {args : Array Value} {v : Value} {ds gs : List (DataW H)} {before pa pv : List MemPlace}
    (hW : DataW.Whole enc P f.params.toList s.vars apart W args.toList ds gs before)
    (hres : ∀ (b : Nat) (sp : Nat → Bool) (hd : Bool), DataW.TrodAll enc P W' b sp hd f.resultTypes.toList (v.resultList f.resultTypes.size) (s.fn H (ds ++ gs)).results [])
    (hargs : ∀ sp : Nat → Bool, (∀ p ∈ before, sp p.block = true) → DataW.TrodAll enc P W' 0 sp true f.params.toList args.toList (s.fn H (ds ++ gs)).args pa)
    (hvars : ∀ sp : Nat → Bool, (∀ p ∈ before, sp p.block = true) → DataW.TrodVars enc P W' sp s.vars (s.fn H (ds ++ gs)).vars pv)
    (hps : before = pa ++ pv) (hb : Below W.heap.size W W')
    (hok : ∀ (j : Nat) (t : TypeId) (r : Value), f.resultTypes[j]? = some t → (v.resultList f.resultTypes.size)[j]? = some r → Value.okWide P W' .any 0 t r) :
    s.post enc P f apart fresh handsOn again W args v W' := by
  have hlt : ∀ p ∈ before, p.block < W.heap.size := fun p hp => hW.lt p hp
  have hold : ∀ p ∈ before, (fun b => decide (b < W.heap.size)) p.block = true := fun p hp => by simpa using hlt p hp
  refine ⟨ds, gs, before, [], pa, pv, hW, hres _ _ _, hargs _ hold, hvars _ hold, World.keptBut_mono (fun p hp => ⟨hp, ?_⟩) (hb.frame (· ∈ before)), fun _ => ?_⟩
  · rw [hps, List.mem_append] at hp
    exact Or.inr hp
  · obtain ⟨_, _, _, _, _, hz, hn⟩ := hW
    refine ⟨hok, _, _, ([] ++ pa) ++ pv, ⟨[] ++ pa, pv, trodAll_append (hargs _ (fun _ _ => rfl)) (hres _ _ _), hvars _ (fun _ _ => rfl), rfl, ?_, ?_⟩, ?_⟩
    · intro b off hp
      have hin : MemPlace.cell b off ∈ before := by rw [hps]; simpa using hp
      rw [hb.frozen (hlt _ hin)]
      exact hz b off hin
    · intro ha
      have := hn ha
      rw [hps] at this
      simpa using this
    · intro p hp _
      rw [hps]
      simpa using hp
end
theorem stays {H : Type} {enc : TypeId × Value → H} {P : Program} {t : TypeId} (hl : laidOutB P = true) (hr : P.readableRec t = true) (hrow : t < P.types.size) {W W' : World} {v : Value} {d : DataW H} {ps : List MemPlace} {sp : Nat → Bool}
    (h : DataW.Trod enc P W 0 (fun _ => true) true t v d ps) (hb : Below W.heap.size W W') (hlt : ∀ x ∈ ps, x.block < W.heap.size) (hsp : ∀ x ∈ ps, sp x.block = true) : DataW.Trod enc P W' 0 sp true t v d ps :=
  WideElems.Trod_stays hl hr hrow h (fun x hx => hb.same (hlt x hx)) hsp
theorem Tryz.own : ownKnob Tryz.prog.godebug = none := by kernel_rfl
theorem Tryz.laidOut : laidOutB Tryz.prog = true := by kernel_rfl
end Go.Proofs.YtjeffognhcbiaaaGreatDoor
