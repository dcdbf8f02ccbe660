/- A frame with blocks that may qD; contracts of the abstract machine called in a concrete walk. -/
import Derived.Test.YtjeffognhcbiaaaDoorMem2
import Derived.Test.YtjeffognhcbiaaaDoorAbsRead
import Derived.Test.YtjeffognhcbiaaaDoorStrs
namespace Go.Proofs.YtjeffognhcbiaaaDoor
open Go Go.RowKit
structure Fr (lo hi : Nat) (w w' : World) : Prop where
  os : w'.os = w.os
  tape : w'.tape = w.tape
  output : w'.output = w.output
  size : w.heap.size ≤ w'.heap.size
  block : ∀ k, k < w.heap.size → (k < lo ∨ hi ≤ k) → w'.heap[k]? = w.heap[k]?
theorem Fr.refl (lo hi : Nat) (w : World) : Fr lo hi w w := ⟨rfl, rfl, rfl, Nat.le_refl _, fun _ _ _ => rfl⟩
theorem Fr.trans {lo hi : Nat} {a b c : World} (h : Fr lo hi a b) (k : Fr lo hi b c) : Fr lo hi a c :=
  ⟨k.os.trans h.os, k.tape.trans h.tape, k.output.trans h.output, Nat.le_trans h.size k.size, fun i hi' hn => (k.block i (Nat.lt_of_lt_of_le hi' h.size) hn).trans (h.block i hi' hn)⟩
theorem Fr.of_below {lo hi : Nat} {a b : World} (h : Below a.heap.size a b) : Fr lo hi a b := ⟨h.os, h.tape, h.output, h.size, fun k hk _ => h.block k hk⟩
theorem Fr.of_grown {lo hi : Nat} {a b : World} {E : Option Nat} (h : a.grownBy b E) (hE : ∀ g, E = some g → lo ≤ g ∧ g < hi) : Fr lo hi a b :=
  ⟨h.os, h.tape, h.output, h.size, fun k hk hn => h.block k hk fun e => by have := hE k e.symm; omega⟩
theorem Fr.set {lo hi : Nat} (w : World) (p : Addr) (u : Value) (h : lo ≤ p.block ∧ p.block < hi) : Fr lo hi w (w.setCell p u) :=
  ⟨rfl, rfl, rfl, by simp, fun k hk hn => by
    have hne : k ≠ p.block := by omega
    exact heap_setCell_other w p k u hne⟩
theorem Fr.cell {lo hi : Nat} {w w' : World} (h : Fr lo hi w w') {p : Addr} (hs : p.block < w.heap.size) (hn : p.block < lo ∨ hi ≤ p.block) : w'.cell? p = w.cell? p := by
  have := h.block p.block hs hn
  unfold World.cell?
  rw [this]
theorem plain_all2 {I : Nat → Prop} {β : Nat → Option BI} {w : World} : ∀ {xs : List Value}, (∀ x ∈ xs, x.oneCell' = true) → All2 (RepF I β w) (xs.map fun x => AVal.c (.v x)) xs
  | [], _ => .nil
  | x :: xs, h => .cons (Rep.imm (.v x (h x (List.mem_cons_self ..)))) (plain_all2 fun y hy => h y (List.mem_cons_of_mem _ hy))
theorem pf_plain {P : Program} {f : Nat} {xs : List Value} {r : Value} (h : PF P f (xs.map fun x => AVal.c (.v x)) [] (.c (.v r))) (h1 : ∀ x ∈ xs, x.oneCell' = true) {w : World} {I : Nat → Prop} (hI : ∀ b, I b → b < w.heap.size) (gi : GI I w) : Calls P f xs.toArray w fun e w' => e = .returned r ∧ Below w.heap.size w w' := by
  refine (h.run I (fun _ => none) w xs hI gi (fun o B e => by cases e) (fun o obj e => by simp at e) (fun o o' obj obj' B B' b e => by simp at e) (plain_all2 h1)).mono ?_
  rintro e w' ⟨v, I', β', rfl, hv, hk, _⟩
  have hv' : Rep I' β' w' (.v r) v := hv
  cases hv' with
  | imm hv' =>
    cases hv' with
    | v _ _ => exact ⟨rfl, ⟨hk.os, hk.tape, hk.output, hk.size, fun k hlt => hk.block k hlt fun ⟨o, B, ho, _⟩ => absurd ho (Nat.not_lt_zero _)⟩⟩
abbrev SlV := Option Addr × Nat × Nat
def vS (s : SlV) : Value := .slice s.1 s.2.1 s.2.2
def DisS (S : List SlV) : Prop := ∀ (j k : Nat) (s t : SlV) (b : Nat), j ≠ k → S[j]? = some s → S[k]? = some t → (vS s).ownBlock = some b → (vS t).ownBlock ≠ some b
def LtS (S : List SlV) (N : Nat) : Prop := ∀ (k : Nat) (s : SlV) (b : Nat), S[k]? = some s → (vS s).ownBlock = some b → b < N
theorem repI_v {I : Nat → Prop} {w : World} {x v : Value} (h : RepI I w (.v x) v) : v = x := by cases h with | v _ _ => rfl
theorem ints_repI {I : Nat → Prop} {w : World} {B : Nat} {A : Option Addr} {o : List Int} {c : Nat} (h : Rd xX 1 w B A o) (hc : o.length ≤ c) (hI : ∀ b f, A = some ⟨b, f, none⟩ → b < B → I b) : RepI I w (.sl (o.map yG)) (.slice A o.length c) := by
  cases o with
  | nil => exact .sl0 A c
  | cons x o =>
    obtain ⟨b, f, rfl, hb, _⟩ := h.int (k := 0) rfl
    have hat : ∀ (i : Nat) y, (x :: o)[i]? = some y → w.cell? ⟨b, f + i, none⟩ = some (.int .i64 y) := fun i y hy => by
      obtain ⟨b', f', e, _, h2⟩ := h.int hy
      simp only [Option.some.injEq, Addr.mk.injEq, and_true] at e
      obtain ⟨rfl, rfl⟩ := e
      exact h2
    refine .sl _ b f 1 _ c (fun i j => .int .i64 ((x :: o)[i]?.getD 0)) (by rw [List.length_map]) hc (fun y hy => ?_) (hI b f rfl hb) (fun i j y d hy hd => ?_) (fun i j y d hy hd => ?_)
    · obtain ⟨p, _, rfl⟩ := List.mem_map.1 hy; rfl
    · rw [List.getElem?_map] at hy
      cases hi : (x :: o)[i]? with
      | none => rw [hi] at hy; cases hy
      | some p =>
        rw [hi] at hy
        cases hy
        cases j with
        | zero => rw [Nat.mul_one, Nat.add_zero]; exact hat i p hi
        | succ j => simp [yG] at hd
    · rw [List.getElem?_map] at hy
      cases hi : (x :: o)[i]? with
      | none => rw [hi] at hy; cases hy
      | some p =>
        rw [hi] at hy
        cases hy
        cases j with
        | zero =>
          simp only [yG, List.getElem?_cons_zero] at hd
          cases hd
          exact .v _ rfl
        | succ j => simp [yG] at hd
theorem ints_rep {w : World} {B : Nat} {A : Option Addr} {o : List Int} {c : Nat} (h : Rd xX 1 w B A o) (hc : o.length ≤ c) : RepI (fun b => b < B) w (.sl (o.map yG)) (.slice A o.length c) := ints_repI h hc fun _ _ _ hb => hb
def noB : Nat → Prop := fun _ => False
theorem ref_rep {I I' : Nat → Prop} {β β' : Nat → Option BI} {w w' : World} {k : Nat} {v : Value} (h : Rep I β w (.ref 0 0 k) v) (hβ : β' 0 = β 0) : Rep I' β' w' (.ref 0 0 k) v := by
  cases h with
  | imm h => cases h
  | ref _ _ _ b sz cap C h1 h2 h3 => exact .ref 0 0 k b sz cap C (hβ.trans h1) h2 h3
  | refE _ _ A cap h => exact absurd rfl h
  | ref0 _ sz C h => exact .ref0 0 sz C (hβ.trans h)
theorem vD {P : Program} {f : Nat} {ys : List AVal} {fr : List AObj} {r : AVal} (h : PF P f ys fr r) {w : World} (gi : GI (fun b => b < w.heap.size) w) {vals : List Value} (ha : All2 (RepF (fun b => b < w.heap.size) (fun _ => none) w) ys vals) :
    Calls P f vals.toArray w fun e w' => ∃ v I' β', e = .returned v ∧ RepV I' β' w' r v ∧ Below w.heap.size w w' ∧ (∀ b, I' b → b < w'.heap.size) ∧ ∀ (o : Nat) obj, fr[o]? = some obj → ObjAt I' β' w' (fun b => w.heap.size ≤ b) o obj := by
  refine (h.run _ (fun _ => none) w vals (fun b hb => hb) gi (fun o B e => by cases e) (fun o obj e => by simp at e) (fun o o' obj obj' B B' b e => by simp at e) ha).mono ?_
  rintro e w' ⟨v, I', β', rfl, hv, hk, hI, _, _, _, ho, _⟩
  refine ⟨v, I', β', rfl, hv, ⟨hk.os, hk.tape, hk.output, hk.size, fun k hlt => hk.block k hlt fun ⟨o, B, ho, _⟩ => absurd ho (Nat.not_lt_zero _)⟩, hI, fun o obj hob => ?_⟩
  refine (ho o obj (by rw [List.getElem?_map, hob]; rfl)).mayMono fun b hb => ?_
  rcases hb with ⟨o, B, ho, _⟩ | hb
  · exact absurd ho (Nat.not_lt_zero _)
  · exact hb
theorem tup_two {I : Nat → Prop} {β : Nat → Option BI} {w : World} {x y : AVal} {v : Value} (h : RepV I β w (.tup [x, y]) v) : ∃ a b, v = .tuple #[a, b] ∧ RepF I β w x a ∧ RepF I β w y b := by
  obtain ⟨vals, rfl, h1⟩ := RepV.tup.1 h
  cases h1 with
  | cons h1 h2 => cases h2 with
    | cons h2 h3 => cases h3 with
      | nil => exact ⟨_, _, rfl, h1, h2⟩
theorem qI {I : Nat → Prop} {β : Nat → Option BI} {w : World} {x v : Value} (h : Rep I β w (.v x) v) : v = x := by
  cases h with
  | imm h => exact repI_v h
theorem nil_tup {I : Nat → Prop} {β : Nat → Option BI} {w : World} {b : Bool} {v : Value} (h : RepV I β w (.tup [.c .nil, .c (boo b)]) v) : v = .tuple #[.slice none 0 0, .bool b] := by
  obtain ⟨u, y, rfl, h1, h2⟩ := tup_two h
  have h2' : Rep I β w (boo b) y := h2
  have e : y = .bool b := qI h2'
  subst e
  have h1' : Rep I β w .nil u := h1
  cases h1' with
  | imm h => cases h; rfl
theorem GI.up {w0 w : World} (h : GI (fun b => b < w0.heap.size) w0) (hb : ∀ b, b < w0.heap.size → w.heap[b]? = w0.heap[b]?) (hs : w0.heap.size ≤ w.heap.size) : GI (fun b => b < w.heap.size) w := h.mono (fun b hb _ => Nat.lt_of_lt_of_le hb hs) fun b hb' _ => hb b hb'
end Go.Proofs.YtjeffognhcbiaaaDoor
