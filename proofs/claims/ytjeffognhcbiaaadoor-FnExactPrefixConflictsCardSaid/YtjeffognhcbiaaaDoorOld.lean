/- The imports and small words that all texts of this seat share. -/
import Derived.Test.YtjeffognhcbiaaaDoorRows
import Derived.WalkKit
import Derived.WalkSpells
import Derived.WalkLawsBesides
import Derived.Deep.QuietTactic
import Derived.BigQuiet
import Derived.Lib.Hide
import Derived.Deep.Quiet
import Derived.StillTail
import Derived.OrdersHeld
import Derived.KernelRfl
import Derived.Deep.AppendLies
import Derived.Deep.OwnRows
import Derived.ProofKit
import Derived.Deep.Slices
namespace Go.Proofs.YtjeffognhcbiaaaDoor
open Go.RowKit

end Go.Proofs.YtjeffognhcbiaaaDoor

namespace Go.Proofs.YtjeffognhcbiaaaDoor
open Go

section
variable {P : Program} {ops : Array Oper} {md : Region.Mode} {Q : Exit → Act → World → Prop} {S : World → Prop}
structure In (S : World → Prop) where
  at_ : World
  ok : S at_
def Cls (S : World → Prop) (w' : World) : Prop := ∃ o : In S, w' = o.at_

theorem Cls.of {w : World} (h : S w) : Cls S w := ⟨⟨w, h⟩, rfl⟩
def noCall (o : Oper) : Bool :=
  match o.op with
  | .move _ | .assign _ | .pick .. | .load .. | .binOp .. | .unOp .. | .convert .. | .slice .. | .fieldAddr .. | .field .. | .indexAddr .. | .index .. | .extract .. | .build .. | .makeInterface .. | .nilCheck _ => true
  | .call { callee := .builtin .len, .. } => true
  | _ => false
def wpH (P : Program) (ops : Array Oper) (Q : Exit → Act → World → Prop) (S : World → Prop) (L : Act → World → Prop) : List (Nat × Bool) → Act → World → Prop
  | [], a, w => L a w
  | (i, false) :: r, a, w => qOp P ops (Cls S) i (fun a' => wpH P ops Q S L r a' w) a
  | (i, true) :: r, a, w => wpOp P ops Q i (fun a' w' => S w' ∧ wpH P ops Q S L r a' w') a w
def wpAnyM (P : Program) (md : Region.Mode) (ops : Array Oper) (Q : Exit → Act → World → Prop) (S : World → Prop) (n : Nat) (L : Array Bool → Act → World → Prop) : Nat → Array Bool → Act → World → Prop
  | 0, listed, a, w => L listed a w
  | f + 1, listed, a, w =>
    Region.ready md ops listed ≠ [] ∧ ∀ i ∈ Region.ready md ops listed, i < n ∧ wpOp P ops Q i (fun a' w' => S w' ∧ wpAnyM P md ops Q S n L f (listed.setIfInBounds i true) a' w') a w

theorem wpAny_of_headM {n g : Nat} {L : Array Bool → Act → World → Prop} (hL : ∀ listed a w, L listed a w → wpAny P md ops Q g listed a w) :
    ∀ (f : Nat) (listed : Array Bool) (a : Act) (w : World), wpAnyM P md ops Q S n L f listed a w → wpAny P md ops Q (f + g) listed a w
  | 0, listed, a, w, h => by rw [Nat.zero_add]; exact hL _ _ _ h
  | f + 1, listed, a, w, h => by
    rw [show f + 1 + g = (f + g) + 1 by omega]
    exact ⟨fun h0 => absurd h0 h.1, fun i hi => wpOp_mono (fun a' w' h' => wpAny_of_headM hL f _ a' w' h'.2) (h.2 i hi).2⟩

theorem wpAnyM_first {n i : Nat} {oi : Oper} {v : Value} {L : Array Bool → Act → World → Prop} (hi : ops[i]? = some oi) (hsel : ∀ (j : Nat) (o : Oper) cs b, ops[j]? = some o → o.op ≠ .select cs b)
    (hQ : ∀ c a w, Q (.panic c) (a.put oi.dst v) w → Q (.panic c) a w)
    (hs : Region.sinkB md ops n = true) (hc : Region.chainB md ops n = true) (hn : n < ops.size) (hin : i < n)
    (hdone : ∀ listed a w, L listed a w → ∀ j ∈ Region.ready md ops listed, n ≤ j) :
    ∀ (f : Nat) (listed : Array Bool) (a : Act) (w : World), HeadInv md ops n listed →
      (∀ j oj, ops[j]? = some oj → j ≠ i → listed.getD j true = false → (∀ e ∈ oj.after, Region.binds md e = true → e.on ≠ i) → oi.apart ops oj = true) →
      i ∈ Region.ready md ops listed → YieldsIf P ops S oi v a → S w →
      wpAnyM P md ops Q S n L f (listed.setIfInBounds i true) (a.put oi.dst v) w → wpAnyM P md ops Q S n L (f + 1) listed a w := by
  intro f
  induction f with
  | zero =>
    intro listed a w inv _ hr hy hS H
    have hun := (mem_ready.1 hr).1
    refine ⟨fun h => (by rw [h] at hr; cases hr), fun j hj => ?_⟩
    have hjn : j < n := by
      rcases Nat.lt_or_ge j n with h | h
      · exact h
      · exact absurd hj (tail_waits hs hc hn inv _ i rfl hin hun j h)
    refine ⟨hjn, ?_⟩
    by_cases hji : j = i
    · subst hji; exact hy.wpOp hi hS ⟨hS, H⟩
    · have := hdone _ _ _ H j (ready_mono hj hji)
      omega
  | succ f ih =>
    intro listed a w inv hfree hr hy hS H
    have hun := (mem_ready.1 hr).1
    refine ⟨fun h => (by rw [h] at hr; cases hr), fun j hj => ?_⟩
    have hjn : j < n := by
      rcases Nat.lt_or_ge j n with h | h
      · exact h
      · exact absurd hj (tail_waits hs hc hn inv _ i rfl hin hun j h)
    refine ⟨hjn, ?_⟩
    by_cases hji : j = i
    · subst hji; exact hy.wpOp hi hS ⟨hS, H⟩
    · have h1 := (H.2 j (ready_mono hj hji)).2
      obtain ⟨hjun, oj, hoj, hall⟩ := mem_ready.1 hj
      have hnot : ∀ e ∈ oj.after, Region.binds md e = true → e.on ≠ i := fun e he hb heq => by
        have h1 := hall e he hb
        rw [heq, getD_both hun] at h1
        cases h1
      have h2 := wpOp_putIf hoj (hfree j oj hoj hji hjun hnot) (fun cs b => hsel i oi cs b hi) (fun cs b => hsel j oj cs b hoj) hQ hy h1
      have hfree' : ∀ k ok, ops[k]? = some ok → k ≠ i → (listed.setIfInBounds j true).getD k true = false →
          (∀ e ∈ ok.after, Region.binds md e = true → e.on ≠ i) → oi.apart ops ok = true := fun k ok hk hki hun hno => by
        refine hfree k ok hk hki ?_ hno
        by_cases hjk : j = k
        · subst hjk; exact hjun
        · rw [getD_set_ne true hjk] at hun; exact hun
      refine wpOp_mono (fun a' w' h3 => ⟨h3.2.1, ih (listed.setIfInBounds j true) a' w' (inv.set hj hjn) hfree' (ready_mono hr (Ne.symm hji)) h3.1 h3.2.1 ?_⟩) h2
      rw [Array.setIfInBounds_comm _ _ hji]
      exact h3.2.2
def schedB (md : Region.Mode) (ops : Array Oper) (n : Nat) : List (Nat × Bool) → Array Bool → Bool
  | [], listed => Region.seqB md ops (ops.size - n) n listed
  | (i, b) :: r, listed => decide (i < n) && (Region.ready md ops listed).contains i &&
      (if b then decide (Region.ready md ops listed = [i]) else (Region.free md ops listed i && (match ops[i]? with | some o => noCall o | none => false))) &&
      schedB md ops n r (listed.setIfInBounds i true)

theorem run_value (s : Sem Value) (w w' : World) : (∀ f args, (do pure (Next.value (← s)) : Sem Next).run P w ≠ .ok (.enter f args) w') ∧ (do pure (Next.value (← s)) : Sem Next).run P w ≠ .ok .skip w' := by
  simp only [Sem.run_bind, Sem.run_pure]
  generalize Sem.run P s w = r
  cases r <;> simp [Result.andThen]
theorem run_noCall {o : Oper} (h : noCall o = true) (a : Act) (w w' : World) : (∀ f args, (execOp a.eval o).run P w ≠ .ok (.enter f args) w') ∧ (execOp a.eval o).run P w ≠ .ok .skip w' := by
  obtain ⟨dst, op, type, pos, after, guard⟩ := o
  cases op <;> simp only [noCall] at h <;> first
    | (cases h; done)
    | exact run_value _ w w'
    | (simp [execOp]; done)
    | skip
  case nilCheck x =>
    simp only [execOp]
    split
    · simp [runtimePanic]
    · simp [runtimePanic]
    · simp [runtimePanic]
    · split
      · simp [runtimePanic]
      · simp only [Sem.run_bind]
        generalize Sem.run P program w = r1
        cases r1 with
        | halt x y => simp [Result.andThen]
        | ok x y =>
          simp only [Result.andThen]
          simp
          constructor <;> intros <;> split <;> (try split) <;> simp
      · simp
    · simp
  case pick c x y =>
    simp only [execOp, Sem.run_bind, Sem.run_pure]
    generalize Sem.run P (asBool (a.eval c)) w = r
    cases r <;> simp [Result.andThen]
  case call c =>
    obtain ⟨callee, args, argTypes⟩ := c
    cases callee with
    | value f => cases h
    | invoke r m => cases h
    | builtin b =>
      cases b <;> first
        | (cases h; done)
        | skip
      simp only [execOp, resolve, Sem.run_bind, Sem.run_pure, Result.andThen, invoke, builtin]
      generalize Sem.run P _ w = r
      cases r <;> simp

theorem held_of_qOp {i : Nat} {o : Oper} {a : Act} {K : Act → Prop} (hi : ops[i]? = some o) (hn : noCall o = true) (h : qOp P ops (Cls S) i K a) :
    ∃ v, YieldsIf P ops S o v a ∧ K (a.put o.dst v) := by
  unfold qOp at h
  simp only [hi] at h
  split at h
  · rename_i hw
    obtain ⟨v, h1, h2⟩ := h
    refine ⟨v, .inl ⟨hw, fun w hS => ?_⟩, h2⟩
    have h3 := h1 w (Cls.of hS)
    unfold Oper.quietAt at h3
    have hno := run_noCall (P := P) hn a w
    generalize hr : (execOp a.eval o).run P w = r at h3 hno
    cases r with
    | halt x w' => cases x <;> exact h3.elim
    | ok n w' =>
      cases n with
      | value u =>
        obtain ⟨rfl, rfl⟩ := h3
        rfl
      | skip => exact absurd rfl (hno w').2
      | enter f args => exact absurd rfl ((hno w').1 f args)
      | _ => exact h3.elim
  · rename_i hw
    exact ⟨undef, .inr ⟨by simpa using hw, rfl⟩, h⟩

theorem wpAnyM_sched {n : Nat} {L : Act → World → Prop} (hQ : ∀ c a d v w, Q (.panic c) (Act.put a d v) w → Q (.panic c) a w) (hsel : Region.noSelect ops = true)
    (hs : Region.sinkB md ops n = true) (hc : Region.chainB md ops n = true) (hn : n < ops.size) :
    ∀ (s : List (Nat × Bool)) (listed : Array Bool) (a : Act) (w : World), HeadInv md ops n listed → schedB md ops n s listed = true → S w → wpH P ops Q S L s a w →
      wpAnyM P md ops Q S n (fun listed' a' w' => Region.seqB md ops (ops.size - n) n listed' = true ∧ L a' w') s.length listed a w
  | [], listed, a, w, _, hB, _, h => ⟨hB, h⟩
  | (i, b) :: r, listed, a, w, inv, hB, hS, h => by
    simp only [schedB, Bool.and_eq_true, decide_eq_true_eq] at hB
    obtain ⟨⟨⟨hin, hr⟩, hb⟩, hB'⟩ := hB
    have hr' : i ∈ Region.ready md ops listed := by simpa using hr
    cases b with
    | true =>
      simp only [if_true, decide_eq_true_eq] at hb
      simp only [List.length_cons]
      refine ⟨fun h0 => (by rw [h0] at hr'; cases hr'), fun j hj => ?_⟩
      rw [hb] at hj
      have hji : j = i := by simpa using hj
      subst hji
      exact ⟨hin, wpOp_mono (fun a' w' h' => ⟨h'.1, wpAnyM_sched hQ hsel hs hc hn r _ a' w' (inv.set hr' hin) hB' h'.1 h'.2⟩) h⟩
    | false =>
      simp only [Bool.false_eq_true, if_false, Bool.and_eq_true] at hb
      obtain ⟨hf, hno⟩ := hb
      obtain ⟨_, oi, hi, _⟩ := mem_ready.1 hr'
      simp only [hi] at hno
      obtain ⟨v, hy, hK⟩ := held_of_qOp hi hno h
      simp only [List.length_cons]
      exact wpAnyM_first hi (Region.noSelect_spec hsel) (fun c a w => hQ c a oi.dst v w) hs hc hn hin (fun listed' a' w' hL => seqB_ready hL.1) r.length listed a w inv (Region.free_spec hi hf) hr' hy hS
        (wpAnyM_sched hQ hsel hs hc hn r _ _ w (inv.set hr' hin) hB' hS hK)
def regionB (ops : Array Oper) (n : Nat) (s : List (Nat × Bool)) : Bool :=
  Region.noSelect ops && decide (n < ops.size) && Region.sinkB .any ops n && Region.chainB .any ops n && decide (s.length = n) && schedB .any ops n s (Array.replicate ops.size false)

theorem wp_region_sched {id : Nat} {a : Act} {w : World} {l : List Oper} (n : Nat) (s : List (Nat × Bool)) (S : World → Prop) (hm : P.follows .mixedOrders = true) (hB : regionB l.toArray n s = true)
    (hQ : ∀ c a d v w, Q (.panic c) (Act.put a d v) w → Q (.panic c) a w) (hS : S w.drew)
    (h : wpH P l.toArray Q S (fun a' w' => wpList P l.toArray Q (l.drop n) a' w') s a w.drew) : (Code.region id l.toArray true).wp P Q a w := by
  simp only [regionB, Bool.and_eq_true, decide_eq_true_eq] at hB
  obtain ⟨⟨⟨⟨⟨hsel, hn⟩, hs⟩, hc⟩, hlen⟩, hsch⟩ := hB
  have hn' : n < l.length := by simpa using hn
  have hdl : (l.drop n).length = l.toArray.size - n := by simp
  have inv0 : HeadInv .any l.toArray n (Array.replicate l.toArray.size false) :=
    ⟨by simp, fun j oj _ hl => (by rw [getD_replicate_false] at hl; cases hl), fun t _ ht => getD_in (by simpa using ht) (getD_replicate_false _ _)⟩
  have H := wpAnyM_sched (md := .any) hQ hsel hs hc hn s _ a w.drew inv0 hsch hS h
  refine wp_region_any hm ?_
  have := wpAny_of_headM (Q := Q) (g := l.toArray.size - n) (fun listed a' w' hL => by
    have := wpAny_of_seq (md := .any) (Q' := Q) (l.drop n) n listed a' w' (fun j => by simp [List.getElem?_drop]) (by rw [hdl]; exact hL.1) hL.2
    rwa [hdl] at this) _ _ _ _ H
  rw [hlen, show n + (l.toArray.size - n) = l.toArray.size by omega] at this
  exact this
structure Same (w w' : World) : Prop where
  heap : w'.heap = w.heap
  os : w'.os = w.os
  tape : w'.tape = w.tape
  output : w'.output = w.output
theorem Same.cell {w w' : World} (h : Same w w') (p : Addr) : w'.cell? p = w.cell? p := by unfold World.cell?; rw [h.heap]
theorem Same.frozen {w w' : World} (h : Same w w') (p : Addr) : w'.frozen? p = w.frozen? p := by unfold World.frozen?; rw [h.heap]
theorem Same.size {w w' : World} (h : Same w w') : w'.heap.size = w.heap.size := by rw [h.heap]
theorem Same.block {w w' : World} (h : Same w w') (k : Nat) : w'.heap[k]? = w.heap[k]? := by rw [h.heap]
theorem wp_region_in {id : Nat} {a : Act} {w : World} {l : List Oper} (n : Nat) (s : List (Nat × Bool)) (S : World → World → Prop) (hm : P.follows .mixedOrders = true) (hB : regionB l.toArray n s = true)
    (hQ : ∀ c a d v w, Q (.panic c) (Act.put a d v) w → Q (.panic c) a w)
    (h : ∀ w1, Same w w1 → S w1 w1 ∧ wpH P l.toArray Q (S w1) (fun a' w' => wpList P l.toArray Q (l.drop n) a' w') s a w1) : (Code.region id l.toArray true).wp P Q a w :=
  have h1 := h w.drew ⟨rfl, rfl, rfl, rfl⟩
  wp_region_sched n s (S w.drew) hm hB hQ h1.1 h1.2

theorem wpH_nil {L : Act → World → Prop} {a : Act} {w : World} (h : L a w) : wpH P ops Q S L [] a w := h
def nth : List Oper → Nat → Option Oper
  | [], _ => none
  | x :: _, 0 => some x
  | _ :: xs, n + 1 => nth xs n
theorem nth_eq : ∀ (l : List Oper) (i : Nat), nth l i = l.toArray[i]?
  | [], i => by simp [nth]
  | x :: xs, 0 => by simp [nth]
  | x :: xs, n + 1 => by rw [nth, nth_eq xs n]; simp
theorem wpH_held {l : List Oper} {L : Act → World → Prop} {a : Act} {w : World} {i : Nat} {r : List (Nat × Bool)} {o : Oper} (hi : nth l i = some o)
    (h : wpQuiet P l.toArray (fun w' => ∃ o : In S, w' = o.at_) (fun a' => wpH P l.toArray Q S L r a' w) [o] a) : wpH P l.toArray Q S L ((i, false) :: r) a w := by
  rw [nth_eq] at hi
  unfold wpH qOp
  simp only [hi]
  exact h
theorem wpH_move {l : List Oper} {L : Act → World → Prop} {a : Act} {w : World} {i : Nat} {r : List (Nat × Bool)} {o : Oper} (hi : nth l i = some o)
    (h : wpList P l.toArray (Exit.then (fun a' w' => S w' ∧ wpH P l.toArray Q S L r a' w') Q) [o] a w) : wpH P l.toArray Q S L ((i, true) :: r) a w := by
  rw [nth_eq] at hi
  unfold wpH wpOp
  simp only [hi]
  unfold wpList at h
  split
  · rename_i hw
    rw [if_pos hw] at h
    refine h.imp (fun h => ?_) id
    unfold Oper.wp at *
    generalize (execOp a.eval o).run P w = r at *
    cases r with
    | ok n w' =>
      cases n <;> simp only [Oper.upon] at h ⊢ <;> first
        | exact h
        | exact Calls.mono h (fun e w'' he => by cases e <;> exact he)
    | halt x w' => cases x <;> simp only [Oper.upon] at h ⊢ <;> exact h
  · rename_i hw
    rw [if_neg hw] at h
    exact h
end
end Go.Proofs.YtjeffognhcbiaaaDoor

namespace Go.Proofs.YtjeffognhcbiaaaDoor
open Go.RowKit
def Rd {α : Type} (enc : α → List Value) (size : Nat) (w : World) (B : Nat) (A : Option Addr) (xs : List α) : Prop :=
  ∀ k x, xs[k]? = some x → ∃ b o, A = some ⟨b, o, none⟩ ∧ b < B ∧ ∀ j u, (enc x)[j]? = some u → w.cell? ⟨b, o + k * size + j, none⟩ = some u

section
variable {α : Type} {enc : α → List Value} {size : Nat} {w w' : World} {B B' : Nat} {A : Option Addr} {xs : List α}
theorem Rd.nil : Rd enc size w B A [] := fun k x h => by simp at h
theorem Rd.below (h : Rd enc size w B A xs) (hb : Below B' w w') (hB : B ≤ B') : Rd enc size w' B A xs := fun k x hx => by
  obtain ⟨b, o, e, hlt, hc⟩ := h k x hx
  exact ⟨b, o, e, hlt, fun j u hu => (hb.cell (p := ⟨b, o + k * size + j, none⟩) (by show b < B'; omega)).trans (hc j u hu)⟩
theorem Rd.mono (h : Rd enc size w B A xs) (hB : B ≤ B') : Rd enc size w B' A xs := fun k x hx => by
  obtain ⟨b, o, e, hlt, hc⟩ := h k x hx
  exact ⟨b, o, e, by omega, hc⟩
theorem Rd.drop {b o : Nat} (h : Rd enc size w B (some ⟨b, o, none⟩) xs) (n : Nat) : Rd enc size w B (some ⟨b, o + n * size, none⟩) (xs.drop n) := fun k x hx => by
  rw [List.getElem?_drop] at hx
  obtain ⟨b', o', e, hlt, hc⟩ := h (n + k) x hx
  simp only [Option.some.injEq, Addr.mk.injEq, and_true] at e
  obtain ⟨rfl, rfl⟩ := e
  refine ⟨b, o + n * size, rfl, hlt, fun j u hu => ?_⟩
  have := hc j u hu
  rw [Nat.add_mul] at this
  rw [← this]
  congr 2
  omega
theorem Rd.take (h : Rd enc size w B A xs) (n : Nat) : Rd enc size w B A (xs.take n) := fun k x hx => by
  rw [List.getElem?_take] at hx
  split at hx
  · exact h k x hx
  · cases hx

theorem flatMap_at (hs : ∀ x, (enc x).length = size) : ∀ (xs : List α) (k : Nat) (x : α), xs[k]? = some x → ∀ j, j < size → (xs.flatMap enc)[k * size + j]? = (enc x)[j]?
  | [], k, x, h, _, _ => by simp at h
  | y :: ys, 0, x, h, j, hj => by
    simp only [List.getElem?_cons_zero, Option.some.injEq] at h
    subst h
    rw [List.flatMap_cons, Nat.zero_mul, Nat.zero_add, List.getElem?_append_left (by rw [hs]; exact hj)]
  | y :: ys, k + 1, x, h, j, hj => by
    rw [List.getElem?_cons_succ] at h
    rw [List.flatMap_cons, List.getElem?_append_right (by rw [hs, Nat.add_mul]; omega), hs, ← flatMap_at hs ys k x h j hj]
    congr 1
    rw [Nat.add_mul]
    omega
theorem xN (hs : ∀ x, (enc x).length = size) : ∀ xs : List α, (xs.flatMap enc).length = xs.length * size
  | [] => by simp
  | y :: ys => by rw [List.flatMap_cons, List.length_append, hs, xN hs ys, List.length_cons, Nat.add_mul]; omega
theorem Rd.of_own {base : Nat} {e : TypeId} {n c : Nat} (hz : 0 < size) (hs : ∀ x, (enc x).length = size) (h : w.ownsRow base e size (.slice A n c) n (xs.flatMap enc)) (hB : w.heap.size ≤ B) : Rd enc size w B A xs := fun k x hx => by
  have hl := h.1
  rw [xN hs] at hl
  have hk : k < xs.length := by
    rcases Nat.lt_or_ge k xs.length with h1 | h1
    · exact h1
    · rw [List.getElem?_eq_none h1] at hx; cases hx
  have hn : n = xs.length := (Nat.eq_of_mul_eq_mul_right hz hl).symm
  rcases h.2 with ⟨he, hn0⟩ | ⟨g, cap, cur, he, _, hg, _, _, _, htake⟩
  · omega
  · simp only [Value.slice.injEq] at he
    obtain ⟨rfl, _, _⟩ := he
    refine ⟨g, 0, rfl, by have := (Array.getElem?_eq_some_iff.1 hg).1; omega, fun j u hu => ?_⟩
    have hj : j < size := by
      rcases Nat.lt_or_ge j size with h1 | h1
      · exact h1
      · rw [List.getElem?_eq_none (by rw [hs]; exact h1)] at hu; cases hu
    rw [Nat.zero_add, cell_of_row w g _ cur e (0, 0) hg]
    have h1 := flatMap_at hs xs k x hx j hj
    rw [hu, ← htake, List.getElem?_take] at h1
    split at h1
    · simpa using h1
    · cases h1
end

theorem take_next {α : Type} {xs : List α} {k : Nat} {x : α} (h : xs[k]? = some x) : xs.take (k + 1) = xs.take k ++ [x] := by rw [List.take_add_one, h]; rfl
def xX (n : Int) : List Value := [.int .i64 n]
def encS (s : ByteArray) : List Value := [.string s]
theorem wK (n : Int) : (xX n).length = 1 := rfl
section
variable {w : World} {B : Nat} {A : Option Addr}
theorem Rd.int {xs : List Int} (h : Rd xX 1 w B A xs) {k : Nat} {x : Int} (hx : xs[k]? = some x) : ∃ b o, A = some ⟨b, o, none⟩ ∧ b < B ∧ w.cell? ⟨b, o + k, none⟩ = some (.int .i64 x) := by
  obtain ⟨b, o, e, hlt, hc⟩ := h k x hx
  exact ⟨b, o, e, hlt, by simpa using hc 0 _ rfl⟩
theorem Rd.str {xs : List ByteArray} (h : Rd encS 1 w B A xs) {k : Nat} {x : ByteArray} (hx : xs[k]? = some x) : ∃ b o, A = some ⟨b, o, none⟩ ∧ b < B ∧ w.cell? ⟨b, o + k, none⟩ = some (.string x) := by
  obtain ⟨b, o, e, hlt, hc⟩ := h k x hx
  exact ⟨b, o, e, hlt, by simpa using hc 0 _ rfl⟩
end
theorem xS {α : Type} {xs : List α} {k : Nat} (h : k < xs.length) : ∃ x, xs[k]? = some x := ⟨xs[k], List.getElem?_eq_getElem h⟩
theorem grown_refl (w : World) (E : Option Nat) : w.grownBy w E := ⟨rfl, rfl, rfl, Nat.le_refl _, fun _ _ _ => rfl⟩
theorem grown_trans {a b c : World} {E : Option Nat} (h : a.grownBy b E) (k : b.grownBy c E) : a.grownBy c E :=
  ⟨k.os.trans h.os, k.tape.trans h.tape, k.output.trans h.output, Nat.le_trans h.size k.size, fun i hi hne => (k.block i (Nat.lt_of_lt_of_le hi h.size) hne).trans (h.block i hi hne)⟩
section
variable {α : Type} {enc : α → List Value} {size : Nat} {w w' : World} {B : Nat} {A : Option Addr} {xs : List α}
theorem Same.below (h : Same w w') (B : Nat) : Below B w w' := ⟨h.os, h.tape, h.output, Nat.le_of_eq h.size.symm, fun k _ => h.block k⟩
theorem Rd.same (h : Rd enc size w B A xs) (hs : Same w w') : Rd enc size w' B A xs := h.below (hs.below B) (Nat.le_refl _)
end
theorem held_below {a : World} {p : Addr} {v : Value} (h : a.cell? p = some v) : ∀ o : In (fun w => Below a.heap.size a w), o.at_.cell? p = some v :=
  fun o => (o.ok.cell (block_lt_of_cell h)).trans h
def Own {α : Type} (enc : α → List Value) (size : Nat) (w : World) (base : Nat) (e : TypeId) (v : Value) (xs : List α) : Prop :=
  w.ownsRow base e size v xs.length (xs.flatMap enc)
section
variable {α : Type} {enc : α → List Value} {size : Nat} {w w' : World} {base : Nat} {e : TypeId} {v : Value} {xs : List α}
theorem Own.form (h : Own enc size w base e v xs) : ∃ A c, v = .slice A xs.length c := by
  rcases h.2 with ⟨rfl, hn⟩ | ⟨g, cap, cur, rfl, _⟩
  · exact ⟨none, 0, by rw [hn]⟩
  · exact ⟨_, _, rfl⟩
theorem Own.none_ : Own enc size w base e (.slice none 0 0) [] := World.ownsRow_nil w base e size
theorem Own.lit0 (hb : base ≤ w.heap.size) : Own enc size (w.alloc (.cells #[] e)) base e (.slice (some ⟨w.heap.size, 0, none⟩) 0 0) [] :=
  World.ownsRow_made w #[] 0 hb (Nat.zero_le _) (by simp)
theorem Own.lt (h : Own enc size w base e v xs) : ∀ k, v.ownBlock = some k → base ≤ k ∧ k < w.heap.size := World.ownsRow.lt h
theorem Own.kept {E : Option Nat} (h : Own enc size w base e v xs) (hg : w.grownBy w' E) (hne : v.ownBlock = none ∨ v.ownBlock ≠ E) : Own enc size w' base e v xs := World.ownsRow.kept h hg hne
theorem Own.below (h : Own enc size w base e v xs) (hb : Below w.heap.size w w') : Own enc size w' base e v xs := by
  refine ⟨h.1, ?_⟩
  rcases h.2 with hn | ⟨g, cap, cur, rfl, hbg, hg, rest⟩
  · exact .inl hn
  · exact .inr ⟨g, cap, cur, rfl, hbg, (hb.block g (lt_of_block hg)).trans hg, rest⟩
theorem Own.same (h : Own enc size w base e v xs) (hs : Same w w') : Own enc size w' base e v xs := h.below (hs.below _)
theorem Own.alloc (h : Own enc size w base e v xs) (o : Obj) : Own enc size (w.alloc o) base e v xs := World.ownsRow.alloc h o
theorem Own.setFar (h : Own enc size w base e v xs) {p : Addr} (hp : v.ownBlock ≠ some p.block) (u : Value) : Own enc size (w.setCell p u) base e v xs := ownsRow_setCell_other h hp u
theorem Own.rd {A : Option Addr} {c : Nat} (hz : 0 < size) (hs : ∀ x, (enc x).length = size) (h : Own enc size w base e (.slice A xs.length c) xs) : Rd enc size w w.heap.size A xs :=
  Rd.of_own hz hs h (Nat.le_refl _)
theorem Own.mono {base' : Nat} (h : Own enc size w base e v xs) (hb : base' ≤ base) : Own enc size w base' e v xs := by
  refine ⟨h.1, ?_⟩
  rcases h.2 with hn | ⟨g, cap, cur, rfl, hbg, rest⟩
  · exact .inl hn
  · exact .inr ⟨g, cap, cur, rfl, Nat.le_trans hb hbg, rest⟩
end
theorem wpList_app {α : Type} {P : Program} {ops : Array Oper} {rest : List Oper} {o : Oper} {a : Act} {Q : Exit → Act → World → Prop} (enc : α → List Value) (size : Nat) (W : World) (hgd : o.guard = none) (s x : Operand) (t e : TypeId) (z : Value) (bytes : Nat)
    (ho : o.op = .call { callee := .builtin .append, args := #[s, x], argTypes := #[t, t] }) (ht : P.underlying t = some (.slice e)) (hinfo : (P.info? e).map (fun i => (i.zero, i.size, i.bytes)) = some (some z, size, bytes))
    (hzs : z.cells.size = size) (hsz : 0 < size) (hs : ∀ y, (enc y).length = size) (h1 : ∀ y, ∀ u ∈ enc y, u.oneCell' = true)
    (base : Nat) (v : Value) (xs : List α) (hv : a.eval s = v) (hown : Own enc size W base e v xs) (y : α) (hx : a.eval x = .slice (some ⟨W.heap.size, 0, none⟩) 1 1)
    (hbytes : (xs.length + 1) * bytes ≤ 140737488355328) (h63 : xs.length + 1 ≤ maxLen) (hbase : base ≤ W.heap.size)
    (h : ∀ g cap w', Own enc size w' base e (.slice (some ⟨g, 0, none⟩) (xs.length + 1) cap) (xs ++ [y]) → W.grownBy w' v.ownBlock → (v.ownBlock = some g ∨ W.heap.size < g) → g < w'.heap.size →
      wpList P ops Q rest (a.put o.dst (.slice (some ⟨g, 0, none⟩) (xs.length + 1) cap)) w') : wpList P ops Q (o :: rest) a (W.alloc (.cells (enc y).toArray e)) := by
  obtain ⟨i, hi, hz, hsi, hby⟩ := info_parts hinfo
  refine wpList_append_lies (W.alloc (.cells (enc y).toArray e)) hgd s x t ho base e i z size bytes ht hi hz hsi hby hzs hsz v xs.length (xs.flatMap enc) hv (Own.alloc hown _) ⟨W.heap.size, 0, none⟩ 1 1 (enc y) hx (by rw [hs]; omega)
    (World.news_of_block (cs := (enc y).toArray) (t := e) (fr := (0, 0)) (heap_alloc_new W _)) (h1 y) (by omega) h63 hbytes (by simp; omega) (W.heap.size + 1) (by simp) ?_
  intro g cap w' hown' hg hat hlt
  refine h g cap w' ?_ (grown_trans (World.grownBy_alloc W _ _) hg) (hat.imp id fun e => by omega) hlt
  unfold Own
  rw [List.length_append, List.flatMap_append]
  simpa using hown'
theorem made_eq {α : Type} {enc : α → List Value} {size : Nat} (hs : ∀ x, (enc x).length = size) (hsz : 0 < size) (z : Value) (z0 : α) (hz : z.cells = (enc z0).toArray) (n : Nat) : (madeCells z.cells (n * size)).toList = (List.replicate n z0).flatMap enc := by
  have hlen : z.cells.size = size := by rw [hz]; simp [hs]
  apply List.ext_getElem?
  intro j
  by_cases hj : j < n * size
  · have hd : j / size < n := (Nat.div_lt_iff_lt_mul hsz).2 hj
    have hm : j % size < size := Nat.mod_lt _ hsz
    have h1 := flatMap_at hs (List.replicate n z0) (j / size) z0 (by simp [hd]) (j % size) hm
    have h2 : j / size * size + j % size = j := by rw [Nat.mul_comm]; exact Nat.div_add_mod j size
    rw [h2] at h1
    rw [h1]
    have h3 : j % size < (enc z0).length := by rw [hs]; exact hm
    simp [madeCells, hj, hz, hs]
    rw [List.getElem?_eq_getElem h3]
    rfl
  · rw [List.getElem?_eq_none (by simp [size_madeCells]; omega), List.getElem?_eq_none (by rw [xN hs]; simp; omega)]
theorem wpList_mk {α : Type} {P : Program} {ops : Array Oper} {rest : List Oper} {o : Oper} {a : Act} {Q : Exit → Act → World → Prop} (enc : α → List Value) (size : Nat) (W : World) (hgd : o.guard = none) (l c : Operand) (t e : TypeId) (z : Value) (bytes : Nat)
    (ho : o.op = Op.makeSlice t l c) (ht : P.underlying t = some (.slice e)) (hinfo : (P.info? e).map (fun i => (i.zero, i.size, i.bytes)) = some (some z, size, bytes)) (hsz : 0 < size) (hs : ∀ y, (enc y).length = size)
    (z0 : α) (hz : z.cells = (enc z0).toArray) (n : Nat) (L C : Int) (hl : a.eval l = .int .i64 L) (hc : a.eval c = .int .i64 C) (hL : L = (n : Int)) (hC : C = (n : Int)) (hbytes : bytes * n ≤ 281474976710656) (h63 : n ≤ maxLen)
    (h : ∀ w', Own enc size w' W.heap.size e (.slice (some ⟨W.heap.size, 0, none⟩) n n) (List.replicate n z0) → Below W.heap.size W w' → W.heap.size < w'.heap.size → wpList P ops Q rest (a.put o.dst (.slice (some ⟨W.heap.size, 0, none⟩) n n)) w') : wpList P ops Q (o :: rest) a W := by
  obtain ⟨i, hi, hzi, hsi, hby⟩ := info_parts hinfo
  refine wpList_make_full W hgd l c t ho W.heap.size e i z size ht hi hzi hsi .i64 .i64 L C n hl hc hL hC (by rw [hby]; exact hbytes) h63 (Nat.le_refl _) fun w' hown hg => ?_
  rw [made_eq hs hsz z z0 hz n] at hown
  have hlt : W.heap.size < w'.heap.size := by
    rcases hown.2 with ⟨h0, _⟩ | ⟨g, cap, cur, hv, _, hh, _⟩
    · cases h0
    · simp only [Value.slice.injEq, Option.some.injEq, Addr.mk.injEq, and_true] at hv
      obtain ⟨rfl, _⟩ := hv
      exact lt_of_block hh
  refine h w' ?_ ((Below.refl _ _).grown hg (Nat.le_refl _) (fun k e => by cases e)) hlt
  unfold Own
  simpa using hown

theorem set_append_left {β : Type} (l m : List β) (i : Nat) (x : β) (h : i < l.length) : (l ++ m).set i x = l.set i x ++ m := by rw [List.set_append, if_pos h]
theorem set_append_right {β : Type} (l m : List β) (i : Nat) (x : β) : (l ++ m).set (l.length + i) x = l ++ m.set i x := by rw [List.set_append, if_neg (by omega)]; congr 2; omega
theorem flatMap_set {α : Type} {enc : α → List Value} : ∀ (ys : List α) (k : Nat) (y x : α), ys[k]? = some y → ∀ (f : List Value → List Value),
    (∀ m, ys.flatMap enc = (ys.take k).flatMap enc ++ (enc y ++ m) → f (ys.flatMap enc) = (ys.take k).flatMap enc ++ (enc x ++ m)) → f (ys.flatMap enc) = (ys.set k x).flatMap enc := by
  intro ys k y x hy f hf
  have hk : k < ys.length := (List.getElem?_eq_some_iff.1 hy).1
  have hd : ys.drop k = y :: ys.drop (k + 1) := by
    rw [List.drop_eq_getElem_cons hk]
    congr 1
    have := (List.getElem?_eq_some_iff.1 hy).2
    exact this
  have h1 : ys.flatMap enc = (ys.take k).flatMap enc ++ (enc y ++ (ys.drop (k + 1)).flatMap enc) := by
    conv => lhs; rw [← List.take_append_drop k ys, hd, List.flatMap_append, List.flatMap_cons]
  rw [hf _ h1, List.set_eq_take_append_cons_drop, if_pos hk, List.flatMap_append, List.flatMap_cons]
def fill {α : Type} (xs : List α) (z : α) (k : Nat) : List α := xs.take k ++ List.replicate (xs.length - k) z
theorem fill_len {α : Type} (xs : List α) (z : α) (k : Nat) (hk : k ≤ xs.length) : (fill xs z k).length = xs.length := by simp [fill]; omega
theorem fill_zero {α : Type} (xs : List α) (z : α) : fill xs z 0 = List.replicate xs.length z := by simp [fill]
theorem fill_all {α : Type} (xs : List α) (z : α) : fill xs z xs.length = xs := by simp [fill]
theorem fill_at {α : Type} (xs : List α) (z : α) (k : Nat) (hk : k < xs.length) : (fill xs z k)[k]? = some z := by
  unfold fill
  have hl : (xs.take k).length = k := by simp; omega
  rw [List.getElem?_append_right (by omega), hl, List.getElem?_replicate, if_pos (by omega)]
theorem fill_set {α : Type} (xs : List α) (z x : α) (k : Nat) (hx : xs[k]? = some x) : (fill xs z k).set k x = fill xs z (k + 1) := by
  have hk : k < xs.length := (List.getElem?_eq_some_iff.1 hx).1
  unfold fill
  rw [take_next hx, show xs.length - k = (xs.length - (k + 1)) + 1 by omega, List.replicate_succ]
  have := set_append_right (xs.take k) (z :: List.replicate (xs.length - (k + 1)) z) 0 x
  have hl : (xs.take k).length = k := by simp; omega
  rw [hl, Nat.add_zero k] at this
  rw [this]
  simp
def qD {α : Type} (xs ys : List α) (k : Nat) : List α := ys.take k ++ xs.drop k
theorem turn_len {α : Type} (xs ys : List α) (k : Nat) (h : ys.length = xs.length) (hk : k ≤ xs.length) : (qD xs ys k).length = xs.length := by simp [qD]; omega
theorem turn_zero {α : Type} (xs ys : List α) : qD xs ys 0 = xs := by simp [qD]
theorem turn_all {α : Type} (xs ys : List α) (h : ys.length = xs.length) : qD xs ys xs.length = ys := by simp [qD, ← h]
theorem turn_at {α : Type} (xs ys : List α) (k : Nat) (h : ys.length = xs.length) (x : α) (hx : xs[k]? = some x) : (qD xs ys k)[k]? = some x := by
  have hk : k < xs.length := (List.getElem?_eq_some_iff.1 hx).1
  unfold qD
  rw [List.getElem?_append_right (by simp; omega), List.getElem?_drop, List.length_take, Nat.min_eq_left (by omega), ← hx]
  congr 1
  omega
theorem turn_set {α : Type} (xs ys : List α) (k : Nat) (h : ys.length = xs.length) (y : α) (hy : ys[k]? = some y) : (qD xs ys k).set k y = qD xs ys (k + 1) := by
  have hk : k < xs.length := by have := (List.getElem?_eq_some_iff.1 hy).1; omega
  unfold qD
  rw [take_next hy, List.drop_eq_getElem_cons hk]
  have := set_append_right (ys.take k) (xs[k] :: xs.drop (k + 1)) 0 y
  have hl : (ys.take k).length = k := by simp; omega
  rw [hl, Nat.add_zero k] at this
  rw [this, List.set_cons_zero, List.append_assoc]
  rfl
section
variable {α : Type} {enc : α → List Value} {w : World} {base : Nat} {e : TypeId} {g n c : Nat} {ys : List α}
theorem Own.frozenAt {size : Nat} (h : Own enc size w base e (.slice (some ⟨g, 0, none⟩) n c) ys) (hn : n = ys.length) (j : Nat) : w.frozen? ⟨g, j, none⟩ = false := by
  subst hn; exact World.ownsRow.frozenAt h j
theorem Own.cellAt {size : Nat} (hs : ∀ x, (enc x).length = size) (h : Own enc size w base e (.slice (some ⟨g, 0, none⟩) n c) ys) (hn : n = ys.length) {k : Nat} {y : α} (hy : ys[k]? = some y) {j : Nat} (hj : j < size) : w.cell? ⟨g, k * size + j, none⟩ = (enc y)[j]? := by
  subst hn
  have hk : k < ys.length := (List.getElem?_eq_some_iff.1 hy).1
  rw [World.ownsRow.cellAt h (k * size + j) (by have := Nat.mul_le_mul_right size (show k + 1 ≤ ys.length by omega); rw [Nat.add_mul] at this; omega)]
  exact flatMap_at hs ys k y hy j hj
theorem Own.set1 (hs : ∀ x, (enc x).length = 1) (h : Own enc 1 w base e (.slice (some ⟨g, 0, none⟩) n c) ys) (hn : n = ys.length) {k : Nat} {y x : α} {u : Value} (hy : ys[k]? = some y) (hx : enc x = [u]) :
    Own enc 1 (w.setCell ⟨g, k, none⟩ u) base e (.slice (some ⟨g, 0, none⟩) n c) (ys.set k x) := by
  subst hn
  unfold Own
  have h1 := (World.ownsRow.stored h k u).1
  rw [flatMap_set ys k y x hy (fun l => l.set k u) ?_] at h1
  · simpa using h1
  · intro m hm
    have hl : ((ys.take k).flatMap enc).length = k := by rw [xN hs]; simp; have := (List.getElem?_eq_some_iff.1 hy).1; omega
    show (ys.flatMap enc).set k u = _
    rw [hm]
    have := set_append_right ((ys.take k).flatMap enc) (enc y ++ m) 0 u
    rw [hl, Nat.add_zero] at this
    rw [this, hx]
    obtain ⟨v, hv⟩ : ∃ v, enc y = [v] := by
      match enc y, hs y with
      | [v], _ => exact ⟨v, rfl⟩
    rw [hv]
    rfl
theorem Own.set2 (hs : ∀ x, (enc x).length = 2) (h : Own enc 2 w base e (.slice (some ⟨g, 0, none⟩) n c) ys) (hn : n = ys.length) {k : Nat} {y x : α} {u v : Value} (hy : ys[k]? = some y) (hx : enc x = [u, v]) :
    Own enc 2 ((w.setCell ⟨g, k * 2, none⟩ u).setCell ⟨g, k * 2 + 1, none⟩ v) base e (.slice (some ⟨g, 0, none⟩) n c) (ys.set k x) := by
  subst hn
  unfold Own
  have h1 := (World.ownsRow.stored (World.ownsRow.stored h (k * 2) u).1 (k * 2 + 1) v).1
  rw [flatMap_set ys k y x hy (fun l => (l.set (k * 2) u).set (k * 2 + 1) v) ?_] at h1
  · simpa using h1
  · intro m hm
    have hl : ((ys.take k).flatMap enc).length = k * 2 := by rw [xN hs]; simp; have := (List.getElem?_eq_some_iff.1 hy).1; omega
    show ((ys.flatMap enc).set (k * 2) u).set (k * 2 + 1) v = _
    rw [hm]
    have a1 := set_append_right ((ys.take k).flatMap enc) (enc y ++ m) 0 u
    rw [hl, Nat.add_zero] at a1
    have a2 := set_append_right ((ys.take k).flatMap enc) ((enc y ++ m).set 0 u) 1 v
    rw [hl] at a2
    rw [a1, a2, hx]
    obtain ⟨v1, v2, hv⟩ : ∃ v1 v2, enc y = [v1, v2] := by
      match enc y, hs y with
      | [v1, v2], _ => exact ⟨v1, v2, rfl⟩
    rw [hv]
    rfl
end

theorem Own.block {α : Type} {enc : α → List Value} {size : Nat} {w : World} {base : Nat} {e : TypeId} {A : Option Addr} {n c : Nat} {ys : List α} (h : Own enc size w base e (.slice A n c) ys) (hn : 0 < ys.length) : ∃ g, A = some ⟨g, 0, none⟩ ∧ base ≤ g ∧ g < w.heap.size := by
  rcases h.2 with ⟨he, h0⟩ | ⟨g, cap, cur, he, hb, hg, _⟩
  · omega
  · simp only [Value.slice.injEq] at he
    obtain ⟨rfl, _, _⟩ := he
    exact ⟨g, rfl, hb, lt_of_block hg⟩
theorem Own.block_lt {α : Type} {enc : α → List Value} {size : Nat} {w : World} {base : Nat} {e : TypeId} {g o n c : Nat} {ys : List α} (h : Own enc size w base e (.slice (some ⟨g, o, none⟩) n c) ys) : base ≤ g ∧ g < w.heap.size := by
  rcases h.2 with ⟨he, h0⟩ | ⟨g, cap, cur, he, hb, hg, _⟩
  · cases he
  · simp only [Value.slice.injEq, Option.some.injEq, Addr.mk.injEq] at he
    obtain ⟨⟨rfl, _⟩, _, _⟩ := he
    exact ⟨hb, lt_of_block hg⟩
theorem grown_set {w w' : World} {g : Nat} (h : w.grownBy w' (some g)) (j : Nat) (u : Value) : w.grownBy (w'.setCell ⟨g, j, none⟩ u) (some g) :=
  grown_trans h ⟨rfl, rfl, rfl, by simp [World.setCell], fun k _ hk => heap_setCell_other w' ⟨g, j, none⟩ k u (fun e => hk (by simp [e]))⟩
def mend (k F n : Nat) : Int := ((k + F * n : Nat) : Int)
theorem mend_eq (k F n : Nat) : mend k F n = ((k + F * n : Nat) : Int) := rfl
def vL {α : Type} (m : Nat → α) (F k n : Nat) : List α := (List.range n).map fun i => m (k + F * i)
theorem marks_len {α : Type} (m : Nat → α) (F k n : Nat) : (vL m F k n).length = n := by simp [vL]
theorem marks_at {α : Type} (m : Nat → α) (F k n j : Nat) (h : j < n) : (vL m F k n)[j]? = some (m (k + F * j)) := by simp [vL, h]
theorem encI_one (y : Int) : ∀ u ∈ xX y, u.oneCell' = true := by simp [xX, Value.oneCell']
end Go.Proofs.YtjeffognhcbiaaaDoor

namespace Go.Proofs.YtjeffognhcbiaaaDoor
open Go.RowKit Go.ChangeShapes Go.WideShapes Go.Deep

section
variable {H : Type} {enc : TypeId × Value → H} {P : Program} {w : World} {base : Nat} {spare : Nat → Bool} {held : Bool}
theorem add_lit (b o i : Nat) : (⟨b, o, none⟩ : Addr).add i = ⟨b, o + i, none⟩ := by unfold Addr.add; split <;> simp_all
theorem spot_none {a : Addr} {v : Value} (h : w.cell? (a.add 0) = some v) : a = ⟨a.block, a.off, none⟩ := by
  have h0 : a.add 0 = a := by unfold Addr.add; simp
  rw [h0] at h
  obtain ⟨b, o, s⟩ := a
  cases s with
  | none => rfl
  | some s =>
    unfold World.cell? at h
    split at h <;> simp at h
end
section
variable {H : Type} {enc : TypeId × Value → H} {P : Program}
theorem post_of_below {f : Func} {s : ChangeSpec} {apart fresh handsOn again : Bool} {W W' : World} {args : Array Value} {v : Value} {ds gs : List (DataW H)} {before pa pv : List MemPlace}
    (hW : DataW.Whole enc P f.params.toList s.vars apart W args.toList ds gs before)
    (hres : ∀ (b : Nat) (sp : Nat → Bool) (hd : Bool), DataW.TrodAll enc P W' b sp hd f.resultTypes.toList (v.resultList f.resultTypes.size) (s.fn H (ds ++ gs)).results [])
    (hargs : ∀ sp : Nat → Bool, (∀ p ∈ before, sp p.block = true) → DataW.TrodAll enc P W' 0 sp true f.params.toList args.toList (s.fn H (ds ++ gs)).args pa)
    (hvars : ∀ sp : Nat → Bool, (∀ p ∈ before, sp p.block = true) → DataW.TrodVars enc P W' sp s.vars (s.fn H (ds ++ gs)).vars pv)
    (hps : before = pa ++ pv) (hb : Below W.heap.size W W')
    (hok : ∀ (j : Nat) (t : TypeId) (r : Value), f.resultTypes[j]? = some t → (v.resultList f.resultTypes.size)[j]? = some r → Value.okWide P W' .any 0 t r) :
    s.post enc P f apart fresh handsOn again W args v W' := by
  have hlt : ∀ p ∈ before, p.block < W.heap.size := fun p hp => hW.lt p hp
  have hold : ∀ p ∈ before, (fun b => decide (b < W.heap.size)) p.block = true := fun p hp => by simpa using hlt p hp
  refine ⟨ds, gs, before, [], pa, pv, hW, hres _ _ _, hargs _ hold, hvars _ hold, World.keptBut_mono (fun p hp => ⟨hp, ?_⟩) (hb.frame (· ∈ before)), fun _ => ?_⟩
  · rw [hps, List.mem_append] at hp
    exact Or.inr hp
  · obtain ⟨_, _, _, _, _, hz, hn⟩ := hW
    refine ⟨hok, _, _, ([] ++ pa) ++ pv, ⟨[] ++ pa, pv, trodAll_append (hargs _ (fun _ _ => rfl)) (hres _ _ _), hvars _ (fun _ _ => rfl), rfl, ?_, ?_⟩, ?_⟩
    · intro b off hp
      have hin : MemPlace.cell b off ∈ before := by rw [hps]; simpa using hp
      rw [hb.frozen (hlt _ hin)]
      exact hz b off hin
    · intro ha
      have := hn ha
      rw [hps] at this
      simpa using this
    · intro p hp _
      rw [hps]
      simpa using hp
end
theorem stays {H : Type} {enc : TypeId × Value → H} {P : Program} {t : TypeId} (hl : laidOutB P = true) (hr : P.readableRec t = true) (hrow : t < P.types.size) {W W' : World} {v : Value} {d : DataW H} {ps : List MemPlace} {sp : Nat → Bool}
    (h : DataW.Trod enc P W 0 (fun _ => true) true t v d ps) (hb : Below W.heap.size W W') (hlt : ∀ x ∈ ps, x.block < W.heap.size) (hsp : ∀ x ∈ ps, sp x.block = true) : DataW.Trod enc P W' 0 sp true t v d ps :=
  WideElems.Trod_stays hl hr hrow h (fun x hx => hb.same (hlt x hx)) hsp
theorem Tryd.own : ownKnob Tryd.prog.godebug = none := by kernel_rfl
theorem Tryd.laidOut : laidOutB Tryd.prog = true := by kernel_rfl
end Go.Proofs.YtjeffognhcbiaaaDoor
