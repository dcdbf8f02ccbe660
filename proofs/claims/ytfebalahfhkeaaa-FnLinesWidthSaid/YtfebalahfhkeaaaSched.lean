/- A region that draws its order, walked in one order: the operations that read come up as early as they can, those that make memory one after the other, the last ones in the order of the text. For every order that the region's edges allow. No conditions but those stated. -/
import Derived.Deep.Quiet
import Derived.StillTail
import Derived.OrdersHeld
import Derived.KernelRfl
namespace Go.Proofs.Ytfebalahfhkeaaa
open Go

section
variable {P : Program} {ops : Array Oper} {md : Region.Mode} {Q : Exit → Act → World → Prop} {S : World → Prop}

/-- the worlds that meet S, as values of a type: a fact on each of them is a rule for simp -/
structure In (S : World → Prop) where
  at_ : World
  ok : S at_
def Cls (S : World → Prop) (w' : World) : Prop := ∃ o : In S, w' = o.at_

theorem Cls.of {w : World} (h : S w) : Cls S w := ⟨⟨w, h⟩, rfl⟩

/-- an operation that is no call: it never enters a function -/
def noCall (o : Oper) : Bool :=
  match o.op with
  | .move _ | .assign _ | .pick .. | .load .. | .binOp .. | .unOp .. | .convert .. | .slice .. | .fieldAddr .. | .field .. | .indexAddr .. | .index .. | .extract .. | .build .. | .makeInterface .. | .nilCheck _ => true
  | .call { callee := .builtin .len, .. } => true
  | _ => false

/-- the head of a region: number i comes up; 'false': it reads alone; 'true': it may make memory, and S is shown anew behind it -/
def wpH (P : Program) (ops : Array Oper) (Q : Exit → Act → World → Prop) (S : World → Prop) (L : Act → World → Prop) : List (Nat × Bool) → Act → World → Prop
  | [], a, w => L a w
  | (i, false) :: r, a, w => qOp P ops (Cls S) i (fun a' => wpH P ops Q S L r a' w) a
  | (i, true) :: r, a, w => wpOp P ops Q i (fun a' w' => S w' ∧ wpH P ops Q S L r a' w') a w

/-- whatever order is picked in the head; S holds behind each operation -/
def wpAnyM (P : Program) (md : Region.Mode) (ops : Array Oper) (Q : Exit → Act → World → Prop) (S : World → Prop) (n : Nat) (L : Array Bool → Act → World → Prop) : Nat → Array Bool → Act → World → Prop
  | 0, listed, a, w => L listed a w
  | f + 1, listed, a, w =>
    Region.ready md ops listed ≠ [] ∧ ∀ i ∈ Region.ready md ops listed, i < n ∧ wpOp P ops Q i (fun a' w' => S w' ∧ wpAnyM P md ops Q S n L f (listed.setIfInBounds i true) a' w') a w

theorem wpAny_of_headM {n g : Nat} {L : Array Bool → Act → World → Prop} (hL : ∀ listed a w, L listed a w → wpAny P md ops Q g listed a w) :
    ∀ (f : Nat) (listed : Array Bool) (a : Act) (w : World), wpAnyM P md ops Q S n L f listed a w → wpAny P md ops Q (f + g) listed a w
  | 0, listed, a, w, h => by rw [Nat.zero_add]; exact hL _ _ _ h
  | f + 1, listed, a, w, h => by
    rw [show f + 1 + g = (f + g) + 1 by omega]
    exact ⟨fun h0 => absurd h0 h.1, fun i hi => wpOp_mono (fun a' w' h' => wpAny_of_headM hL f _ a' w' h'.2) (h.2 i hi).2⟩

theorem wpAnyM_first {n i : Nat} {oi : Oper} {v : Value} {L : Array Bool → Act → World → Prop} (hi : ops[i]? = some oi) (hsel : ∀ (j : Nat) (o : Oper) cs b, ops[j]? = some o → o.op ≠ .select cs b)
    (hQ : ∀ c a w, Q (.panic c) (a.put oi.dst v) w → Q (.panic c) a w)
    (hs : Region.sinkB md ops n = true) (hc : Region.chainB md ops n = true) (hn : n < ops.size) (hin : i < n)
    (hdone : ∀ listed a w, L listed a w → ∀ j ∈ Region.ready md ops listed, n ≤ j) :
    ∀ (f : Nat) (listed : Array Bool) (a : Act) (w : World), HeadInv md ops n listed →
      (∀ j oj, ops[j]? = some oj → j ≠ i → listed.getD j true = false → (∀ e ∈ oj.after, Region.binds md e = true → e.on ≠ i) → oi.apart ops oj = true) →
      i ∈ Region.ready md ops listed → YieldsIf P ops S oi v a → S w →
      wpAnyM P md ops Q S n L f (listed.setIfInBounds i true) (a.put oi.dst v) w → wpAnyM P md ops Q S n L (f + 1) listed a w := by
  intro f
  induction f with
  | zero =>
    intro listed a w inv _ hr hy hS H
    have hun := (mem_ready.1 hr).1
    refine ⟨fun h => (by rw [h] at hr; cases hr), fun j hj => ?_⟩
    have hjn : j < n := by
      rcases Nat.lt_or_ge j n with h | h
      · exact h
      · exact absurd hj (tail_waits hs hc hn inv _ i rfl hin hun j h)
    refine ⟨hjn, ?_⟩
    by_cases hji : j = i
    · subst hji; exact hy.wpOp hi hS ⟨hS, H⟩
    · have := hdone _ _ _ H j (ready_mono hj hji)
      omega
  | succ f ih =>
    intro listed a w inv hfree hr hy hS H
    have hun := (mem_ready.1 hr).1
    refine ⟨fun h => (by rw [h] at hr; cases hr), fun j hj => ?_⟩
    have hjn : j < n := by
      rcases Nat.lt_or_ge j n with h | h
      · exact h
      · exact absurd hj (tail_waits hs hc hn inv _ i rfl hin hun j h)
    refine ⟨hjn, ?_⟩
    by_cases hji : j = i
    · subst hji; exact hy.wpOp hi hS ⟨hS, H⟩
    · have h1 := (H.2 j (ready_mono hj hji)).2
      obtain ⟨hjun, oj, hoj, hall⟩ := mem_ready.1 hj
      have hnot : ∀ e ∈ oj.after, Region.binds md e = true → e.on ≠ i := fun e he hb heq => by
        have h1 := hall e he hb
        rw [heq, getD_both hun] at h1
        cases h1
      have h2 := wpOp_putIf hoj (hfree j oj hoj hji hjun hnot) (fun cs b => hsel i oi cs b hi) (fun cs b => hsel j oj cs b hoj) hQ hy h1
      have hfree' : ∀ k ok, ops[k]? = some ok → k ≠ i → (listed.setIfInBounds j true).getD k true = false →
          (∀ e ∈ ok.after, Region.binds md e = true → e.on ≠ i) → oi.apart ops ok = true := fun k ok hk hki hun hno => by
        refine hfree k ok hk hki ?_ hno
        by_cases hjk : j = k
        · subst hjk; exact hjun
        · rw [getD_set_ne true hjk] at hun; exact hun
      refine wpOp_mono (fun a' w' h3 => ⟨h3.2.1, ih (listed.setIfInBounds j true) a' w' (inv.set hj hjn) hfree' (ready_mono hr (Ne.symm hji)) h3.1 h3.2.1 ?_⟩) h2
      rw [Array.setIfInBounds_comm _ _ hji]
      exact h3.2.2

/-- the order asked of the head, held against the region's edges -/
def schedB (md : Region.Mode) (ops : Array Oper) (n : Nat) : List (Nat × Bool) → Array Bool → Bool
  | [], listed => Region.seqB md ops (ops.size - n) n listed
  | (i, b) :: r, listed => decide (i < n) && (Region.ready md ops listed).contains i &&
      (if b then decide (Region.ready md ops listed = [i]) else (Region.free md ops listed i && (match ops[i]? with | some o => noCall o | none => false))) &&
      schedB md ops n r (listed.setIfInBounds i true)

theorem run_value (s : Sem Value) (w w' : World) : (∀ f args, (do pure (Next.value (← s)) : Sem Next).run P w ≠ .ok (.enter f args) w') ∧ (do pure (Next.value (← s)) : Sem Next).run P w ≠ .ok .skip w' := by
  simp only [Sem.run_bind, Sem.run_pure]
  generalize Sem.run P s w = r
  cases r <;> simp [Result.andThen]
theorem run_noCall {o : Oper} (h : noCall o = true) (a : Act) (w w' : World) : (∀ f args, (execOp a.eval o).run P w ≠ .ok (.enter f args) w') ∧ (execOp a.eval o).run P w ≠ .ok .skip w' := by
  obtain ⟨dst, op, type, pos, after, guard⟩ := o
  cases op <;> simp only [noCall] at h <;> first
    | (cases h; done)
    | exact run_value _ w w'
    | (simp [execOp]; done)
    | skip
  case nilCheck x =>
    simp only [execOp]
    split
    · simp [runtimePanic]
    · simp [runtimePanic]
    · simp [runtimePanic]
    · split
      · simp [runtimePanic]
      · simp only [Sem.run_bind]
        generalize Sem.run P program w = r1
        cases r1 with
        | halt x y => simp [Result.andThen]
        | ok x y =>
          simp only [Result.andThen]
          simp
          constructor <;> intros <;> split <;> (try split) <;> simp
      · simp
    · simp
  case pick c x y =>
    simp only [execOp, Sem.run_bind, Sem.run_pure]
    generalize Sem.run P (asBool (a.eval c)) w = r
    cases r <;> simp [Result.andThen]
  case call c =>
    obtain ⟨callee, args, argTypes⟩ := c
    cases callee with
    | value f => cases h
    | invoke r m => cases h
    | builtin b =>
      cases b <;> first
        | (cases h; done)
        | skip
      simp only [execOp, resolve, Sem.run_bind, Sem.run_pure, Result.andThen, invoke, builtin]
      generalize Sem.run P _ w = r
      cases r <;> simp

theorem held_of_qOp {i : Nat} {o : Oper} {a : Act} {K : Act → Prop} (hi : ops[i]? = some o) (hn : noCall o = true) (h : qOp P ops (Cls S) i K a) :
    ∃ v, YieldsIf P ops S o v a ∧ K (a.put o.dst v) := by
  unfold qOp at h
  simp only [hi] at h
  split at h
  · rename_i hw
    obtain ⟨v, h1, h2⟩ := h
    refine ⟨v, .inl ⟨hw, fun w hS => ?_⟩, h2⟩
    have h3 := h1 w (Cls.of hS)
    unfold Oper.quietAt at h3
    have hno := run_noCall (P := P) hn a w
    generalize hr : (execOp a.eval o).run P w = r at h3 hno
    cases r with
    | halt x w' => cases x <;> exact h3.elim
    | ok n w' =>
      cases n with
      | value u =>
        obtain ⟨rfl, rfl⟩ := h3
        rfl
      | skip => exact absurd rfl (hno w').2
      | enter f args => exact absurd rfl ((hno w').1 f args)
      | _ => exact h3.elim
  · rename_i hw
    exact ⟨undef, .inr ⟨by simpa using hw, rfl⟩, h⟩

theorem wpAnyM_sched {n : Nat} {L : Act → World → Prop} (hQ : ∀ c a d v w, Q (.panic c) (Act.put a d v) w → Q (.panic c) a w) (hsel : Region.noSelect ops = true)
    (hs : Region.sinkB md ops n = true) (hc : Region.chainB md ops n = true) (hn : n < ops.size) :
    ∀ (s : List (Nat × Bool)) (listed : Array Bool) (a : Act) (w : World), HeadInv md ops n listed → schedB md ops n s listed = true → S w → wpH P ops Q S L s a w →
      wpAnyM P md ops Q S n (fun listed' a' w' => Region.seqB md ops (ops.size - n) n listed' = true ∧ L a' w') s.length listed a w
  | [], listed, a, w, _, hB, _, h => ⟨hB, h⟩
  | (i, b) :: r, listed, a, w, inv, hB, hS, h => by
    simp only [schedB, Bool.and_eq_true, decide_eq_true_eq] at hB
    obtain ⟨⟨⟨hin, hr⟩, hb⟩, hB'⟩ := hB
    have hr' : i ∈ Region.ready md ops listed := by simpa using hr
    cases b with
    | true =>
      simp only [if_true, decide_eq_true_eq] at hb
      simp only [List.length_cons]
      refine ⟨fun h0 => (by rw [h0] at hr'; cases hr'), fun j hj => ?_⟩
      rw [hb] at hj
      have hji : j = i := by simpa using hj
      subst hji
      exact ⟨hin, wpOp_mono (fun a' w' h' => ⟨h'.1, wpAnyM_sched hQ hsel hs hc hn r _ a' w' (inv.set hr' hin) hB' h'.1 h'.2⟩) h⟩
    | false =>
      simp only [Bool.false_eq_true, if_false, Bool.and_eq_true] at hb
      obtain ⟨hf, hno⟩ := hb
      obtain ⟨_, oi, hi, _⟩ := mem_ready.1 hr'
      simp only [hi] at hno
      obtain ⟨v, hy, hK⟩ := held_of_qOp hi hno h
      simp only [List.length_cons]
      exact wpAnyM_first hi (Region.noSelect_spec hsel) (fun c a w => hQ c a oi.dst v w) hs hc hn hin (fun listed' a' w' hL => seqB_ready hL.1) r.length listed a w inv (Region.free_spec hi hf) hr' hy hS
        (wpAnyM_sched hQ hsel hs hc hn r _ _ w (inv.set hr' hin) hB' hS hK)

/-- all that is static of a region: the last 'ops.size - n' operations come last, in the text's order; the head goes by the list s -/
def regionB (ops : Array Oper) (n : Nat) (s : List (Nat × Bool)) : Bool :=
  Region.noSelect ops && decide (n < ops.size) && Region.sinkB .any ops n && Region.chainB .any ops n && decide (s.length = n) && schedB .any ops n s (Array.replicate ops.size false)

theorem wp_region_sched {id : Nat} {a : Act} {w : World} {l : List Oper} (n : Nat) (s : List (Nat × Bool)) (S : World → Prop) (hm : P.follows .mixedOrders = true) (hB : regionB l.toArray n s = true)
    (hQ : ∀ c a d v w, Q (.panic c) (Act.put a d v) w → Q (.panic c) a w) (hS : S w.drew)
    (h : wpH P l.toArray Q S (fun a' w' => wpList P l.toArray Q (l.drop n) a' w') s a w.drew) : (Code.region id l.toArray true).wp P Q a w := by
  simp only [regionB, Bool.and_eq_true, decide_eq_true_eq] at hB
  obtain ⟨⟨⟨⟨⟨hsel, hn⟩, hs⟩, hc⟩, hlen⟩, hsch⟩ := hB
  have hn' : n < l.length := by simpa using hn
  have hdl : (l.drop n).length = l.toArray.size - n := by simp
  have inv0 : HeadInv .any l.toArray n (Array.replicate l.toArray.size false) :=
    ⟨by simp, fun j oj _ hl => (by rw [getD_replicate_false] at hl; cases hl), fun t _ ht => getD_in (by simpa using ht) (getD_replicate_false _ _)⟩
  have H := wpAnyM_sched (md := .any) hQ hsel hs hc hn s _ a w.drew inv0 hsch hS h
  refine wp_region_any hm ?_
  have := wpAny_of_headM (Q := Q) (g := l.toArray.size - n) (fun listed a' w' hL => by
    have := wpAny_of_seq (md := .any) (Q' := Q) (l.drop n) n listed a' w' (fun j => by simp [List.getElem?_drop]) (by rw [hdl]; exact hL.1) hL.2
    rwa [hdl] at this) _ _ _ _ H
  rw [hlen, show n + (l.toArray.size - n) = l.toArray.size by omega] at this
  exact this

/-- the same world but for the count of draws -/
structure Same (w w' : World) : Prop where
  heap : w'.heap = w.heap
  os : w'.os = w.os
  tape : w'.tape = w.tape
  output : w'.output = w.output
theorem Same.cell {w w' : World} (h : Same w w') (p : Addr) : w'.cell? p = w.cell? p := by unfold World.cell?; rw [h.heap]
theorem Same.frozen {w w' : World} (h : Same w w') (p : Addr) : w'.frozen? p = w.frozen? p := by unfold World.frozen?; rw [h.heap]
theorem Same.size {w w' : World} (h : Same w w') : w'.heap.size = w.heap.size := by rw [h.heap]
theorem Same.block {w w' : World} (h : Same w w') (k : Nat) : w'.heap[k]? = w.heap[k]? := by rw [h.heap]
theorem wp_region_in {id : Nat} {a : Act} {w : World} {l : List Oper} (n : Nat) (s : List (Nat × Bool)) (S : World → World → Prop) (hm : P.follows .mixedOrders = true) (hB : regionB l.toArray n s = true)
    (hQ : ∀ c a d v w, Q (.panic c) (Act.put a d v) w → Q (.panic c) a w)
    (h : ∀ w1, Same w w1 → S w1 w1 ∧ wpH P l.toArray Q (S w1) (fun a' w' => wpList P l.toArray Q (l.drop n) a' w') s a w1) : (Code.region id l.toArray true).wp P Q a w :=
  have h1 := h w.drew ⟨rfl, rfl, rfl, rfl⟩
  wp_region_sched n s (S w.drew) hm hB hQ h1.1 h1.2

theorem wpH_nil {L : Act → World → Prop} {a : Act} {w : World} (h : L a w) : wpH P ops Q S L [] a w := h
/-- number i of a list, so that 'rfl' finds it written out -/
def nth : List Oper → Nat → Option Oper
  | [], _ => none
  | x :: _, 0 => some x
  | _ :: xs, n + 1 => nth xs n
theorem nth_eq : ∀ (l : List Oper) (i : Nat), nth l i = l.toArray[i]?
  | [], i => by simp [nth]
  | x :: xs, 0 => by simp [nth]
  | x :: xs, n + 1 => by rw [nth, nth_eq xs n]; simp
/-- an operation that reads: one step of a quiet walk -/
theorem wpH_held {l : List Oper} {L : Act → World → Prop} {a : Act} {w : World} {i : Nat} {r : List (Nat × Bool)} {o : Oper} (hi : nth l i = some o)
    (h : wpQuiet P l.toArray (fun w' => ∃ o : In S, w' = o.at_) (fun a' => wpH P l.toArray Q S L r a' w) [o] a) : wpH P l.toArray Q S L ((i, false) :: r) a w := by
  rw [nth_eq] at hi
  unfold wpH qOp
  simp only [hi]
  exact h
/-- an operation that makes memory: a list of one operation, as the walk has it -/
theorem wpH_move {l : List Oper} {L : Act → World → Prop} {a : Act} {w : World} {i : Nat} {r : List (Nat × Bool)} {o : Oper} (hi : nth l i = some o)
    (h : wpList P l.toArray (Exit.then (fun a' w' => S w' ∧ wpH P l.toArray Q S L r a' w') Q) [o] a w) : wpH P l.toArray Q S L ((i, true) :: r) a w := by
  rw [nth_eq] at hi
  unfold wpH wpOp
  simp only [hi]
  unfold wpList at h
  split
  · rename_i hw
    rw [if_pos hw] at h
    refine h.imp (fun h => ?_) id
    unfold Oper.wp at *
    generalize (execOp a.eval o).run P w = r at *
    cases r with
    | ok n w' =>
      cases n <;> simp only [Oper.upon] at h ⊢ <;> first
        | exact h
        | exact Calls.mono h (fun e w'' he => by cases e <;> exact he)
    | halt x w' => cases x <;> simp only [Oper.upon] at h ⊢ <;> exact h
  · rename_i hw
    rw [if_neg hw] at h
    exact h
end
end Go.Proofs.Ytfebalahfhkeaaa
