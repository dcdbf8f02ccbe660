/- A region that draws its order, walked by a plan that may part in two: where two operations may come up and neither reads alone, both ways are walked. For every order that the region's edges allow. No conditions but those stated. -/
import Derived.Test.YtdggbjlgimcpkaaOld
namespace Go.Proofs.Ytdggbjlgimcpkaa
open Go

/-- an order of operations that may part in two -/
inductive Plan where
  | done
  | held (i : Nat) (r : Plan)
  | move (i : Nat) (r : Plan)
  | fork (i : Nat) (r : Plan) (j : Nat) (q : Plan)
def Plan.size : Plan → Nat
  | .done => 0
  | .held _ r => r.size + 1
  | .move _ r => r.size + 1
  | .fork _ r _ _ => r.size + 1

section
variable {P : Program} {ops : Array Oper} {md : Region.Mode} {Q : Exit → Act → World → Prop} {S : World → Prop}

def wpP (P : Program) (ops : Array Oper) (Q : Exit → Act → World → Prop) (S : World → Prop) (L : Act → World → Prop) : Plan → Act → World → Prop
  | .done, a, w => L a w
  | .held i r, a, w => qOp P ops (Cls S) i (fun a' => wpP P ops Q S L r a' w) a
  | .move i r, a, w => wpOp P ops Q i (fun a' w' => S w' ∧ wpP P ops Q S L r a' w') a w
  | .fork i r j q, a, w => wpOp P ops Q i (fun a' w' => S w' ∧ wpP P ops Q S L r a' w') a w ∧ wpOp P ops Q j (fun a' w' => S w' ∧ wpP P ops Q S L q a' w') a w

def planB (md : Region.Mode) (ops : Array Oper) (n : Nat) : Plan → Array Bool → Bool
  | .done, listed => Region.seqB md ops (ops.size - n) n listed
  | .held i r, listed => decide (i < n) && (Region.ready md ops listed).contains i &&
      (Region.free md ops listed i && (match ops[i]? with | some o => noCall o | none => false)) && planB md ops n r (listed.setIfInBounds i true)
  | .move i r, listed => decide (i < n) && decide (Region.ready md ops listed = [i]) && planB md ops n r (listed.setIfInBounds i true)
  | .fork i r j q, listed => decide (i < n) && decide (j < n) && decide (Region.ready md ops listed = [i, j]) && decide (r.size = q.size) &&
      planB md ops n r (listed.setIfInBounds i true) && planB md ops n q (listed.setIfInBounds j true)

theorem wpAnyM_plan {n : Nat} {L : Act → World → Prop} (hQ : ∀ c a d v w, Q (.panic c) (Act.put a d v) w → Q (.panic c) a w) (hsel : Region.noSelect ops = true)
    (hs : Region.sinkB md ops n = true) (hc : Region.chainB md ops n = true) (hn : n < ops.size) :
    ∀ (s : Plan) (listed : Array Bool) (a : Act) (w : World), HeadInv md ops n listed → planB md ops n s listed = true → S w → wpP P ops Q S L s a w →
      wpAnyM P md ops Q S n (fun listed' a' w' => Region.seqB md ops (ops.size - n) n listed' = true ∧ L a' w') s.size listed a w
  | .done, listed, a, w, _, hB, _, h => ⟨hB, h⟩
  | .held i r, listed, a, w, inv, hB, hS, h => by
    simp only [planB, Bool.and_eq_true, decide_eq_true_eq] at hB
    obtain ⟨⟨⟨hin, hr⟩, hf, hno⟩, hB'⟩ := hB
    have hr' : i ∈ Region.ready md ops listed := by simpa using hr
    obtain ⟨_, oi, hi, _⟩ := mem_ready.1 hr'
    simp only [hi] at hno
    obtain ⟨v, hy, hK⟩ := held_of_qOp hi hno h
    exact wpAnyM_first hi (Region.noSelect_spec hsel) (fun c a w => hQ c a oi.dst v w) hs hc hn hin (fun listed' a' w' hL => seqB_ready hL.1) r.size listed a w inv (Region.free_spec hi hf) hr' hy hS
      (wpAnyM_plan hQ hsel hs hc hn r _ _ w (inv.set hr' hin) hB' hS hK)
  | .move i r, listed, a, w, inv, hB, hS, h => by
    simp only [planB, Bool.and_eq_true, decide_eq_true_eq] at hB
    obtain ⟨⟨hin, hb⟩, hB'⟩ := hB
    have hr' : i ∈ Region.ready md ops listed := by rw [hb]; simp
    refine ⟨fun h0 => (by rw [h0] at hr'; cases hr'), fun j hj => ?_⟩
    rw [hb] at hj
    have hji : j = i := by simpa using hj
    subst hji
    exact ⟨hin, wpOp_mono (fun a' w' h' => ⟨h'.1, wpAnyM_plan hQ hsel hs hc hn r _ a' w' (inv.set hr' hin) hB' h'.1 h'.2⟩) h⟩
  | .fork i r j q, listed, a, w, inv, hB, hS, h => by
    simp only [planB, Bool.and_eq_true, decide_eq_true_eq] at hB
    obtain ⟨⟨⟨⟨⟨hin, hjn⟩, hb⟩, hz⟩, hBr⟩, hBq⟩ := hB
    have hri : i ∈ Region.ready md ops listed := by rw [hb]; simp
    have hrj : j ∈ Region.ready md ops listed := by rw [hb]; simp
    refine ⟨fun h0 => (by rw [h0] at hri; cases hri), fun k hk => ?_⟩
    rw [hb] at hk
    have hk' : k = i ∨ k = j := by simpa using hk
    rcases hk' with rfl | rfl
    · exact ⟨hin, wpOp_mono (fun a' w' h' => ⟨h'.1, wpAnyM_plan hQ hsel hs hc hn r _ a' w' (inv.set hri hin) hBr h'.1 h'.2⟩) h.1⟩
    · refine ⟨hjn, wpOp_mono (fun a' w' h' => ⟨h'.1, ?_⟩) h.2⟩
      have := wpAnyM_plan hQ hsel hs hc hn q _ a' w' (inv.set hrj hjn) hBq h'.1 h'.2
      rw [← hz] at this
      exact this

def planOk (ops : Array Oper) (n : Nat) (s : Plan) : Bool :=
  Region.noSelect ops && decide (n < ops.size) && Region.sinkB .any ops n && Region.chainB .any ops n && decide (s.size = n) && planB .any ops n s (Array.replicate ops.size false)

theorem wp_region_plan0 {id : Nat} {a : Act} {w : World} {l : List Oper} (n : Nat) (s : Plan) (S : World → Prop) (hm : P.follows .mixedOrders = true) (hB : planOk l.toArray n s = true)
    (hQ : ∀ c a d v w, Q (.panic c) (Act.put a d v) w → Q (.panic c) a w) (hS : S w.drew)
    (h : wpP P l.toArray Q S (fun a' w' => wpList P l.toArray Q (l.drop n) a' w') s a w.drew) : (Code.region id l.toArray true).wp P Q a w := by
  simp only [planOk, Bool.and_eq_true, decide_eq_true_eq] at hB
  obtain ⟨⟨⟨⟨⟨hsel, hn⟩, hs⟩, hc⟩, hlen⟩, hsch⟩ := hB
  have hn' : n < l.length := by simpa using hn
  have hdl : (l.drop n).length = l.toArray.size - n := by simp
  have inv0 : HeadInv .any l.toArray n (Array.replicate l.toArray.size false) :=
    ⟨by simp, fun j oj _ hl => (by rw [getD_replicate_false] at hl; cases hl), fun t _ ht => getD_in (by simpa using ht) (getD_replicate_false _ _)⟩
  have H := wpAnyM_plan (md := .any) hQ hsel hs hc hn s _ a w.drew inv0 hsch hS h
  refine wp_region_any hm ?_
  have := wpAny_of_headM (Q := Q) (g := l.toArray.size - n) (fun listed a' w' hL => by
    have := wpAny_of_seq (md := .any) (Q' := Q) (l.drop n) n listed a' w' (fun j => by simp [List.getElem?_drop]) (by rw [hdl]; exact hL.1) hL.2
    rwa [hdl] at this) _ _ _ _ H
  rw [hlen, show n + (l.toArray.size - n) = l.toArray.size by omega] at this
  exact this
theorem wp_region_plan {id : Nat} {a : Act} {w : World} {l : List Oper} (n : Nat) (s : Plan) (S : World → World → Prop) (hm : P.follows .mixedOrders = true) (hB : planOk l.toArray n s = true)
    (hQ : ∀ c a d v w, Q (.panic c) (Act.put a d v) w → Q (.panic c) a w)
    (h : ∀ w1, Same w w1 → S w1 w1 ∧ wpP P l.toArray Q (S w1) (fun a' w' => wpList P l.toArray Q (l.drop n) a' w') s a w1) : (Code.region id l.toArray true).wp P Q a w :=
  have h1 := h w.drew ⟨rfl, rfl, rfl, rfl⟩
  wp_region_plan0 n s (S w.drew) hm hB hQ h1.1 h1.2

theorem wpP_nil {L : Act → World → Prop} {a : Act} {w : World} (h : L a w) : wpP P ops Q S L .done a w := h
theorem wpP_held {l : List Oper} {L : Act → World → Prop} {a : Act} {w : World} {i : Nat} {r : Plan} {o : Oper} (hi : nth l i = some o)
    (h : wpQuiet P l.toArray (fun w' => ∃ o : In S, w' = o.at_) (fun a' => wpP P l.toArray Q S L r a' w) [o] a) : wpP P l.toArray Q S L (.held i r) a w := by
  rw [nth_eq] at hi
  unfold wpP qOp
  simp only [hi]
  exact h
theorem wpOp_of_list {l : List Oper} {K : Act → World → Prop} {a : Act} {w : World} {i : Nat} {o : Oper} (hi : nth l i = some o)
    (h : wpList P l.toArray (Exit.then K Q) [o] a w) : wpOp P l.toArray Q i K a w := by
  rw [nth_eq] at hi
  unfold wpOp
  simp only [hi]
  unfold wpList at h
  split
  · rename_i hw
    rw [if_pos hw] at h
    refine h.imp (fun h => ?_) id
    unfold Oper.wp at *
    generalize (execOp a.eval o).run P w = r at *
    cases r with
    | ok n w' =>
      cases n <;> simp only [Oper.upon] at h ⊢ <;> first
        | exact h
        | exact Calls.mono h (fun e w'' he => by cases e <;> exact he)
    | halt x w' => cases x <;> simp only [Oper.upon] at h ⊢ <;> exact h
  · rename_i hw
    rw [if_neg hw] at h
    exact h
theorem wpP_move {l : List Oper} {L : Act → World → Prop} {a : Act} {w : World} {i : Nat} {r : Plan} {o : Oper} (hi : nth l i = some o)
    (h : wpList P l.toArray (Exit.then (fun a' w' => S w' ∧ wpP P l.toArray Q S L r a' w') Q) [o] a w) : wpP P l.toArray Q S L (.move i r) a w :=
  wpOp_of_list hi h
theorem wpP_fork {l : List Oper} {L : Act → World → Prop} {a : Act} {w : World} {i j : Nat} {r q : Plan} {o o' : Oper} (hi : nth l i = some o) (hj : nth l j = some o')
    (h1 : wpList P l.toArray (Exit.then (fun a' w' => S w' ∧ wpP P l.toArray Q S L r a' w') Q) [o] a w)
    (h2 : wpList P l.toArray (Exit.then (fun a' w' => S w' ∧ wpP P l.toArray Q S L q a' w') Q) [o'] a w) : wpP P l.toArray Q S L (.fork i r j q) a w :=
  ⟨wpOp_of_list hi h1, wpOp_of_list hj h2⟩
end
end Go.Proofs.Ytdggbjlgimcpkaa
