/- The abstract machine, part 13: the step of a call. No conditions but those stated. -/
import Derived.Test.YtfebalahfhkeaaaAbsCall
namespace Go.Proofs.Ytfebalahfhkeaaa
open Go Go.RowKit

def callU (d : Option Nat) (r : AVal) (nx : Nat) (fr : List AObj) : Upd := ⟨match d with | some t => [(t, shV nx r)] | none => [], enum nx (fr.map some), fr.length⟩

section
variable {P : Program} {E : Env} {ops : Array Oper} {o : Oper} {s : AS}
theorem Rel.called {N I I' : Nat → Prop} {s' : AS} {β β' : Nat → Option BI} {a : Act} {w w' : World} {nx : Nat} {r : AVal} {fr : List AObj} {v : Value} {d : Option Nat} (hr : Rel E N I s' β a w) (hnx : ∀ i, i < fr.length → ¬ N (nx + i)) (hm : E.m ≤ nx) (hd : dstB d E.n = true)
    (hk : Keeps (fun _ => False) w w') (hdom : ∀ o B, β' o = some B → o < fr.length) (hobs : ∀ (o : Nat) obj, fr[o]? = some obj → ObjAt I' β' w' (fun b => w.heap.size ≤ b) o obj) (hinj : InjO β' (fr.map some))
    (hfr : ∀ obj ∈ fr, ∀ x ∈ obj.els, ∀ c ∈ x, Imm c ∧ Flat c) (hv : RepV I β' w' r v) :
    ∃ β2, Rel E (fun o => N o ∨ (nx ≤ o ∧ o < nx + fr.length)) I (s'.upd (callU d r nx fr)) β2 (a.put d v) w' := by
  have hβn : ∀ i, i < fr.length → β (nx + i) = none := fun i hi => by
    cases h : β (nx + i) with
    | none => rfl
    | some B => exact absurd (hr.nam _ B h) (hnx i hi)
  let β2 : Nat → Option BI := fun o => match β o with | some B => some B | none => if nx ≤ o then β' (o - nx) else none
  have hext : Ext β β2 := fun q B h => by simp [β2, h]
  have hsh : ∀ o B, β' o = some B → β2 (nx + o) = some B := fun o B h => by
    have h1 := hβn o (hdom o B h)
    simp [β2, h1, h]
  have hold : ∀ q B, β2 q = some B → β q = some B ∨ (β q = none ∧ nx ≤ q ∧ β' (q - nx) = some B) := fun q B h => by
    simp only [β2] at h
    cases hq : β q with
    | some B' => rw [hq] at h; exact .inl h
    | none =>
      rw [hq] at h
      simp only at h
      split at h
      · rename_i hle
        exact .inr ⟨rfl, hle, h⟩
      · cases h
  have hw : ∀ b, b < w.heap.size → w'.heap[b]? = w.heap[b]? := fun b hb => hk.block b hb (fun h => h)
  have hwI : ∀ b, I b → w'.heap[b]? = w.heap[b]? := fun b hb => hw b (hr.imm b hb)
  let u0 : Upd := ⟨[], enum nx (fr.map some), fr.length⟩
  have hsome : ∀ q obj, (s'.upd u0).obj q = some obj → (nx ≤ q ∧ fr[q - nx]? = some obj) ∨ ((q < nx ∨ nx + fr.length ≤ q) ∧ s'.obj q = some obj) := fun q obj h => by
    by_cases hin : nx ≤ q ∧ q < nx + fr.length
    · have hq : fr[q - nx]? = some (fr[q - nx]'(by omega)) := List.getElem?_eq_getElem (by omega)
      rw [AS.obj_some (x := some (fr[q - nx]'(by omega))) (by
        show lk q (enum nx (fr.map some)) = _
        rw [lk_enum, if_pos hin.1, List.getElem?_map, hq]
        rfl)] at h
      exact .inl ⟨hin.1, by rw [hq]; exact h⟩
    · rw [AS.obj_none (by
        show lk q (enum nx (fr.map some)) = _
        rw [lk_enum]
        split
        · rw [List.getElem?_eq_none (by simp; omega)]
        · rfl)] at h
      exact .inr ⟨by omega, h⟩
  have hnewβ : ∀ q obj B, nx ≤ q → fr[q - nx]? = some obj → β2 q = some B → β' (q - nx) = some B := fun q obj B hq hf h => by
    have hl : q - nx < fr.length := (List.getElem?_eq_some_iff.1 hf).1
    rcases hold q B h with h1 | ⟨_, _, h1⟩
    · have := hβn (q - nx) hl
      rw [show nx + (q - nx) = q by omega, h1] at this
      cases this
    · exact h1
  have holdβ : ∀ q obj B, s'.obj q = some obj → (q < nx ∨ nx + fr.length ≤ q) → β2 q = some B → β q = some B := fun q obj B ho hq h => by
    rcases hold q B h with h1 | ⟨_, h2, h1⟩
    · exact h1
    · have := hdom _ B h1
      omega
  have h1 : Rel E (fun o => N o ∨ (nx ≤ o ∧ o < nx + fr.length)) I (s'.upd u0) β2 a w' := by
    refine hr.change hext (fun q B h => ?_) (fun _ h => h) hwI (fun t => AS.get_none rfl) (fun q obj h => ?_) (fun q q' obj1 obj2 B1 B2 b g1 g2 hne e1 e2 hb hb' => ?_)
      (hr.old.trans (M' := fun _ => False) hk (fun _ _ h => h.elim)) (fun b hb => Nat.lt_of_lt_of_le (hr.imm b hb) hk.size) hr.gro (fun q hq => ?_)
    · rcases hold q B h with h1 | ⟨_, h2, h1⟩
      · exact .inl (hr.nam q B h1)
      · have := hdom _ B h1
        exact .inr (by omega)
    · rcases hsome q obj h with ⟨hq, hf⟩ | ⟨hq, ho⟩
      · right
        obtain ⟨B, hB, g2, g3, g4⟩ := hobs _ obj hf
        refine ⟨B, ?_, g2, g3, fun b hb => ?_⟩
        · have := hsh _ B hB
          rwa [show nx + (q - nx) = q by omega] at this
        · obtain ⟨k0, k1, k2, arr, k3, k4, k5, k6, k7⟩ := g4 b hb
          refine ⟨k0, .inr (Nat.le_trans hr.old.size k1), fun h => absurd (hr.imm b h) (by omega), arr, k3, k4, k5, k6, fun i j x c hx hj => ?_⟩
          obtain ⟨u, hu, hru⟩ := k7 i j x c hx hj
          obtain ⟨f1, f2⟩ := hfr obj (List.mem_of_getElem? hf) x (List.mem_of_getElem? hx) c (List.mem_of_getElem? hj)
          exact ⟨u, hu, .imm (f1 _ _ _ _ (f2 _ I _ _ _ hru))⟩
      · exact .inl ⟨ho, fun B b hB hb => by
          obtain ⟨k1, _, k3⟩ := (hr.obs q obj ho).lt hB hb
          exact ⟨k3, hw b k1⟩⟩
    · have hlow : ∀ q obj B b, s'.obj q = some obj → β q = some B → B.blk = some b → b < w.heap.size := fun q obj B b ho hB hb => ((hr.obs q obj ho).lt hB hb).1
      have hhigh : ∀ q obj B b, fr[q]? = some obj → β' q = some B → B.blk = some b → w.heap.size ≤ b := fun q obj B b ho hB hb => ((hobs q obj ho).lt hB hb).2.1
      rcases hsome q obj1 g1 with ⟨n1, f1⟩ | ⟨n1, f1⟩
      · have e1' := hnewβ q obj1 B1 n1 f1 e1
        rcases hsome q' obj2 g2 with ⟨n2, f2⟩ | ⟨n2, f2⟩
        · have e2' := hnewβ q' obj2 B2 n2 f2 e2
          exact hinj (q - nx) (q' - nx) obj1 obj2 B1 B2 b (by simp [f1]) (by simp [f2]) (by omega) e1' e2' hb hb'
        · have e2' := holdβ q' obj2 B2 f2 n2 e2
          have l1 := hhigh _ obj1 B1 b f1 e1' hb
          have l2 := hlow _ obj2 B2 b f2 e2' hb'
          omega
      · have e1' := holdβ q obj1 B1 f1 n1 e1
        rcases hsome q' obj2 g2 with ⟨n2, f2⟩ | ⟨n2, f2⟩
        · have e2' := hnewβ q' obj2 B2 n2 f2 e2
          have l1 := hhigh _ obj2 B2 b f2 e2' hb'
          have l2 := hlow _ obj1 B1 b f1 e1' hb
          omega
        · have e2' := holdβ q' obj2 B2 f2 n2 e2
          exact hr.inj q q' obj1 obj2 B1 B2 b f1 f2 hne e1' e2' hb hb'
    · rw [← hr.ext q hq]
      simp only [β2]
      cases β q with
      | some B => rfl
      | none => simp only; rw [if_neg (by omega)]
  have h2 := h1.put (shV_rep hsh hv) (u := setU d (shV nx r)) (d := d) rfl rfl (dst_lt hd)
  refine ⟨β2, h2.congr (fun t => ?_) (fun q => ?_)⟩
  · cases d <;> rfl
  · rfl
theorem VAs.rep {N I : Nat → Prop} {s' : AS} {β : Nat → Option BI} {a : Act} {w : World} {V : List Nat} (hr : Rel E N I s' β a w) (hag : ∀ q ∈ V, s'.obj q = s.obj q) : ∀ {xs : List Operand} {ys : List AVal}, VAs s V (xs.map (opA s)) ys → (∀ x ∈ xs, RepV I β w (opA s x) (a.eval x)) →
    All2 (RepF (lent I β V) (fun _ => none) w) ys (xs.map a.eval)
  | [], _, .nil, _ => .nil
  | x :: xs, _, .cons h hs, hv => .cons (h.rep hr hag (hv x (by simp))) (VAs.rep hr hag hs fun y hy => hv y (by simp [hy]))
theorem run_call {fo : Operand} {args : Array Operand} {ats : Array TypeId} {g : Nat} {cv : List Value} {a : Act} {w : World} (ho : o.op = .call { callee := .value fo, args := args, argTypes := ats }) (hf : a.eval fo = .func (.func g) #[] cv.toArray) (hg : FnOk P g) :
    (execOp a.eval o).run P w = .ok (.enter g (args.toList.map a.eval ++ cv).toArray) w := by
  obtain ⟨fn, h1, h2, h3⟩ := hg
  have h4 : ¬ fn.name = "runtime.NumGoroutine" := by simpa using h2
  have h5 : ¬ fn.body = none := by intro e; rw [e] at h3; cases h3
  have e : (#[] : Array Value) ++ args.map a.eval ++ cv.toArray = (args.toList.map a.eval ++ cv).toArray := by apply Array.ext'; simp
  simp only [execOp, ho, resolve, Deferred.ofValue, hf, invoke, Sem.run_bind, Sem.run_pure, Result.andThen, e]
  simp [callFunc, h1, h4, h5]
theorem rep_fn {I : Nat → Prop} {β : Nat → Option BI} {w : World} {f : Nat} {caps : List Cell} {v : Value} (h : Rep I β w (.fn f caps) v) : ∃ vals : List Value, v = .func (.func f) #[] vals.toArray ∧ All2 (Rep I β w) caps vals := by
  cases h with
  | imm h =>
    cases h with
    | fn _ _ vals u h1 h2 h3 =>
      refine ⟨vals, rfl, All2.of_at h1 fun i c v hc hv => ?_⟩
      rw [h2 i c hc] at hv
      cases hv
      exact .imm (h3 i c hc)
  | fn _ _ vals u h1 h2 h3 =>
    refine ⟨vals, rfl, All2.of_at h1 fun i c v hc hv => ?_⟩
    rw [h2 i c hc] at hv
    cases hv
    exact h3 i c hc
theorem All2.map_c {I : Nat → Prop} {w : World} : ∀ {cs : List Cell} {vs : List Value}, All2 (RepI I w) cs vs → All2 (RepF I (fun _ => none) w) (cs.map AVal.c) vs
  | _, _, .nil => .nil
  | _, _, .cons h hs => .cons (Rep.imm h) (All2.map_c hs)

theorem StepOk.call {fo : Operand} {args : Array Operand} {ats : Array TypeId} {g : Nat} {caps caps' : List Cell} {as' : List AVal} {fr : List AObj} {r : AVal} (V : List Nat) (ho : o.op = .call { callee := .value fo, args := args, argTypes := ats })
    (hw : Want E ops o s) (hd : dstB o.dst E.n = true) (hop : (opB fo && args.toList.all opB) = true) (hm : Nat.ble E.m s.nx = true) (hV : V.all (fun q => (s.obj q).isSome) = true)
    (hf : opA s fo = .c (.fn g caps)) (hargs : VAs s V (args.toList.map (opA s)) as') (hcaps : VCs s V caps caps') (h : PF P g (as' ++ caps'.map AVal.c) fr r) (hrf : FlatV r) (hfr : ∀ obj ∈ fr, ∀ x ∈ obj.els, ∀ c ∈ x, Imm c ∧ Flat c) :
    StepOk P E ops o s (callU o.dst r s.nx fr) ⟨o.looksAt ops, V⟩ := by
  intro N I s' β a w hag hnm hr Q
  simp only [Bool.and_eq_true, List.all_eq_true] at hop
  rw [hw.wanted hr hag, if_pos rfl]
  have hagV : ∀ q ∈ V, s'.obj q = s.obj q := fun q hq => hag.2 q hq
  have hmem : ∀ x ∈ args.toList, x ∈ o.op.operands.toList := fun x hx => by simp [ho, Op.operands, Call.operands, Array.mem_toList_iff.1 hx]
  have h1 := opA_rep hr fo hop.1
  rw [agree_op hag (by simp [ho, Op.operands, Call.operands]), hf] at h1
  obtain ⟨cv, hcv, hcr⟩ := rep_fn (show Rep I β w _ _ from h1)
  have hav := VAs.rep hr hagV hargs fun x hx => by
    have := opA_rep hr x (hop.2 x hx)
    rwa [agree_op hag (hmem x hx)] at this
  have hall := hav.append (VCs.rep hr hagV hcaps hcr).map_c
  have hI : ∀ b, lent I β V b → b < w.heap.size := fun b hb => by
    rcases hb with hb | ⟨q, B, hq, hB, hb⟩
    · exact hr.imm b hb
    · have hl := List.all_eq_true.1 hV q hq
      rw [← hagV q hq] at hl
      cases ho' : s'.obj q with
      | some obj => exact ((hr.obs q obj ho').lt hB hb).1
      | none => rw [ho'] at hl; cases hl
  have hc := h.run (lent I β V) (fun _ => none) w _ hI (fun o B e => by cases e) (fun o obj e => by simp at e) (fun o o' obj obj' B B' b e => by simp at e) hall
  unfold Oper.wp
  rw [run_call ho hcv h.ok, Oper.upon_enter]
  refine hc.mono fun e w' ⟨v, I', β', he, hv, hk, hI', hgr, hdom, _, hobs, hinj⟩ => ?_
  subst he
  have hk' : Keeps (fun _ => False) w w' := ⟨hk.os, hk.tape, hk.output, hk.size, fun k hk1 hk2 => hk.block k hk1 (fun ⟨o, B, h1, _⟩ => absurd h1 (Nat.not_lt_zero _))⟩
  have hdom' : ∀ o B, β' o = some B → o < fr.length := fun o B h => by have := hdom o B h; simpa using this
  obtain ⟨β2, hr2⟩ := hr.called (d := o.dst) (fun i hi => hnm i hi) (Nat.le_of_ble_eq_true hm) hd hk' hdom' (fun o obj ho => (hobs o obj (by simp [ho])).mayMono fun b hb => hb.elim (fun ⟨o, B, h1, _⟩ => absurd h1 (Nat.not_lt_zero _)) id) hinj hfr (flatV_rep hrf hv)
  exact ⟨I, β2, hr2⟩
end
end Go.Proofs.Ytfebalahfhkeaaa
