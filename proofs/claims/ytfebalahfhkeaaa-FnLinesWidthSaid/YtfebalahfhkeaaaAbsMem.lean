/- The abstract machine, part 7: operations that make memory and write to it. No conditions but those stated. -/
import Derived.Test.YtfebalahfhkeaaaAbsOps2
import Derived.Laws.OwnMore
import Derived.Laws.MakeOwn
namespace Go.Proofs.Ytfebalahfhkeaaa
open Go Go.RowKit

def newU (d : Option Nat) (x : AVal) (nx : Nat) (obj : AObj) : Upd := ⟨match d with | some t => [(t, x)] | none => [], [(nx, some obj)], 1⟩

section
variable {P : Program} {E : Env} {ops : Array Oper} {o : Oper} {s : AS}
/-- an object comes into being -/
theorem Rel.fresh {N I : Nat → Prop} {s' : AS} {β : Nat → Option BI} {a : Act} {w : World} {nx : Nat} {obj : AObj} {arr : Array Value} {C : Nat} {x : AVal} {v : Value} {d : Option Nat} (hr : Rel E N I s' β a w) (hnx : ¬ N nx)
    (hm : E.m ≤ nx) (hd : dstB d E.n = true)
    (hlen : ∀ x ∈ obj.els, x.length = obj.sz) (hsz : arr.size = C * obj.sz) (hC : obj.els.length ≤ C) (hmx : C ≤ maxLen)
    (hcells : ∀ (i j : Nat) x c, obj.els[i]? = some x → x[j]? = some c → ∃ u, arr[i * obj.sz + j]? = some u ∧ Rep I β w c u)
    (hx : ∀ β' w', β' nx = some ⟨some w.heap.size, obj.sz, C⟩ → RepV I β' w' x v) :
    ∃ β', Rel E (fun o => N o ∨ (nx ≤ o ∧ o < nx + 1)) I (s'.upd (newU d x nx obj)) β' (a.put d v) (w.alloc (.cells arr obj.ty)) := by
  have hβn : β nx = none := by
    cases h : β nx with
    | none => rfl
    | some B => exact absurd (hr.nam nx B h) hnx
  let β' : Nat → Option BI := fun o => if o = nx then some ⟨some w.heap.size, obj.sz, C⟩ else β o
  have hβ'n : β' nx = some ⟨some w.heap.size, obj.sz, C⟩ := by simp [β']
  have hext : Ext β β' := fun q B h => by
    have : q ≠ nx := fun e => by rw [e, hβn] at h; cases h
    simp [β', this, h]
  have hwI : ∀ b, I b → (w.alloc (.cells arr obj.ty)).heap[b]? = w.heap[b]? := fun b hb => heap_alloc_old w _ b (hr.imm b hb)
  have hsome : ∀ q obj', (s'.upd ⟨[], [(nx, some obj)], 1⟩).obj q = some obj' → (q = nx ∧ obj' = obj) ∨ (q ≠ nx ∧ s'.obj q = some obj') := fun q obj' h => by
    by_cases e : q = nx
    · subst e
      rw [AS.obj_some (x := some obj) (by simp [lk_cons])] at h
      exact .inl ⟨rfl, by simpa using h.symm⟩
    · rw [AS.obj_none (by rw [lk_cons, if_neg e]; rfl)] at h
      exact .inr ⟨e, h⟩
  have hold : Keeps E.mu E.w0 (w.alloc (.cells arr obj.ty)) := hr.old.trans (M' := fun _ => False) ⟨rfl, rfl, rfl, by simp, fun k hk _ => heap_alloc_old w _ k hk⟩ (fun _ _ h => h.elim)
  have hnew : ObjAt I β' (w.alloc (.cells arr obj.ty)) E.may nx obj := by
    refine ⟨_, hβ'n, hlen, (fun h => by cases h), fun b hb => ?_⟩
    simp only [Option.some.injEq] at hb
    subst hb
    refine ⟨rfl, .inr hr.old.size, fun h => absurd (hr.imm _ h) (Nat.lt_irrefl _), arr, heap_alloc_new w _, hsz, hC, hmx, fun i j x c h1 h2 => ?_⟩
    obtain ⟨u, hu, hru⟩ := hcells i j x c h1 h2
    exact ⟨u, hu, hru.mono hext (fun _ h => h) hwI⟩
  have h1 : Rel E (fun o => N o ∨ (nx ≤ o ∧ o < nx + 1)) I (s'.upd ⟨[], [(nx, some obj)], 1⟩) β' a (w.alloc (.cells arr obj.ty)) := by
    refine hr.change hext (fun q B h => ?_) (fun _ h => h) hwI (fun t => AS.get_none rfl) (fun q obj' h => ?_) (fun q q' obj1 obj2 B B' b h1 h2 hne e1 e2 hb hb' => ?_) hold (fun b hb => ?_) hr.gro (fun q hq => ?_)
    · by_cases e : q = nx
      · exact .inr (by omega)
      · simp only [β', e, if_false] at h
        exact .inl (hr.nam q B h)
    · rcases hsome q obj' h with ⟨rfl, rfl⟩ | ⟨e, h⟩
      · exact .inr hnew
      · exact .inl ⟨h, fun B b hB hb => by
          obtain ⟨k1, _, k3⟩ := (hr.obs q obj' h).lt hB hb
          exact ⟨k3, heap_alloc_old w _ b k1⟩⟩
    · rcases hsome q obj1 h1 with ⟨rfl, rfl⟩ | ⟨n1, g1⟩
      · rcases hsome q' obj2 h2 with ⟨rfl, rfl⟩ | ⟨n2, g2⟩
        · exact hne rfl
        · rw [hβ'n] at e1
          cases e1
          simp only [Option.some.injEq] at hb
          simp only [β', n2, if_false] at e2
          obtain ⟨k1, _⟩ := (hr.obs q' obj2 g2).lt e2 hb'
          omega
      · simp only [β', n1, if_false] at e1
        rcases hsome q' obj2 h2 with ⟨rfl, rfl⟩ | ⟨n2, g2⟩
        · rw [hβ'n] at e2
          cases e2
          simp only [Option.some.injEq] at hb'
          obtain ⟨k1, _⟩ := (hr.obs q obj1 g1).lt e1 hb
          omega
        · simp only [β', n2, if_false] at e2
          exact hr.inj q q' obj1 obj2 B B' b g1 g2 hne e1 e2 hb hb'
    · have := hr.imm b hb
      simp only [World.size_alloc]
      omega
    · simp only [β', show q ≠ nx by omega, if_false]
      exact hr.ext q hq
  have h2 := h1.put (hx β' _ hβ'n) (u := setU d x) (d := d) rfl rfl (dst_lt hd)
  refine ⟨β', h2.congr (fun t => ?_) (fun q => ?_)⟩
  · cases d <;> rfl
  · rfl

theorem StepOk.fresh {obj : AObj} {x : AVal} {obs : List Nat} (hw : Want E ops o s) (hd : dstB o.dst E.n = true) (hop : o.op.operands.toList.all opB = true) (hm : Nat.ble E.m s.nx = true)
    (hlen : ∀ x ∈ obj.els, x.length = obj.sz)
    (h : ∀ N I s' β a w, (∀ y ∈ o.op.operands.toList, RepV I β w (opA s y) (a.eval y)) → (∀ q ∈ obs, s'.obj q = s.obj q) → Rel E N I s' β a w →
      ∃ (arr : Array Value) (C : Nat) (v : Value), (execOp a.eval o).run P w = .ok (.value v) (w.alloc (.cells arr obj.ty)) ∧ arr.size = C * obj.sz ∧ obj.els.length ≤ C ∧ C ≤ maxLen ∧
        (∀ (i j : Nat) x c, obj.els[i]? = some x → x[j]? = some c → ∃ u, arr[i * obj.sz + j]? = some u ∧ Rep I β w c u) ∧ (∀ β' w', β' s.nx = some ⟨some w.heap.size, obj.sz, C⟩ → RepV I β' w' x v)) :
    StepOk P E ops o s (newU o.dst x s.nx obj) ⟨o.looksAt ops, obs⟩ := by
  intro N I s' β a w hag hnm hr Q
  rw [hw.wanted hr hag, if_pos rfl]
  obtain ⟨arr, C, v, h1, h2, h3, h4, h5, h6⟩ := h N I s' β a w (fun y hy => by rw [← agree_op hag hy]; exact opA_rep hr y (List.all_eq_true.1 hop y hy)) (fun q hq => hag.2 q hq) hr
  unfold Oper.wp
  rw [h1]
  obtain ⟨β', hr'⟩ := hr.fresh (hnm 0 (by simp [newU])) (Nat.le_of_ble_eq_true hm) hd hlen h2 h3 h4 h5 h6
  exact ⟨I, β', hr'⟩

def tyZero (P : Program) (t : Nat) (zs : List Value) : Prop := ∃ i z, P.info? t = some i ∧ i.zero = some z ∧ z.cells.toList = zs
def cellsOf : AVal → Option (List Cell)
  | .c x => some [x]
  | .agg cs => some cs
  | _ => none
theorem cellsOf_rep {I : Nat → Prop} {β : Nat → Option BI} {w : World} {x : AVal} {cs : List Cell} {v : Value} (h : RepV I β w x v) (hc : cellsOf x = some cs) : All2 (Rep I β w) cs v.cells.toList := by
  cases x with
  | c x =>
    simp only [cellsOf, Option.some.injEq] at hc
    subst hc
    have h1 : v.oneCell' = true := Rep.one h
    have : v.cells.toList = [v] := by cases v <;> first | rfl | cases h1
    rw [this]
    exact .cons h .nil
  | agg xs =>
    simp only [cellsOf, Option.some.injEq] at hc
    subst hc
    obtain ⟨vals, rfl, h'⟩ := RepV.agg.1 h
    exact h'
  | tup _ => cases hc
  | any => cases hc
theorem all2_at {I : Nat → Prop} {β : Nat → Option BI} {w : World} {cs : List Cell} {arr : Array Value} (h : All2 (Rep I β w) cs arr.toList) : ∀ (i j : Nat) x c, [cs][i]? = some x → x[j]? = some c → ∃ u, arr[i * cs.length + j]? = some u ∧ Rep I β w c u := by
  intro i j x c hi hj
  cases i with
  | succ i => simp at hi
  | zero =>
    simp only [List.getElem?_cons_zero, Option.some.injEq] at hi
    subst hi
    obtain ⟨u, hu, hr⟩ := h.at hj
    exact ⟨u, by simpa using hu, hr⟩

theorem run_zero {t : Nat} {i : TypeInfo} {z : Value} {w : World} (k1 : P.info? t = some i) (k2 : i.zero = some z) : (zeroValue t).run P w = .ok z w := by
  simp [zeroValue, typeInfo, k1, k2]
theorem StepOk.box {x : Operand} {t : Nat} {cs : List Cell} (ho : o.op = .box t x) (hw : Want E ops o s) (hd : dstB o.dst E.n = true) (hxb : opB x = true) (hm : Nat.ble E.m s.nx = true)
    (hx : cellsOf (opA s x) = some cs) : StepOk P E ops o s (newU o.dst (.c (.ptr s.nx 0 0)) s.nx ⟨t, cs.length, [cs]⟩) ⟨o.looksAt ops, []⟩ := by
  refine StepOk.fresh hw hd (by simp [ho, Op.operands, hxb]) hm (by simp) fun N I s' β a w hop _ _ => ?_
  have h1 := cellsOf_rep (hop x (by simp [ho, Op.operands])) hx
  refine ⟨(a.eval x).cells, 1, .pointer (some ⟨w.heap.size, 0, none⟩), ?_, ?_, by simp, by simp [maxLen], all2_at h1, fun β' w' h => ?_⟩
  · simp only [execOp, ho]
    rfl
  · have := h1.length
    simpa using this
  · have := Rep.ptr (I := I) (w := w') (β := β') s.nx 0 0 _ _ _ h
    simp only [Nat.zero_mul, Nat.zero_add] at this
    exact this
theorem StepOk.alloc {t : Nat} {zs : List Value} (ho : o.op = .alloc t) (hw : Want E ops o s) (hd : dstB o.dst E.n = true) (hm : Nat.ble E.m s.nx = true)
    (hz : tyZero P t zs) (h1 : zs.all (·.oneCell') = true) : StepOk P E ops o s (newU o.dst (.c (.ptr s.nx 0 0)) s.nx ⟨t, zs.length, [zs.map constC]⟩) ⟨o.looksAt ops, []⟩ := by
  refine StepOk.fresh hw hd (by simp [ho, Op.operands]) hm (by simp) fun N I s' β a w hop _ _ => ?_
  obtain ⟨i, z, k1, k2, rfl⟩ := hz
  refine ⟨z.cells, 1, .pointer (some ⟨w.heap.size, 0, none⟩), ?_, by simp, by simp, by simp [maxLen], ?_, fun β' w' h => ?_⟩
  · simp only [execOp, ho, Instr.alloc, Sem.run_bind, run_zero k1 k2]
    rfl
  · have : All2 (Rep I β w) (z.cells.toList.map constC) z.cells.toList := by
      simp only [List.all_eq_true] at h1
      revert h1
      generalize z.cells.toList = l
      intro h1
      induction l with
      | nil => exact .nil
      | cons c l ih => exact .cons (constC_rep (h1 c (by simp))) (ih fun x hx => h1 x (by simp [hx]))
    have := all2_at this
    simpa using this
  · have := Rep.ptr (I := I) (w := w') (β := β') s.nx 0 0 _ _ _ h
    simp only [Nat.zero_mul, Nat.zero_add] at this
    exact this
end
end Go.Proofs.Ytfebalahfhkeaaa
