/- The abstract machine, part 8: stores and appends. No conditions but those stated. -/
import Derived.Test.YtfebalahfhkeaaaAbsMem
import Derived.Deep.AppendLies
namespace Go.Proofs.Ytfebalahfhkeaaa
open Go Go.RowKit

def fillL {α : Type} (cells : List α) : List (Nat × List α) → List α
  | [] => cells
  | (off, vs) :: r => fillL (cells.take off ++ vs ++ cells.drop (off + vs.length)) r

section
variable {P : Program} {E : Env} {ops : Array Oper} {o : Oper} {s : AS}
/-- an object's block is written to -/
theorem Rel.mod {N I : Nat → Prop} {s' : AS} {β : Nat → Option BI} {a : Act} {w : World} {q : Nat} {obj : AObj} {els : List (List Cell)} {b sz C : Nat} {arr : Array Value} (hr : Rel E N I s' β a w)
    (hob : s'.obj q = some obj) (hβ : β q = some ⟨some b, sz, C⟩) (hlen : ∀ x ∈ els, x.length = obj.sz) (hsz : arr.size = C * obj.sz) (hC : els.length ≤ C)
    (hcells : ∀ (i j : Nat) x c, els[i]? = some x → x[j]? = some c → ∃ u, arr[i * obj.sz + j]? = some u ∧ Rep I β w c u) :
    Rel E N I (s'.upd ⟨[], [(q, some ⟨obj.ty, obj.sz, els⟩)], 0⟩) β a (w.setRow b arr) := by
  obtain ⟨B, hB, h2, h3, h4⟩ := hr.obs q obj hob
  rw [hβ] at hB
  cases hB
  obtain ⟨k0, k1, k2, cur, k3, k4, k5, k6, k7⟩ := h4 b rfl
  simp only at k0 k4 k5 k6
  subst k0
  have hbI : ∀ b', I b' → (w.setRow b arr).heap[b']? = w.heap[b']? := fun b' h => setRow_other w b b' arr (fun e => k2 (e ▸ h))
  have hsize : (w.setRow b arr).heap.size = w.heap.size := by simp [World.setRow]
  have hsome : ∀ q' obj', (s'.upd ⟨[], [(q, some ⟨obj.ty, obj.sz, els⟩)], 0⟩).obj q' = some obj' → (q' = q ∧ obj' = ⟨obj.ty, obj.sz, els⟩) ∨ (q' ≠ q ∧ s'.obj q' = some obj') := fun q' obj' h => by
    by_cases e : q' = q
    · subst e
      rw [AS.obj_some (x := some ⟨obj.ty, obj.sz, els⟩) (by simp [lk_cons])] at h
      exact .inl ⟨rfl, by simpa using h.symm⟩
    · rw [AS.obj_none (by rw [lk_cons, if_neg e]; rfl)] at h
      exact .inr ⟨e, h⟩
  have hlive : ∀ q' obj', (s'.upd ⟨[], [(q, some ⟨obj.ty, obj.sz, els⟩)], 0⟩).obj q' = some obj' → ∃ obj'', s'.obj q' = some obj'' := fun q' obj' h => by
    rcases hsome q' obj' h with ⟨rfl, _⟩ | ⟨_, h⟩
    · exact ⟨_, hob⟩
    · exact ⟨_, h⟩
  have hmay : E.w0.heap.size ≤ b ∨ E.mu b := k1.symm
  refine hr.change (Ext.refl β) hr.nam (fun _ h => h) hbI (fun t => AS.get_none rfl) (fun q' obj' h => ?_) (fun q1 q2 o1 o2 B1 B2 b' g1 g2 hne e1 e2 hb1 => ?_)
    (hr.old.trans (M' := fun x => x = b) ⟨rfl, rfl, rfl, Nat.le_of_eq hsize.symm, fun k _ hk => setRow_other w b k arr hk⟩ (fun x hx e => hmay.elim (fun h => absurd h (by rw [← e]; omega)) (fun h => e ▸ h))) (fun b' h => by rw [hsize]; exact hr.imm b' h) hr.gro hr.ext
  · rcases hsome q' obj' h with ⟨rfl, rfl⟩ | ⟨e, h⟩
    · refine .inr ⟨_, hβ, hlen, (fun h => by cases h), fun b' hb' => ?_⟩
      simp only [Option.some.injEq] at hb'
      subst hb'
      refine ⟨rfl, k1, k2, arr, setRow_heap w b cur arr obj.ty _ k3, hsz, hC, k6, fun i j x c hx hj => ?_⟩
      obtain ⟨u, hu, hru⟩ := hcells i j x c hx hj
      exact ⟨u, hu, hru.mono (Ext.refl β) (fun _ h => h) hbI⟩
    · refine .inl ⟨h, fun B' b' hB' hb' => ?_⟩
      obtain ⟨_, _, g3⟩ := (hr.obs q' obj' h).lt hB' hb'
      have := hr.inj q' q obj' obj B' _ b' h hob e hB' hβ hb'
      exact ⟨g3, setRow_other w b b' arr (fun e' => this (by rw [e']))⟩
  · obtain ⟨o1', g1'⟩ := hlive q1 o1 g1
    obtain ⟨o2', g2'⟩ := hlive q2 o2 g2
    exact hr.inj q1 q2 o1' o2' B1 B2 b' g1' g2' hne e1 e2 hb1

theorem Rel.set_any {N I : Nat → Prop} {s' : AS} {β : Nat → Option BI} {a : Act} {w : World} {d : Option Nat} (hr : Rel E N I s' β a w) (hd : dstB d E.n = true) : Rel E N I (s'.upd (setU d .any)) β (a.put d undef) w :=
  hr.put (x := .any) trivial rfl rfl (dst_lt hd)

def storeU (d : Option Nat) (q : Nat) (obj : AObj) : Upd := ⟨match d with | some t => [(t, .any)] | none => [], [(q, some obj)], 0⟩
theorem StepOk.store {x y : Operand} {t q i f : Nat} {obj : AObj} {el cs : List Cell} (ho : o.op = .store t x y) (hw : Want E ops o s) (hd : dstB o.dst E.n = true) (hxb : (opB x && opB y) = true)
    (hx : opA s x = .c (.ptr q i f)) (hy : cellsOf (opA s y) = some cs) (hn : tySize P t cs.length) (hob : s.obj q = some obj) (hel : obj.els[i]? = some el) (hl : f + cs.length ≤ el.length) :
    StepOk P E ops o s (storeU o.dst q ⟨obj.ty, obj.sz, obj.els.set i (el.take f ++ cs ++ el.drop (f + cs.length))⟩) ⟨o.looksAt ops, [q]⟩ := by
  intro N I s' β a w hag hnm hr Q
  simp only [Bool.and_eq_true] at hxb
  rw [hw.wanted hr hag, if_pos rfl]
  have hob' : s'.obj q = some obj := (hag.2 q (by simp)).trans hob
  have h1 := opA_rep hr x hxb.1
  have h2 := opA_rep hr y hxb.2
  rw [agree_op hag (by simp [ho, Op.operands]), hx] at h1
  rw [agree_op hag (by simp [ho, Op.operands])] at h2
  have h3 := cellsOf_rep h2 hy
  obtain ⟨b, sz, C, hβ, had⟩ := rep_ptr (show Rep I β w _ _ from h1)
  obtain ⟨B, hB, g2, g3, g4⟩ := hr.obs q obj hob'
  rw [hβ] at hB
  cases hB
  obtain ⟨k0, k1, k2, cur, k3, k4, k5, k6, k7⟩ := g4 b rfl
  simp only at k0 k4 k5 k6
  subst k0
  have hell : el.length = obj.sz := g2 el (List.mem_of_getElem? hel)
  have hil : i < obj.els.length := (List.getElem?_eq_some_iff.1 hel).1
  have hcs := h3.length
  have hroom : i * obj.sz + obj.sz ≤ C * obj.sz := by
    have : (i + 1) * obj.sz ≤ C * obj.sz := Nat.mul_le_mul_right _ (by omega)
    rwa [Nat.add_mul, Nat.one_mul] at this
  have hone : ∀ v ∈ (a.eval y).cells.toList, v.oneCell' = true := by
    intro v hv
    obtain ⟨j, hj⟩ := List.mem_iff_getElem?.1 hv
    have hlt : j < cs.length := by rw [← hcs]; exact (List.getElem?_eq_some_iff.1 hj).1
    obtain ⟨v', hv', hrv⟩ := h3.at (List.getElem?_eq_getElem hlt)
    rw [hj] at hv'
    cases hv'
    exact hrv.one
  have hst := run_storeCells_at P b (i * obj.sz + f) obj.ty (a.eval y).cells.toList 0 cur w k3 (by rw [hcs, k4]; omega) hone
  simp only [Nat.add_zero, hcs] at hst
  unfold Oper.wp
  have hrun : (execOp a.eval o).run P w = .ok .skip (w.setRow b (cur.toList.take (i * obj.sz + f) ++ (a.eval y).cells.toList ++ cur.toList.drop (i * obj.sz + f + cs.length)).toArray) := by
    have hnn : (a.eval y).cells.size = cs.length := by simpa using hcs
    simp [execOp, ho, Instr.storeAt, Instr.sureAddr, had, storeVar, run_sizeOf hn, hnn, hst]
  rw [hrun]
  have hmod := hr.mod (els := obj.els.set i (el.take f ++ cs ++ el.drop (f + cs.length))) (arr := (cur.toList.take (i * obj.sz + f) ++ (a.eval y).cells.toList ++ cur.toList.drop (i * obj.sz + f + cs.length)).toArray) hob' hβ ?_ ?_ ?_ ?_
  · have h5 := hmod.set_any (d := o.dst) hd
    refine ⟨I, β, ((h5.congr (fun t => ?_) (fun q' => ?_)).names fun o h => .inl h)⟩
    · cases o.dst <;> rfl
    · rfl
  · intro x hx
    rcases List.mem_or_eq_of_mem_set hx with h | h
    · exact g2 x h
    · rw [h]
      simp only [List.length_append, List.length_take, List.length_drop]
      omega
  · simp only [List.size_toArray, List.length_append, List.length_take, List.length_drop, Array.length_toList, hcs, k4]
    omega
  · simpa using k5
  · intro i' j x c hx hj
    have hjl : j < obj.sz := by
      have h6 : x ∈ obj.els.set i (el.take f ++ cs ++ el.drop (f + cs.length)) := List.mem_of_getElem? hx
      have h7 : x.length = obj.sz := by
        rcases List.mem_or_eq_of_mem_set h6 with h | h
        · exact g2 x h
        · rw [h]
          simp only [List.length_append, List.length_take, List.length_drop]
          omega
      have := (List.getElem?_eq_some_iff.1 hj).1
      omega
    have hi'l : i' < obj.els.length := by
      have := (List.getElem?_eq_some_iff.1 hx).1
      simpa using this
    have hget : ∀ k, (cur.toList.take (i * obj.sz + f) ++ (a.eval y).cells.toList ++ cur.toList.drop (i * obj.sz + f + cs.length)).toArray[k]? =
        if k < i * obj.sz + f then cur[k]? else if k < i * obj.sz + f + cs.length then (a.eval y).cells.toList[k - (i * obj.sz + f)]? else cur[k]? := by
      intro k
      have hl0 : (cur.toList.take (i * obj.sz + f)).length = i * obj.sz + f := by
        simp only [List.length_take, Array.length_toList, k4]
        omega
      simp only [List.getElem?_toArray]
      by_cases c1 : k < i * obj.sz + f
      · rw [if_pos c1, List.append_assoc, List.getElem?_append_left (by omega), List.getElem?_take, if_pos c1]
        simp
      · rw [if_neg c1, List.append_assoc, List.getElem?_append_right (by omega), hl0]
        by_cases c2 : k < i * obj.sz + f + cs.length
        · rw [if_pos c2, List.getElem?_append_left (by omega)]
        · rw [if_neg c2, List.getElem?_append_right (by omega), hcs, List.getElem?_drop]
          simp only [Array.getElem?_toList]
          congr 1
          omega
    by_cases hii : i = i'
    · subst hii
      rw [List.getElem?_set_self hil] at hx
      simp only [Option.some.injEq] at hx
      subst hx
      have htf : (el.take f).length = f := by rw [List.length_take]; omega
      rw [hget]
      by_cases c1 : j < f
      · rw [List.append_assoc, List.getElem?_append_left (by omega), List.getElem?_take, if_pos c1] at hj
        rw [if_pos (by omega)]
        exact k7 i j el c hel hj
      · rw [List.append_assoc, List.getElem?_append_right (by omega), htf] at hj
        rw [if_neg (by omega)]
        by_cases c2 : j < f + cs.length
        · rw [List.getElem?_append_left (by omega)] at hj
          rw [if_pos (by omega)]
          obtain ⟨u, hu, hru⟩ := h3.at hj
          refine ⟨u, ?_, hru⟩
          rw [← hu]
          congr 1
          omega
        · rw [List.getElem?_append_right (by omega), List.getElem?_drop] at hj
          rw [if_neg (by omega)]
          refine k7 i j el c hel ?_
          rw [← hj]
          congr 1
          omega
    · rw [List.getElem?_set_ne hii] at hx
      obtain ⟨u, hu, hru⟩ := k7 i' j x c hx hj
      refine ⟨u, ?_, hru⟩
      rw [hget, ← hu]
      have hcase : i' * obj.sz + j < i * obj.sz ∨ i * obj.sz + obj.sz ≤ i' * obj.sz + j := by
        rcases Nat.lt_or_ge i' i with h | h
        · left
          have : (i' + 1) * obj.sz ≤ i * obj.sz := Nat.mul_le_mul_right _ h
          rw [Nat.add_mul, Nat.one_mul] at this
          omega
        · right
          have : (i + 1) * obj.sz ≤ i' * obj.sz := Nat.mul_le_mul_right _ (by omega)
          rw [Nat.add_mul, Nat.one_mul] at this
          omega
      rcases hcase with h | h
      · rw [if_pos (by omega)]
      · rw [if_neg (by omega), if_neg (by omega)]
end
end Go.Proofs.Ytfebalahfhkeaaa
