/- The abstract machine, part 10: struct values, literals of slices, make, slices of slices, function values, conversions. No conditions but those stated. -/
import Derived.Test.YtfebalahfhkeaaaAbsAppend
namespace Go.Proofs.Ytfebalahfhkeaaa
open Go Go.RowKit

theorem fillL_all2 {R : Cell → Value → Prop} : ∀ (ps : List (Nat × List Cell)) (vs : List (Nat × List Value)) (cs : List Cell) (us : List Value), All2 R cs us → All2 (fun p v => p.1 = v.1 ∧ All2 R p.2 v.2) ps vs → All2 R (fillL cs ps) (fillL us vs)
  | [], _, _, _, h, .nil => h
  | (off, p) :: ps, _, cs, us, h, .cons (b := (off', v)) h1 h2 => by
    obtain ⟨h3, h4⟩ := h1
    simp only at h3 h4
    subst h3
    simp only [fillL]
    refine fillL_all2 ps _ _ _ (((h.take _).append h4).append ?_) h2
    rw [h4.length]
    exact h.drop _
theorem foldl_set (off : Nat) : ∀ (l : List Value) (k : Nat) (cells : Array Value), off + k + l.length ≤ cells.size →
    ((l.zipIdx k).foldl (fun cs p => cs.setIfInBounds (off + p.2) p.1) cells).toList = cells.toList.take (off + k) ++ l ++ cells.toList.drop (off + k + l.length)
  | [], k, cells, _ => by simp
  | c :: l, k, cells, h => by
    simp only [List.length_cons] at h
    rw [List.zipIdx_cons, List.foldl_cons, foldl_set off l (k + 1) _ (by simp; omega)]
    simp only [Array.toList_setIfInBounds, List.length_cons]
    have h1 : (cells.toList.set (off + k) c).take (off + (k + 1)) = cells.toList.take (off + k) ++ [c] := by
      apply List.ext_getElem?
      intro i
      rw [List.getElem?_take]
      by_cases hi : i < off + k
      · rw [if_pos (by omega), List.getElem?_set_ne (by omega), List.getElem?_append_left (by simp; omega), List.getElem?_take, if_pos hi]
      · have hl : (cells.toList.take (off + k)).length = off + k := by simp; omega
        rw [List.getElem?_append_right (by omega), hl]
        by_cases h2 : i = off + k
        · subst h2
          rw [if_pos (by omega), List.getElem?_set_self (by simp; omega)]
          simp
        · rw [if_neg (by omega), List.getElem?_eq_none (by simp; omega)]
    have h2 : (cells.toList.set (off + k) c).drop (off + (k + 1) + l.length) = cells.toList.drop (off + k + (l.length + 1)) := by
      rw [List.drop_set_of_lt (by omega)]
      congr 1
      omega
    rw [h1, h2]
    simp
theorem run_fill (place : Nat → Option (Nat × Nat)) : ∀ (parts : List (Nat × Value)) (ps : List (Nat × List Value)) (cells : Array Value),
    All2 (fun p q => ∃ sz, place p.1 = some (q.1, sz) ∧ p.2.cells.toList = q.2 ∧ q.2.length = sz ∧ q.1 + sz ≤ cells.size) parts ps → ∃ arr, Instr.fill place cells parts = some arr ∧ arr.toList = fillL cells.toList ps
  | [], _, cells, .nil => ⟨cells, rfl, rfl⟩
  | (i, v) :: parts, _, cells, .cons (b := (off, vs)) h1 h2 => by
    obtain ⟨sz, k1, k2, k3, k4⟩ := h1
    simp only at k1 k2 k3 k4
    have hsz : v.cells.size = sz := by rw [← k3, ← k2]; simp
    have hstep : (v.cells.zipIdx.foldl (fun cs (c, j) => cs.setIfInBounds (off + j) c) cells).toList = cells.toList.take off ++ vs ++ cells.toList.drop (off + vs.length) := by
      rw [← Array.foldl_toList, Array.toList_zipIdx, k2]
      have := foldl_set off vs 0 cells (by omega)
      simpa using this
    have hsize : (v.cells.zipIdx.foldl (fun cs (c, j) => cs.setIfInBounds (off + j) c) cells).size = cells.size := by
      rw [← Array.length_toList, hstep]
      simp only [List.length_append, List.length_take, List.length_drop, Array.length_toList]
      omega
    obtain ⟨arr, h3, h4⟩ := run_fill place parts _ _ (h2.mono fun p q ⟨sz', a1, a2, a3, a4⟩ => ⟨sz', a1, a2, a3, by rw [hsize]; exact a4⟩)
    refine ⟨arr, ?_, ?_⟩
    · simp only [Instr.fill, k1]
      rw [if_neg (by rw [hsz]; simp; omega)]
      exact h3
    · rw [h4, hstep, fillL]

def placesOf (P : Program) (t : Nat) : Option (List (Nat × Nat)) :=
  match P.underlying t with
  | some (.struct fields) => fields.toList.mapM fun f => (P.info? f.type).map fun i => (f.offset, i.size)
  | _ => none
/-- a struct's parts, as cells at their offsets -/
def partsC (s : AS) (places : List (Nat × Nat)) : List (Nat × Operand) → Option (List (Nat × List Cell))
  | [] => some []
  | (i, x) :: r => match places[i]?, cellsOf (opA s x), partsC s places r with
    | some (off, sz), some cs, some rest => if cs.length = sz then some ((off, cs) :: rest) else none
    | _, _, _ => none
def fitsB (n : Nat) (ps : List (Nat × List Cell)) : Bool := ps.all fun p => Nat.ble (p.1 + p.2.length) n

section
variable {P : Program} {E : Env} {ops : Array Oper} {o : Oper} {s : AS}
theorem mapM_places {fields : List Field} {pl : List (Nat × Nat)} (h : fields.mapM (fun f => (P.info? f.type).map fun i => (f.offset, i.size)) = some pl) (w : World) :
    (fields.mapM (fun f => do pure (f.offset, ← sizeOf f.type) : Field → Sem (Nat × Nat))).run P w = .ok pl w := by
  induction fields generalizing pl with
  | nil => simp at h; subst h; simp
  | cons f fs ih =>
    rw [List.mapM_cons] at h
    cases hi : P.info? f.type with
    | none => simp [hi] at h
    | some i =>
      cases hr : fs.mapM (fun f => (P.info? f.type).map fun i => (f.offset, i.size)) with
      | none => simp [hi, hr] at h
      | some pl' =>
        simp [hi, hr] at h
        subst h
        have hsz : (sizeOf f.type).run P w = .ok i.size w := by simp [sizeOf, typeInfo, hi]
        simp only [List.mapM_cons, Sem.run_bind, Sem.run_pure, Result.andThen, ih hr, hsz]
theorem partsC_rep {I : Nat → Prop} {β : Nat → Option BI} {a : Act} {w : World} {places : List (Nat × Nat)} {n : Nat} : ∀ {parts : List (Nat × Operand)} {ps : List (Nat × List Cell)}, partsC s places parts = some ps → fitsB n ps = true →
    (∀ x ∈ parts.map (·.2), RepV I β w (opA s x) (a.eval x)) →
    ∃ vs : List (Nat × List Value), All2 (fun p v => p.1 = v.1 ∧ All2 (Rep I β w) p.2 v.2) ps vs ∧
      ∀ (cells : Array Value), cells.size = n → All2 (fun (p : Nat × Value) (q : Nat × List Value) => ∃ sz, places.toArray[p.1]? = some (q.1, sz) ∧ p.2.cells.toList = q.2 ∧ q.2.length = sz ∧ q.1 + sz ≤ cells.size) (parts.map fun p => (p.1, a.eval p.2)) vs
  | [], ps, h, _, _ => by
    simp only [partsC, Option.some.injEq] at h
    subst h
    exact ⟨[], .nil, fun _ _ => .nil⟩
  | (i, x) :: r, ps, h, hf, hv => by
    simp only [partsC] at h
    split at h
    · rename_i off sz cs rest h1 h2 h3
      split at h
      · rename_i h4
        simp only [Option.some.injEq] at h
        subst h
        simp only [fitsB, List.all_cons, Bool.and_eq_true] at hf
        obtain ⟨vs, k1, k2⟩ := partsC_rep (a := a) h3 hf.2 (fun y hy => hv y (by simp at hy ⊢; exact .inr hy))
        have k3 := cellsOf_rep (hv x (by simp)) h2
        refine ⟨(off, (a.eval x).cells.toList) :: vs, .cons ⟨rfl, k3⟩ k1, fun cells hn => ?_⟩
        refine .cons ⟨sz, by simpa using h1, rfl, by rw [k3.length, h4], ?_⟩ (k2 cells hn)
        rw [hn, ← h4]
        exact Nat.le_of_ble_eq_true hf.1
      · cases h
    · cases h
theorem constL_rep {I : Nat → Prop} {β : Nat → Option BI} {w : World} : ∀ {zs : List Value}, zs.all (·.oneCell') = true → All2 (Rep I β w) (zs.map constC) zs
  | [], _ => .nil
  | z :: zs, h => by
    simp only [List.all_cons, Bool.and_eq_true] at h
    exact .cons (constC_rep h.1) (constL_rep h.2)
theorem StepOk.build {t : Nat} {parts : Array (Nat × Operand)} {zs : List Value} {pl : List (Nat × Nat)} {ps : List (Nat × List Cell)} (ho : o.op = .build t parts) (hw : Want E ops o s) (hd : dstB o.dst E.n = true) (hop : parts.toList.all (fun p => opB p.2) = true)
    (hz : tyZero P t zs) (h1 : zs.all (·.oneCell') = true) (hpl : placesOf P t = some pl) (hps : partsC s pl parts.toList = some ps) (hf : fitsB zs.length ps = true) :
    StepOk P E ops o s (setU o.dst (.agg (fillL (zs.map constC) ps))) ⟨o.looksAt ops, []⟩ := by
  refine StepOk.val hw hd ?_ fun N I s' β a w hopr _ _ => ?_
  · simp only [ho, Op.operands, List.all_eq_true, List.mem_map] at hop ⊢
    rintro x ⟨p, hp, rfl⟩
    exact hop p hp
  · obtain ⟨i, z, k1, k2, rfl⟩ := hz
    unfold placesOf at hpl
    split at hpl
    · rename_i fields hu
      obtain ⟨vs, g1, g2⟩ := partsC_rep (I := I) (β := β) (a := a) (w := w) hps hf (fun x hx => hopr x (by simpa [ho, Op.operands] using hx))
      obtain ⟨arr, g3, g4⟩ := run_fill (pl.toArray[·]?) _ vs z.cells (g2 z.cells (by simp))
      refine ⟨.agg arr, ?_, RepV.agg.2 ⟨arr.toList, by simp, ?_⟩⟩
      · have hm : (fields.mapM (fun f => do pure (f.offset, ← sizeOf f.type) : Field → Sem (Nat × Nat))).run P w = .ok pl.toArray w := by
          rw [Array.mapM_eq_mapM_toList]
          simp only [Sem.run_map, mapM_places hpl w]
          rfl
        have hmap : (parts.map fun (i, x) => (i, a.eval x)).toList = parts.toList.map fun p => (p.1, a.eval p.2) := by simp
        simp only [execOp, ho, Instr.build, Sem.run_bind, run_zero k1 k2, Result.andThen, run_underlying hu, hm, hmap, g3, Sem.run_pure]
      · rw [g4]
        exact fillL_all2 ps vs _ _ (constL_rep h1) g1
    · cases hpl
end
end Go.Proofs.Ytfebalahfhkeaaa
