/- The abstract machine, part 5: the operations that only compute and read. No conditions but those stated. -/
import Derived.Test.YtfebalahfhkeaaaAbsFun
import Derived.IntWalk
namespace Go.Proofs.Ytfebalahfhkeaaa
open Go Go.RowKit

def constC : Value → Cell
  | .slice none 0 0 => .nil
  | v => .v v
def constA : Value → AVal
  | .agg cs => .agg (cs.toList.map constC)
  | .tuple _ => .any
  | v => .c (constC v)
def opA (s : AS) : Operand → AVal
  | .tmp t => s.get t
  | .const v => constA v
  | .func f => .c (.fn f [])
  | .global _ => .any
def setU (d : Option Nat) (x : AVal) : Upd := ⟨match d with | some t => [(t, x)] | none => [], [], 0⟩
def dstB (d : Option Nat) (n : Nat) : Bool := match d with | none => true | some t => Nat.ble (t + 1) n

/-- the guard of an operation says that it runs -/
def Want (E : Env) (ops : Array Oper) (o : Oper) (s : AS) : Prop :=
  match o.guard with
  | none => True
  | some (j, b) => ∃ t, (ops[j]?).bind (·.dst) = some t ∧ s.get t = .c (.v (.bool b)) ∧ Nat.ble (t + 1) E.n = true
/-- the guard says that it does not -/
def Skips (E : Env) (ops : Array Oper) (o : Oper) (s : AS) : Prop :=
  match o.guard with
  | none => False
  | some (j, b) => ∃ t, (ops[j]?).bind (·.dst) = some t ∧ (s.get t = .tup [] ∨ ∃ c, s.get t = .c (.v (.bool c)) ∧ (c == b) = false) ∧ Nat.ble (t + 1) E.n = true
theorem Want.none_ {E : Env} {ops : Array Oper} {o : Oper} {s : AS} (h : o.guard = none) : Want E ops o s := by unfold Want; rw [h]; trivial
theorem Want.some_ {E : Env} {ops : Array Oper} {o : Oper} {s : AS} {j t : Nat} {b : Bool} (h : o.guard = some (j, b)) (ht : (ops[j]?).bind (·.dst) = some t) (hs : s.get t = .c (.v (.bool b))) (hl : Nat.ble (t + 1) E.n = true) : Want E ops o s := by
  unfold Want; rw [h]; exact ⟨t, ht, hs, hl⟩
theorem Skips.some_ {E : Env} {ops : Array Oper} {o : Oper} {s : AS} {j t : Nat} {b c : Bool} (h : o.guard = some (j, b)) (ht : (ops[j]?).bind (·.dst) = some t) (hs : s.get t = .c (.v (.bool c))) (hc : (c == b) = false) (hl : Nat.ble (t + 1) E.n = true) : Skips E ops o s := by
  unfold Skips; rw [h]; exact ⟨t, ht, .inr ⟨c, hs, hc⟩, hl⟩
/-- a nested guard: the guarding operation was passed over itself -/
theorem Skips.none_ {E : Env} {ops : Array Oper} {o : Oper} {s : AS} {j t : Nat} {b : Bool} (h : o.guard = some (j, b)) (ht : (ops[j]?).bind (·.dst) = some t) (hs : s.get t = .tup []) (hl : Nat.ble (t + 1) E.n = true) : Skips E ops o s := by
  unfold Skips; rw [h]; exact ⟨t, ht, .inl hs, hl⟩

theorem oneCell_of {v : Value} (h : ∀ cs, v ≠ .agg cs) (h' : ∀ cs, v ≠ .tuple cs) : v.oneCell' = true := by
  cases v <;> first | rfl | exact absurd rfl (h _) | exact absurd rfl (h' _)
def noTup : Value → Bool
  | .agg cs => cs.toList.all (·.oneCell')
  | _ => true
section
variable {I : Nat → Prop} {β : Nat → Option BI} {w : World}
theorem constC_rep {v : Value} (h : v.oneCell' = true) : Rep I β w (constC v) v := by
  unfold constC
  split
  · exact .imm .nil
  · exact .imm (.v _ h)
theorem constA_rep {v : Value} (hv : noTup v = true) : RepV I β w (constA v) v := by
  unfold constA
  split
  · rename_i cs
    refine RepV.agg.2 ⟨cs.toList, by simp, ?_⟩
    simp only [noTup, List.all_eq_true] at hv
    revert hv
    generalize cs.toList = l
    intro hv
    induction l with
    | nil => exact .nil
    | cons c l ih => exact .cons (constC_rep (hv c (by simp))) (ih fun x hx => hv x (by simp [hx]))
  · trivial
  · exact constC_rep (oneCell_of (by assumption) (by assumption))
/-- an operand that is known -/
def opB : Operand → Bool
  | .const v => noTup v
  | _ => true
theorem opA_rep {E : Env} {N : Nat → Prop} {s : AS} {a : Act} (hr : Rel E N I s β a w) (x : Operand) (hx : opB x = true) : RepV I β w (opA s x) (a.eval x) := by
  cases x with
  | tmp t => exact hr.tms t
  | const v => exact constA_rep hx
  | global g => trivial
  | func f =>
    refine Rep.imm (.fn f [] [] (fun _ => undef) rfl ?_ ?_) <;> (intro j c h; simp at h)
end

theorem looks_mem {ops : Array Oper} {o : Oper} {t : Nat} (h : Operand.tmp t ∈ o.op.operands.toList) : t ∈ o.looksAt ops := by
  unfold Oper.looksAt
  rw [List.mem_append, List.mem_filterMap]
  exact .inl ⟨.tmp t, h, rfl⟩
theorem looks_guard {ops : Array Oper} {o : Oper} {j t : Nat} {b : Bool} (hg : o.guard = some (j, b)) (h : (ops[j]?).bind (·.dst) = some t) : t ∈ o.looksAt ops := by
  unfold Oper.looksAt
  rw [List.mem_append, hg]
  simp [h]
theorem agree_op {ops : Array Oper} {o : Oper} {s s' : AS} {obs : List Nat} (h : Agree ⟨o.looksAt ops, obs⟩ s s') {x : Operand} (hx : x ∈ o.op.operands.toList) : opA s' x = opA s x := by
  cases x with
  | tmp t => exact h.1 t (looks_mem hx)
  | _ => rfl
theorem rep_v {I : Nat → Prop} {β : Nat → Option BI} {w : World} {x v : Value} (h : RepV I β w (.c (.v x)) v) : v = x := by
  cases (show Rep I β w (.v x) v from h) with
  | imm h => cases h; rfl
theorem yielded_of {E : Env} {N I : Nat → Prop} {s : AS} {β : Nat → Option BI} {a : Act} {w : World} (hr : Rel E N I s β a w) {ops : Array Oper} {j t : Nat} {c : Bool} (ht : (ops[j]?).bind (·.dst) = some t) (hs : s.get t = .c (.v (.bool c))) (hl : Nat.ble (t + 1) E.n = true) :
    yielded ops a.tmps j = some c := by
  have h1 := hr.tms t
  rw [hs] at h1
  have h2 := rep_v h1
  have h3 : t < a.tmps.size := by rw [hr.siz]; exact Nat.le_of_ble_eq_true hl
  rw [Array.getD_eq_getD_getElem?, Array.getElem?_eq_getElem h3] at h2
  simp only [Option.getD_some] at h2
  unfold yielded
  rw [ht]
  simp [Array.getElem?_eq_getElem h3, h2]
theorem Want.wanted {E : Env} {N I : Nat → Prop} {s s' : AS} {β : Nat → Option BI} {a : Act} {w : World} (hr : Rel E N I s' β a w) {ops : Array Oper} {o : Oper} {obs : List Nat} (hag : Agree ⟨o.looksAt ops, obs⟩ s s') (h : Want E ops o s) :
    Region.wanted o (yielded ops a.tmps) = true := by
  unfold Want at h
  unfold Region.wanted
  cases hg : o.guard with
  | none => rfl
  | some p =>
    obtain ⟨j, b⟩ := p
    rw [hg] at h
    obtain ⟨t, h1, h2, h3⟩ := h
    simp only
    rw [yielded_of hr h1 ((hag.1 t (looks_guard hg h1)).trans h2) h3]
    simp
theorem Skips.wanted {E : Env} {N I : Nat → Prop} {s s' : AS} {β : Nat → Option BI} {a : Act} {w : World} (hr : Rel E N I s' β a w) {ops : Array Oper} {o : Oper} {obs : List Nat} (hag : Agree ⟨o.looksAt ops, obs⟩ s s') (h : Skips E ops o s) :
    Region.wanted o (yielded ops a.tmps) = false := by
  unfold Skips at h
  unfold Region.wanted
  cases hg : o.guard with
  | none => rw [hg] at h; exact h.elim
  | some p =>
    obtain ⟨j, b⟩ := p
    rw [hg] at h
    obtain ⟨t, h1, h2, h4⟩ := h
    simp only
    rcases h2 with h2 | ⟨c, h2, h3⟩
    · have e := hr.tms t
      rw [(hag.1 t (looks_guard hg h1)).trans h2] at e
      obtain ⟨vals, ev, el⟩ := (show ∃ vals : List Value, _ = Value.tuple vals.toArray ∧ All2 (RepF _ _ _) [] vals from e)
      cases el
      have h5 : t < a.tmps.size := by rw [hr.siz]; exact Nat.le_of_ble_eq_true h4
      rw [Array.getD_eq_getD_getElem?, Array.getElem?_eq_getElem h5] at ev
      simp only [Option.getD_some] at ev
      unfold yielded
      rw [h1]
      simp [Array.getElem?_eq_getElem h5, ev]
    · rw [yielded_of hr h1 ((hag.1 t (looks_guard hg h1)).trans h2) h4]
      simpa using h3
theorem dst_lt {d : Option Nat} {n : Nat} (h : dstB d n = true) : ∀ t, d = some t → t < n := by
  intro t e
  subst e
  exact Nat.le_of_ble_eq_true h

section
variable {P : Program} {E : Env} {ops : Array Oper} {o : Oper} {s : AS}
/-- an operation whose guard says no -/
theorem StepOk.skip (hs : Skips E ops o s) (hd : dstB o.dst E.n = true) : StepOk P E ops o s (setU o.dst (.tup [])) ⟨o.looksAt ops, []⟩ := by
  intro N I s' β a w hag _ hr Q
  rw [hs.wanted hr hag, if_neg (by simp)]
  exact ⟨I, β, (hr.put (x := .tup []) (v := undef) ⟨[], rfl, .nil⟩ (u := setU o.dst (.tup [])) rfl rfl (dst_lt hd)).names fun o h => .inl h⟩
/-- an operation that computes a value and leaves the world as it is -/
theorem StepOk.val {x : AVal} {obs : List Nat} (hw : Want E ops o s) (hd : dstB o.dst E.n = true) (hop : o.op.operands.toList.all opB = true)
    (h : ∀ N I s' β a w, (∀ y ∈ o.op.operands.toList, RepV I β w (opA s y) (a.eval y)) → (∀ q ∈ obs, s'.obj q = s.obj q) → Rel E N I s' β a w → ∃ v, (execOp a.eval o).run P w = .ok (.value v) w ∧ RepV I β w x v) :
    StepOk P E ops o s (setU o.dst x) ⟨o.looksAt ops, obs⟩ := by
  intro N I s' β a w hag _ hr Q
  rw [hw.wanted hr hag, if_pos rfl]
  obtain ⟨v, h1, h2⟩ := h N I s' β a w (fun y hy => by rw [← agree_op hag hy]; exact opA_rep hr y (List.all_eq_true.1 hop y hy)) (fun q hq => hag.2 q hq) hr
  unfold Oper.wp
  rw [h1]
  exact ⟨I, β, (hr.put h2 (u := setU o.dst x) rfl rfl (dst_lt hd)).names fun o h => .inl h⟩

/-- what an operation's operands are, by its text -/
theorem StepOk.move {x : Operand} (ho : o.op = .move x ∨ o.op = .assign x) (hw : Want E ops o s) (hd : dstB o.dst E.n = true) (hx : opB x = true) : StepOk P E ops o s (setU o.dst (opA s x)) ⟨o.looksAt ops, []⟩ := by
  refine StepOk.val hw hd ?_ fun N I s' β a w hop _ _ => ?_
  · rcases ho with ho | ho <;> simp [ho, Op.operands, hx]
  · refine ⟨a.eval x, ?_, hop x ?_⟩
    · rcases ho with ho | ho <;> simp [execOp, ho]
    · rcases ho with ho | ho <;> simp [ho, Op.operands]
theorem StepOk.bin {op : BinOp} {t t' : Nat} {x y : Operand} {p q v : Value} (ho : o.op = .binOp op t x y t') (hw : Want E ops o s) (hd : dstB o.dst E.n = true) (hxy : (opB x && opB y) = true)
    (hx : opA s x = .c (.v p)) (hy : opA s y = .c (.v q)) (hv : v.oneCell' = true) (h : ∀ w : World, ((do eqGuard op t x y p q; binOp op t p q : Sem Value)).run P w = .ok v w) :
    StepOk P E ops o s (setU o.dst (.c (.v v))) ⟨o.looksAt ops, []⟩ := by
  simp only [Bool.and_eq_true] at hxy
  refine StepOk.val hw hd (by simp [ho, Op.operands, hxy]) fun N I s' β a w hop _ _ => ?_
  have h1 := hop x (by simp [ho, Op.operands])
  have h2 := hop y (by simp [ho, Op.operands])
  rw [hx] at h1
  rw [hy] at h2
  refine ⟨v, ?_, Rep.imm (.v v hv)⟩
  have h3 := h w
  simp only [execOp, ho, rep_v h1, rep_v h2]
  rw [Sem.run_bind, h3]
  rfl
theorem StepOk.un {op : UnOp} {t : Nat} {x : Operand} {p v : Value} (ho : o.op = .unOp op t x) (hw : Want E ops o s) (hd : dstB o.dst E.n = true) (hxb : opB x = true)
    (hx : opA s x = .c (.v p)) (hv : v.oneCell' = true) (h : ∀ w : World, (Op.unary op p).run P w = .ok v w) : StepOk P E ops o s (setU o.dst (.c (.v v))) ⟨o.looksAt ops, []⟩ := by
  refine StepOk.val hw hd (by simp [ho, Op.operands, hxb]) fun N I s' β a w hop _ _ => ?_
  have h1 := hop x (by simp [ho, Op.operands])
  rw [hx] at h1
  refine ⟨v, ?_, Rep.imm (.v v hv)⟩
  simp only [execOp, ho, rep_v h1]
  rw [Sem.run_bind, h w]
  rfl
theorem StepOk.pick {c x y : Operand} {b : Bool} (ho : o.op = .pick c x y) (hw : Want E ops o s) (hd : dstB o.dst E.n = true) (hxy : (opB c && opB x && opB y) = true)
    (hc : opA s c = .c (.v (.bool b))) : StepOk P E ops o s (setU o.dst (if b then opA s x else opA s y)) ⟨o.looksAt ops, []⟩ := by
  simp only [Bool.and_eq_true] at hxy
  refine StepOk.val hw hd (by simp [ho, Op.operands, hxy]) fun N I s' β a w hop _ _ => ?_
  have h1 := hop c (by simp [ho, Op.operands])
  have h2 := hop x (by simp [ho, Op.operands])
  have h3 := hop y (by simp [ho, Op.operands])
  rw [hc] at h1
  refine ⟨if b then a.eval x else a.eval y, ?_, ?_⟩
  · simp [execOp, ho, rep_v h1, asBool]
  · cases b
    · exact h3
    · exact h2
theorem StepOk.extract {x : Operand} {i : Nat} {vs : List AVal} {y : AVal} (ho : o.op = .extract x i) (hw : Want E ops o s) (hd : dstB o.dst E.n = true) (hxb : opB x = true)
    (hx : opA s x = .tup vs) (hy : vs[i]? = some y) : StepOk P E ops o s (setU o.dst y) ⟨o.looksAt ops, []⟩ := by
  refine StepOk.val hw hd (by simp [ho, Op.operands, hxb]) fun N I s' β a w hop _ _ => ?_
  have h1 := hop x (by simp [ho, Op.operands])
  rw [hx] at h1
  obtain ⟨vals, h2, h3⟩ := RepV.tup.1 h1
  obtain ⟨v, h4, h5⟩ := h3.at hy
  refine ⟨v, ?_, h5.toV⟩
  simp [execOp, ho, h2, Instr.extract, h4]
/-- the length of a slice or a string -/
def lenA : Cell → Option Int
  | .v (.string b) => some b.size
  | .nil => some 0
  | .sl xs => some xs.length
  | .ref _ _ n => some n
  | _ => none
theorem rep_slice {I : Nat → Prop} {β : Nat → Option BI} {w : World} {c : Cell} {v : Value} {n : Int} (h : Rep I β w c v) (hne : ∀ x, c ≠ .v x) (hn : lenA c = some n) : ∃ A k cap, v = .slice A k cap ∧ (k : Int) = n := by
  cases h with
  | imm h =>
    cases h with
    | v y hy => exact absurd rfl (hne _)
    | nil => simp only [lenA, Option.some.injEq] at hn; exact ⟨_, _, _, rfl, by simpa using hn⟩
    | sl0 A cap => simp only [lenA, Option.some.injEq] at hn; exact ⟨_, _, _, rfl, by simpa using hn⟩
    | sl xs b off sz k cap u k1 => simp only [lenA, Option.some.injEq] at hn; exact ⟨_, _, _, rfl, by rw [k1]; exact hn⟩
    | ip => simp [lenA] at hn
    | fn => simp [lenA] at hn
  | ref q off k b sz cap C k1 => simp only [lenA, Option.some.injEq] at hn; exact ⟨_, _, _, rfl, hn⟩
  | refE q off A cap k1 => simp only [lenA, Option.some.injEq] at hn; exact ⟨_, _, _, rfl, hn⟩
  | ref0 q sz C k1 => simp only [lenA, Option.some.injEq] at hn; exact ⟨_, _, _, rfl, hn⟩
  | ptr => simp [lenA] at hn
  | fn => simp [lenA] at hn
  | dead => simp [lenA] at hn
theorem StepOk.len {x : Operand} {t : Nat} {c : Cell} {n : Int} (ho : o.op = .call { callee := .builtin .len, args := #[x], argTypes := #[t] }) (hw : Want E ops o s) (hd : dstB o.dst E.n = true) (hxb : opB x = true)
    (ht : (∃ b, c = .v (.string b) ∧ P.underlying t = some .string) ∨ ((∀ v, c ≠ .v v) ∧ ∃ e, P.underlying t = some (.slice e)))
    (hx : opA s x = .c c) (hn : lenA c = some n) : StepOk P E ops o s (setU o.dst (.c (.v (.int .i64 n)))) ⟨o.looksAt ops, []⟩ := by
  refine StepOk.val hw hd (by simp [ho, Op.operands, Call.operands, hxb]) fun N I s' β a w hop _ _ => ?_
  have h1 := hop x (by simp [ho, Op.operands, Call.operands])
  rw [hx] at h1
  refine ⟨.int .i64 n, ?_, Rep.imm (.v _ rfl)⟩
  have hrun : ∀ v : Value, a.eval x = v → (Builtin.len_ #[t] o.type #[v]).run P w = .ok (.int .i64 n) w → (execOp a.eval o).run P w = .ok (.value (.int .i64 n)) w := fun v hv h => by
    simp only [execOp, ho, resolve, invoke, builtin, Sem.run_bind, Sem.run_pure, Result.andThen, List.map_toArray, List.map_cons, List.map_nil, hv, h]
  rcases ht with ⟨b, rfl, hu⟩ | ⟨hne, e, hu⟩
  · have h2 := rep_v h1
    simp only [lenA, Option.some.injEq] at hn
    subst hn
    exact hrun _ h2 (by simp [Builtin.len_, run_underlying hu, goInt])
  · have hs : ∀ (A : Option Addr) (k cap : Nat), a.eval x = .slice A k cap → (k : Int) = n → (execOp a.eval o).run P w = .ok (.value (.int .i64 n)) w := fun A k cap hv hk => by
      refine hrun _ hv ?_
      simp [Builtin.len_, run_underlying hu, goInt, hk]
    obtain ⟨A, k, cap, h2, h3⟩ := rep_slice (show Rep I β w c _ from h1) hne hn
    exact hs A k cap h2 h3
end
end Go.Proofs.Ytfebalahfhkeaaa
