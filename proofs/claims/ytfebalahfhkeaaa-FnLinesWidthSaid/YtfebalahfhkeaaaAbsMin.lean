/- The abstract machine: the builtin functions min and max of two integers. No conditions but those stated. -/
import Derived.Test.YtfebalahfhkeaaaAbsEff
namespace Go.Proofs.Ytfebalahfhkeaaa
open Go Go.RowKit
section
variable {P : Program} {E : Env} {ops : Array Oper} {o : Oper} {s : AS}
theorem StepOk.min2 {x y : Operand} {ts : Array TypeId} {k : IntKind} {p q : Int} (ho : o.op = .call { callee := .builtin .min, args := #[x, y], argTypes := ts }) (hw : Want E ops o s) (hd : dstB o.dst E.n = true) (hxb : (opB x && opB y) = true)
    (hx : opA s x = .c (.v (.int k p))) (hy : opA s y = .c (.v (.int k q))) : StepOk P E ops o s (setU o.dst (.c (.v (.int k (min p q))))) ⟨o.looksAt ops, []⟩ := by
  simp only [Bool.and_eq_true] at hxb
  refine StepOk.val hw hd (by simp [ho, Op.operands, Call.operands, hxb]) fun N I s' β a w hop _ _ => ?_
  have h1 := hop x (by simp [ho, Op.operands, Call.operands])
  have h2 := hop y (by simp [ho, Op.operands, Call.operands])
  rw [hx] at h1
  rw [hy] at h2
  refine ⟨.int k (min p q), ?_, Rep.imm (.v _ rfl)⟩
  simp only [execOp, ho, resolve, invoke, builtin, Sem.run_bind, Sem.run_pure, Result.andThen, List.map_toArray, List.map_cons, List.map_nil, rep_v h1, rep_v h2]
  rw [show min p q = if p ≤ q then p else q from rfl]
  by_cases h : q < p
  · rw [if_neg (by omega)]; simp [Builtin.min_, Builtin.min2, h]
  · rw [if_pos (by omega)]; simp [Builtin.min_, Builtin.min2, h]
theorem StepOk.max2 {x y : Operand} {ts : Array TypeId} {k : IntKind} {p q : Int} (ho : o.op = .call { callee := .builtin .max, args := #[x, y], argTypes := ts }) (hw : Want E ops o s) (hd : dstB o.dst E.n = true) (hxb : (opB x && opB y) = true)
    (hx : opA s x = .c (.v (.int k p))) (hy : opA s y = .c (.v (.int k q))) : StepOk P E ops o s (setU o.dst (.c (.v (.int k (max p q))))) ⟨o.looksAt ops, []⟩ := by
  simp only [Bool.and_eq_true] at hxb
  refine StepOk.val hw hd (by simp [ho, Op.operands, Call.operands, hxb]) fun N I s' β a w hop _ _ => ?_
  have h1 := hop x (by simp [ho, Op.operands, Call.operands])
  have h2 := hop y (by simp [ho, Op.operands, Call.operands])
  rw [hx] at h1
  rw [hy] at h2
  refine ⟨.int k (max p q), ?_, Rep.imm (.v _ rfl)⟩
  simp only [execOp, ho, resolve, invoke, builtin, Sem.run_bind, Sem.run_pure, Result.andThen, List.map_toArray, List.map_cons, List.map_nil, rep_v h1, rep_v h2]
  rw [show max p q = if p ≤ q then q else p from rfl]
  by_cases h : p < q
  · rw [if_pos (by omega)]; simp [Builtin.max_, Builtin.max2, h]
  · by_cases h' : p = q
    · subst h'; simp [Builtin.max_, Builtin.max2]
    · rw [if_neg (by omega)]; simp [Builtin.max_, Builtin.max2, h]
variable {K : AS → Prop} {draw : Bool} {r : List Oper} {acc : List (Upd × Foot)} {tm : List (Nat × AVal)} {ob : List (Nat × Option AObj)} {nx d ty : Nat} {pos : String} {aft : Array Edge} {g : Option (Nat × Bool)}
theorem rx_min {x y : Operand} {ts : Array TypeId} {k : IntKind} {p q : Int} (hd : dstB (some d) E.n = true)
    (hx : opV tm x = some (.c (.v (.int k p)))) (hy : opV tm y = some (.c (.v (.int k q))))
    (h : regX P E ops K draw r ((setU (some d) (.c (.v (.int k (min p q)))), ⟨(Oper.mk (some d) (.call { callee := .builtin .min, args := #[x, y], argTypes := ts }) ty pos aft g).looksAt ops, []⟩) :: acc) ⟨(d, .c (.v (.int k (min p q)))) :: tm, ob, nx⟩) : regY P E ops K draw ⟨some d, .call { callee := .builtin .min, args := #[x, y], argTypes := ts }, ty, pos, aft, g⟩ r acc ⟨tm, ob, nx⟩ := by
  refine ⟨fun hw => ?_⟩
  obtain ⟨x1, x2⟩ := opV_ok (ob := ob) (nx := nx) hx
  obtain ⟨y1, y2⟩ := opV_ok (ob := ob) (nx := nx) hy
  exact regX.cons _ _ (StepOk.min2 rfl hw hd (by rw [x2, y2]; rfl) x1 y1) rfl h
theorem rx_max {x y : Operand} {ts : Array TypeId} {k : IntKind} {p q : Int} (hd : dstB (some d) E.n = true)
    (hx : opV tm x = some (.c (.v (.int k p)))) (hy : opV tm y = some (.c (.v (.int k q))))
    (h : regX P E ops K draw r ((setU (some d) (.c (.v (.int k (max p q)))), ⟨(Oper.mk (some d) (.call { callee := .builtin .max, args := #[x, y], argTypes := ts }) ty pos aft g).looksAt ops, []⟩) :: acc) ⟨(d, .c (.v (.int k (max p q)))) :: tm, ob, nx⟩) : regY P E ops K draw ⟨some d, .call { callee := .builtin .max, args := #[x, y], argTypes := ts }, ty, pos, aft, g⟩ r acc ⟨tm, ob, nx⟩ := by
  refine ⟨fun hw => ?_⟩
  obtain ⟨x1, x2⟩ := opV_ok (ob := ob) (nx := nx) hx
  obtain ⟨y1, y2⟩ := opV_ok (ob := ob) (nx := nx) hy
  exact regX.cons _ _ (StepOk.max2 rfl hw hd (by rw [x2, y2]; rfl) x1 y1) rfl h
end
end Go.Proofs.Ytfebalahfhkeaaa
