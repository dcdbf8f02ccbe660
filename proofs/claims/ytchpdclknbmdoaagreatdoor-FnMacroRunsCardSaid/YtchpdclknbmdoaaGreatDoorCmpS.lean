/- The abstract machine: structs compared by '==' and '!='. -/
import Derived.Test.YtchpdclknbmdoaaGreatDoorAbs3
import Derived.Laws.StructEq
namespace Go.Proofs.YtchpdclknbmdoaaGreatDoor
open Go Go.RowKit
theorem raws_agg {I : Nat → Prop} {β : Nat → Option BI} {w : World} : ∀ {ps vals : List Value}, All2 (Rep I β w) (ps.map Cell.v) vals → vals = ps
  | [], _, .nil => rfl
  | p :: ps, _, .cons h hs => by rw [wC h, raws_agg hs]
section
variable {P : Program} {E : Env} {ops : Array Oper} {o : Oper} {s : AS}
theorem StepOk.binAgg {op : BinOp} {t t' : Nat} {x y : Operand} {ps qs : List Value} {v : Value} (ho : o.op = .binOp op t x y t') (hw : Want E ops o s) (hd : xL o.dst E.n = true) (hxy : (opB x && opB y) = true)
    (hx : opA s x = .agg (ps.map Cell.v)) (hy : opA s y = .agg (qs.map Cell.v)) (hv : v.oneCell' = true) (h : ∀ w : World, ((do eqGuard op t x y (.agg ps.toArray) (.agg qs.toArray); binOp op t (.agg ps.toArray) (.agg qs.toArray) : Sem Value)).run P w = .ok v w) :
    StepOk P E ops o s (xT o.dst (.c (.v v))) ⟨o.looksAt ops, []⟩ := by
  simp only [Bool.and_eq_true] at hxy
  refine StepOk.val hw hd (by simp [ho, Op.operands, hxy]) fun N I s' β a w hop _ _ => ?_
  have h1 := hop x (by simp [ho, Op.operands])
  have h2 := hop y (by simp [ho, Op.operands])
  rw [hx] at h1
  rw [hy] at h2
  obtain ⟨v1, e1, r1⟩ := RepV.agg.1 h1
  obtain ⟨v2, e2, r2⟩ := RepV.agg.1 h2
  rw [raws_agg r1] at e1
  rw [raws_agg r2] at e2
  refine ⟨v, ?_, Rep.imm (.v v hv)⟩
  have h3 := h w
  simp only [execOp, ho, e1, e2]
  rw [Sem.run_bind, h3]
  rfl
variable {K : AS → Prop} {draw : Bool} {r : List Oper} {acc : List (Upd × Foot)} {tm : List (Nat × AVal)} {ob : List (Nat × Option AObj)} {nx d ty : Nat} {pos : String} {aft : Array Edge} {g : Option (Nat × Bool)}
theorem rx_cmpA {op : BinOp} {x y : Operand} {t t' : Nat} {ps qs : List Value} {cs ds : List Cell} {b : Bool} (h0 : ∀ w : World, ((do eqGuard op t x y (.agg ps.toArray) (.agg qs.toArray); binOp op t (.agg ps.toArray) (.agg qs.toArray) : Sem Value)).run P w = .ok (.bool b) w) (hd : xL (some d) E.n = true) (hx : opV tm x = some (.agg cs)) (hy : opV tm y = some (.agg ds)) (hcs : cs = ps.map Cell.v) (hds : ds = qs.map Cell.v)
    (h : regX P E ops K draw r ((xT (some d) (.c (.v (.bool b))), ⟨(Oper.mk (some d) (.binOp op t x y t') ty pos aft g).looksAt ops, []⟩) :: acc) ⟨(d, .c (.v (.bool b))) :: tm, ob, nx⟩) : regY P E ops K draw ⟨some d, .binOp op t x y t', ty, pos, aft, g⟩ r acc ⟨tm, ob, nx⟩ := by
  subst hcs hds
  refine ⟨fun hw => ?_⟩
  obtain ⟨x1, x2⟩ := y5 (ob := ob) (nx := nx) hx
  obtain ⟨y1, y2⟩ := y5 (ob := ob) (nx := nx) hy
  exact regX.cons _ _ (StepOk.binAgg rfl hw hd (by rw [x2, y2]; rfl) x1 y1 rfl h0) rfl h
end
end Go.Proofs.YtchpdclknbmdoaaGreatDoor
