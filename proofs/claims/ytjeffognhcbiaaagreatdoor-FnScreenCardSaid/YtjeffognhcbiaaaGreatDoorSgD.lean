/- Pieces compared; IsSegmentation and CountUntranslated of impl. -/
import Derived.Test.YtjeffognhcbiaaaGreatDoorAbs3
import Derived.Laws.StructEq
import Derived.Test.YtjeffognhcbiaaaGreatDoorSgC
namespace Go.Proofs.YtjeffognhcbiaaaGreatDoor
open Go Go.RowKit
theorem raws_agg {I : Nat → Prop} {β : Nat → Option BI} {w : World} : ∀ {ps vals : List Value}, All2 (Rep I β w) (ps.map Cell.v) vals → vals = ps
  | [], _, .nil => rfl
  | p :: ps, _, .cons h hs => by rw [x8 h, raws_agg hs]
section
variable {P : Program} {E : Env} {ops : Array Oper} {o : Oper} {s : AS}
theorem StepOk.binAgg {op : BinOp} {t t' : Nat} {x y : Operand} {ps qs : List Value} {v : Value} (ho : o.op = .binOp op t x y t') (hw : Want E ops o s) (hd : xR o.dst E.n = true) (hxy : (opB x && opB y) = true)
    (hx : opA s x = .agg (ps.map Cell.v)) (hy : opA s y = .agg (qs.map Cell.v)) (hv : v.oneCell' = true) (h : ∀ w : World, ((do eqGuard op t x y (.agg ps.toArray) (.agg qs.toArray); binOp op t (.agg ps.toArray) (.agg qs.toArray) : Sem Value)).run P w = .ok v w) :
    StepOk P E ops o s (xX o.dst (.c (.v v))) ⟨o.looksAt ops, []⟩ := by
  simp only [Bool.and_eq_true] at hxy
  refine StepOk.val hw hd (by simp [ho, Op.operands, hxy]) fun N I s' β a w hop _ _ => ?_
  have h1 := hop x (by simp [ho, Op.operands])
  have h2 := hop y (by simp [ho, Op.operands])
  rw [hx] at h1
  rw [hy] at h2
  obtain ⟨v1, e1, r1⟩ := RepV.agg.1 h1
  obtain ⟨v2, e2, r2⟩ := RepV.agg.1 h2
  rw [raws_agg r1] at e1
  rw [raws_agg r2] at e2
  refine ⟨v, ?_, Rep.imm (.v v hv)⟩
  have h3 := h w
  simp only [execOp, ho, e1, e2]
  rw [Sem.run_bind, h3]
  rfl
variable {K : AS → Prop} {draw : Bool} {r : List Oper} {acc : List (Upd × Foot)} {tm : List (Nat × AVal)} {ob : List (Nat × Option AObj)} {nx d ty : Nat} {pos : String} {aft : Array Edge} {g : Option (Nat × Bool)}
theorem rx_cmpA {op : BinOp} {x y : Operand} {t t' : Nat} {ps qs : List Value} {cs ds : List Cell} {b : Bool} (h0 : ∀ w : World, ((do eqGuard op t x y (.agg ps.toArray) (.agg qs.toArray); binOp op t (.agg ps.toArray) (.agg qs.toArray) : Sem Value)).run P w = .ok (.bool b) w) (hd : xR (some d) E.n = true) (hx : opV tm x = some (.agg cs)) (hy : opV tm y = some (.agg ds)) (hcs : cs = ps.map Cell.v) (hds : ds = qs.map Cell.v)
    (h : regX P E ops K draw r ((xX (some d) (.c (.v (.bool b))), ⟨(Oper.mk (some d) (.binOp op t x y t') ty pos aft g).looksAt ops, []⟩) :: acc) ⟨(d, .c (.v (.bool b))) :: tm, ob, nx⟩) : regY P E ops K draw ⟨some d, .binOp op t x y t', ty, pos, aft, g⟩ r acc ⟨tm, ob, nx⟩ := by
  subst hcs hds
  refine ⟨fun hw => ?_⟩
  obtain ⟨x1, x2⟩ := xI (ob := ob) (nx := nx) hx
  obtain ⟨y1, y2⟩ := xI (ob := ob) (nx := nx) hy
  exact regX.cons _ _ (StepOk.binAgg rfl hw hd (by rw [x2, y2]; rfl) x1 y1 rfl h0) rfl h
end
end Go.Proofs.YtjeffognhcbiaaaGreatDoor
namespace Go.Proofs.YtjeffognhcbiaaaGreatDoor
open Go Go.RowKit
def neQ (a b : Pc) : Bool := !(a.f == b.f && (a.n == b.n && a.t == b.t))
theorem neQ_self (a : Pc) : neQ a a = false := by simp [neQ]
def rawQ (c : Pc) : List Value := [.int .i64 c.f, .int .i64 c.n, .string ⟨⟨c.t⟩⟩]
theorem neQ_run (a b : Pc) (x y : Operand) (w : World) : ((do eqGuard .neq 58 x y (.agg (rawQ a).toArray) (.agg (rawQ b).toArray); binOp .neq 58 (.agg (rawQ a).toArray) (.agg (rawQ b).toArray) : Sem Value)).run Tryz.prog w = .ok (.bool (neQ a b)) w := by
  rw [Sem.run_bind, run_eqGuard_agg w _ _ _ _ _ _ (by kernel_rfl)]
  simp only [Result.andThen]
  rw [run_neq_struct, run_equalIn_agg w 9999 _ _ _ (by rw [Program.fieldsOf, Tryz.underlying58]) (by kernel_rfl)]
  simp only [Program.fieldsOf, Tryz.underlying58, Op.eqFields]
  have pk3 : ∀ (c : Pc) (w : World), (part 3 (rawQ c).toArray 0).run Tryz.prog w = .ok (.int .i64 c.f) w := fun c w => run_part_plain w (by kernel_rfl) rfl
  have pk4 : ∀ (c : Pc) (w : World), (part 3 (rawQ c).toArray 1).run Tryz.prog w = .ok (.int .i64 c.n) w := fun c w => run_part_plain w (by kernel_rfl) rfl
  have pk9 : ∀ (c : Pc) (w : World), (part 9 (rawQ c).toArray 2).run Tryz.prog w = .ok (.string ⟨⟨c.t⟩⟩) w := fun c w => run_part_plain w (by kernel_rfl) rfl
  have e9 := run_equalIn_string (P := Tryz.prog) w 9998 9 ⟨⟨a.t⟩⟩ ⟨⟨b.t⟩⟩ Tryz.underlying9
  have e3 := run_equalIn_int (P := Tryz.prog) w 9998 3 .i64 .i64 a.f b.f Tryz.underlying3
  have e4 := run_equalIn_int (P := Tryz.prog) w 9998 3 .i64 .i64 a.n b.n Tryz.underlying3
  rw [show ((⟨⟨a.t⟩⟩ : ByteArray).toList == (⟨⟨b.t⟩⟩ : ByteArray).toList) = (a.t == b.t) by rw [ByteArray.toList_eq, ByteArray.toList_eq]] at e9
  simp only [ne_eq, String.reduceEq, not_false_eq_true, if_true, Sem.run_bind, pk9, pk3, pk4, Result.andThen_ok, e9, e3, e4, neQ]
  cases h1 : a.f == b.f <;> cases h2 : a.n == b.n <;> cases h3 : a.t == b.t <;> rw [h2] at e4 <;> rw [h3] at e9 <;> simp [pk3, pk4, pk9, e3, e4, e9]
end Go.Proofs.YtjeffognhcbiaaaGreatDoor
