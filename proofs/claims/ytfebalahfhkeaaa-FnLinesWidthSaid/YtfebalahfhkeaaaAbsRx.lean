/- The abstract machine, part 15: the steps of a walk, one theorem for each operation, on states that are written out. No conditions but those stated. -/
import Derived.Test.YtfebalahfhkeaaaAbsTab
import Derived.Laws.Strings
namespace Go.Proofs.Ytfebalahfhkeaaa
open Go Go.RowKit

/-- a bound that is too great for the unifier -/
structure Bd (p : Prop) : Prop where
  h : p
theorem dT {p : Prop} {_ : Decidable p} (h : p) : decide p = true := decide_eq_true h
theorem dF {p : Prop} {_ : Decidable p} (h : ¬ p) : decide p = false := decide_eq_false h
theorem lb {a b : Nat} (h : Nat.ble a b = true) : a ≤ b := Nat.le_of_ble_eq_true h
theorem lA {α β : Type} (f : α → β) (l : List α) : (l.map f).length = l.length := List.length_map _
theorem lB {α : Type} (n : Nat) (x : α) : (List.replicate n x).length = n := List.length_replicate
theorem lC {α : Type} (a b : List α) : (a ++ b).length = a.length + b.length := List.length_append
theorem lD {α : Type} (x : α) (l : List α) : (x :: l).length = l.length + 1 := rfl
theorem lE {α : Type} : ([] : List α).length = 0 := rfl
structure OptI (s : AS) (d : Nat) (x : Option Operand) (l : Nat) : Prop where
  h : optI s d x l
def cellsC : List AVal → Option (List Cell)
  | [] => some []
  | .c x :: r => match cellsC r with | some cs => some (x :: cs) | none => none
  | _ => none
theorem cellsC_ok : ∀ {vs : List AVal} {cs : List Cell}, cellsC vs = some cs → vs = cs.map AVal.c
  | [], cs, h => by simp [cellsC] at h; subst h; rfl
  | .c x :: r, cs, h => by
    simp only [cellsC] at h
    split at h
    · rename_i a h1
      cases h
      rw [cellsC_ok h1]; rfl
    · cases h
  | .agg _ :: r, cs, h => by simp [cellsC] at h
  | .any :: r, cs, h => by simp [cellsC] at h
  | .tup _ :: r, cs, h => by simp [cellsC] at h
def opV (tm : List (Nat × AVal)) : Operand → Option AVal
  | .tmp t => lk t tm
  | .const (.int k n) => some (.c (.v (.int k n)))
  | .const (.bool b) => some (.c (.v (.bool b)))
  | .const (.string ⟨⟨l⟩⟩) => some (.c (str l))
  | .const (.slice none 0 0) => some (.c .nil)
  | .const (.agg ⟨cs⟩) => bif cs.all (·.oneCell') then some (.agg (cs.map constC)) else none
  | .func f => some (.c (.fn f []))
  | _ => none
theorem opV_ok {tm : List (Nat × AVal)} {ob : List (Nat × Option AObj)} {nx : Nat} {x : Operand} {v : AVal} (h : opV tm x = some v) : opA ⟨tm, ob, nx⟩ x = v ∧ opB x = true := by
  unfold opV at h
  split at h
  · exact ⟨by simp only [opA, AS.get, h]; rfl, rfl⟩
  · cases h; exact ⟨rfl, rfl⟩
  · cases h; exact ⟨rfl, rfl⟩
  · cases h; exact ⟨rfl, rfl⟩
  · cases h; exact ⟨rfl, rfl⟩
  · rename_i cs
    cases hb : cs.all (·.oneCell') with
    | false => rw [hb] at h; cases h
    | true => rw [hb] at h; cases h; exact ⟨rfl, hb⟩
  · cases h; exact ⟨rfl, rfl⟩
  · cases h
/-- operands, all at once -/
def opVs (tm : List (Nat × AVal)) : List Operand → Option (List AVal)
  | [] => some []
  | x :: r => match opV tm x, opVs tm r with
    | some v, some vs => some (v :: vs)
    | _, _ => none
theorem opVs_ok {tm : List (Nat × AVal)} {ob : List (Nat × Option AObj)} {nx : Nat} : ∀ {xs : List Operand} {vs : List AVal}, opVs tm xs = some vs → xs.map (opA ⟨tm, ob, nx⟩) = vs ∧ xs.all opB = true
  | [], vs, h => by cases h; exact ⟨rfl, rfl⟩
  | x :: r, vs, h => by
    simp only [opVs] at h
    split at h
    · rename_i v vs' h1 h2
      cases h
      obtain ⟨e1, e2⟩ := opV_ok (ob := ob) (nx := nx) h1
      obtain ⟨f1, f2⟩ := opVs_ok (ob := ob) (nx := nx) h2
      exact ⟨by rw [List.map_cons, e1, f1], by rw [List.all_cons, e2, f2]; rfl⟩
    · cases h

inductive regX (P : Program) (E : Env) (ops : Array Oper) (K : AS → Prop) (draw : Bool) : List Oper → List (Upd × Foot) → AS → Prop
  | nil {acc : List (Upd × Foot)} {s : AS} : (draw = true → okB ops acc.reverse = true) → K s → regX P E ops K draw [] acc s
  | cons {o : Oper} {r : List Oper} {acc : List (Upd × Foot)} {s s' : AS} (u : Upd) (F : Foot) : StepOk P E ops o s u F → s' = s.upd u → regX P E ops K draw r ((u, F) :: acc) s' → regX P E ops K draw (o :: r) acc s

/-- an operation that its guard wants -/
structure regY (P : Program) (E : Env) (ops : Array Oper) (K : AS → Prop) (draw : Bool) (o : Oper) (r : List Oper) (acc : List (Upd × Foot)) (s : AS) : Prop where
  h : Want E ops o s → regX P E ops K draw (o :: r) acc s
section
variable {P : Program} {E : Env} {ops : Array Oper} {K : AS → Prop} {draw : Bool}
theorem regX_A {l : List Oper} {acc : List (Upd × Foot)} {s : AS} (h : regX P E ops K false l acc s) : regA P E ops K l s := by
  induction h with
  | nil _ h => exact h
  | cons u F h1 h2 _ ih => subst h2; exact ⟨u, F, h1, ih⟩
theorem regX_D {l : List Oper} {acc : List (Upd × Foot)} {s : AS} (h : regX P E ops K true l acc s) : regD P E ops K l acc s := by
  induction h with
  | nil h1 h => exact ⟨h1 rfl, h⟩
  | cons u F h1 h2 _ ih => subst h2; exact ⟨u, F, h1, ih⟩
theorem AWp.reg {id : Nat} {l : List Oper} {s : AS} {K : Exit → AS → Prop} (h : regX P E l.toArray (K .normal) false l [] s) : AWp P E (.region id l.toArray false) K s := AWp.region (regX_A h)
theorem AWp.regD {id : Nat} {l : List Oper} {s : AS} {K : Exit → AS → Prop} (hm : P.follows .mixedOrders = true) (h : regX P E l.toArray (K .normal) true l [] s) : AWp P E (.region id l.toArray true) K s := AWp.draw hm (regX_D h)
theorem rx_end {acc : List (Upd × Foot)} {s : AS} (h : K s) : regX P E ops K false [] acc s := regX.nil (fun h => by cases h) h
theorem rx_endD {acc : List (Upd × Foot)} {s : AS} (hB : okB ops acc.reverse = true) (h : K s) : regX P E ops K true [] acc s := regX.nil (fun _ => hB) h

section
variable {o : Oper} {r : List Oper} {acc : List (Upd × Foot)} {tm : List (Nat × AVal)} {ob : List (Nat × Option AObj)} {nx d ty : Nat} {pos : String} {aft : Array Edge} {g : Option (Nat × Bool)} {T : List (Nat × TyI)}
theorem Want.gt {o : Oper} {s : AS} {j t : Nat} {c : Bool} (h : o.guard = some (j, true)) (ht : (ops[j]?).bind (·.dst) = some t) (hs : s.get t = .c (.v (.bool c))) (hc : c = true) (hl : Nat.ble (t + 1) E.n = true) : Want E ops o s := Want.some_ h ht (by rw [hs, hc]) hl
theorem Want.gf {o : Oper} {s : AS} {j t : Nat} {c : Bool} (h : o.guard = some (j, false)) (ht : (ops[j]?).bind (·.dst) = some t) (hs : s.get t = .c (.v (.bool c))) (hc : c = false) (hl : Nat.ble (t + 1) E.n = true) : Want E ops o s := Want.some_ h ht (by rw [hs, hc]) hl
theorem Skips.gt {o : Oper} {s : AS} {j t : Nat} {c : Bool} (h : o.guard = some (j, true)) (ht : (ops[j]?).bind (·.dst) = some t) (hs : s.get t = .c (.v (.bool c))) (hc : c = false) (hl : Nat.ble (t + 1) E.n = true) : Skips E ops o s := Skips.some_ h ht (by rw [hs, hc]) rfl hl
theorem Skips.gf {o : Oper} {s : AS} {j t : Nat} {c : Bool} (h : o.guard = some (j, false)) (ht : (ops[j]?).bind (·.dst) = some t) (hs : s.get t = .c (.v (.bool c))) (hc : c = true) (hl : Nat.ble (t + 1) E.n = true) : Skips E ops o s := Skips.some_ h ht (by rw [hs, hc]) rfl hl
/-- a guard that is not known yet -/
theorem rx_splitP {j t : Nat} {b : Bool} {p : Prop} {_ : Decidable p} (hg : o.guard = some (j, b)) (ht : (ops[j]?).bind (·.dst) = some t) (hs : (lk t tm).getD .any = .c (.v (.bool (decide p))))
    (h1 : p → regX P E ops K draw (o :: r) acc ⟨tm, ob, nx⟩) (h0 : ¬ p → regX P E ops K draw (o :: r) acc ⟨tm, ob, nx⟩) : regX P E ops K draw (o :: r) acc ⟨tm, ob, nx⟩ := by
  by_cases h : p
  · exact h1 h
  · exact h0 h
theorem rx_split {j t : Nat} {b c : Bool} (hg : o.guard = some (j, b)) (ht : (ops[j]?).bind (·.dst) = some t) (hs : (lk t tm).getD .any = .c (.v (.bool c)))
    (h1 : c = true → regX P E ops K draw (o :: r) acc ⟨tm, ob, nx⟩) (h0 : c = false → regX P E ops K draw (o :: r) acc ⟨tm, ob, nx⟩) : regX P E ops K draw (o :: r) acc ⟨tm, ob, nx⟩ := by
  cases h : c
  · exact h0 h
  · exact h1 h
/-- the guard says no -/
theorem rx_skip {op : Op} (hs : Skips E ops ⟨some d, op, ty, pos, aft, g⟩ ⟨tm, ob, nx⟩) (hd : dstB (some d) E.n = true)
    (h : regX P E ops K draw r ((setU (some d) (.tup []), ⟨(Oper.mk (some d) op ty pos aft g).looksAt ops, []⟩) :: acc) ⟨(d, .tup []) :: tm, ob, nx⟩) : regX P E ops K draw (⟨some d, op, ty, pos, aft, g⟩ :: r) acc ⟨tm, ob, nx⟩ :=
  regX.cons _ _ (StepOk.skip hs hd) rfl h
theorem rx_skip0 {op : Op} (hs : Skips E ops ⟨none, op, ty, pos, aft, g⟩ ⟨tm, ob, nx⟩)
    (h : regX P E ops K draw r ((setU none (.tup []), ⟨(Oper.mk none op ty pos aft g).looksAt ops, []⟩) :: acc) ⟨tm, ob, nx⟩) : regX P E ops K draw (⟨none, op, ty, pos, aft, g⟩ :: r) acc ⟨tm, ob, nx⟩ :=
  regX.cons _ _ (StepOk.skip hs rfl) rfl h
theorem rx_pickT {c x y : Operand} {b : Bool} {p : AVal} (hd : dstB (some d) E.n = true) (hz : opV tm c = some (.c (.v (.bool b)))) (hb : b = true) (hx : opV tm x = some p) (hyb : opB y = true)
    (h : regX P E ops K draw r ((setU (some d) (p), ⟨(Oper.mk (some d) (.pick c x y) ty pos aft g).looksAt ops, []⟩) :: acc) ⟨(d, p) :: tm, ob, nx⟩) : regY P E ops K draw ⟨some d, .pick c x y, ty, pos, aft, g⟩ r acc ⟨tm, ob, nx⟩ := by
  refine ⟨fun hw => ?_⟩
  subst hb
  obtain ⟨x1, x2⟩ := opV_ok (ob := ob) (nx := nx) hx
  obtain ⟨z1, z2⟩ := opV_ok (ob := ob) (nx := nx) hz
  subst x1
  exact regX.cons _ _ (StepOk.pick rfl hw hd (by rw [x2, hyb, z2]; rfl) z1) rfl h
theorem rx_pickF {c x y : Operand} {b : Bool} {q : AVal} (hd : dstB (some d) E.n = true) (hz : opV tm c = some (.c (.v (.bool b)))) (hb : b = false) (hxb : opB x = true) (hy : opV tm y = some q)
    (h : regX P E ops K draw r ((setU (some d) (q), ⟨(Oper.mk (some d) (.pick c x y) ty pos aft g).looksAt ops, []⟩) :: acc) ⟨(d, q) :: tm, ob, nx⟩) : regY P E ops K draw ⟨some d, .pick c x y, ty, pos, aft, g⟩ r acc ⟨tm, ob, nx⟩ := by
  refine ⟨fun hw => ?_⟩
  subst hb
  obtain ⟨y1, y2⟩ := opV_ok (ob := ob) (nx := nx) hy
  obtain ⟨z1, z2⟩ := opV_ok (ob := ob) (nx := nx) hz
  subst y1
  exact regX.cons _ _ (StepOk.pick rfl hw hd (by rw [hxb, y2, z2]; rfl) z1) rfl h
theorem rx_neg {x : Operand} {t : Nat} {p : Int} (hd : dstB (some d) E.n = true) (hx : opV tm x = some (.c (.v (.int .i64 p)))) (hr : -9223372036854775807 ≤ p ∧ p ≤ 9223372036854775807)
    (h : regX P E ops K draw r ((setU (some d) (.c (.v (.int .i64 (-p)))), ⟨(Oper.mk (some d) (.unOp .neg t x) ty pos aft g).looksAt ops, []⟩) :: acc) ⟨(d, .c (.v (.int .i64 (-p)))) :: tm, ob, nx⟩) : regY P E ops K draw ⟨some d, .unOp .neg t x, ty, pos, aft, g⟩ r acc ⟨tm, ob, nx⟩ := by
  refine ⟨fun hw => ?_⟩
  obtain ⟨x1, x2⟩ := opV_ok (ob := ob) (nx := nx) hx
  refine regX.cons _ _ (StepOk.un rfl hw hd x2 x1 rfl (fun w => ?_)) rfl h
  have e : IntKind.i64.wrap (0 - p) = -p := by rw [IntWalk.i64_in _ (by omega)]; omega
  show Result.ok (Value.int .i64 (IntKind.i64.wrap (0 - p))) w = _
  rw [e]
theorem rx_add {x y : Operand} {t t' : Nat} {p q : Int} (hd : dstB (some d) E.n = true) (hx : opV tm x = some (.c (.v (.int .i64 p)))) (hy : opV tm y = some (.c (.v (.int .i64 q)))) (hr : -9223372036854775808 ≤ p + q ∧ p + q ≤ 9223372036854775807)
    (h : regX P E ops K draw r ((setU (some d) (.c (.v (.int .i64 (p + q)))), ⟨(Oper.mk (some d) (.binOp .add t x y t') ty pos aft g).looksAt ops, []⟩) :: acc) ⟨(d, .c (.v (.int .i64 (p + q)))) :: tm, ob, nx⟩) : regY P E ops K draw ⟨some d, .binOp .add t x y t', ty, pos, aft, g⟩ r acc ⟨tm, ob, nx⟩ := by
  refine ⟨fun hw => ?_⟩
  obtain ⟨x1, x2⟩ := opV_ok (ob := ob) (nx := nx) hx
  obtain ⟨y1, y2⟩ := opV_ok (ob := ob) (nx := nx) hy
  refine regX.cons _ _ (StepOk.bin rfl hw hd (by rw [x2, y2]; rfl) x1 y1 rfl (fun w => ?_)) rfl h
  show Result.ok (Value.int .i64 (IntKind.i64.wrap (p + q))) w = _
  rw [IntWalk.i64_in _ hr]
theorem rx_addk {x y : Operand} {t t' : Nat} {k : IntKind} {p q : Int} (hd : dstB (some d) E.n = true) (hx : opV tm x = some (.c (.v (.int k p)))) (hy : opV tm y = some (.c (.v (.int k q))))
    (h : regX P E ops K draw r ((setU (some d) (.c (.v (.int k (k.wrap (p + q))))), ⟨(Oper.mk (some d) (.binOp .add t x y t') ty pos aft g).looksAt ops, []⟩) :: acc) ⟨(d, .c (.v (.int k (k.wrap (p + q))))) :: tm, ob, nx⟩) : regY P E ops K draw ⟨some d, .binOp .add t x y t', ty, pos, aft, g⟩ r acc ⟨tm, ob, nx⟩ := by
  refine ⟨fun hw => ?_⟩
  obtain ⟨x1, x2⟩ := opV_ok (ob := ob) (nx := nx) hx
  obtain ⟨y1, y2⟩ := opV_ok (ob := ob) (nx := nx) hy
  refine regX.cons _ _ (StepOk.bin rfl hw hd (by rw [x2, y2]; rfl) x1 y1 rfl (fun w => ?_)) rfl h
  simp only [eqGuard, binOp]
  simp [Op.intArith]
theorem rx_sub {x y : Operand} {t t' : Nat} {p q : Int} (hd : dstB (some d) E.n = true) (hx : opV tm x = some (.c (.v (.int .i64 p)))) (hy : opV tm y = some (.c (.v (.int .i64 q)))) (hr : -9223372036854775808 ≤ p - q ∧ p - q ≤ 9223372036854775807)
    (h : regX P E ops K draw r ((setU (some d) (.c (.v (.int .i64 (p - q)))), ⟨(Oper.mk (some d) (.binOp .sub t x y t') ty pos aft g).looksAt ops, []⟩) :: acc) ⟨(d, .c (.v (.int .i64 (p - q)))) :: tm, ob, nx⟩) : regY P E ops K draw ⟨some d, .binOp .sub t x y t', ty, pos, aft, g⟩ r acc ⟨tm, ob, nx⟩ := by
  refine ⟨fun hw => ?_⟩
  obtain ⟨x1, x2⟩ := opV_ok (ob := ob) (nx := nx) hx
  obtain ⟨y1, y2⟩ := opV_ok (ob := ob) (nx := nx) hy
  refine regX.cons _ _ (StepOk.bin rfl hw hd (by rw [x2, y2]; rfl) x1 y1 rfl (fun w => ?_)) rfl h
  show Result.ok (Value.int .i64 (IntKind.i64.wrap (p - q))) w = _
  rw [IntWalk.i64_in _ hr]
theorem rx_subk {x y : Operand} {t t' : Nat} {k : IntKind} {p q : Int} (hd : dstB (some d) E.n = true) (hx : opV tm x = some (.c (.v (.int k p)))) (hy : opV tm y = some (.c (.v (.int k q))))
    (h : regX P E ops K draw r ((setU (some d) (.c (.v (.int k (k.wrap (p - q))))), ⟨(Oper.mk (some d) (.binOp .sub t x y t') ty pos aft g).looksAt ops, []⟩) :: acc) ⟨(d, .c (.v (.int k (k.wrap (p - q))))) :: tm, ob, nx⟩) : regY P E ops K draw ⟨some d, .binOp .sub t x y t', ty, pos, aft, g⟩ r acc ⟨tm, ob, nx⟩ := by
  refine ⟨fun hw => ?_⟩
  obtain ⟨x1, x2⟩ := opV_ok (ob := ob) (nx := nx) hx
  obtain ⟨y1, y2⟩ := opV_ok (ob := ob) (nx := nx) hy
  refine regX.cons _ _ (StepOk.bin rfl hw hd (by rw [x2, y2]; rfl) x1 y1 rfl (fun w => ?_)) rfl h
  simp only [eqGuard, binOp]
  simp [Op.intArith]
theorem rx_mul {x y : Operand} {t t' : Nat} {p q : Int} (hd : dstB (some d) E.n = true) (hx : opV tm x = some (.c (.v (.int .i64 p)))) (hy : opV tm y = some (.c (.v (.int .i64 q)))) (hr : -9223372036854775808 ≤ p * q ∧ p * q ≤ 9223372036854775807)
    (h : regX P E ops K draw r ((setU (some d) (.c (.v (.int .i64 (p * q)))), ⟨(Oper.mk (some d) (.binOp .mul t x y t') ty pos aft g).looksAt ops, []⟩) :: acc) ⟨(d, .c (.v (.int .i64 (p * q)))) :: tm, ob, nx⟩) : regY P E ops K draw ⟨some d, .binOp .mul t x y t', ty, pos, aft, g⟩ r acc ⟨tm, ob, nx⟩ := by
  refine ⟨fun hw => ?_⟩
  obtain ⟨x1, x2⟩ := opV_ok (ob := ob) (nx := nx) hx
  obtain ⟨y1, y2⟩ := opV_ok (ob := ob) (nx := nx) hy
  refine regX.cons _ _ (StepOk.bin rfl hw hd (by rw [x2, y2]; rfl) x1 y1 rfl (fun w => ?_)) rfl h
  show Result.ok (Value.int .i64 (IntKind.i64.wrap (p * q))) w = _
  rw [IntWalk.i64_in _ hr]
theorem rx_mulk {x y : Operand} {t t' : Nat} {k : IntKind} {p q : Int} (hd : dstB (some d) E.n = true) (hx : opV tm x = some (.c (.v (.int k p)))) (hy : opV tm y = some (.c (.v (.int k q))))
    (h : regX P E ops K draw r ((setU (some d) (.c (.v (.int k (k.wrap (p * q))))), ⟨(Oper.mk (some d) (.binOp .mul t x y t') ty pos aft g).looksAt ops, []⟩) :: acc) ⟨(d, .c (.v (.int k (k.wrap (p * q))))) :: tm, ob, nx⟩) : regY P E ops K draw ⟨some d, .binOp .mul t x y t', ty, pos, aft, g⟩ r acc ⟨tm, ob, nx⟩ := by
  refine ⟨fun hw => ?_⟩
  obtain ⟨x1, x2⟩ := opV_ok (ob := ob) (nx := nx) hx
  obtain ⟨y1, y2⟩ := opV_ok (ob := ob) (nx := nx) hy
  refine regX.cons _ _ (StepOk.bin rfl hw hd (by rw [x2, y2]; rfl) x1 y1 rfl (fun w => ?_)) rfl h
  simp only [eqGuard, binOp]
  simp [Op.intArith]
theorem rx_quo {x y : Operand} {t t' : Nat} {p q : Int} (hd : dstB (some d) E.n = true) (hx : opV tm x = some (.c (.v (.int .i64 p)))) (hy : opV tm y = some (.c (.v (.int .i64 q)))) (hr : 0 ≤ p ∧ p ≤ 9223372036854775807 ∧ 1 ≤ q)
    (h : regX P E ops K draw r ((setU (some d) (.c (.v (.int .i64 (p / q)))), ⟨(Oper.mk (some d) (.binOp .quo t x y t') ty pos aft g).looksAt ops, []⟩) :: acc) ⟨(d, .c (.v (.int .i64 (p / q)))) :: tm, ob, nx⟩) : regY P E ops K draw ⟨some d, .binOp .quo t x y t', ty, pos, aft, g⟩ r acc ⟨tm, ob, nx⟩ := by
  refine ⟨fun hw => ?_⟩
  obtain ⟨x1, x2⟩ := opV_ok (ob := ob) (nx := nx) hx
  obtain ⟨y1, y2⟩ := opV_ok (ob := ob) (nx := nx) hy
  refine regX.cons _ _ (StepOk.bin rfl hw hd (by rw [x2, y2]; rfl) x1 y1 rfl (fun w => ?_)) rfl h
  have hq : ¬ q = 0 := by omega
  simp only [eqGuard, binOp]
  simp [Op.intDiv, hq, IntWalk.i64_quo p q hr]
theorem rx_rem {x y : Operand} {t t' : Nat} {p q : Int} (hd : dstB (some d) E.n = true) (hx : opV tm x = some (.c (.v (.int .i64 p)))) (hy : opV tm y = some (.c (.v (.int .i64 q)))) (hr : 0 ≤ p ∧ 1 ≤ q)
    (h : regX P E ops K draw r ((setU (some d) (.c (.v (.int .i64 (p % q)))), ⟨(Oper.mk (some d) (.binOp .rem t x y t') ty pos aft g).looksAt ops, []⟩) :: acc) ⟨(d, .c (.v (.int .i64 (p % q)))) :: tm, ob, nx⟩) : regY P E ops K draw ⟨some d, .binOp .rem t x y t', ty, pos, aft, g⟩ r acc ⟨tm, ob, nx⟩ := by
  refine ⟨fun hw => ?_⟩
  obtain ⟨x1, x2⟩ := opV_ok (ob := ob) (nx := nx) hx
  obtain ⟨y1, y2⟩ := opV_ok (ob := ob) (nx := nx) hy
  refine regX.cons _ _ (StepOk.bin rfl hw hd (by rw [x2, y2]; rfl) x1 y1 rfl (fun w => ?_)) rfl h
  have hq : ¬ q = 0 := by omega
  simp only [eqGuard, binOp]
  simp [Op.intDiv, hq, Int.tmod_eq_emod_of_nonneg hr.1]
theorem rx_and {x y : Operand} {t t' : Nat} {k : IntKind} {p q : Int} (hd : dstB (some d) E.n = true) (hx : opV tm x = some (.c (.v (.int k p)))) (hy : opV tm y = some (.c (.v (.int k q))))
    (h : regX P E ops K draw r ((setU (some d) (.c (.v (.int k (bits .and k p q)))), ⟨(Oper.mk (some d) (.binOp .and t x y t') ty pos aft g).looksAt ops, []⟩) :: acc) ⟨(d, .c (.v (.int k (bits .and k p q)))) :: tm, ob, nx⟩) : regY P E ops K draw ⟨some d, .binOp .and t x y t', ty, pos, aft, g⟩ r acc ⟨tm, ob, nx⟩ := by
  refine ⟨fun hw => ?_⟩
  obtain ⟨x1, x2⟩ := opV_ok (ob := ob) (nx := nx) hx
  obtain ⟨y1, y2⟩ := opV_ok (ob := ob) (nx := nx) hy
  refine regX.cons _ _ (StepOk.bin rfl hw hd (by rw [x2, y2]; rfl) x1 y1 rfl (fun w => ?_)) rfl h
  simp only [eqGuard, binOp]
  simp [intBits_and]
theorem rx_or {x y : Operand} {t t' : Nat} {k : IntKind} {p q : Int} (hd : dstB (some d) E.n = true) (hx : opV tm x = some (.c (.v (.int k p)))) (hy : opV tm y = some (.c (.v (.int k q))))
    (h : regX P E ops K draw r ((setU (some d) (.c (.v (.int k (bits .or k p q)))), ⟨(Oper.mk (some d) (.binOp .or t x y t') ty pos aft g).looksAt ops, []⟩) :: acc) ⟨(d, .c (.v (.int k (bits .or k p q)))) :: tm, ob, nx⟩) : regY P E ops K draw ⟨some d, .binOp .or t x y t', ty, pos, aft, g⟩ r acc ⟨tm, ob, nx⟩ := by
  refine ⟨fun hw => ?_⟩
  obtain ⟨x1, x2⟩ := opV_ok (ob := ob) (nx := nx) hx
  obtain ⟨y1, y2⟩ := opV_ok (ob := ob) (nx := nx) hy
  refine regX.cons _ _ (StepOk.bin rfl hw hd (by rw [x2, y2]; rfl) x1 y1 rfl (fun w => ?_)) rfl h
  simp only [eqGuard, binOp]
  simp [intBits_or]
theorem rx_xor {x y : Operand} {t t' : Nat} {k : IntKind} {p q : Int} (hd : dstB (some d) E.n = true) (hx : opV tm x = some (.c (.v (.int k p)))) (hy : opV tm y = some (.c (.v (.int k q))))
    (h : regX P E ops K draw r ((setU (some d) (.c (.v (.int k (bits .xor k p q)))), ⟨(Oper.mk (some d) (.binOp .xor t x y t') ty pos aft g).looksAt ops, []⟩) :: acc) ⟨(d, .c (.v (.int k (bits .xor k p q)))) :: tm, ob, nx⟩) : regY P E ops K draw ⟨some d, .binOp .xor t x y t', ty, pos, aft, g⟩ r acc ⟨tm, ob, nx⟩ := by
  refine ⟨fun hw => ?_⟩
  obtain ⟨x1, x2⟩ := opV_ok (ob := ob) (nx := nx) hx
  obtain ⟨y1, y2⟩ := opV_ok (ob := ob) (nx := nx) hy
  refine regX.cons _ _ (StepOk.bin rfl hw hd (by rw [x2, y2]; rfl) x1 y1 rfl (fun w => ?_)) rfl h
  simp only [eqGuard, binOp]
  simp [intBits_xor]
theorem rx_andNot {x y : Operand} {t t' : Nat} {k : IntKind} {p q : Int} (hd : dstB (some d) E.n = true) (hx : opV tm x = some (.c (.v (.int k p)))) (hy : opV tm y = some (.c (.v (.int k q))))
    (h : regX P E ops K draw r ((setU (some d) (.c (.v (.int k (bits .andNot k p q)))), ⟨(Oper.mk (some d) (.binOp .andNot t x y t') ty pos aft g).looksAt ops, []⟩) :: acc) ⟨(d, .c (.v (.int k (bits .andNot k p q)))) :: tm, ob, nx⟩) : regY P E ops K draw ⟨some d, .binOp .andNot t x y t', ty, pos, aft, g⟩ r acc ⟨tm, ob, nx⟩ := by
  refine ⟨fun hw => ?_⟩
  obtain ⟨x1, x2⟩ := opV_ok (ob := ob) (nx := nx) hx
  obtain ⟨y1, y2⟩ := opV_ok (ob := ob) (nx := nx) hy
  refine regX.cons _ _ (StepOk.bin rfl hw hd (by rw [x2, y2]; rfl) x1 y1 rfl (fun w => ?_)) rfl h
  simp only [eqGuard, binOp]
  simp [intBits_andNot]
theorem rx_shl {x y : Operand} {t t' : Nat} {k k' : IntKind} {p q : Int} (hd : dstB (some d) E.n = true) (hx : opV tm x = some (.c (.v (.int k p)))) (hy : opV tm y = some (.c (.v (.int k' q)))) (hr : 0 ≤ q)
    (h : regX P E ops K draw r ((setU (some d) (.c (.v (.int k (k.wrap (p * 2 ^ (min q.toNat k.bits)))))), ⟨(Oper.mk (some d) (.binOp .shl t x y t') ty pos aft g).looksAt ops, []⟩) :: acc) ⟨(d, .c (.v (.int k (k.wrap (p * 2 ^ (min q.toNat k.bits)))))) :: tm, ob, nx⟩) : regY P E ops K draw ⟨some d, .binOp .shl t x y t', ty, pos, aft, g⟩ r acc ⟨tm, ob, nx⟩ := by
  refine ⟨fun hw => ?_⟩
  obtain ⟨x1, x2⟩ := opV_ok (ob := ob) (nx := nx) hx
  obtain ⟨y1, y2⟩ := opV_ok (ob := ob) (nx := nx) hy
  refine regX.cons _ _ (StepOk.bin rfl hw hd (by rw [x2, y2]; rfl) x1 y1 rfl (fun w => ?_)) rfl h
  have hq : ¬ q < 0 := by omega
  simp only [eqGuard, binOp]
  simp [Op.shift, hq]
theorem rx_shr {x y : Operand} {t t' : Nat} {k k' : IntKind} {p q : Int} (hd : dstB (some d) E.n = true) (hx : opV tm x = some (.c (.v (.int k p)))) (hy : opV tm y = some (.c (.v (.int k' q)))) (hr : 0 ≤ q)
    (h : regX P E ops K draw r ((setU (some d) (.c (.v (.int k (p / 2 ^ (min q.toNat k.bits))))), ⟨(Oper.mk (some d) (.binOp .shr t x y t') ty pos aft g).looksAt ops, []⟩) :: acc) ⟨(d, .c (.v (.int k (p / 2 ^ (min q.toNat k.bits))))) :: tm, ob, nx⟩) : regY P E ops K draw ⟨some d, .binOp .shr t x y t', ty, pos, aft, g⟩ r acc ⟨tm, ob, nx⟩ := by
  refine ⟨fun hw => ?_⟩
  obtain ⟨x1, x2⟩ := opV_ok (ob := ob) (nx := nx) hx
  obtain ⟨y1, y2⟩ := opV_ok (ob := ob) (nx := nx) hy
  refine regX.cons _ _ (StepOk.bin rfl hw hd (by rw [x2, y2]; rfl) x1 y1 rfl (fun w => ?_)) rfl h
  have hq : ¬ q < 0 := by omega
  simp only [eqGuard, binOp]
  have e : p.fdiv (2 ^ (min q.toNat k.bits)) = p / 2 ^ (min q.toNat k.bits) := Int.fdiv_eq_ediv_of_nonneg p (Int.le_of_lt (Int.pow_pos (by omega)))
  simp [Op.shift, hq, e]
theorem rx_cat {x y : Operand} {t t' : Nat} {p q : List UInt8} (hd : dstB (some d) E.n = true) (hx : opV tm x = some (.c (str p))) (hy : opV tm y = some (.c (str q))) (hr : Bd (p.length + q.length ≤ 9223372036854775807))
    (h : regX P E ops K draw r ((setU (some d) (.c (str (p ++ q))), ⟨(Oper.mk (some d) (.binOp .add t x y t') ty pos aft g).looksAt ops, []⟩) :: acc) ⟨(d, .c (str (p ++ q))) :: tm, ob, nx⟩) : regY P E ops K draw ⟨some d, .binOp .add t x y t', ty, pos, aft, g⟩ r acc ⟨tm, ob, nx⟩ := by
  refine ⟨fun hw => ?_⟩
  obtain ⟨x1, x2⟩ := opV_ok (ob := ob) (nx := nx) hx
  obtain ⟨y1, y2⟩ := opV_ok (ob := ob) (nx := nx) hy
  refine regX.cons _ _ (StepOk.bin rfl hw hd (by rw [x2, y2]; rfl) x1 y1 rfl (fun w => ?_)) rfl h
  replace hr := hr.h
  have e : ¬ ((((⟨⟨p⟩⟩ : ByteArray).size + (⟨⟨q⟩⟩ : ByteArray).size : Nat) : Int) > IntKind.i64.max) := by
    show ¬ (((p.length + q.length : Nat) : Int) > 9223372036854775807)
    omega
  have e2 : (⟨⟨p⟩⟩ : ByteArray) ++ ⟨⟨q⟩⟩ = ⟨⟨p ++ q⟩⟩ := by apply ByteArray.ext; simp
  show ((if (((⟨⟨p⟩⟩ : ByteArray).size + (⟨⟨q⟩⟩ : ByteArray).size : Nat) : Int) > IntKind.i64.max then unsupported (.resourceLimit "string concatenation: a sum of the lengths that is no int") else pure (.string ((⟨⟨p⟩⟩ : ByteArray) ++ ⟨⟨q⟩⟩)) : Sem Value)).run P w = _
  rw [if_neg e, e2]
  rfl
theorem rx_ixS {x y : Operand} {t : Nat} {l : List UInt8} {k : IntKind} {z : Int} {c : UInt8} {i : TyI} (kk : Nat) (hd : dstB (some d) E.n = true) (hx : opV tm x = some (.c (str l))) (hy : opV tm y = some (.c (.v (.int k z)))) (hT : TabOk P T) (ht : lk t T = some i) (hs : i.isStr = true) (hz : z = (kk : Int)) (hc : l[kk]? = some c)
    (h : regX P E ops K draw r ((setU (some d) (.c (.v (.int .u8 c.toNat))), ⟨(Oper.mk (some d) (.index t x y) ty pos aft g).looksAt ops, []⟩) :: acc) ⟨(d, .c (.v (.int .u8 c.toNat))) :: tm, ob, nx⟩) : regY P E ops K draw ⟨some d, .index t x y, ty, pos, aft, g⟩ r acc ⟨tm, ob, nx⟩ := by
  refine ⟨fun hw => ?_⟩
  subst hz
  obtain ⟨x1, x2⟩ := opV_ok (ob := ob) (nx := nx) hx
  obtain ⟨y1, y2⟩ := opV_ok (ob := ob) (nx := nx) hy
  exact regX.cons _ _ (StepOk.indexStr rfl hw hd (by rw [x2, y2]; rfl) (hT.str ht hs) x1 y1 (Int.natCast_nonneg kk) (by rw [Int.toNat_natCast]; exact hc)) rfl h
theorem rx_ixRef {x y : Operand} {t e sz bytes q off n : Nat} {k : IntKind} {z : Int} {obj : AObj} {i : TyI} {kk : Nat} (k0 : Nat) (hd : dstB (some d) E.n = true) (hx : opV tm x = some (.c (.ref q off n))) (hy : opV tm y = some (.c (.v (.int k z)))) (hT : TabOk P T) (ht : lk t T = some i) (he : i.elem = some (e, sz, bytes)) (hob : (lk q ob).getD none = some obj) (hsz : obj.sz = sz) (hz : z = (k0 : Int)) (hn : k0 < n) (hkk : off + k0 = kk)
    (h : regX P E ops K draw r ((setU (some d) (.c (.ptr q kk 0)), ⟨(Oper.mk (some d) (.indexAddr t x y) ty pos aft g).looksAt ops, [q]⟩) :: acc) ⟨(d, .c (.ptr q kk 0)) :: tm, ob, nx⟩) : regY P E ops K draw ⟨some d, .indexAddr t x y, ty, pos, aft, g⟩ r acc ⟨tm, ob, nx⟩ := by
  refine ⟨fun hw => ?_⟩
  subst hz
  subst hkk
  obtain ⟨x1, x2⟩ := opV_ok (ob := ob) (nx := nx) hx
  obtain ⟨y1, y2⟩ := opV_ok (ob := ob) (nx := nx) hy
  have e : ((k0 : Int).toNat) = k0 := Int.toNat_natCast k0
  have h9 := StepOk.indexRef (P := P) (E := E) (ops := ops) (o := ⟨some d, .indexAddr t x y, ty, pos, aft, g⟩) (s := ⟨tm, ob, nx⟩) rfl hw hd (by rw [x2, y2]; rfl) (hT.elem ht he).under x1 y1 (Int.natCast_nonneg k0) (by omega) hob (by rw [hsz]; exact (hT.elem ht he).size)
  rw [e] at h9
  exact regX.cons _ _ h9 rfl h
theorem rx_ixSl {x y : Operand} {t e sz bytes : Nat} {k : IntKind} {z : Int} {xs : List (List Cell)} {el : List Cell} {i : TyI} (kk : Nat) (hd : dstB (some d) E.n = true) (hx : opV tm x = some (.c (.sl xs))) (hy : opV tm y = some (.c (.v (.int k z)))) (hT : TabOk P T) (ht : lk t T = some i) (he : i.elem = some (e, sz, bytes)) (hz : z = (kk : Int)) (hel : xs[kk]? = some el) (hsz : el.length = sz)
    (h : regX P E ops K draw r ((setU (some d) (.c (.ip el)), ⟨(Oper.mk (some d) (.indexAddr t x y) ty pos aft g).looksAt ops, []⟩) :: acc) ⟨(d, .c (.ip el)) :: tm, ob, nx⟩) : regY P E ops K draw ⟨some d, .indexAddr t x y, ty, pos, aft, g⟩ r acc ⟨tm, ob, nx⟩ := by
  refine ⟨fun hw => ?_⟩
  subst hz
  obtain ⟨x1, x2⟩ := opV_ok (ob := ob) (nx := nx) hx
  obtain ⟨y1, y2⟩ := opV_ok (ob := ob) (nx := nx) hy
  exact regX.cons _ _ (StepOk.indexSl rfl hw hd (by rw [x2, y2]; rfl) (hT.elem ht he).under x1 y1 (Int.natCast_nonneg kk) (by rw [Int.toNat_natCast]; exact hel) (by rw [hsz]; exact (hT.elem ht he).size)) rfl h
theorem rx_load {x : Operand} {t q i0 f : Nat} {obj : AObj} {el : List Cell} {c : Cell} {i : TyI} (hd : dstB (some d) E.n = true) (hx : opV tm x = some (.c (.ptr q i0 f))) (hT : TabOk P T) (ht : lk t T = some i) (ha : i.agg = false) (hob : (lk q ob).getD none = some obj) (hel : obj.els[i0]? = some el) (hc : el[f]? = some c)
    (h : regX P E ops K draw r ((setU (some d) (.c c), ⟨(Oper.mk (some d) (.load t x) ty pos aft g).looksAt ops, [q]⟩) :: acc) ⟨(d, .c c) :: tm, ob, nx⟩) : regY P E ops K draw ⟨some d, .load t x, ty, pos, aft, g⟩ r acc ⟨tm, ob, nx⟩ := by
  refine ⟨fun hw => ?_⟩
  obtain ⟨x1, x2⟩ := opV_ok (ob := ob) (nx := nx) hx
  exact regX.cons _ _ (StepOk.load rfl hw hd x2 (by rw [← ha]; exact hT.agg ht) x1 hob hel hc) rfl h
theorem rx_loadAgg {x : Operand} {t q i0 f : Nat} {obj : AObj} {el cs : List Cell} {i : TyI} (hd : dstB (some d) E.n = true) (hx : opV tm x = some (.c (.ptr q i0 f))) (hT : TabOk P T) (ht : lk t T = some i) (ha : i.agg = true) (hob : (lk q ob).getD none = some obj) (hel : obj.els[i0]? = some el) (hl : f + i.size ≤ el.length) (hc : (el.drop f).take i.size = cs)
    (h : regX P E ops K draw r ((setU (some d) (.agg cs), ⟨(Oper.mk (some d) (.load t x) ty pos aft g).looksAt ops, [q]⟩) :: acc) ⟨(d, .agg cs) :: tm, ob, nx⟩) : regY P E ops K draw ⟨some d, .load t x, ty, pos, aft, g⟩ r acc ⟨tm, ob, nx⟩ := by
  refine ⟨fun hw => ?_⟩
  obtain ⟨x1, x2⟩ := opV_ok (ob := ob) (nx := nx) hx
  subst hc
  exact regX.cons _ _ (StepOk.loadAgg rfl hw hd x2 (by rw [← ha]; exact hT.agg ht) (hT.size ht) x1 hob hel hl) rfl h
theorem rx_sliceS {x : Operand} {low high : Option Operand} {t lo hi : Nat} {i : TyI} {l l' : List UInt8} (hd : dstB (some d) E.n = true) (hx : opV tm x = some (.c (str l))) (hT : TabOk P T) (ht : lk t T = some i) (hs : i.isStr = true) (hl : OptI ⟨tm, ob, nx⟩ 0 low lo) (hh : OptI ⟨tm, ob, nx⟩ l.length high hi) (h1 : lo ≤ hi) (h2 : hi ≤ l.length) (hc : (l.drop lo).take (hi - lo) = l')
    (h : regX P E ops K draw r ((setU (some d) (.c (str l')), ⟨(Oper.mk (some d) (.slice t x low high none) ty pos aft g).looksAt ops, []⟩) :: acc) ⟨(d, .c (str l')) :: tm, ob, nx⟩) : regY P E ops K draw ⟨some d, .slice t x low high none, ty, pos, aft, g⟩ r acc ⟨tm, ob, nx⟩ := by
  refine ⟨fun hw => ?_⟩
  obtain ⟨x1, x2⟩ := opV_ok (ob := ob) (nx := nx) hx
  subst hc
  exact regX.cons _ _ (StepOk.sliceStr rfl hw hd x2 (hT.str ht hs) x1 hl.h hh.h h1 h2) rfl h
theorem rx_sliceSl {x : Operand} {low high : Option Operand} {t lo hi : Nat} {i : TyI} {e sz bytes : Nat} {xs xs' : List (List Cell)} (hd : dstB (some d) E.n = true) (hx : opV tm x = some (.c (.sl xs))) (hT : TabOk P T) (ht : lk t T = some i) (he : i.elem = some (e, sz, bytes)) (hl : OptI ⟨tm, ob, nx⟩ 0 low lo) (hh : OptI ⟨tm, ob, nx⟩ xs.length high hi) (h1 : lo ≤ hi) (h2 : hi ≤ xs.length) (hxs : Bd (∀ x ∈ xs, x.length = sz)) (hc : (xs.drop lo).take (hi - lo) = xs')
    (h : regX P E ops K draw r ((setU (some d) (.c (.sl xs')), ⟨(Oper.mk (some d) (.slice t x low high none) ty pos aft g).looksAt ops, []⟩) :: acc) ⟨(d, .c (.sl xs')) :: tm, ob, nx⟩) : regY P E ops K draw ⟨some d, .slice t x low high none, ty, pos, aft, g⟩ r acc ⟨tm, ob, nx⟩ := by
  refine ⟨fun hw => ?_⟩
  obtain ⟨x1, x2⟩ := opV_ok (ob := ob) (nx := nx) hx
  subst hc
  exact regX.cons _ _ (StepOk.sliceSl rfl hw hd x2 (hT.elem ht he).under (hT.elem ht he).size hxs.h x1 hl.h hh.h h1 h2) rfl h
theorem rx_sliceRef {x : Operand} {low high : Option Operand} {t lo hi : Nat} {i : TyI} {e sz bytes q off n : Nat} {obj : AObj} (hd : dstB (some d) E.n = true) (hx : opV tm x = some (.c (.ref q off n))) (hT : TabOk P T) (ht : lk t T = some i) (he : i.elem = some (e, sz, bytes)) (hob : (lk q ob).getD none = some obj) (hsz : obj.sz = sz) (hl : OptI ⟨tm, ob, nx⟩ 0 low lo) (hh : OptI ⟨tm, ob, nx⟩ n high hi) (h1 : lo ≤ hi) (h2 : hi ≤ n)
    (h : regX P E ops K draw r ((setU (some d) (.c (.ref q (off + lo) (hi - lo))), ⟨(Oper.mk (some d) (.slice t x low high none) ty pos aft g).looksAt ops, [q]⟩) :: acc) ⟨(d, .c (.ref q (off + lo) (hi - lo))) :: tm, ob, nx⟩) : regY P E ops K draw ⟨some d, .slice t x low high none, ty, pos, aft, g⟩ r acc ⟨tm, ob, nx⟩ := by
  refine ⟨fun hw => ?_⟩
  obtain ⟨x1, x2⟩ := opV_ok (ob := ob) (nx := nx) hx
  exact regX.cons _ _ (StepOk.sliceRef rfl hw hd x2 (hT.elem ht he).under x1 hob (by rw [hsz]; exact (hT.elem ht he).size) hl.h hh.h h1 h2) rfl h
theorem rx_alloc {t : Nat} {i : TyI} {cs : List Cell} (hd : dstB (some d) E.n = true) (hm : Nat.ble E.m nx = true) (hT : TabOk P T) (ht : lk t T = some i) (h1 : i.zero.all (·.oneCell') = true) (hc : i.zero.map constC = cs)
    (h : regX P E ops K draw r ((newU (some d) (.c (.ptr nx 0 0)) nx ⟨t, cs.length, [cs]⟩, ⟨(Oper.mk (some d) (.alloc t) ty pos aft g).looksAt ops, []⟩) :: acc) ⟨(d, .c (.ptr nx 0 0)) :: tm, (nx, some ⟨t, cs.length, [cs]⟩) :: ob, nx + 1⟩) : regY P E ops K draw ⟨some d, .alloc t, ty, pos, aft, g⟩ r acc ⟨tm, ob, nx⟩ := by
  refine ⟨fun hw => ?_⟩
  subst hc
  have h0 : (i.zero.map constC).length = i.zero.length := by simp
  rw [h0] at h
  exact regX.cons _ _ (StepOk.alloc rfl hw hd hm (hT.zero ht) h1) rfl h
theorem rx_build {t : Nat} {parts : Array (Nat × Operand)} {i : TyI} {ps : List (Nat × List Cell)} {cs : List Cell} (hd : dstB (some d) E.n = true) (hop : parts.toList.all (fun p => opB p.2) = true) (hT : TabOk P T) (ht : lk t T = some i) (h1 : i.zero.all (·.oneCell') = true) (hn : Bd (i.places ≠ [])) (hps : partsC ⟨tm, ob, nx⟩ i.places parts.toList = some ps) (hf : fitsB i.zero.length ps = true) (hc : fillL (i.zero.map constC) ps = cs)
    (h : regX P E ops K draw r ((setU (some d) (.agg cs), ⟨(Oper.mk (some d) (.build t parts) ty pos aft g).looksAt ops, []⟩) :: acc) ⟨(d, .agg cs) :: tm, ob, nx⟩) : regY P E ops K draw ⟨some d, .build t parts, ty, pos, aft, g⟩ r acc ⟨tm, ob, nx⟩ := by
  refine ⟨fun hw => ?_⟩
  subst hc
  exact regX.cons _ _ (StepOk.build rfl hw hd hop (hT.zero ht) h1 (hT.places ht hn.h) hps hf) rfl h
theorem rx_buildSlice {t n e sz bytes : Nat} {parts : Array (Nat × Operand)} {i j : TyI} {els : List (List Cell)} (hd : dstB (some d) E.n = true) (hop : parts.toList.all (fun p => opB p.2) = true) (hm : Nat.ble E.m nx = true) (hT : TabOk P T) (ht : lk t T = some i) (he : i.elem = some (e, sz, bytes)) (hte : lk e T = some j) (h1 : j.zero.all (·.oneCell') = true) (hn : Nat.ble (n * sz) 16777216 = true) (hps : partsE ⟨tm, ob, nx⟩ sz parts.toList (List.replicate n (j.zero.map constC)) = some els)
    (h : regX P E ops K draw r ((newU (some d) (.c (.ref nx 0 n)) nx ⟨e, sz, els⟩, ⟨(Oper.mk (some d) (.buildSlice t n parts) ty pos aft g).looksAt ops, []⟩) :: acc) ⟨(d, .c (.ref nx 0 n)) :: tm, (nx, some ⟨e, sz, els⟩) :: ob, nx + 1⟩) : regY P E ops K draw ⟨some d, .buildSlice t n parts, ty, pos, aft, g⟩ r acc ⟨tm, ob, nx⟩ := by
  refine ⟨fun hw => ?_⟩
  exact regX.cons _ _ (StepOk.buildSlice rfl hw hd hop hm (hT.elem ht he) (hT.zero hte) h1 hn hps) rfl h
theorem rx_makeSlice {x y : Operand} {t e sz bytes n : Nat} {k k' : IntKind} {zx zy : Int} {i j : TyI} {els : List (List Cell)} (hd : dstB (some d) E.n = true) (hm : Nat.ble E.m nx = true) (hT : TabOk P T) (ht : lk t T = some i) (he : i.elem = some (e, sz, bytes)) (hte : lk e T = some j) (h1 : j.zero.all (·.oneCell') = true) (hx : opV tm x = some (.c (.v (.int k zx)))) (hy : opV tm y = some (.c (.v (.int k' zy)))) (hnx : zx = (n : Int)) (hny : zy = (n : Int)) (hb : Bd (bytes * n ≤ 281474976710656)) (hl : Bd (n ≤ 281474976710656)) (hc : List.replicate n (j.zero.map constC) = els)
    (h : regX P E ops K draw r ((newU (some d) (.c (.ref nx 0 n)) nx ⟨e, sz, els⟩, ⟨(Oper.mk (some d) (.makeSlice t x y) ty pos aft g).looksAt ops, []⟩) :: acc) ⟨(d, .c (.ref nx 0 n)) :: tm, (nx, some ⟨e, sz, els⟩) :: ob, nx + 1⟩) : regY P E ops K draw ⟨some d, .makeSlice t x y, ty, pos, aft, g⟩ r acc ⟨tm, ob, nx⟩ := by
  refine ⟨fun hw => ?_⟩
  obtain ⟨x1, x2⟩ := opV_ok (ob := ob) (nx := nx) hx
  obtain ⟨y1, y2⟩ := opV_ok (ob := ob) (nx := nx) hy
  subst hc
  exact regX.cons _ _ (StepOk.makeSlice rfl hw hd (by rw [x2, y2]; rfl) hm (hT.elem ht he) (hT.zero hte) h1 x1 y1 hnx hny hb.h (Nat.le_trans hl.h (by decide))) rfl h
theorem rx_appRef {x y : Operand} {t e sz bytes : Nat} {i : TyI} {cy : Cell} {obs : List Nat} {els news all : List (List Cell)} {n : Nat} {q k : Nat} (hd : dstB (some d) E.n = true) (hx : opV tm x = some (.c (.ref q 0 k))) (hob : (lk q ob).getD none = some ⟨e, sz, els⟩) (hkl : k = els.length) (hm : Nat.ble E.m nx = true) (hT : TabOk P T) (ht : lk t T = some i) (he : i.elem = some (e, sz, bytes)) (hy : opV tm y = some (.c cy)) (hn : newsOf ⟨tm, ob, nx⟩ cy = some (obs, news)) (hsz : Bd (∀ x ∈ news, x.length = sz)) (hb : Bd ((els.length + news.length) * bytes ≤ 140737488355328)) (hl : Bd (els.length + news.length ≤ 281474976710656)) (hc : els ++ news = all) (hk : els.length + news.length = n)
    (h : regX P E ops K draw r ((appU (some d) (.c (.ref nx 0 n)) (some q) nx ⟨e, sz, all⟩, ⟨(Oper.mk (some d) (.call { callee := .builtin .append, args := #[x, y], argTypes := #[t, t] }) ty pos aft g).looksAt ops, (some q).toList ++ obs⟩) :: acc) ⟨(d, .c (.ref nx 0 n)) :: tm, (nx, some ⟨e, sz, all⟩) :: (q, none) :: ob, nx + 1⟩) : regY P E ops K draw ⟨some d, .call { callee := .builtin .append, args := #[x, y], argTypes := #[t, t] }, ty, pos, aft, g⟩ r acc ⟨tm, ob, nx⟩ := by
  refine ⟨fun hw => ?_⟩
  obtain ⟨x1, x2⟩ := opV_ok (ob := ob) (nx := nx) hx
  obtain ⟨y1, y2⟩ := opV_ok (ob := ob) (nx := nx) hy
  subst hc
  subst hk
  exact regX.cons _ _ (StepOk.append (qo := some q) rfl hw hd (by rw [x2, y2]; rfl) hm (hT.elem ht he) x1 ⟨rfl, rfl, hob, hkl⟩ y1 hn hsz.h hb.h (Nat.le_trans hl.h (by decide))) rfl h
theorem rx_appNil {x y : Operand} {t e sz bytes : Nat} {i : TyI} {cy : Cell} {obs : List Nat} {news all : List (List Cell)} {n : Nat} (hd : dstB (some d) E.n = true) (hx : opV tm x = some (.c .nil)) (hm : Nat.ble E.m nx = true) (hT : TabOk P T) (ht : lk t T = some i) (he : i.elem = some (e, sz, bytes)) (hy : opV tm y = some (.c cy)) (hn : newsOf ⟨tm, ob, nx⟩ cy = some (obs, news)) (hsz : Bd (∀ x ∈ news, x.length = sz)) (hb : Bd ((0 + news.length) * bytes ≤ 140737488355328)) (hl : Bd (0 + news.length ≤ 281474976710656)) (hc : news = all) (hk : 0 + news.length = n)
    (h : regX P E ops K draw r ((appU (some d) (.c (.ref nx 0 n)) none nx ⟨e, sz, all⟩, ⟨(Oper.mk (some d) (.call { callee := .builtin .append, args := #[x, y], argTypes := #[t, t] }) ty pos aft g).looksAt ops, (none : Option Nat).toList ++ obs⟩) :: acc) ⟨(d, .c (.ref nx 0 n)) :: tm, (nx, some ⟨e, sz, all⟩) :: ob, nx + 1⟩) : regY P E ops K draw ⟨some d, .call { callee := .builtin .append, args := #[x, y], argTypes := #[t, t] }, ty, pos, aft, g⟩ r acc ⟨tm, ob, nx⟩ := by
  refine ⟨fun hw => ?_⟩
  obtain ⟨x1, x2⟩ := opV_ok (ob := ob) (nx := nx) hx
  obtain ⟨y1, y2⟩ := opV_ok (ob := ob) (nx := nx) hy
  subst hc
  subst hk
  exact regX.cons _ _ (StepOk.append (qo := none) (els := []) rfl hw hd (by rw [x2, y2]; rfl) hm (hT.elem ht he) x1 ⟨rfl, rfl⟩ y1 hn hsz.h hb.h (Nat.le_trans hl.h (by decide))) rfl h
theorem rx_makeFunc {f : Nat} {captured : Array Operand} {vs : List AVal} {caps : List Cell} (hd : dstB (some d) E.n = true) (hc : opVs tm captured.toList = some vs) (hcs : cellsC vs = some caps)
    (h : regX P E ops K draw r ((setU (some d) (.c (.fn f caps)), ⟨(Oper.mk (some d) (.makeFunc (.func f) #[] captured) ty pos aft g).looksAt ops, []⟩) :: acc) ⟨(d, .c (.fn f caps)) :: tm, ob, nx⟩) : regY P E ops K draw ⟨some d, .makeFunc (.func f) #[] captured, ty, pos, aft, g⟩ r acc ⟨tm, ob, nx⟩ := by
  refine ⟨fun hw => ?_⟩
  cases cellsC_ok hcs
  obtain ⟨e1, e2⟩ := opVs_ok (ob := ob) (nx := nx) hc
  exact regX.cons _ _ (StepOk.makeFunc rfl hw hd e2 e1) rfl h
theorem rx_call {fo : Operand} {args : Array Operand} {ats : Array TypeId} {f : Nat} {caps caps' : List Cell} {vs as' : List AVal} {fr : List AObj} {rv rv' : AVal} (V : List Nat) (hd : dstB (some d) E.n = true) (hx : opV tm fo = some (.c (.fn f caps))) (hvs : opVs tm args.toList = some vs) (hm : Nat.ble E.m nx = true) (hV : V.all (fun q => ((lk q ob).getD none).isSome) = true) (hargs : VAs ⟨tm, ob, nx⟩ V vs as') (hcaps : VCs ⟨tm, ob, nx⟩ V caps caps') (hpf : PF P f (as' ++ caps'.map AVal.c) fr rv) (hfl : FlatV rv) (hfr : frOk fr) (hrv : shV nx rv = rv')
    (h : regX P E ops K draw r ((callU (some d) rv nx fr, ⟨(Oper.mk (some d) (.call { callee := .value fo, args := args, argTypes := ats }) ty pos aft g).looksAt ops, V⟩) :: acc) ⟨(d, rv') :: tm, enum nx (fr.map some) ++ ob, nx + fr.length⟩) : regY P E ops K draw ⟨some d, .call { callee := .value fo, args := args, argTypes := ats }, ty, pos, aft, g⟩ r acc ⟨tm, ob, nx⟩ := by
  refine ⟨fun hw => ?_⟩
  obtain ⟨x1, x2⟩ := opV_ok (ob := ob) (nx := nx) hx
  obtain ⟨e1, e2⟩ := opVs_ok (ob := ob) (nx := nx) hvs
  subst hrv
  refine regX.cons _ _ (StepOk.call V rfl hw hd (by rw [x2, e2]; rfl) hm hV x1 (by rw [e1]; exact hargs) hcaps hpf hfl hfr.all) rfl h
theorem rx_callM {fo : Operand} {args : Array Operand} {ats : Array TypeId} {f : Nat} {caps caps' : List Cell} {vs as' : List AVal} {ins : List AObj} {outs : List (Option AObj)} {rv rv' : AVal} {ob' : List (Nat × Option AObj)} (z : Bool) (V μ : List Nat) (hd : dstB (some d) E.n = true) (hx : opV tm fo = some (.c (.fn f caps))) (hvs : opVs tm args.toList = some vs) (hm : Nat.ble E.m nx = true) (hV : V.all (fun q => ((lk q ob).getD none).isSome) = true) (hz : z = true → V = []) (hμ : nodupB μ = true) (hdis : disjB V μ = true) (hlt : μ.all (fun q => Nat.blt q nx) = true) (hins : All2 (fun q obj => (AS.mk tm ob nx).obj q = some obj) μ ins) (hlen : ins.length ≤ outs.length) (hargs : MAs ⟨tm, ob, nx⟩ V μ vs as') (hcaps : MCs ⟨tm, ob, nx⟩ V μ caps caps') (hpf : PFM P f ins (as' ++ caps'.map AVal.c) outs rv) (hfl : z = false → FlatV rv) (hfr : z = false → outsOk outs) (him : ∀ obj, some obj ∈ outs → ∀ x ∈ obj.els, ∀ c ∈ x, Imm c) (hii : ∀ obj ∈ ins, ∀ x ∈ obj.els, ∀ c ∈ x, Imm c) (hrv : reV μ nx rv = rv') (hob : outsU μ nx 0 outs ++ ob = ob')
    (h : regX P E ops K draw r ((callMU (some d) rv μ nx outs, ⟨(Oper.mk (some d) (.call { callee := .value fo, args := args, argTypes := ats }) ty pos aft g).looksAt ops, V ++ μ⟩) :: acc) ⟨(d, rv') :: tm, ob', nx + (outs.length - μ.length)⟩) : regY P E ops K draw ⟨some d, .call { callee := .value fo, args := args, argTypes := ats }, ty, pos, aft, g⟩ r acc ⟨tm, ob, nx⟩ := by
  refine ⟨fun hw => ?_⟩
  obtain ⟨x1, x2⟩ := opV_ok (ob := ob) (nx := nx) hx
  obtain ⟨e1, e2⟩ := opVs_ok (ob := ob) (nx := nx) hvs
  subst hrv
  subst hob
  refine regX.cons _ _ (StepOk.callM z V μ rfl hw hd (by rw [x2, e2]; rfl) hm hV hz hμ hdis hlt hins hlen x1 (by rw [e1]; exact hargs) hcaps hpf hfl hfr him hii) rfl h
/-- how a call ends -/
structure callK (P : Program) (E : Env) (ops : Array Oper) (K : AS → Prop) (draw : Bool) (r : List Oper) (acc : List (Upd × Foot)) (tm : List (Nat × AVal)) (ob : List (Nat × Option AObj)) (nx d : Nat) (fr : List AObj) (rv : AVal) (f : List Nat × List Nat) : Prop where
  hfr : frOk fr
  h : regX P E ops K draw r ((callU (some d) rv nx fr, ⟨f.1, f.2⟩) :: acc) ⟨(d, shV nx rv) :: tm, enum nx (fr.map some) ++ ob, nx + fr.length⟩
theorem callK0 {rv rv' : AVal} {f : List Nat × List Nat} (hrv : shV nx rv = rv') (h : regX P E ops K draw r ((callU (some d) rv nx [], ⟨f.1, f.2⟩) :: acc) ⟨(d, rv') :: tm, ob, nx⟩) : callK P E ops K draw r acc tm ob nx d [] rv f := by
  subst hrv
  exact ⟨trivial, h⟩
theorem callK1 {fr : List AObj} {rv rv' : AVal} {f : List Nat × List Nat} (hfr : frOk fr) (hrv : shV nx rv = rv') (h : regX P E ops K draw r ((callU (some d) rv nx fr, ⟨f.1, f.2⟩) :: acc) ⟨(d, rv') :: tm, enum nx (fr.map some) ++ ob, nx + fr.length⟩) : callK P E ops K draw r acc tm ob nx d fr rv f := by
  subst hrv
  exact ⟨hfr, h⟩
theorem rx_callV {fo : Operand} {args : Array Operand} {ats : Array TypeId} {f : Nat} {caps caps' : List Cell} {vs as' : List AVal} {fr : List AObj} {rv : AVal} (V : List Nat) (hd : dstB (some d) E.n = true) (hx : opV tm fo = some (.c (.fn f caps))) (hvs : opVs tm args.toList = some vs) (hm : Nat.ble E.m nx = true) (hV : V.all (fun q => ((lk q ob).getD none).isSome) = true) (hargs : VAs ⟨tm, ob, nx⟩ V vs as') (hcaps : VCs ⟨tm, ob, nx⟩ V caps caps') (hpf : PF P f (as' ++ caps'.map AVal.c) fr rv) (hfl : FlatV rv)
    (h : callK P E ops K draw r acc tm ob nx d fr rv ((Oper.mk (some d) (.call { callee := .value fo, args := args, argTypes := ats }) ty pos aft g).looksAt ops, V)) : regY P E ops K draw ⟨some d, .call { callee := .value fo, args := args, argTypes := ats }, ty, pos, aft, g⟩ r acc ⟨tm, ob, nx⟩ :=
  rx_call V hd hx hvs hm hV hargs hcaps hpf hfl h.hfr rfl h.h
theorem xW {o : Oper} {s : AS} (hw : Want E ops o s) (h : regY P E ops K draw o r acc s) : regX P E ops K draw (o :: r) acc s := h.h hw
theorem wantG {o : Oper} {s : AS} {j t : Nat} {b c : Bool} (h : o.guard = some (j, b)) (ht : (ops[j]?).bind (·.dst) = some t) (hs : s.get t = .c (.v (.bool c))) (hl : Nat.ble (t + 1) E.n = true) (hc : c = b) : Want E ops o s := Want.some_ h ht (by rw [hs, hc]) hl
theorem rx_store {x y : Operand} {t q i0 f : Nat} {obj : AObj} {el cs : List Cell} {v : AVal} {i : TyI} {els' : List (List Cell)} (hx : opV tm x = some (.c (.ptr q i0 f))) (hy : opV tm y = some v) (hcs : cellsOf v = some cs) (hT : TabOk P T) (ht : lk t T = some i) (hn : i.size = cs.length)
    (hob : (lk q ob).getD none = some obj) (hel : obj.els[i0]? = some el) (hl : f + cs.length ≤ el.length) (hc : obj.els.set i0 (el.take f ++ cs ++ el.drop (f + cs.length)) = els')
    (h : regX P E ops K draw r ((storeU none q ⟨obj.ty, obj.sz, els'⟩, ⟨(Oper.mk none (.store t x y) ty pos aft g).looksAt ops, [q]⟩) :: acc) ⟨tm, (q, some ⟨obj.ty, obj.sz, els'⟩) :: ob, nx⟩) : regY P E ops K draw ⟨none, .store t x y, ty, pos, aft, g⟩ r acc ⟨tm, ob, nx⟩ := by
  refine ⟨fun hw => ?_⟩
  obtain ⟨x1, x2⟩ := opV_ok (ob := ob) (nx := nx) hx
  obtain ⟨y1, y2⟩ := opV_ok (ob := ob) (nx := nx) hy
  subst y1
  subst hc
  exact regX.cons _ _ (StepOk.store rfl hw rfl (by rw [x2, y2]; rfl) x1 hcs (by rw [← hn]; exact hT.size ht) hob hel hl) rfl h
end
end
section
variable {P : Program} {E : Env} {K : Exit → AS → Prop} {s : AS}
theorem thenK_normal {next : AS → Prop} (h : next s) : thenK next K .normal s := .normal h
theorem thenK_exit {next : AS → Prop} {id : Nat} (h : K (.exit id) s) : thenK next K (.exit id) s := .other (fun e => by cases e) h
theorem thenK_ret {next : AS → Prop} (h : K .ret s) : thenK next K .ret s := .other (fun e => by cases e) h
theorem blockK_normal {id : Nat} (h : K .normal s) : blockK id K .normal s := .other (fun e => by cases e) h
theorem blockK_ret {id : Nat} (h : K .ret s) : blockK id K .ret s := .other (fun e => by cases e) h
theorem blockK_exit {id : Nat} (h : K .normal s) : blockK id K (.exit id) s := .here h
theorem blockK_other {id id' : Nat} (hne : Nat.beq id' id = false) (h : K (.exit id') s) : blockK id K (.exit id') s :=
  .other (fun e => by cases e; simp at hne) h
theorem AWp.condT {t : Nat} {x y : Code} {c : Bool} (hs : s.get t = .c (.v (.bool c))) (hc : c = true) (h : AWp P E x K s) : AWp P E (.cond (.tmp t) x y) K s := by
  subst hc
  exact AWp.cond true hs (fun _ => h) (fun e => by cases e)
theorem AWp.condF {t : Nat} {x y : Code} {c : Bool} (hs : s.get t = .c (.v (.bool c))) (hc : c = false) (h : AWp P E y K s) : AWp P E (.cond (.tmp t) x y) K s := by
  subst hc
  exact AWp.cond false hs (fun e => by cases e) (fun _ => h)
theorem AWp.condP {t : Nat} {x y : Code} {p : Prop} {_ : Decidable p} (hs : s.get t = .c (.v (.bool (decide p)))) (h1 : p → AWp P E x K s) (h0 : ¬ p → AWp P E y K s) : AWp P E (.cond (.tmp t) x y) K s :=
  AWp.cond (decide p) hs (fun e => h1 (of_decide_eq_true e)) (fun e => h0 (of_decide_eq_false e))
end
theorem sh_1 (k : Nat) (x : Value) : shV k (.c (.v x)) = .c (.v x) := rfl
theorem sh_2 (k : Nat) (x y : Value) : shV k (.tup [.c (.v x), .c (.v y)]) = .tup [.c (.v x), .c (.v y)] := rfl
theorem sh_3 (k : Nat) (x y z : Value) : shV k (.tup [.c (.v x), .c (.v y), .c (.v z)]) = .tup [.c (.v x), .c (.v y), .c (.v z)] := rfl
theorem sh_n (k : Nat) : shV k (.c .nil) = .c .nil := rfl
theorem sh_n1 (k : Nat) (x : Value) : shV k (.tup [.c .nil, .c (.v x)]) = .tup [.c .nil, .c (.v x)] := rfl
theorem sh_r (k q off n : Nat) : shV k (.c (.ref q off n)) = .c (.ref (k + q) off n) := rfl
theorem sh_r1 (k q off n : Nat) (x : Value) : shV k (.tup [.c (.ref q off n), .c (.v x)]) = .tup [.c (.ref (k + q) off n), .c (.v x)] := rfl
theorem sh_ar (k q off n : Nat) : shV k (.agg [.ref q off n]) = .agg [.ref (k + q) off n] := rfl
theorem sh_ar1 (k q off n : Nat) (x : Value) : shV k (.tup [.agg [.ref q off n], .c (.v x)]) = .tup [.agg [.ref (k + q) off n], .c (.v x)] := rfl
theorem sh_an1 (k : Nat) (x : Value) : shV k (.tup [.agg [.nil], .c (.v x)]) = .tup [.agg [.nil], .c (.v x)] := rfl
/-- the pure case of how a function is entered -/
theorem PF.enter {P : Program} {f : Nat} {fn : Func} {c : Code} {as : List AVal} {tm : List (Nat × AVal)} {fr : List AObj} {rv : AVal} (htm : enum 0 as = tm) (hf : P.funcs[f]? = some fn) (hb : fn.body = some c) (hnm : (fn.name == "runtime.NumGoroutine") = false)
    (n : Nat) (res : List ResultVar) (hn : fn.ntmps = n) (hl : Nat.ble as.length n = true) (hres : fn.results = res.toArray)
    (h : ∀ w0 mu I0 β0, AWp P ⟨w0, mu, I0, n, β0, 0⟩ c (retK P res (fr.map some) rv 0) ⟨tm, [], 0⟩) : PF P f as fr rv := by
  subst htm
  exact PFM.enter hf hb hnm n res hn hl hres h
theorem enum0 {α : Type} : enum 0 ([] : List α) = [] := rfl
theorem enum1 {α : Type} (a : α) : enum 0 [a] = [(0, a)] := rfl
theorem enum2 {α : Type} (a b : α) : enum 0 [a, b] = [(0, a), (1, b)] := rfl
theorem enum3 {α : Type} (a b c : α) : enum 0 [a, b, c] = [(0, a), (1, b), (2, c)] := rfl
theorem enum4 {α : Type} (a b c d : α) : enum 0 [a, b, c, d] = [(0, a), (1, b), (2, c), (3, d)] := rfl
theorem enum5 {α : Type} (a b c d e : α) : enum 0 [a, b, c, d, e] = [(0, a), (1, b), (2, c), (3, d), (4, e)] := rfl
theorem enum6 {α : Type} (a b c d e f : α) : enum 0 [a, b, c, d, e, f] = [(0, a), (1, b), (2, c), (3, d), (4, e), (5, f)] := rfl
theorem rv_tmp {P : Program} {tm : List (Nat × AVal)} {ob : List (Nat × Option AObj)} {nx t : Nat} {x : AVal} (h : lk t tm = some x) : resVal P ⟨tm, ob, nx⟩ (.tmp t) x := .tmp (by simp only [AS.get, h]; rfl)
theorem rv_agg {P : Program} {tm : List (Nat × AVal)} {ob : List (Nat × Option AObj)} {nx a ty q : Nat} {obj : AObj} {cs : List Cell} {i : TyI} {T : List (Nat × TyI)} (h : lk a tm = some (.c (.ptr q 0 0))) (hq : (lk q ob).getD none = some obj) (he : obj.els = [cs]) (hT : TabOk P T) (ht : lk ty T = some i) (ha : i.agg = true) (hn : i.size = cs.length) :
    resVal P ⟨tm, ob, nx⟩ (.cell a ty) (.agg cs) := .agg (by simp only [AS.get, h]; rfl) hq he (by rw [← ha]; exact hT.agg ht) (by rw [← hn]; exact hT.size ht)
theorem rv_cell {P : Program} {tm : List (Nat × AVal)} {ob : List (Nat × Option AObj)} {nx a ty q : Nat} {obj : AObj} {c : Cell} {r : List Cell} {i : TyI} {T : List (Nat × TyI)} (h : lk a tm = some (.c (.ptr q 0 0))) (hq : (lk q ob).getD none = some obj) (he : obj.els = [c :: r]) (hT : TabOk P T) (ht : lk ty T = some i) (ha : i.agg = false) :
    resVal P ⟨tm, ob, nx⟩ (.cell a ty) (.c c) := .cell (by simp only [AS.get, h]; rfl) hq he (by rw [← ha]; exact hT.agg ht)
theorem ret_ret {P : Program} {res : List ResultVar} {outs : List (Option AObj)} {rv : AVal} {m : Nat} {s : AS} (xs : List AVal) (ρ : Ren) (h1 : resAll P s res xs) (h2 : VW ρ (mkRes xs) rv) (h3 : renB ρ m outs.length = true) (h4 : obW ρ s (enum 0 outs)) : retK P res outs rv m .ret s :=
  ⟨.inr rfl, xs, ρ, h1, h2, h3, h4⟩
theorem ret_end {P : Program} {res : List ResultVar} {outs : List (Option AObj)} {rv : AVal} {m : Nat} {s : AS} (xs : List AVal) (ρ : Ren) (h1 : resAll P s res xs) (h2 : VW ρ (mkRes xs) rv) (h3 : renB ρ m outs.length = true) (h4 : obW ρ s (enum 0 outs)) : retK P res outs rv m .normal s :=
  ⟨.inl rfl, xs, ρ, h1, h2, h3, h4⟩
end Go.Proofs.Ytfebalahfhkeaaa
