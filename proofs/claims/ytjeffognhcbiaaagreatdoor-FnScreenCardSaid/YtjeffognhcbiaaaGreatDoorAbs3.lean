/- The abstract machine, part 15: the steps of a walk, one theorem for each operation, on states that are written out. -/
import Derived.Test.YtjeffognhcbiaaaGreatDoorAbs2
import Derived.Laws.Strings
import Derived.Laws.BytesString
namespace Go.Proofs.YtjeffognhcbiaaaGreatDoor
open Go Go.RowKit
structure Bd (p : Prop) : Prop where
  h : p
theorem dT {p : Prop} {_ : Decidable p} (h : p) : decide p = true := decide_eq_true h
theorem dF {p : Prop} {_ : Decidable p} (h : ¬ p) : decide p = false := decide_eq_false h
theorem lb {a b : Nat} (h : Nat.ble a b = true) : a ≤ b := Nat.le_of_ble_eq_true h
theorem lA {α β : Type} (f : α → β) (l : List α) : (l.map f).length = l.length := List.length_map _
theorem lB {α : Type} (n : Nat) (x : α) : (List.replicate n x).length = n := List.length_replicate
theorem lC {α : Type} (a b : List α) : (a ++ b).length = a.length + b.length := List.length_append
theorem lD {α : Type} (x : α) (l : List α) : (x :: l).length = l.length + 1 := rfl
theorem lE {α : Type} : ([] : List α).length = 0 := rfl
structure OptI (s : AS) (d : Nat) (x : Option Operand) (l : Nat) : Prop where
  h : kH s d x l
def qT : List AVal → Option (List Cell)
  | [] => some []
  | .c x :: r => match qT r with | some cs => some (x :: cs) | none => none
  | _ => none
theorem cellsC_ok : ∀ {vs : List AVal} {cs : List Cell}, qT vs = some cs → vs = cs.map AVal.c
  | [], cs, h => by simp [qT] at h; subst h; rfl
  | .c x :: r, cs, h => by
    simp only [qT] at h
    split at h
    · rename_i a h1
      cases h
      rw [cellsC_ok h1]; rfl
    · cases h
  | .agg _ :: r, cs, h => by simp [qT] at h
  | .any :: r, cs, h => by simp [qT] at h
  | .tup _ :: r, cs, h => by simp [qT] at h
def opV (tm : List (Nat × AVal)) : Operand → Option AVal
  | .tmp t => lk t tm
  | .const (.int k n) => some (.c (.v (.int k n)))
  | .const (.bool b) => some (.c (.v (.bool b)))
  | .const (.string ⟨⟨l⟩⟩) => some (.c (str l))
  | .const (.slice none 0 0) => some (.c .nil)
  | .const (.agg ⟨cs⟩) => bif cs.all (·.oneCell') then some (.agg (cs.map wL)) else none
  | .func f => some (.c (.fn f []))
  | _ => none
theorem xI {tm : List (Nat × AVal)} {ob : List (Nat × Option AObj)} {nx : Nat} {x : Operand} {v : AVal} (h : opV tm x = some v) : opA ⟨tm, ob, nx⟩ x = v ∧ opB x = true := by
  unfold opV at h
  split at h
  · exact ⟨by simp only [opA, AS.get, h]; rfl, rfl⟩
  · cases h; exact ⟨rfl, rfl⟩
  · cases h; exact ⟨rfl, rfl⟩
  · cases h; exact ⟨rfl, rfl⟩
  · cases h; exact ⟨rfl, rfl⟩
  · rename_i cs
    cases hb : cs.all (·.oneCell') with
    | false => rw [hb] at h; cases h
    | true => rw [hb] at h; cases h; exact ⟨rfl, hb⟩
  · cases h; exact ⟨rfl, rfl⟩
  · cases h
def jC (tm : List (Nat × AVal)) : List Operand → Option (List AVal)
  | [] => some []
  | x :: r => match opV tm x, jC tm r with
    | some v, some vs => some (v :: vs)
    | _, _ => none
theorem opVs_ok {tm : List (Nat × AVal)} {ob : List (Nat × Option AObj)} {nx : Nat} : ∀ {xs : List Operand} {vs : List AVal}, jC tm xs = some vs → xs.map (opA ⟨tm, ob, nx⟩) = vs ∧ xs.all opB = true
  | [], vs, h => by cases h; exact ⟨rfl, rfl⟩
  | x :: r, vs, h => by
    simp only [jC] at h
    split at h
    · rename_i v vs' h1 h2
      cases h
      obtain ⟨e1, e2⟩ := xI (ob := ob) (nx := nx) h1
      obtain ⟨f1, f2⟩ := opVs_ok (ob := ob) (nx := nx) h2
      exact ⟨by rw [List.map_cons, e1, f1], by rw [List.all_cons, e2, f2]; rfl⟩
    · cases h

inductive regX (P : Program) (E : Env) (ops : Array Oper) (K : AS → Prop) (draw : Bool) : List Oper → List (Upd × Foot) → AS → Prop
  | nil {acc : List (Upd × Foot)} {s : AS} : (draw = true → okB ops acc.reverse = true) → K s → regX P E ops K draw [] acc s
  | cons {o : Oper} {r : List Oper} {acc : List (Upd × Foot)} {s s' : AS} (u : Upd) (F : Foot) : StepOk P E ops o s u F → s' = s.upd u → regX P E ops K draw r ((u, F) :: acc) s' → regX P E ops K draw (o :: r) acc s
structure regY (P : Program) (E : Env) (ops : Array Oper) (K : AS → Prop) (draw : Bool) (o : Oper) (r : List Oper) (acc : List (Upd × Foot)) (s : AS) : Prop where
  h : Want E ops o s → regX P E ops K draw (o :: r) acc s
section
variable {P : Program} {E : Env} {ops : Array Oper} {K : AS → Prop} {draw : Bool}
theorem regX_A {l : List Oper} {acc : List (Upd × Foot)} {s : AS} (h : regX P E ops K false l acc s) : regA P E ops K l s := by
  induction h with
  | nil _ h => exact h
  | cons u F h1 h2 _ ih => subst h2; exact ⟨u, F, h1, ih⟩
theorem regX_D {l : List Oper} {acc : List (Upd × Foot)} {s : AS} (h : regX P E ops K true l acc s) : regD P E ops K l acc s := by
  induction h with
  | nil h1 h => exact ⟨h1 rfl, h⟩
  | cons u F h1 h2 _ ih => subst h2; exact ⟨u, F, h1, ih⟩
theorem AWp.G {id : Nat} {l : List Oper} {s : AS} {K : Exit → AS → Prop} (h : regX P E l.toArray (K .normal) false l [] s) : AWp P E (.region id l.toArray false) K s := AWp.region (regX_A h)
theorem AWp.D {id : Nat} {l : List Oper} {s : AS} {K : Exit → AS → Prop} (hm : P.follows .mixedOrders = true) (h : regX P E l.toArray (K .normal) true l [] s) : AWp P E (.region id l.toArray true) K s := AWp.draw hm (regX_D h)
theorem zR {acc : List (Upd × Foot)} {s : AS} (h : K s) : regX P E ops K false [] acc s := regX.nil (fun h => by cases h) h
theorem yT {acc : List (Upd × Foot)} {s : AS} (hB : okB ops acc.reverse = true) (h : K s) : regX P E ops K true [] acc s := regX.nil (fun _ => hB) h

section
variable {o : Oper} {r : List Oper} {acc : List (Upd × Foot)} {tm : List (Nat × AVal)} {ob : List (Nat × Option AObj)} {nx d ty : Nat} {pos : String} {aft : Array Edge} {g : Option (Nat × Bool)} {T : List (Nat × TyI)}
theorem zT {j t : Nat} {b : Bool} {p : Prop} {_ : Decidable p} (hg : o.guard = some (j, b)) (ht : (ops[j]?).bind (·.dst) = some t) (hs : (lk t tm).getD .any = .c (.v (.bool (decide p))))
    (h1 : p → regX P E ops K draw (o :: r) acc ⟨tm, ob, nx⟩) (h0 : ¬ p → regX P E ops K draw (o :: r) acc ⟨tm, ob, nx⟩) : regX P E ops K draw (o :: r) acc ⟨tm, ob, nx⟩ := by
  by_cases h : p
  · exact h1 h
  · exact h0 h
theorem zY {j t : Nat} {b c : Bool} (hg : o.guard = some (j, b)) (ht : (ops[j]?).bind (·.dst) = some t) (hs : (lk t tm).getD .any = .c (.v (.bool c)))
    (h1 : c = true → regX P E ops K draw (o :: r) acc ⟨tm, ob, nx⟩) (h0 : c = false → regX P E ops K draw (o :: r) acc ⟨tm, ob, nx⟩) : regX P E ops K draw (o :: r) acc ⟨tm, ob, nx⟩ := by
  cases h : c
  · exact h0 h
  · exact h1 h
theorem rx_skip {op : Op} (hs : Skips E ops ⟨some d, op, ty, pos, aft, g⟩ ⟨tm, ob, nx⟩) (hd : xR (some d) E.n = true)
    (h : regX P E ops K draw r ((xX (some d) (.tup []), ⟨(Oper.mk (some d) op ty pos aft g).looksAt ops, []⟩) :: acc) ⟨(d, .tup []) :: tm, ob, nx⟩) : regX P E ops K draw (⟨some d, op, ty, pos, aft, g⟩ :: r) acc ⟨tm, ob, nx⟩ :=
  regX.cons _ _ (StepOk.skip hs hd) rfl h
theorem rx_pickT {c x y : Operand} {b : Bool} {p : AVal} (hd : xR (some d) E.n = true) (hz : opV tm c = some (.c (.v (.bool b)))) (hb : b = true) (hx : opV tm x = some p) (hyb : opB y = true)
    (h : regX P E ops K draw r ((xX (some d) (p), ⟨(Oper.mk (some d) (.pick c x y) ty pos aft g).looksAt ops, []⟩) :: acc) ⟨(d, p) :: tm, ob, nx⟩) : regY P E ops K draw ⟨some d, .pick c x y, ty, pos, aft, g⟩ r acc ⟨tm, ob, nx⟩ := by
  refine ⟨fun hw => ?_⟩
  subst hb
  obtain ⟨x1, x2⟩ := xI (ob := ob) (nx := nx) hx
  obtain ⟨z1, z2⟩ := xI (ob := ob) (nx := nx) hz
  subst x1
  exact regX.cons _ _ (StepOk.pick rfl hw hd (by rw [x2, hyb, z2]; rfl) z1) rfl h
theorem rx_pickF {c x y : Operand} {b : Bool} {q : AVal} (hd : xR (some d) E.n = true) (hz : opV tm c = some (.c (.v (.bool b)))) (hb : b = false) (hxb : opB x = true) (hy : opV tm y = some q)
    (h : regX P E ops K draw r ((xX (some d) (q), ⟨(Oper.mk (some d) (.pick c x y) ty pos aft g).looksAt ops, []⟩) :: acc) ⟨(d, q) :: tm, ob, nx⟩) : regY P E ops K draw ⟨some d, .pick c x y, ty, pos, aft, g⟩ r acc ⟨tm, ob, nx⟩ := by
  refine ⟨fun hw => ?_⟩
  subst hb
  obtain ⟨y1, y2⟩ := xI (ob := ob) (nx := nx) hy
  obtain ⟨z1, z2⟩ := xI (ob := ob) (nx := nx) hz
  subst y1
  exact regX.cons _ _ (StepOk.pick rfl hw hd (by rw [hxb, y2, z2]; rfl) z1) rfl h
theorem rx_neg {x : Operand} {t : Nat} {p : Int} (hd : xR (some d) E.n = true) (hx : opV tm x = some (.c (.v (.int .i64 p)))) (hr : -9223372036854775807 ≤ p ∧ p ≤ 9223372036854775807)
    (h : regX P E ops K draw r ((xX (some d) (.c (.v (.int .i64 (-p)))), ⟨(Oper.mk (some d) (.unOp .neg t x) ty pos aft g).looksAt ops, []⟩) :: acc) ⟨(d, .c (.v (.int .i64 (-p)))) :: tm, ob, nx⟩) : regY P E ops K draw ⟨some d, .unOp .neg t x, ty, pos, aft, g⟩ r acc ⟨tm, ob, nx⟩ := by
  refine ⟨fun hw => ?_⟩
  obtain ⟨x1, x2⟩ := xI (ob := ob) (nx := nx) hx
  refine regX.cons _ _ (StepOk.un rfl hw hd x2 x1 rfl (fun w => ?_)) rfl h
  have e : IntKind.i64.wrap (0 - p) = -p := by rw [IntWalk.i64_in _ (by omega)]; omega
  show Result.ok (Value.int .i64 (IntKind.i64.wrap (0 - p))) w = _
  rw [e]
theorem zZ {x y : Operand} {t t' : Nat} {p q : Int} (hd : xR (some d) E.n = true) (hx : opV tm x = some (.c (.v (.int .i64 p)))) (hy : opV tm y = some (.c (.v (.int .i64 q)))) (hr : -9223372036854775808 ≤ p + q ∧ p + q ≤ 9223372036854775807)
    (h : regX P E ops K draw r ((xX (some d) (.c (.v (.int .i64 (p + q)))), ⟨(Oper.mk (some d) (.binOp .add t x y t') ty pos aft g).looksAt ops, []⟩) :: acc) ⟨(d, .c (.v (.int .i64 (p + q)))) :: tm, ob, nx⟩) : regY P E ops K draw ⟨some d, .binOp .add t x y t', ty, pos, aft, g⟩ r acc ⟨tm, ob, nx⟩ := by
  refine ⟨fun hw => ?_⟩
  obtain ⟨x1, x2⟩ := xI (ob := ob) (nx := nx) hx
  obtain ⟨y1, y2⟩ := xI (ob := ob) (nx := nx) hy
  refine regX.cons _ _ (zE rfl hw hd (by rw [x2, y2]; rfl) x1 y1 rfl (fun w => ?_)) rfl h
  show Result.ok (Value.int .i64 (IntKind.i64.wrap (p + q))) w = _
  rw [IntWalk.i64_in _ hr]
theorem qN {x y : Operand} {t t' : Nat} {k : IntKind} {p q : Int} (hd : xR (some d) E.n = true) (hx : opV tm x = some (.c (.v (.int k p)))) (hy : opV tm y = some (.c (.v (.int k q))))
    (h : regX P E ops K draw r ((xX (some d) (.c (.v (.int k (k.wrap (p + q))))), ⟨(Oper.mk (some d) (.binOp .add t x y t') ty pos aft g).looksAt ops, []⟩) :: acc) ⟨(d, .c (.v (.int k (k.wrap (p + q))))) :: tm, ob, nx⟩) : regY P E ops K draw ⟨some d, .binOp .add t x y t', ty, pos, aft, g⟩ r acc ⟨tm, ob, nx⟩ := by
  refine ⟨fun hw => ?_⟩
  obtain ⟨x1, x2⟩ := xI (ob := ob) (nx := nx) hx
  obtain ⟨y1, y2⟩ := xI (ob := ob) (nx := nx) hy
  refine regX.cons _ _ (zE rfl hw hd (by rw [x2, y2]; rfl) x1 y1 rfl (fun w => ?_)) rfl h
  simp only [eqGuard, binOp]
  simp [Op.intArith]
theorem y3 {x y : Operand} {t t' : Nat} {p q : Int} (hd : xR (some d) E.n = true) (hx : opV tm x = some (.c (.v (.int .i64 p)))) (hy : opV tm y = some (.c (.v (.int .i64 q)))) (hr : -9223372036854775808 ≤ p - q ∧ p - q ≤ 9223372036854775807)
    (h : regX P E ops K draw r ((xX (some d) (.c (.v (.int .i64 (p - q)))), ⟨(Oper.mk (some d) (.binOp .sub t x y t') ty pos aft g).looksAt ops, []⟩) :: acc) ⟨(d, .c (.v (.int .i64 (p - q)))) :: tm, ob, nx⟩) : regY P E ops K draw ⟨some d, .binOp .sub t x y t', ty, pos, aft, g⟩ r acc ⟨tm, ob, nx⟩ := by
  refine ⟨fun hw => ?_⟩
  obtain ⟨x1, x2⟩ := xI (ob := ob) (nx := nx) hx
  obtain ⟨y1, y2⟩ := xI (ob := ob) (nx := nx) hy
  refine regX.cons _ _ (zE rfl hw hd (by rw [x2, y2]; rfl) x1 y1 rfl (fun w => ?_)) rfl h
  show Result.ok (Value.int .i64 (IntKind.i64.wrap (p - q))) w = _
  rw [IntWalk.i64_in _ hr]
theorem rx_subk {x y : Operand} {t t' : Nat} {k : IntKind} {p q : Int} (hd : xR (some d) E.n = true) (hx : opV tm x = some (.c (.v (.int k p)))) (hy : opV tm y = some (.c (.v (.int k q))))
    (h : regX P E ops K draw r ((xX (some d) (.c (.v (.int k (k.wrap (p - q))))), ⟨(Oper.mk (some d) (.binOp .sub t x y t') ty pos aft g).looksAt ops, []⟩) :: acc) ⟨(d, .c (.v (.int k (k.wrap (p - q))))) :: tm, ob, nx⟩) : regY P E ops K draw ⟨some d, .binOp .sub t x y t', ty, pos, aft, g⟩ r acc ⟨tm, ob, nx⟩ := by
  refine ⟨fun hw => ?_⟩
  obtain ⟨x1, x2⟩ := xI (ob := ob) (nx := nx) hx
  obtain ⟨y1, y2⟩ := xI (ob := ob) (nx := nx) hy
  refine regX.cons _ _ (zE rfl hw hd (by rw [x2, y2]; rfl) x1 y1 rfl (fun w => ?_)) rfl h
  simp only [eqGuard, binOp]
  simp [Op.intArith]
theorem vM {x y : Operand} {t t' : Nat} {p q : Int} (hd : xR (some d) E.n = true) (hx : opV tm x = some (.c (.v (.int .i64 p)))) (hy : opV tm y = some (.c (.v (.int .i64 q)))) (hr : -9223372036854775808 ≤ p * q ∧ p * q ≤ 9223372036854775807)
    (h : regX P E ops K draw r ((xX (some d) (.c (.v (.int .i64 (p * q)))), ⟨(Oper.mk (some d) (.binOp .mul t x y t') ty pos aft g).looksAt ops, []⟩) :: acc) ⟨(d, .c (.v (.int .i64 (p * q)))) :: tm, ob, nx⟩) : regY P E ops K draw ⟨some d, .binOp .mul t x y t', ty, pos, aft, g⟩ r acc ⟨tm, ob, nx⟩ := by
  refine ⟨fun hw => ?_⟩
  obtain ⟨x1, x2⟩ := xI (ob := ob) (nx := nx) hx
  obtain ⟨y1, y2⟩ := xI (ob := ob) (nx := nx) hy
  refine regX.cons _ _ (zE rfl hw hd (by rw [x2, y2]; rfl) x1 y1 rfl (fun w => ?_)) rfl h
  show Result.ok (Value.int .i64 (IntKind.i64.wrap (p * q))) w = _
  rw [IntWalk.i64_in _ hr]
theorem rx_mulk {x y : Operand} {t t' : Nat} {k : IntKind} {p q : Int} (hd : xR (some d) E.n = true) (hx : opV tm x = some (.c (.v (.int k p)))) (hy : opV tm y = some (.c (.v (.int k q))))
    (h : regX P E ops K draw r ((xX (some d) (.c (.v (.int k (k.wrap (p * q))))), ⟨(Oper.mk (some d) (.binOp .mul t x y t') ty pos aft g).looksAt ops, []⟩) :: acc) ⟨(d, .c (.v (.int k (k.wrap (p * q))))) :: tm, ob, nx⟩) : regY P E ops K draw ⟨some d, .binOp .mul t x y t', ty, pos, aft, g⟩ r acc ⟨tm, ob, nx⟩ := by
  refine ⟨fun hw => ?_⟩
  obtain ⟨x1, x2⟩ := xI (ob := ob) (nx := nx) hx
  obtain ⟨y1, y2⟩ := xI (ob := ob) (nx := nx) hy
  refine regX.cons _ _ (zE rfl hw hd (by rw [x2, y2]; rfl) x1 y1 rfl (fun w => ?_)) rfl h
  simp only [eqGuard, binOp]
  simp [Op.intArith]
theorem rx_quo {x y : Operand} {t t' : Nat} {p q : Int} (hd : xR (some d) E.n = true) (hx : opV tm x = some (.c (.v (.int .i64 p)))) (hy : opV tm y = some (.c (.v (.int .i64 q)))) (hr : 0 ≤ p ∧ p ≤ 9223372036854775807 ∧ 1 ≤ q)
    (h : regX P E ops K draw r ((xX (some d) (.c (.v (.int .i64 (p / q)))), ⟨(Oper.mk (some d) (.binOp .quo t x y t') ty pos aft g).looksAt ops, []⟩) :: acc) ⟨(d, .c (.v (.int .i64 (p / q)))) :: tm, ob, nx⟩) : regY P E ops K draw ⟨some d, .binOp .quo t x y t', ty, pos, aft, g⟩ r acc ⟨tm, ob, nx⟩ := by
  refine ⟨fun hw => ?_⟩
  obtain ⟨x1, x2⟩ := xI (ob := ob) (nx := nx) hx
  obtain ⟨y1, y2⟩ := xI (ob := ob) (nx := nx) hy
  refine regX.cons _ _ (zE rfl hw hd (by rw [x2, y2]; rfl) x1 y1 rfl (fun w => ?_)) rfl h
  have hq : ¬ q = 0 := by omega
  simp only [eqGuard, binOp]
  simp [Op.intDiv, hq, IntWalk.i64_quo p q hr]
theorem rx_rem {x y : Operand} {t t' : Nat} {p q : Int} (hd : xR (some d) E.n = true) (hx : opV tm x = some (.c (.v (.int .i64 p)))) (hy : opV tm y = some (.c (.v (.int .i64 q)))) (hr : 0 ≤ p ∧ 1 ≤ q)
    (h : regX P E ops K draw r ((xX (some d) (.c (.v (.int .i64 (p % q)))), ⟨(Oper.mk (some d) (.binOp .rem t x y t') ty pos aft g).looksAt ops, []⟩) :: acc) ⟨(d, .c (.v (.int .i64 (p % q)))) :: tm, ob, nx⟩) : regY P E ops K draw ⟨some d, .binOp .rem t x y t', ty, pos, aft, g⟩ r acc ⟨tm, ob, nx⟩ := by
  refine ⟨fun hw => ?_⟩
  obtain ⟨x1, x2⟩ := xI (ob := ob) (nx := nx) hx
  obtain ⟨y1, y2⟩ := xI (ob := ob) (nx := nx) hy
  refine regX.cons _ _ (zE rfl hw hd (by rw [x2, y2]; rfl) x1 y1 rfl (fun w => ?_)) rfl h
  have hq : ¬ q = 0 := by omega
  simp only [eqGuard, binOp]
  simp [Op.intDiv, hq, Int.tmod_eq_emod_of_nonneg hr.1]
theorem rx_and {x y : Operand} {t t' : Nat} {k : IntKind} {p q : Int} (hd : xR (some d) E.n = true) (hx : opV tm x = some (.c (.v (.int k p)))) (hy : opV tm y = some (.c (.v (.int k q))))
    (h : regX P E ops K draw r ((xX (some d) (.c (.v (.int k (bits .and k p q)))), ⟨(Oper.mk (some d) (.binOp .and t x y t') ty pos aft g).looksAt ops, []⟩) :: acc) ⟨(d, .c (.v (.int k (bits .and k p q)))) :: tm, ob, nx⟩) : regY P E ops K draw ⟨some d, .binOp .and t x y t', ty, pos, aft, g⟩ r acc ⟨tm, ob, nx⟩ := by
  refine ⟨fun hw => ?_⟩
  obtain ⟨x1, x2⟩ := xI (ob := ob) (nx := nx) hx
  obtain ⟨y1, y2⟩ := xI (ob := ob) (nx := nx) hy
  refine regX.cons _ _ (zE rfl hw hd (by rw [x2, y2]; rfl) x1 y1 rfl (fun w => ?_)) rfl h
  simp only [eqGuard, binOp]
  simp [intBits_and]
theorem rx_or {x y : Operand} {t t' : Nat} {k : IntKind} {p q : Int} (hd : xR (some d) E.n = true) (hx : opV tm x = some (.c (.v (.int k p)))) (hy : opV tm y = some (.c (.v (.int k q))))
    (h : regX P E ops K draw r ((xX (some d) (.c (.v (.int k (bits .or k p q)))), ⟨(Oper.mk (some d) (.binOp .or t x y t') ty pos aft g).looksAt ops, []⟩) :: acc) ⟨(d, .c (.v (.int k (bits .or k p q)))) :: tm, ob, nx⟩) : regY P E ops K draw ⟨some d, .binOp .or t x y t', ty, pos, aft, g⟩ r acc ⟨tm, ob, nx⟩ := by
  refine ⟨fun hw => ?_⟩
  obtain ⟨x1, x2⟩ := xI (ob := ob) (nx := nx) hx
  obtain ⟨y1, y2⟩ := xI (ob := ob) (nx := nx) hy
  refine regX.cons _ _ (zE rfl hw hd (by rw [x2, y2]; rfl) x1 y1 rfl (fun w => ?_)) rfl h
  simp only [eqGuard, binOp]
  simp [intBits_or]
theorem rx_xor {x y : Operand} {t t' : Nat} {k : IntKind} {p q : Int} (hd : xR (some d) E.n = true) (hx : opV tm x = some (.c (.v (.int k p)))) (hy : opV tm y = some (.c (.v (.int k q))))
    (h : regX P E ops K draw r ((xX (some d) (.c (.v (.int k (bits .xor k p q)))), ⟨(Oper.mk (some d) (.binOp .xor t x y t') ty pos aft g).looksAt ops, []⟩) :: acc) ⟨(d, .c (.v (.int k (bits .xor k p q)))) :: tm, ob, nx⟩) : regY P E ops K draw ⟨some d, .binOp .xor t x y t', ty, pos, aft, g⟩ r acc ⟨tm, ob, nx⟩ := by
  refine ⟨fun hw => ?_⟩
  obtain ⟨x1, x2⟩ := xI (ob := ob) (nx := nx) hx
  obtain ⟨y1, y2⟩ := xI (ob := ob) (nx := nx) hy
  refine regX.cons _ _ (zE rfl hw hd (by rw [x2, y2]; rfl) x1 y1 rfl (fun w => ?_)) rfl h
  simp only [eqGuard, binOp]
  simp [intBits_xor]
theorem rx_andNot {x y : Operand} {t t' : Nat} {k : IntKind} {p q : Int} (hd : xR (some d) E.n = true) (hx : opV tm x = some (.c (.v (.int k p)))) (hy : opV tm y = some (.c (.v (.int k q))))
    (h : regX P E ops K draw r ((xX (some d) (.c (.v (.int k (bits .andNot k p q)))), ⟨(Oper.mk (some d) (.binOp .andNot t x y t') ty pos aft g).looksAt ops, []⟩) :: acc) ⟨(d, .c (.v (.int k (bits .andNot k p q)))) :: tm, ob, nx⟩) : regY P E ops K draw ⟨some d, .binOp .andNot t x y t', ty, pos, aft, g⟩ r acc ⟨tm, ob, nx⟩ := by
  refine ⟨fun hw => ?_⟩
  obtain ⟨x1, x2⟩ := xI (ob := ob) (nx := nx) hx
  obtain ⟨y1, y2⟩ := xI (ob := ob) (nx := nx) hy
  refine regX.cons _ _ (zE rfl hw hd (by rw [x2, y2]; rfl) x1 y1 rfl (fun w => ?_)) rfl h
  simp only [eqGuard, binOp]
  simp [intBits_andNot]
theorem rx_shl {x y : Operand} {t t' : Nat} {k k' : IntKind} {p q : Int} (hd : xR (some d) E.n = true) (hx : opV tm x = some (.c (.v (.int k p)))) (hy : opV tm y = some (.c (.v (.int k' q)))) (hr : 0 ≤ q)
    (h : regX P E ops K draw r ((xX (some d) (.c (.v (.int k (k.wrap (p * 2 ^ (min q.toNat k.bits)))))), ⟨(Oper.mk (some d) (.binOp .shl t x y t') ty pos aft g).looksAt ops, []⟩) :: acc) ⟨(d, .c (.v (.int k (k.wrap (p * 2 ^ (min q.toNat k.bits)))))) :: tm, ob, nx⟩) : regY P E ops K draw ⟨some d, .binOp .shl t x y t', ty, pos, aft, g⟩ r acc ⟨tm, ob, nx⟩ := by
  refine ⟨fun hw => ?_⟩
  obtain ⟨x1, x2⟩ := xI (ob := ob) (nx := nx) hx
  obtain ⟨y1, y2⟩ := xI (ob := ob) (nx := nx) hy
  refine regX.cons _ _ (zE rfl hw hd (by rw [x2, y2]; rfl) x1 y1 rfl (fun w => ?_)) rfl h
  have hq : ¬ q < 0 := by omega
  simp only [eqGuard, binOp]
  simp [Op.shift, hq]
theorem rx_shr {x y : Operand} {t t' : Nat} {k k' : IntKind} {p q : Int} (hd : xR (some d) E.n = true) (hx : opV tm x = some (.c (.v (.int k p)))) (hy : opV tm y = some (.c (.v (.int k' q)))) (hr : 0 ≤ q)
    (h : regX P E ops K draw r ((xX (some d) (.c (.v (.int k (p / 2 ^ (min q.toNat k.bits))))), ⟨(Oper.mk (some d) (.binOp .shr t x y t') ty pos aft g).looksAt ops, []⟩) :: acc) ⟨(d, .c (.v (.int k (p / 2 ^ (min q.toNat k.bits))))) :: tm, ob, nx⟩) : regY P E ops K draw ⟨some d, .binOp .shr t x y t', ty, pos, aft, g⟩ r acc ⟨tm, ob, nx⟩ := by
  refine ⟨fun hw => ?_⟩
  obtain ⟨x1, x2⟩ := xI (ob := ob) (nx := nx) hx
  obtain ⟨y1, y2⟩ := xI (ob := ob) (nx := nx) hy
  refine regX.cons _ _ (zE rfl hw hd (by rw [x2, y2]; rfl) x1 y1 rfl (fun w => ?_)) rfl h
  have hq : ¬ q < 0 := by omega
  simp only [eqGuard, binOp]
  have e : p.fdiv (2 ^ (min q.toNat k.bits)) = p / 2 ^ (min q.toNat k.bits) := Int.fdiv_eq_ediv_of_nonneg p (Int.le_of_lt (Int.pow_pos (by omega)))
  simp [Op.shift, hq, e]
theorem z6 {x y : Operand} {t t' : Nat} {p q : List UInt8} (hd : xR (some d) E.n = true) (hx : opV tm x = some (.c (str p))) (hy : opV tm y = some (.c (str q))) (hr : Bd (p.length + q.length ≤ 9223372036854775807))
    (h : regX P E ops K draw r ((xX (some d) (.c (str (p ++ q))), ⟨(Oper.mk (some d) (.binOp .add t x y t') ty pos aft g).looksAt ops, []⟩) :: acc) ⟨(d, .c (str (p ++ q))) :: tm, ob, nx⟩) : regY P E ops K draw ⟨some d, .binOp .add t x y t', ty, pos, aft, g⟩ r acc ⟨tm, ob, nx⟩ := by
  refine ⟨fun hw => ?_⟩
  obtain ⟨x1, x2⟩ := xI (ob := ob) (nx := nx) hx
  obtain ⟨y1, y2⟩ := xI (ob := ob) (nx := nx) hy
  refine regX.cons _ _ (zE rfl hw hd (by rw [x2, y2]; rfl) x1 y1 rfl (fun w => ?_)) rfl h
  replace hr := hr.h
  have e : ¬ ((((⟨⟨p⟩⟩ : ByteArray).size + (⟨⟨q⟩⟩ : ByteArray).size : Nat) : Int) > IntKind.i64.max) := by
    show ¬ (((p.length + q.length : Nat) : Int) > 9223372036854775807)
    omega
  have e2 : (⟨⟨p⟩⟩ : ByteArray) ++ ⟨⟨q⟩⟩ = ⟨⟨p ++ q⟩⟩ := by apply ByteArray.ext; simp
  show ((if (((⟨⟨p⟩⟩ : ByteArray).size + (⟨⟨q⟩⟩ : ByteArray).size : Nat) : Int) > IntKind.i64.max then unsupported (.resourceLimit "string concatenation: a sum of the lengths that is no int") else pure (.string ((⟨⟨p⟩⟩ : ByteArray) ++ ⟨⟨q⟩⟩)) : Sem Value)).run P w = _
  rw [if_neg e, e2]
  rfl
theorem xD {x y : Operand} {t : Nat} {l : List UInt8} {k : IntKind} {z : Int} {c : UInt8} {i : TyI} (kk : Nat) (hd : xR (some d) E.n = true) (hx : opV tm x = some (.c (str l))) (hy : opV tm y = some (.c (.v (.int k z)))) (hT : TabOk P T) (ht : lk t T = some i) (hs : i.isStr = true) (hz : z = (kk : Int)) (hc : l[kk]? = some c)
    (h : regX P E ops K draw r ((xX (some d) (.c (.v (.int .u8 c.toNat))), ⟨(Oper.mk (some d) (.index t x y) ty pos aft g).looksAt ops, []⟩) :: acc) ⟨(d, .c (.v (.int .u8 c.toNat))) :: tm, ob, nx⟩) : regY P E ops K draw ⟨some d, .index t x y, ty, pos, aft, g⟩ r acc ⟨tm, ob, nx⟩ := by
  refine ⟨fun hw => ?_⟩
  subst hz
  obtain ⟨x1, x2⟩ := xI (ob := ob) (nx := nx) hx
  obtain ⟨y1, y2⟩ := xI (ob := ob) (nx := nx) hy
  exact regX.cons _ _ (StepOk.indexStr rfl hw hd (by rw [x2, y2]; rfl) (hT.str ht hs) x1 y1 (Int.natCast_nonneg kk) (by rw [Int.toNat_natCast]; exact hc)) rfl h
theorem yD {x y : Operand} {t e sz bytes q off n : Nat} {k : IntKind} {z : Int} {obj : AObj} {i : TyI} {kk : Nat} (k0 : Nat) (hd : xR (some d) E.n = true) (hx : opV tm x = some (.c (.ref q off n))) (hy : opV tm y = some (.c (.v (.int k z)))) (hT : TabOk P T) (ht : lk t T = some i) (he : i.elem = some (e, sz, bytes)) (hob : (lk q ob).getD none = some obj) (hsz : obj.sz = sz) (hz : z = (k0 : Int)) (hn : k0 < n) (hkk : off + k0 = kk)
    (h : regX P E ops K draw r ((xX (some d) (.c (.ptr q kk 0)), ⟨(Oper.mk (some d) (.indexAddr t x y) ty pos aft g).looksAt ops, [q]⟩) :: acc) ⟨(d, .c (.ptr q kk 0)) :: tm, ob, nx⟩) : regY P E ops K draw ⟨some d, .indexAddr t x y, ty, pos, aft, g⟩ r acc ⟨tm, ob, nx⟩ := by
  refine ⟨fun hw => ?_⟩
  subst hz
  subst hkk
  obtain ⟨x1, x2⟩ := xI (ob := ob) (nx := nx) hx
  obtain ⟨y1, y2⟩ := xI (ob := ob) (nx := nx) hy
  have e : ((k0 : Int).toNat) = k0 := Int.toNat_natCast k0
  have h9 := StepOk.indexRef (P := P) (E := E) (ops := ops) (o := ⟨some d, .indexAddr t x y, ty, pos, aft, g⟩) (s := ⟨tm, ob, nx⟩) rfl hw hd (by rw [x2, y2]; rfl) (hT.elem ht he).under x1 y1 (Int.natCast_nonneg k0) (by omega) hob (by rw [hsz]; exact (hT.elem ht he).size)
  rw [e] at h9
  exact regX.cons _ _ h9 rfl h
theorem yN {x y : Operand} {t e sz bytes : Nat} {k : IntKind} {z : Int} {xs : List (List Cell)} {el : List Cell} {i : TyI} (kk : Nat) (hd : xR (some d) E.n = true) (hx : opV tm x = some (.c (.sl xs))) (hy : opV tm y = some (.c (.v (.int k z)))) (hT : TabOk P T) (ht : lk t T = some i) (he : i.elem = some (e, sz, bytes)) (hz : z = (kk : Int)) (hel : xs[kk]? = some el) (hsz : el.length = sz)
    (h : regX P E ops K draw r ((xX (some d) (.c (.ip el)), ⟨(Oper.mk (some d) (.indexAddr t x y) ty pos aft g).looksAt ops, []⟩) :: acc) ⟨(d, .c (.ip el)) :: tm, ob, nx⟩) : regY P E ops K draw ⟨some d, .indexAddr t x y, ty, pos, aft, g⟩ r acc ⟨tm, ob, nx⟩ := by
  refine ⟨fun hw => ?_⟩
  subst hz
  obtain ⟨x1, x2⟩ := xI (ob := ob) (nx := nx) hx
  obtain ⟨y1, y2⟩ := xI (ob := ob) (nx := nx) hy
  exact regX.cons _ _ (StepOk.indexSl rfl hw hd (by rw [x2, y2]; rfl) (hT.elem ht he).under x1 y1 (Int.natCast_nonneg kk) (by rw [Int.toNat_natCast]; exact hel) (by rw [hsz]; exact (hT.elem ht he).size)) rfl h
theorem z7 {x : Operand} {t q i0 f : Nat} {obj : AObj} {el : List Cell} {c : Cell} {i : TyI} (hd : xR (some d) E.n = true) (hx : opV tm x = some (.c (.ptr q i0 f))) (hT : TabOk P T) (ht : lk t T = some i) (ha : i.agg = false) (hob : (lk q ob).getD none = some obj) (hel : obj.els[i0]? = some el) (hc : el[f]? = some c)
    (h : regX P E ops K draw r ((xX (some d) (.c c), ⟨(Oper.mk (some d) (.load t x) ty pos aft g).looksAt ops, [q]⟩) :: acc) ⟨(d, .c c) :: tm, ob, nx⟩) : regY P E ops K draw ⟨some d, .load t x, ty, pos, aft, g⟩ r acc ⟨tm, ob, nx⟩ := by
  refine ⟨fun hw => ?_⟩
  obtain ⟨x1, x2⟩ := xI (ob := ob) (nx := nx) hx
  exact regX.cons _ _ (StepOk.load rfl hw hd x2 (by rw [← ha]; exact hT.agg ht) x1 hob hel hc) rfl h
theorem zP {x : Operand} {t q i0 f : Nat} {obj : AObj} {el cs : List Cell} {i : TyI} (hd : xR (some d) E.n = true) (hx : opV tm x = some (.c (.ptr q i0 f))) (hT : TabOk P T) (ht : lk t T = some i) (ha : i.agg = true) (hob : (lk q ob).getD none = some obj) (hel : obj.els[i0]? = some el) (hl : f + i.size ≤ el.length) (hc : (el.drop f).take i.size = cs)
    (h : regX P E ops K draw r ((xX (some d) (.agg cs), ⟨(Oper.mk (some d) (.load t x) ty pos aft g).looksAt ops, [q]⟩) :: acc) ⟨(d, .agg cs) :: tm, ob, nx⟩) : regY P E ops K draw ⟨some d, .load t x, ty, pos, aft, g⟩ r acc ⟨tm, ob, nx⟩ := by
  refine ⟨fun hw => ?_⟩
  obtain ⟨x1, x2⟩ := xI (ob := ob) (nx := nx) hx
  subst hc
  exact regX.cons _ _ (StepOk.loadAgg rfl hw hd x2 (by rw [← ha]; exact hT.agg ht) (hT.size ht) x1 hob hel hl) rfl h
theorem yM {x : Operand} {low high : Option Operand} {t lo hi : Nat} {i : TyI} {l l' : List UInt8} (hd : xR (some d) E.n = true) (hx : opV tm x = some (.c (str l))) (hT : TabOk P T) (ht : lk t T = some i) (hs : i.isStr = true) (hl : OptI ⟨tm, ob, nx⟩ 0 low lo) (hh : OptI ⟨tm, ob, nx⟩ l.length high hi) (h1 : lo ≤ hi) (h2 : hi ≤ l.length) (hc : (l.drop lo).take (hi - lo) = l')
    (h : regX P E ops K draw r ((xX (some d) (.c (str l')), ⟨(Oper.mk (some d) (.slice t x low high none) ty pos aft g).looksAt ops, []⟩) :: acc) ⟨(d, .c (str l')) :: tm, ob, nx⟩) : regY P E ops K draw ⟨some d, .slice t x low high none, ty, pos, aft, g⟩ r acc ⟨tm, ob, nx⟩ := by
  refine ⟨fun hw => ?_⟩
  obtain ⟨x1, x2⟩ := xI (ob := ob) (nx := nx) hx
  subst hc
  exact regX.cons _ _ (StepOk.sliceStr rfl hw hd x2 (hT.str ht hs) x1 hl.h hh.h h1 h2) rfl h
theorem yE {x : Operand} {low high : Option Operand} {t lo hi : Nat} {i : TyI} {e sz bytes : Nat} {xs xs' : List (List Cell)} (hd : xR (some d) E.n = true) (hx : opV tm x = some (.c (.sl xs))) (hT : TabOk P T) (ht : lk t T = some i) (he : i.elem = some (e, sz, bytes)) (hl : OptI ⟨tm, ob, nx⟩ 0 low lo) (hh : OptI ⟨tm, ob, nx⟩ xs.length high hi) (h1 : lo ≤ hi) (h2 : hi ≤ xs.length) (hxs : Bd (∀ x ∈ xs, x.length = sz)) (hc : (xs.drop lo).take (hi - lo) = xs')
    (h : regX P E ops K draw r ((xX (some d) (.c (.sl xs')), ⟨(Oper.mk (some d) (.slice t x low high none) ty pos aft g).looksAt ops, []⟩) :: acc) ⟨(d, .c (.sl xs')) :: tm, ob, nx⟩) : regY P E ops K draw ⟨some d, .slice t x low high none, ty, pos, aft, g⟩ r acc ⟨tm, ob, nx⟩ := by
  refine ⟨fun hw => ?_⟩
  obtain ⟨x1, x2⟩ := xI (ob := ob) (nx := nx) hx
  subst hc
  exact regX.cons _ _ (StepOk.sliceSl rfl hw hd x2 (hT.elem ht he).under (hT.elem ht he).size hxs.h x1 hl.h hh.h h1 h2) rfl h
theorem yC {x : Operand} {low high : Option Operand} {t lo hi : Nat} {i : TyI} {e sz bytes q off n : Nat} {obj : AObj} (hd : xR (some d) E.n = true) (hx : opV tm x = some (.c (.ref q off n))) (hT : TabOk P T) (ht : lk t T = some i) (he : i.elem = some (e, sz, bytes)) (hob : (lk q ob).getD none = some obj) (hsz : obj.sz = sz) (hl : OptI ⟨tm, ob, nx⟩ 0 low lo) (hh : OptI ⟨tm, ob, nx⟩ n high hi) (h1 : lo ≤ hi) (h2 : hi ≤ n)
    (h : regX P E ops K draw r ((xX (some d) (.c (.ref q (off + lo) (hi - lo))), ⟨(Oper.mk (some d) (.slice t x low high none) ty pos aft g).looksAt ops, [q]⟩) :: acc) ⟨(d, .c (.ref q (off + lo) (hi - lo))) :: tm, ob, nx⟩) : regY P E ops K draw ⟨some d, .slice t x low high none, ty, pos, aft, g⟩ r acc ⟨tm, ob, nx⟩ := by
  refine ⟨fun hw => ?_⟩
  obtain ⟨x1, x2⟩ := xI (ob := ob) (nx := nx) hx
  exact regX.cons _ _ (StepOk.sliceRef rfl hw hd x2 (hT.elem ht he).under x1 hob (by rw [hsz]; exact (hT.elem ht he).size) hl.h hh.h h1 h2) rfl h
theorem yX {x y z : Operand} {t e sz bytes q n : Nat} {k k' : IntKind} {i : TyI} {obj : AObj} (hd : xR (some d) E.n = true) (hm : Nat.ble E.m nx = true) (hx : opV tm x = some (.c (.ref q 0 n))) (hy : opV tm y = some (.c (.v (.int k (n : Int))))) (hz : opV tm z = some (.c (.v (.int k' (n : Int))))) (hT : TabOk P T) (ht : lk t T = some i) (he : i.elem = some (e, sz, bytes)) (hob : (lk q ob).getD none = some obj) (hsz : obj.sz = sz) (hn : n = obj.els.length)
    (h : regX P E ops K draw r ((jD (some d) (.c (.ref nx 0 n)) (some q) nx obj, ⟨(Oper.mk (some d) (.slice t x none (some y) (some z)) ty pos aft g).looksAt ops, [q]⟩) :: acc) ⟨(d, .c (.ref nx 0 n)) :: tm, (nx, some obj) :: (q, none) :: ob, nx + 1⟩) : regY P E ops K draw ⟨some d, .slice t x none (some y) (some z), ty, pos, aft, g⟩ r acc ⟨tm, ob, nx⟩ := by
  refine ⟨fun hw => ?_⟩
  obtain ⟨x1, x2⟩ := xI (ob := ob) (nx := nx) hx
  obtain ⟨y1, y2⟩ := xI (ob := ob) (nx := nx) hy
  obtain ⟨z1, z2⟩ := xI (ob := ob) (nx := nx) hz
  exact regX.cons _ _ (StepOk.clip rfl hw hd (by rw [x2, y2, z2]; rfl) hm (hT.elem ht he).under x1 y1 z1 hob hn (by rw [hsz]; exact (hT.elem ht he).size)) rfl h
theorem yB {t : Nat} {i : TyI} {cs : List Cell} (hd : xR (some d) E.n = true) (hm : Nat.ble E.m nx = true) (hT : TabOk P T) (ht : lk t T = some i) (h1 : i.zero.all (·.oneCell') = true) (hc : i.zero.map wL = cs)
    (h : regX P E ops K draw r ((kY (some d) (.c (.ptr nx 0 0)) nx ⟨t, cs.length, [cs]⟩, ⟨(Oper.mk (some d) (.alloc t) ty pos aft g).looksAt ops, []⟩) :: acc) ⟨(d, .c (.ptr nx 0 0)) :: tm, (nx, some ⟨t, cs.length, [cs]⟩) :: ob, nx + 1⟩) : regY P E ops K draw ⟨some d, .alloc t, ty, pos, aft, g⟩ r acc ⟨tm, ob, nx⟩ := by
  refine ⟨fun hw => ?_⟩
  subst hc
  have h0 : (i.zero.map wL).length = i.zero.length := by simp
  rw [h0] at h
  exact regX.cons _ _ (StepOk.alloc rfl hw hd hm (hT.zero ht) h1) rfl h
theorem y4 {t : Nat} {parts : Array (Nat × Operand)} {i : TyI} {ps : List (Nat × List Cell)} {cs : List Cell} (hd : xR (some d) E.n = true) (hop : parts.toList.all (fun p => opB p.2) = true) (hT : TabOk P T) (ht : lk t T = some i) (h1 : i.zero.all (·.oneCell') = true) (hn : Bd (i.places ≠ [])) (hps : kQ ⟨tm, ob, nx⟩ i.places parts.toList = some ps) (hf : fitsB i.zero.length ps = true) (hc : fillL (i.zero.map wL) ps = cs)
    (h : regX P E ops K draw r ((xX (some d) (.agg cs), ⟨(Oper.mk (some d) (.build t parts) ty pos aft g).looksAt ops, []⟩) :: acc) ⟨(d, .agg cs) :: tm, ob, nx⟩) : regY P E ops K draw ⟨some d, .build t parts, ty, pos, aft, g⟩ r acc ⟨tm, ob, nx⟩ := by
  refine ⟨fun hw => ?_⟩
  subst hc
  exact regX.cons _ _ (StepOk.build rfl hw hd hop (hT.zero ht) h1 (hT.places ht hn.h) hps hf) rfl h
theorem zU {t n e sz bytes : Nat} {parts : Array (Nat × Operand)} {i j : TyI} {els : List (List Cell)} (hd : xR (some d) E.n = true) (hop : parts.toList.all (fun p => opB p.2) = true) (hm : Nat.ble E.m nx = true) (hT : TabOk P T) (ht : lk t T = some i) (he : i.elem = some (e, sz, bytes)) (hte : lk e T = some j) (h1 : j.zero.all (·.oneCell') = true) (hn : Nat.ble (n * sz) 16777216 = true) (hps : qM ⟨tm, ob, nx⟩ sz parts.toList (List.replicate n (j.zero.map wL)) = some els)
    (h : regX P E ops K draw r ((kY (some d) (.c (.ref nx 0 n)) nx ⟨e, sz, els⟩, ⟨(Oper.mk (some d) (.buildSlice t n parts) ty pos aft g).looksAt ops, []⟩) :: acc) ⟨(d, .c (.ref nx 0 n)) :: tm, (nx, some ⟨e, sz, els⟩) :: ob, nx + 1⟩) : regY P E ops K draw ⟨some d, .buildSlice t n parts, ty, pos, aft, g⟩ r acc ⟨tm, ob, nx⟩ := by
  refine ⟨fun hw => ?_⟩
  exact regX.cons _ _ (StepOk.buildSlice rfl hw hd hop hm (hT.elem ht he) (hT.zero hte) h1 hn hps) rfl h
theorem rx_makeSlice {x y : Operand} {t e sz bytes n : Nat} {k k' : IntKind} {zx zy : Int} {i j : TyI} {els : List (List Cell)} (hd : xR (some d) E.n = true) (hm : Nat.ble E.m nx = true) (hT : TabOk P T) (ht : lk t T = some i) (he : i.elem = some (e, sz, bytes)) (hte : lk e T = some j) (h1 : j.zero.all (·.oneCell') = true) (hx : opV tm x = some (.c (.v (.int k zx)))) (hy : opV tm y = some (.c (.v (.int k' zy)))) (hnx : zx = (n : Int)) (hny : zy = (n : Int)) (hb : Bd (bytes * n ≤ 281474976710656)) (hl : Bd (n ≤ 281474976710656)) (hc : List.replicate n (j.zero.map wL) = els)
    (h : regX P E ops K draw r ((kY (some d) (.c (.ref nx 0 n)) nx ⟨e, sz, els⟩, ⟨(Oper.mk (some d) (.makeSlice t x y) ty pos aft g).looksAt ops, []⟩) :: acc) ⟨(d, .c (.ref nx 0 n)) :: tm, (nx, some ⟨e, sz, els⟩) :: ob, nx + 1⟩) : regY P E ops K draw ⟨some d, .makeSlice t x y, ty, pos, aft, g⟩ r acc ⟨tm, ob, nx⟩ := by
  refine ⟨fun hw => ?_⟩
  obtain ⟨x1, x2⟩ := xI (ob := ob) (nx := nx) hx
  obtain ⟨y1, y2⟩ := xI (ob := ob) (nx := nx) hy
  subst hc
  exact regX.cons _ _ (StepOk.makeSlice rfl hw hd (by rw [x2, y2]; rfl) hm (hT.elem ht he) (hT.zero hte) h1 x1 y1 hnx hny hb.h (Nat.le_trans hl.h (by decide))) rfl h
theorem yZ {x y : Operand} {t e sz bytes : Nat} {i : TyI} {cy : Cell} {obs : List Nat} {els news all : List (List Cell)} {n : Nat} {q k : Nat} (hd : xR (some d) E.n = true) (hx : opV tm x = some (.c (.ref q 0 k))) (hob : (lk q ob).getD none = some ⟨e, sz, els⟩) (hkl : k = els.length) (hm : Nat.ble E.m nx = true) (hT : TabOk P T) (ht : lk t T = some i) (he : i.elem = some (e, sz, bytes)) (hy : opV tm y = some (.c cy)) (hn : wT ⟨tm, ob, nx⟩ cy = some (obs, news)) (hsz : Bd (∀ x ∈ news, x.length = sz)) (hb : Bd ((els.length + news.length) * bytes ≤ 140737488355328)) (hl : Bd (els.length + news.length ≤ 281474976710656)) (hc : els ++ news = all) (hk : els.length + news.length = n)
    (h : regX P E ops K draw r ((jD (some d) (.c (.ref nx 0 n)) (some q) nx ⟨e, sz, all⟩, ⟨(Oper.mk (some d) (.call { callee := .builtin .append, args := #[x, y], argTypes := #[t, t] }) ty pos aft g).looksAt ops, (some q).toList ++ obs⟩) :: acc) ⟨(d, .c (.ref nx 0 n)) :: tm, (nx, some ⟨e, sz, all⟩) :: (q, none) :: ob, nx + 1⟩) : regY P E ops K draw ⟨some d, .call { callee := .builtin .append, args := #[x, y], argTypes := #[t, t] }, ty, pos, aft, g⟩ r acc ⟨tm, ob, nx⟩ := by
  refine ⟨fun hw => ?_⟩
  obtain ⟨x1, x2⟩ := xI (ob := ob) (nx := nx) hx
  obtain ⟨y1, y2⟩ := xI (ob := ob) (nx := nx) hy
  subst hc
  subst hk
  exact regX.cons _ _ (StepOk.append (qo := some q) rfl hw hd (by rw [x2, y2]; rfl) hm (hT.elem ht he) x1 ⟨rfl, rfl, hob, hkl⟩ y1 hn hsz.h hb.h (Nat.le_trans hl.h (by decide))) rfl h
theorem yY {x y : Operand} {t e sz bytes : Nat} {i : TyI} {cy : Cell} {obs : List Nat} {news all : List (List Cell)} {n : Nat} (hd : xR (some d) E.n = true) (hx : opV tm x = some (.c .nil)) (hm : Nat.ble E.m nx = true) (hT : TabOk P T) (ht : lk t T = some i) (he : i.elem = some (e, sz, bytes)) (hy : opV tm y = some (.c cy)) (hn : wT ⟨tm, ob, nx⟩ cy = some (obs, news)) (hsz : Bd (∀ x ∈ news, x.length = sz)) (hb : Bd ((0 + news.length) * bytes ≤ 140737488355328)) (hl : Bd (0 + news.length ≤ 281474976710656)) (hc : news = all) (hk : 0 + news.length = n)
    (h : regX P E ops K draw r ((jD (some d) (.c (.ref nx 0 n)) none nx ⟨e, sz, all⟩, ⟨(Oper.mk (some d) (.call { callee := .builtin .append, args := #[x, y], argTypes := #[t, t] }) ty pos aft g).looksAt ops, (none : Option Nat).toList ++ obs⟩) :: acc) ⟨(d, .c (.ref nx 0 n)) :: tm, (nx, some ⟨e, sz, all⟩) :: ob, nx + 1⟩) : regY P E ops K draw ⟨some d, .call { callee := .builtin .append, args := #[x, y], argTypes := #[t, t] }, ty, pos, aft, g⟩ r acc ⟨tm, ob, nx⟩ := by
  refine ⟨fun hw => ?_⟩
  obtain ⟨x1, x2⟩ := xI (ob := ob) (nx := nx) hx
  obtain ⟨y1, y2⟩ := xI (ob := ob) (nx := nx) hy
  subst hc
  subst hk
  exact regX.cons _ _ (StepOk.append (qo := none) (els := []) rfl hw hd (by rw [x2, y2]; rfl) hm (hT.elem ht he) x1 ⟨rfl, rfl⟩ y1 hn hsz.h hb.h (Nat.le_trans hl.h (by decide))) rfl h
theorem rx_makeFunc {f : Nat} {captured : Array Operand} {vs : List AVal} {caps : List Cell} (hd : xR (some d) E.n = true) (hc : jC tm captured.toList = some vs) (hcs : qT vs = some caps)
    (h : regX P E ops K draw r ((xX (some d) (.c (.fn f caps)), ⟨(Oper.mk (some d) (.makeFunc (.func f) #[] captured) ty pos aft g).looksAt ops, []⟩) :: acc) ⟨(d, .c (.fn f caps)) :: tm, ob, nx⟩) : regY P E ops K draw ⟨some d, .makeFunc (.func f) #[] captured, ty, pos, aft, g⟩ r acc ⟨tm, ob, nx⟩ := by
  refine ⟨fun hw => ?_⟩
  cases cellsC_ok hcs
  obtain ⟨e1, e2⟩ := opVs_ok (ob := ob) (nx := nx) hc
  exact regX.cons _ _ (StepOk.makeFunc rfl hw hd e2 e1) rfl h
theorem rx_call {fo : Operand} {args : Array Operand} {ats : Array TypeId} {f : Nat} {caps caps' : List Cell} {vs as' : List AVal} {fr : List AObj} {rv rv' : AVal} (V : List Nat) (hd : xR (some d) E.n = true) (hx : opV tm fo = some (.c (.fn f caps))) (hvs : jC tm args.toList = some vs) (hm : Nat.ble E.m nx = true) (hV : V.all (fun q => ((lk q ob).getD none).isSome) = true) (hargs : VAs ⟨tm, ob, nx⟩ V vs as') (hcaps : VCs ⟨tm, ob, nx⟩ V caps caps') (hpf : PF P f (as' ++ caps'.map AVal.c) fr rv) (hfl : kV rv) (hfr : frOk fr) (hrv : shV nx rv = rv')
    (h : regX P E ops K draw r ((callU (some d) rv nx fr, ⟨(Oper.mk (some d) (.call { callee := .value fo, args := args, argTypes := ats }) ty pos aft g).looksAt ops, V⟩) :: acc) ⟨(d, rv') :: tm, vQ nx (fr.map some) ++ ob, nx + fr.length⟩) : regY P E ops K draw ⟨some d, .call { callee := .value fo, args := args, argTypes := ats }, ty, pos, aft, g⟩ r acc ⟨tm, ob, nx⟩ := by
  refine ⟨fun hw => ?_⟩
  obtain ⟨x1, x2⟩ := xI (ob := ob) (nx := nx) hx
  obtain ⟨e1, e2⟩ := opVs_ok (ob := ob) (nx := nx) hvs
  subst hrv
  refine regX.cons _ _ (StepOk.call V rfl hw hd (by rw [x2, e2]; rfl) hm hV x1 (by rw [e1]; exact hargs) hcaps hpf hfl hfr.all) rfl h
theorem rx_callM {fo : Operand} {args : Array Operand} {ats : Array TypeId} {f : Nat} {caps caps' : List Cell} {vs as' : List AVal} {ins : List AObj} {outs : List (Option AObj)} {rv rv' : AVal} {ob' : List (Nat × Option AObj)} (z : Bool) (V μ : List Nat) (hd : xR (some d) E.n = true) (hx : opV tm fo = some (.c (.fn f caps))) (hvs : jC tm args.toList = some vs) (hm : Nat.ble E.m nx = true) (hV : V.all (fun q => ((lk q ob).getD none).isSome) = true) (hz : z = true → V = []) (hμ : nodupB μ = true) (hdis : disjB V μ = true) (hlt : μ.all (fun q => Nat.blt q nx) = true) (hins : All2 (fun q obj => (AS.mk tm ob nx).obj q = some obj) μ ins) (hlen : ins.length ≤ outs.length) (hargs : MAs ⟨tm, ob, nx⟩ V μ vs as') (hcaps : MCs ⟨tm, ob, nx⟩ V μ caps caps') (hpf : PFM P f ins (as' ++ caps'.map AVal.c) outs rv) (hfl : z = false → kV rv) (hfr : z = false → outsOk outs) (him : ∀ obj, some obj ∈ outs → ∀ x ∈ obj.els, ∀ c ∈ x, Imm c) (hii : ∀ obj ∈ ins, ∀ x ∈ obj.els, ∀ c ∈ x, Imm c) (hrv : reV μ nx rv = rv') (hob : qS μ nx 0 outs ++ ob = ob')
    (h : regX P E ops K draw r ((callMU (some d) rv μ nx outs, ⟨(Oper.mk (some d) (.call { callee := .value fo, args := args, argTypes := ats }) ty pos aft g).looksAt ops, V ++ μ⟩) :: acc) ⟨(d, rv') :: tm, ob', nx + (outs.length - μ.length)⟩) : regY P E ops K draw ⟨some d, .call { callee := .value fo, args := args, argTypes := ats }, ty, pos, aft, g⟩ r acc ⟨tm, ob, nx⟩ := by
  refine ⟨fun hw => ?_⟩
  obtain ⟨x1, x2⟩ := xI (ob := ob) (nx := nx) hx
  obtain ⟨e1, e2⟩ := opVs_ok (ob := ob) (nx := nx) hvs
  subst hrv
  subst hob
  refine regX.cons _ _ (StepOk.callM z V μ rfl hw hd (by rw [x2, e2]; rfl) hm hV hz hμ hdis hlt hins hlen x1 (by rw [e1]; exact hargs) hcaps hpf hfl hfr him hii) rfl h
structure callK (P : Program) (E : Env) (ops : Array Oper) (K : AS → Prop) (draw : Bool) (r : List Oper) (acc : List (Upd × Foot)) (tm : List (Nat × AVal)) (ob : List (Nat × Option AObj)) (nx d : Nat) (fr : List AObj) (rv : AVal) (f : List Nat × List Nat) : Prop where
  hfr : frOk fr
  h : regX P E ops K draw r ((callU (some d) rv nx fr, ⟨f.1, f.2⟩) :: acc) ⟨(d, shV nx rv) :: tm, vQ nx (fr.map some) ++ ob, nx + fr.length⟩
theorem yJ {rv rv' : AVal} {f : List Nat × List Nat} (hrv : shV nx rv = rv') (h : regX P E ops K draw r ((callU (some d) rv nx [], ⟨f.1, f.2⟩) :: acc) ⟨(d, rv') :: tm, ob, nx⟩) : callK P E ops K draw r acc tm ob nx d [] rv f := by
  subst hrv
  exact ⟨trivial, h⟩
theorem yK {fr : List AObj} {rv rv' : AVal} {f : List Nat × List Nat} (hfr : frOk fr) (hrv : shV nx rv = rv') (h : regX P E ops K draw r ((callU (some d) rv nx fr, ⟨f.1, f.2⟩) :: acc) ⟨(d, rv') :: tm, vQ nx (fr.map some) ++ ob, nx + fr.length⟩) : callK P E ops K draw r acc tm ob nx d fr rv f := by
  subst hrv
  exact ⟨hfr, h⟩
theorem wU {fo : Operand} {args : Array Operand} {ats : Array TypeId} {f : Nat} {caps caps' : List Cell} {vs as' : List AVal} {fr : List AObj} {rv : AVal} (V : List Nat) (hd : xR (some d) E.n = true) (hx : opV tm fo = some (.c (.fn f caps))) (hvs : jC tm args.toList = some vs) (hm : Nat.ble E.m nx = true) (hV : V.all (fun q => ((lk q ob).getD none).isSome) = true) (hargs : VAs ⟨tm, ob, nx⟩ V vs as') (hcaps : VCs ⟨tm, ob, nx⟩ V caps caps') (hpf : PF P f (as' ++ caps'.map AVal.c) fr rv) (hfl : kV rv)
    (h : callK P E ops K draw r acc tm ob nx d fr rv ((Oper.mk (some d) (.call { callee := .value fo, args := args, argTypes := ats }) ty pos aft g).looksAt ops, V)) : regY P E ops K draw ⟨some d, .call { callee := .value fo, args := args, argTypes := ats }, ty, pos, aft, g⟩ r acc ⟨tm, ob, nx⟩ :=
  rx_call V hd hx hvs hm hV hargs hcaps hpf hfl h.hfr rfl h.h
theorem xW {o : Oper} {s : AS} (hw : Want E ops o s) (h : regY P E ops K draw o r acc s) : regX P E ops K draw (o :: r) acc s := h.h hw
theorem zX {o : Oper} {s : AS} {j t : Nat} {b c : Bool} (h : o.guard = some (j, b)) (ht : (ops[j]?).bind (·.dst) = some t) (hs : s.get t = .c (.v (.bool c))) (hl : Nat.ble (t + 1) E.n = true) (hc : c = b) : Want E ops o s := Want.some_ h ht (by rw [hs, hc]) hl
theorem yH {x y : Operand} {t q i0 f : Nat} {obj : AObj} {el cs : List Cell} {v : AVal} {i : TyI} {els' : List (List Cell)} (hx : opV tm x = some (.c (.ptr q i0 f))) (hy : opV tm y = some v) (hcs : cellsOf v = some cs) (hT : TabOk P T) (ht : lk t T = some i) (hn : i.size = cs.length)
    (hob : (lk q ob).getD none = some obj) (hel : obj.els[i0]? = some el) (hl : f + cs.length ≤ el.length) (hc : obj.els.set i0 (el.take f ++ cs ++ el.drop (f + cs.length)) = els')
    (h : regX P E ops K draw r ((storeU none q ⟨obj.ty, obj.sz, els'⟩, ⟨(Oper.mk none (.store t x y) ty pos aft g).looksAt ops, [q]⟩) :: acc) ⟨tm, (q, some ⟨obj.ty, obj.sz, els'⟩) :: ob, nx⟩) : regY P E ops K draw ⟨none, .store t x y, ty, pos, aft, g⟩ r acc ⟨tm, ob, nx⟩ := by
  refine ⟨fun hw => ?_⟩
  obtain ⟨x1, x2⟩ := xI (ob := ob) (nx := nx) hx
  obtain ⟨y1, y2⟩ := xI (ob := ob) (nx := nx) hy
  subst y1
  subst hc
  exact regX.cons _ _ (StepOk.store rfl hw rfl (by rw [x2, y2]; rfl) x1 hcs (by rw [← hn]; exact hT.size ht) hob hel hl) rfl h
end
end
section
variable {P : Program} {E : Env} {K : Exit → AS → Prop} {s : AS}
theorem zH {next : AS → Prop} (h : next s) : thenK next K .normal s := .normal h
theorem zQ {next : AS → Prop} {id : Nat} (h : K (.exit id) s) : thenK next K (.exit id) s := .other (fun e => by cases e) h
theorem zK {next : AS → Prop} (h : K .ret s) : thenK next K .ret s := .other (fun e => by cases e) h
theorem zJ {id : Nat} (h : K .normal s) : blockK id K .normal s := .other (fun e => by cases e) h
theorem zL {id : Nat} (h : K .ret s) : blockK id K .ret s := .other (fun e => by cases e) h
theorem zO {id : Nat} (h : K .normal s) : blockK id K (.exit id) s := .here h
theorem zM {id id' : Nat} (hne : Nat.beq id' id = false) (h : K (.exit id') s) : blockK id K (.exit id') s :=
  .other (fun e => by cases e; simp at hne) h
theorem AWp.T {t : Nat} {x y : Code} {c : Bool} (hs : s.get t = .c (.v (.bool c))) (hc : c = true) (h : AWp P E x K s) : AWp P E (.cond (.tmp t) x y) K s := by
  subst hc
  exact AWp.O true hs (fun _ => h) (fun e => by cases e)
theorem AWp.F {t : Nat} {x y : Code} {c : Bool} (hs : s.get t = .c (.v (.bool c))) (hc : c = false) (h : AWp P E y K s) : AWp P E (.cond (.tmp t) x y) K s := by
  subst hc
  exact AWp.O false hs (fun e => by cases e) (fun _ => h)
theorem AWp.C {t : Nat} {x y : Code} {p : Prop} {_ : Decidable p} (hs : s.get t = .c (.v (.bool (decide p)))) (h1 : p → AWp P E x K s) (h0 : ¬ p → AWp P E y K s) : AWp P E (.cond (.tmp t) x y) K s :=
  AWp.O (decide p) hs (fun e => h1 (of_decide_eq_true e)) (fun e => h0 (of_decide_eq_false e))
end
theorem xB (k : Nat) (x : Value) : shV k (.c (.v x)) = .c (.v x) := rfl
theorem xC (k : Nat) (x y : Value) : shV k (.tup [.c (.v x), .c (.v y)]) = .tup [.c (.v x), .c (.v y)] := rfl
theorem y9 (k : Nat) (x y z : Value) : shV k (.tup [.c (.v x), .c (.v y), .c (.v z)]) = .tup [.c (.v x), .c (.v y), .c (.v z)] := rfl
theorem y8 (k : Nat) : shV k (.c .nil) = .c .nil := rfl
theorem yV (k : Nat) (x : Value) : shV k (.tup [.c .nil, .c (.v x)]) = .tup [.c .nil, .c (.v x)] := rfl
theorem xA (k q off n : Nat) : shV k (.c (.ref q off n)) = .c (.ref (k + q) off n) := rfl
theorem yU (k q off n : Nat) (x : Value) : shV k (.tup [.c (.ref q off n), .c (.v x)]) = .tup [.c (.ref (k + q) off n), .c (.v x)] := rfl
theorem yW (k q off n : Nat) : shV k (.agg [.ref q off n]) = .agg [.ref (k + q) off n] := rfl
theorem yI (k q off n : Nat) (x : Value) : shV k (.tup [.agg [.ref q off n], .c (.v x)]) = .tup [.agg [.ref (k + q) off n], .c (.v x)] := rfl
theorem yL (k : Nat) (x : Value) : shV k (.tup [.agg [.nil], .c (.v x)]) = .tup [.agg [.nil], .c (.v x)] := rfl
theorem PF.enter {P : Program} {f : Nat} {fn : Func} {c : Code} {as : List AVal} {tm : List (Nat × AVal)} {fr : List AObj} {rv : AVal} (htm : vQ 0 as = tm) (hf : P.funcs[f]? = some fn) (hb : fn.body = some c) (hnm : (fn.name == "runtime.NumGoroutine") = false)
    (n : Nat) (res : List ResultVar) (hn : fn.ntmps = n) (hl : Nat.ble as.length n = true) (hres : fn.results = res.toArray)
    (h : ∀ w0 mu I0 β0 gi dis, AWp P ⟨w0, mu, I0, n, β0, 0, gi, dis⟩ c (retK P res (fr.map some) rv 0) ⟨tm, [], 0⟩) : PF P f as fr rv := by
  subst htm
  exact PFM.enter hf hb hnm n res hn hl hres h
theorem xJ {α : Type} (a : α) : vQ 0 [a] = [(0, a)] := rfl
theorem xG {α : Type} (a b : α) : vQ 0 [a, b] = [(0, a), (1, b)] := rfl
theorem enum3 {α : Type} (a b c : α) : vQ 0 [a, b, c] = [(0, a), (1, b), (2, c)] := rfl
theorem zN {P : Program} {tm : List (Nat × AVal)} {ob : List (Nat × Option AObj)} {nx t : Nat} {x : AVal} (h : lk t tm = some x) : resVal P ⟨tm, ob, nx⟩ (.tmp t) x := .tmp (by simp only [AS.get, h]; rfl)
theorem y5 {P : Program} {tm : List (Nat × AVal)} {ob : List (Nat × Option AObj)} {nx a ty q : Nat} {obj : AObj} {cs : List Cell} {i : TyI} {T : List (Nat × TyI)} (h : lk a tm = some (.c (.ptr q 0 0))) (hq : (lk q ob).getD none = some obj) (he : obj.els = [cs]) (hT : TabOk P T) (ht : lk ty T = some i) (ha : i.agg = true) (hn : i.size = cs.length) :
    resVal P ⟨tm, ob, nx⟩ (.cell a ty) (.agg cs) := .agg (by simp only [AS.get, h]; rfl) hq he (by rw [← ha]; exact hT.agg ht) (by rw [← hn]; exact hT.size ht)
theorem zV {P : Program} {res : List ResultVar} {outs : List (Option AObj)} {rv : AVal} {m : Nat} {s : AS} (xs : List AVal) (ρ : Ren) (h1 : resAll P s res xs) (h2 : VW ρ (mkRes xs) rv) (h3 : renB ρ m outs.length = true) (h4 : obW ρ s (vQ 0 outs)) : retK P res outs rv m .ret s :=
  ⟨.inr rfl, xs, ρ, h1, h2, h3, h4⟩
theorem zW {P : Program} {res : List ResultVar} {outs : List (Option AObj)} {rv : AVal} {m : Nat} {s : AS} (xs : List AVal) (ρ : Ren) (h1 : resAll P s res xs) (h2 : VW ρ (mkRes xs) rv) (h3 : renB ρ m outs.length = true) (h4 : obW ρ s (vQ 0 outs)) : retK P res outs rv m .normal s :=
  ⟨.inl rfl, xs, ρ, h1, h2, h3, h4⟩
end Go.Proofs.YtjeffognhcbiaaaGreatDoor

namespace Go.Proofs.YtjeffognhcbiaaaGreatDoor
open Go Go.RowKit

structure Eff where
  v : AVal
  ob : List (Nat × Option AObj)
  nx : Nat
  u : Upd
  obs : List Nat

def kN {α : Type} : List α → Nat → Option α
  | [], _ => none
  | x :: _, 0 => some x
  | _ :: xs, n + 1 => kN xs n
theorem nthE_eq {α : Type} : ∀ (l : List α) (n : Nat), kN l n = l[n]?
  | [], n => by simp [kN]
  | x :: xs, 0 => by simp [kN]
  | x :: xs, n + 1 => by simp [kN, nthE_eq xs n]

section
variable (T : List (Nat × TyI)) (tm : List (Nat × AVal)) (ob : List (Nat × Option AObj)) (nx d : Nat)
def qB (v : AVal) : Option Eff := some ⟨v, ob, nx, xX (some d) v, []⟩
def cmpI (op : BinOp) (p q : Int) : Option Bool :=
  match op with
  | .lss => some (decide (p < q))
  | .leq => some (decide (p ≤ q))
  | .gtr => some (decide (q < p))
  | .geq => some (decide (q ≤ p))
  | .eql => some (decide (p = q))
  | .neq => some (decide (p ≠ q))
  | _ => none
def cmpS (op : BinOp) (p q : List UInt8) : Option Bool :=
  match op with
  | .eql => some (decide (p = q))
  | .neq => some (decide (p ≠ q))
  | .lss => some (Op.bytesLess p q)
  | .leq => some (Op.bytesLess p q || p == q)
  | .gtr => some (!(Op.bytesLess p q || p == q))
  | .geq => some (!Op.bytesLess p q)
  | _ => none
def ikEq : IntKind → IntKind → Bool
  | .i8, .i8 | .i16, .i16 | .i32, .i32 | .i64, .i64 | .u8, .u8 | .u16, .u16 | .u32, .u32 | .u64, .u64 => true
  | _, _ => false
def effBin (op : BinOp) (t : Nat) (x y : Operand) : Option Eff :=
  match opV tm x, opV tm y with
  | some (.c (.v (.int k p))), some (.c (.v (.int k' q))) => match ikEq k k', cmpI op p q with
    | true, some b => qB ob nx d (.c (.v (.bool b)))
    | _, _ => none
  | some (.c (.v (.string ⟨⟨p⟩⟩))), some (.c (.v (.string ⟨⟨q⟩⟩))) => match cmpS op p q with
    | some b => qB ob nx d (.c (.v (.bool b)))
    | none => none
  | some (.c (.v (.bool p))), some (.c (.v (.bool q))) => match lk t T with
    | some i => match i.isBool, op with
      | true, .eql => qB ob nx d (.c (.v (.bool (decide (p = q)))))
      | true, .neq => qB ob nx d (.c (.v (.bool (decide (p ≠ q)))))
      | _, _ => none
    | none => none
  | _, _ => none
def effLen (x : Operand) (t : Nat) : Option Eff :=
  match opV tm x, lk t T with
  | some (.c c), some i => match c, i.isStr, i.elem with
    | .v (.string ⟨⟨l⟩⟩), true, _ => qB ob nx d (.c (.v (.int .i64 (l.length : Int))))
    | .sl xs, _, some _ => qB ob nx d (.c (.v (.int .i64 (xs.length : Int))))
    | .ref _ _ n, _, some _ => qB ob nx d (.c (.v (.int .i64 (n : Int))))
    | .nil, _, some _ => qB ob nx d (.c (.v (.int .i64 0)))
    | _, _, _ => none
  | _, _ => none
def effField (x : Operand) (t f : Nat) : Option Eff :=
  match opV tm x, lk t T with
  | some (.agg cs), some i => match kN i.fields f with
    | some (some (off, sz, false)) => match kN cs off with
      | some c => qB ob nx d (.c c)
      | none => none
    | some (some (off, sz, true)) => qB ob nx d (.agg ((cs.drop off).take sz))
    | _ => none
  | _, _ => none
def effFieldAddr (x : Operand) (t f : Nat) : Option Eff :=
  match opV tm x, lk t T with
  | some (.c (.ptr q i0 g0)), some i => match kN i.fields f with
    | some (some (off, n + 1, _)) => qB ob nx d (.c (.ptr q i0 (g0 + off)))
    | _ => none
  | some (.c (.ip cs)), some i => match kN i.fields f with
    | some (some (off, n + 1, _)) => qB ob nx d (.c (.ip (cs.drop off)))
    | _ => none
  | _, _ => none
def effLoad (x : Operand) (t : Nat) : Option Eff :=
  match opV tm x, lk t T with
  | some (.c (.ptr q i0 f)), some i => match lk q ob with
    | some (some obj) => match kN obj.els i0, i.agg with
      | some el, false => match kN el f with
        | some c => some ⟨.c c, ob, nx, xX (some d) (.c c), [q]⟩
        | none => none
      | some el, true => bif Nat.ble (f + i.size) el.length then some ⟨.agg ((el.drop f).take i.size), ob, nx, xX (some d) (.agg ((el.drop f).take i.size)), [q]⟩ else none
      | _, _ => none
    | _ => none
  | some (.c (.ip el)), some i => match i.agg with
    | false => match kN el 0 with
      | some c => qB ob nx d (.c c)
      | none => none
    | true => bif Nat.ble i.size el.length then qB ob nx d (.agg (el.take i.size)) else none
  | _, _ => none
def effBox (m : Nat) (x : Operand) (t : Nat) : Option Eff :=
  bif Nat.ble m nx then match opV tm x with
    | some (.c c) => some ⟨.c (.ptr nx 0 0), (nx, some ⟨t, 1, [[c]]⟩) :: ob, nx + 1, kY (some d) (.c (.ptr nx 0 0)) nx ⟨t, 1, [[c]]⟩, []⟩
    | some (.agg cs) => some ⟨.c (.ptr nx 0 0), (nx, some ⟨t, cs.length, [cs]⟩) :: ob, nx + 1, kY (some d) (.c (.ptr nx 0 0)) nx ⟨t, cs.length, [cs]⟩, []⟩
    | _ => none
  else none
def effNilCheck (x : Operand) : Option Eff :=
  match opV tm x with
  | some (.c (.ptr q i f)) => qB ob nx d (.c (.ptr q i f))
  | some (.c (.ip el)) => qB ob nx d (.c (.ip el))
  | some (.c (.fn f caps)) => qB ob nx d (.c (.fn f caps))
  | _ => none
def effNot (x : Operand) : Option Eff :=
  match opV tm x with
  | some (.c (.v (.bool b))) => qB ob nx d (.c (.v (.bool (!b))))
  | _ => none
def effExtract (x : Operand) (i : Nat) : Option Eff :=
  match opV tm x with
  | some (.tup vs) => match kN vs i with
    | some y => qB ob nx d y
    | none => none
  | _ => none
def effConv (src dst : Nat) (x : Operand) : Option Eff :=
  match opV tm x, lk src T, lk dst T with
  | some (.c (.v (.int k p))), some i, some j => match i.kind, j.kind with
    | some k1, some k2 => match ikEq k1 k with
      | true => qB ob nx d (.c (.v (.int k2 (k2.wrap p))))
      | false => none
    | _, _ => none
  | _, _, _ => none
def effF (m : Nat) : Op → Option Eff
  | .move x => match opV tm x with | some v => qB ob nx d v | none => none
  | .assign x => match opV tm x with | some v => qB ob nx d v | none => none
  | .binOp op t x y _ => effBin T tm ob nx d op t x y
  | .call ⟨.builtin .len, ⟨[x]⟩, ⟨[t]⟩⟩ => effLen T tm ob nx d x t
  | .field t x f => effField T tm ob nx d x t f
  | .fieldAddr t x f => effFieldAddr T tm ob nx d x t f
  | .load t x => effLoad T tm ob nx d x t
  | .box t x => effBox tm ob nx d m x t
  | .nilCheck x => effNilCheck tm ob nx d x
  | .unOp .not _ x => effNot tm ob nx d x
  | .extract x i => effExtract tm ob nx d x i
  | .convert src dst x => effConv T tm ob nx d src dst x
  | _ => none
end

section
variable {P : Program} {E : Env} {ops : Array Oper} {K : AS → Prop} {draw : Bool}
variable {r : List Oper} {acc : List (Upd × Foot)} {tm : List (Nat × AVal)} {ob : List (Nat × Option AObj)} {nx d ty : Nat} {pos : String} {aft : Array Edge} {g : Option (Nat × Bool)} {T : List (Nat × TyI)}
def EffOk (P : Program) (E : Env) (ops : Array Oper) (tm : List (Nat × AVal)) (ob : List (Nat × Option AObj)) (nx d : Nat) (o : Oper) (e : Eff) : Prop :=
  StepOk P E ops o ⟨tm, ob, nx⟩ e.u ⟨o.looksAt ops, e.obs⟩ ∧ AS.mk ((d, e.v) :: tm) e.ob e.nx = (AS.mk tm ob nx).upd e.u
theorem EffOk.mk {op : Op} {v : AVal} {e : Eff} (h : qB ob nx d v = some e) (hs : StepOk P E ops ⟨some d, op, ty, pos, aft, g⟩ ⟨tm, ob, nx⟩ (xX (some d) v) ⟨(Oper.mk (some d) op ty pos aft g).looksAt ops, []⟩) : EffOk P E ops tm ob nx d ⟨some d, op, ty, pos, aft, g⟩ e := by
  cases h
  exact ⟨hs, rfl⟩
theorem ikEq_eq {k k' : IntKind} (h : ikEq k k' = true) : k = k' := by cases k <;> cases k' <;> first | rfl | cases h
theorem bin_int {op : BinOp} {t : Nat} {x y : Operand} {k : IntKind} {p q : Int} {b : Bool} (h : cmpI op p q = some b) (w : World) : ((do eqGuard op t x y (.int k p) (.int k q); binOp op t (.int k p) (.int k q) : Sem Value)).run P w = .ok (.bool b) w := by
  unfold cmpI at h
  split at h <;> first | (cases h; done) | skip
  all_goals
    cases h
    simp only [eqGuard, binOp]
    first | (simp [Op.intCmp]; done) | (by_cases e : p = q <;> simp [Op.intCmp, e])
theorem bin_str {op : BinOp} {t : Nat} {x y : Operand} {p q : List UInt8} {b : Bool} (h : cmpS op p q = some b) (w : World) : ((do eqGuard op t x y (.string ⟨⟨p⟩⟩) (.string ⟨⟨q⟩⟩); binOp op t (.string ⟨⟨p⟩⟩) (.string ⟨⟨q⟩⟩) : Sem Value)).run P w = .ok (.bool b) w := by
  have e : ∀ l : List UInt8, (⟨⟨l⟩⟩ : ByteArray).toList = l := fun l => ByteArray.toList_eq _
  unfold cmpS at h
  split at h <;> first | (cases h; done) | skip
  all_goals
    cases h
    simp only [eqGuard, binOp]
    first | (simp [Op.stringOp, e]; done) | (by_cases e2 : p = q <;> simp [Op.stringOp, e, e2])
theorem bin_bool {op : BinOp} {t : Nat} {x y : Operand} {p q b : Bool} (hu : P.underlying t = some .bool) (h : (op = .eql ∧ b = decide (p = q)) ∨ (op = .neq ∧ b = decide (p ≠ q))) (w : World) : ((do eqGuard op t x y (.bool p) (.bool q); binOp op t (.bool p) (.bool q) : Sem Value)).run P w = .ok (.bool b) w := by
  have e : (Op.equal t (.bool p) (.bool q)).run P w = .ok (p == q) w := by
    show (Op.equalIn (9999 + 1) t (.bool p) (.bool q)).run P w = _
    rw [Op.equalIn]
    simp [run_underlying hu]
  rcases h with ⟨rfl, rfl⟩ | ⟨rfl, rfl⟩
  all_goals
    simp only [eqGuard, binOp]
    cases p <;> cases q <;> simp [e]
theorem qH {α : Type} {l : List α} {n : Nat} {x : α} (h : kN l n = some x) : l[n]? = some x := by rw [← nthE_eq]; exact h
theorem effBin_ok {op : BinOp} {t t' : Nat} {x y : Operand} {e : Eff} (hT : TabOk P T) (hw : Want E ops ⟨some d, .binOp op t x y t', ty, pos, aft, g⟩ ⟨tm, ob, nx⟩) (hd : xR (some d) E.n = true) (h : effBin T tm ob nx d op t x y = some e) :
    EffOk P E ops tm ob nx d ⟨some d, .binOp op t x y t', ty, pos, aft, g⟩ e := by
  unfold effBin at h
  split at h
  · rename_i k p k' q hx hy
    split at h
    · rename_i b hk hc
      obtain rfl := ikEq_eq hk
      obtain ⟨x1, x2⟩ := xI (ob := ob) (nx := nx) hx
      obtain ⟨y1, y2⟩ := xI (ob := ob) (nx := nx) hy
      exact EffOk.mk h (zE rfl hw hd (by rw [x2, y2]; rfl) x1 y1 rfl (bin_int hc))
    · cases h
  · rename_i p q hx hy
    split at h
    · rename_i b hc
      obtain ⟨x1, x2⟩ := xI (ob := ob) (nx := nx) hx
      obtain ⟨y1, y2⟩ := xI (ob := ob) (nx := nx) hy
      exact EffOk.mk h (zE rfl hw hd (by rw [x2, y2]; rfl) x1 y1 rfl (bin_str hc))
    · cases h
  · rename_i p q hx hy
    obtain ⟨x1, x2⟩ := xI (ob := ob) (nx := nx) hx
    obtain ⟨y1, y2⟩ := xI (ob := ob) (nx := nx) hy
    split at h
    · rename_i i hl
      split at h
      · rename_i hb
        exact EffOk.mk h (zE rfl hw hd (by rw [x2, y2]; rfl) x1 y1 rfl (bin_bool (hT.bool hl hb) (.inl ⟨rfl, rfl⟩)))
      · rename_i hb
        exact EffOk.mk h (zE rfl hw hd (by rw [x2, y2]; rfl) x1 y1 rfl (bin_bool (hT.bool hl hb) (.inr ⟨rfl, rfl⟩)))
      · cases h
    · cases h
  · cases h
theorem effLen_ok {t : Nat} {x : Operand} {e : Eff} (hT : TabOk P T) (hw : Want E ops ⟨some d, .call ⟨.builtin .len, ⟨[x]⟩, ⟨[t]⟩⟩, ty, pos, aft, g⟩ ⟨tm, ob, nx⟩) (hd : xR (some d) E.n = true) (h : effLen T tm ob nx d x t = some e) :
    EffOk P E ops tm ob nx d ⟨some d, .call ⟨.builtin .len, ⟨[x]⟩, ⟨[t]⟩⟩, ty, pos, aft, g⟩ e := by
  unfold effLen at h
  split at h
  · rename_i c i hx hl
    obtain ⟨x1, x2⟩ := xI (ob := ob) (nx := nx) hx
    split at h
    · rename_i l el hs
      exact EffOk.mk h (StepOk.len rfl hw hd x2 (.inl ⟨_, rfl, hT.str hl hs⟩) x1 rfl)
    · rename_i xs isS el he
      exact EffOk.mk h (StepOk.len rfl hw hd x2 (.inr ⟨(fun _ e => by cases e), _, (hT.elem hl he).under⟩) x1 rfl)
    · rename_i q off n isS el he
      exact EffOk.mk h (StepOk.len rfl hw hd x2 (.inr ⟨(fun _ e => by cases e), _, (hT.elem hl he).under⟩) x1 rfl)
    · rename_i isS el he
      exact EffOk.mk h (StepOk.len rfl hw hd x2 (.inr ⟨(fun _ e => by cases e), _, (hT.elem hl he).under⟩) x1 rfl)
    · cases h
  · cases h
theorem effField_ok {t f : Nat} {x : Operand} {e : Eff} (hT : TabOk P T) (hw : Want E ops ⟨some d, .field t x f, ty, pos, aft, g⟩ ⟨tm, ob, nx⟩) (hd : xR (some d) E.n = true) (h : effField T tm ob nx d x t f = some e) :
    EffOk P E ops tm ob nx d ⟨some d, .field t x f, ty, pos, aft, g⟩ e := by
  unfold effField at h
  split at h
  · rename_i cs i hx hl
    obtain ⟨x1, x2⟩ := xI (ob := ob) (nx := nx) hx
    split at h
    · rename_i off sz hf
      split at h
      · rename_i c hc
        exact EffOk.mk h (StepOk.field rfl hw hd x2 (hT.field hl (qH hf)) x1 (qH hc))
      · cases h
    · rename_i off sz hf
      exact EffOk.mk h (StepOk.fieldAgg rfl hw hd x2 (hT.field hl (qH hf)) x1)
    · cases h
  · cases h
theorem effFieldAddr_ok {t f : Nat} {x : Operand} {e : Eff} (hT : TabOk P T) (hw : Want E ops ⟨some d, .fieldAddr t x f, ty, pos, aft, g⟩ ⟨tm, ob, nx⟩) (hd : xR (some d) E.n = true) (h : effFieldAddr T tm ob nx d x t f = some e) :
    EffOk P E ops tm ob nx d ⟨some d, .fieldAddr t x f, ty, pos, aft, g⟩ e := by
  unfold effFieldAddr at h
  split at h
  · rename_i q i0 g0 i hx hl
    obtain ⟨x1, x2⟩ := xI (ob := ob) (nx := nx) hx
    split at h
    · rename_i off n ag hf
      exact EffOk.mk h (StepOk.fieldAddr rfl hw hd x2 (hT.field hl (qH hf)) x1)
    · cases h
  · rename_i cs i hx hl
    obtain ⟨x1, x2⟩ := xI (ob := ob) (nx := nx) hx
    split at h
    · rename_i off n ag hf
      exact EffOk.mk h (StepOk.fieldAddrI rfl hw hd x2 (hT.field hl (qH hf)) x1)
    · cases h
  · cases h
theorem effLoad_ok {t : Nat} {x : Operand} {e : Eff} (hT : TabOk P T) (hw : Want E ops ⟨some d, .load t x, ty, pos, aft, g⟩ ⟨tm, ob, nx⟩) (hd : xR (some d) E.n = true) (h : effLoad T tm ob nx d x t = some e) :
    EffOk P E ops tm ob nx d ⟨some d, .load t x, ty, pos, aft, g⟩ e := by
  unfold effLoad at h
  split at h
  · rename_i q i0 f i hx hl
    obtain ⟨x1, x2⟩ := xI (ob := ob) (nx := nx) hx
    split at h
    · rename_i obj hob
      have hob' : (AS.mk tm ob nx).obj q = some obj := by simp only [AS.obj, hob]; rfl
      split at h
      · rename_i el hel ha
        split at h
        · rename_i c hc
          cases h
          exact ⟨StepOk.load rfl hw hd x2 (by rw [← ha]; exact hT.agg hl) x1 hob' (qH hel) (qH hc), rfl⟩
        · cases h
      · rename_i el hel ha
        cases hb : Nat.ble (f + i.size) el.length with
        | false => rw [hb] at h; cases h
        | true =>
          rw [hb] at h
          cases h
          exact ⟨StepOk.loadAgg rfl hw hd x2 (by rw [← ha]; exact hT.agg hl) (hT.size hl) x1 hob' (qH hel) (Nat.le_of_ble_eq_true hb), rfl⟩
      · cases h
    · cases h
  · rename_i el i hx hl
    obtain ⟨x1, x2⟩ := xI (ob := ob) (nx := nx) hx
    split at h
    · rename_i ha
      split at h
      · rename_i c hc
        exact EffOk.mk h (StepOk.loadI rfl hw hd x2 (by rw [← ha]; exact hT.agg hl) x1 (qH hc))
      · cases h
    · rename_i ha
      cases hb : Nat.ble i.size el.length with
      | false => rw [hb] at h; cases h
      | true =>
        rw [hb] at h
        exact EffOk.mk h (StepOk.loadAggI rfl hw hd x2 (by rw [← ha]; exact hT.agg hl) (hT.size hl) x1 (Nat.le_of_ble_eq_true hb))
  · cases h
theorem effBox_ok {t : Nat} {x : Operand} {e : Eff} (hw : Want E ops ⟨some d, .box t x, ty, pos, aft, g⟩ ⟨tm, ob, nx⟩) (hd : xR (some d) E.n = true) (h : effBox tm ob nx d E.m x t = some e) :
    EffOk P E ops tm ob nx d ⟨some d, .box t x, ty, pos, aft, g⟩ e := by
  unfold effBox at h
  cases hm : Nat.ble E.m nx with
  | false => rw [hm] at h; cases h
  | true =>
    rw [hm] at h
    simp only [cond_true] at h
    split at h
    · rename_i c hx
      obtain ⟨x1, x2⟩ := xI (ob := ob) (nx := nx) hx
      cases h
      exact ⟨StepOk.box (cs := [c]) rfl hw hd x2 hm (by rw [x1]; rfl), rfl⟩
    · rename_i cs hx
      obtain ⟨x1, x2⟩ := xI (ob := ob) (nx := nx) hx
      cases h
      exact ⟨StepOk.box rfl hw hd x2 hm (by rw [x1]; rfl), rfl⟩
    · cases h
theorem xF {op : Op} {v : AVal} {ob' : List (Nat × Option AObj)} {nx' : Nat} {u : Upd} {obs : List Nat} (hT : TabOk P T) (hF : effF T tm ob nx d E.m op = some ⟨v, ob', nx', u, obs⟩) (hd : xR (some d) E.n = true)
    (h : regX P E ops K draw r ((u, ⟨(Oper.mk (some d) op ty pos aft g).looksAt ops, obs⟩) :: acc) ⟨(d, v) :: tm, ob', nx'⟩) : regY P E ops K draw ⟨some d, op, ty, pos, aft, g⟩ r acc ⟨tm, ob, nx⟩ := by
  refine ⟨fun hw => ?_⟩
  have key : EffOk P E ops tm ob nx d ⟨some d, op, ty, pos, aft, g⟩ ⟨v, ob', nx', u, obs⟩ := by
    unfold effF at hF
    split at hF
    · split at hF
      · rename_i x v' hx
        obtain ⟨x1, x2⟩ := xI (ob := ob) (nx := nx) hx
        refine EffOk.mk hF ?_
        subst x1
        exact StepOk.move (.inl rfl) hw hd x2
      · cases hF
    · split at hF
      · rename_i x v' hx
        obtain ⟨x1, x2⟩ := xI (ob := ob) (nx := nx) hx
        refine EffOk.mk hF ?_
        subst x1
        exact StepOk.move (.inr rfl) hw hd x2
      · cases hF
    · exact effBin_ok hT hw hd hF
    · exact effLen_ok hT hw hd hF
    · exact effField_ok hT hw hd hF
    · exact effFieldAddr_ok hT hw hd hF
    · exact effLoad_ok hT hw hd hF
    · exact effBox_ok hw hd hF
    · unfold effNilCheck at hF
      split at hF
      · rename_i x q i f hx
        obtain ⟨x1, x2⟩ := xI (ob := ob) (nx := nx) hx
        exact EffOk.mk hF (StepOk.nilCheck rfl hw hd x2 x1 (.inl ⟨q, i, f, rfl⟩))
      · rename_i x el hx
        obtain ⟨x1, x2⟩ := xI (ob := ob) (nx := nx) hx
        exact EffOk.mk hF (StepOk.nilCheck rfl hw hd x2 x1 (.inr (.inl ⟨el, rfl⟩)))
      · rename_i x f caps hx
        obtain ⟨x1, x2⟩ := xI (ob := ob) (nx := nx) hx
        exact EffOk.mk hF (StepOk.nilCheck rfl hw hd x2 x1 (.inr (.inr ⟨f, caps, rfl⟩)))
      · cases hF
    · unfold effNot at hF
      split at hF
      · rename_i t x b hx
        obtain ⟨x1, x2⟩ := xI (ob := ob) (nx := nx) hx
        exact EffOk.mk hF (StepOk.un rfl hw hd x2 x1 rfl (fun _ => rfl))
      · cases hF
    · unfold effExtract at hF
      split at hF
      · rename_i x i vs hx
        obtain ⟨x1, x2⟩ := xI (ob := ob) (nx := nx) hx
        split at hF
        · rename_i y hy
          exact EffOk.mk hF (StepOk.extract rfl hw hd x2 x1 (qH hy))
        · cases hF
      · cases hF
    · unfold effConv at hF
      split at hF
      · rename_i src dst x k p i j hx hs ht
        obtain ⟨x1, x2⟩ := xI (ob := ob) (nx := nx) hx
        split at hF
        · rename_i k1 k2 h1 h2
          split at hF
          · rename_i hk
            obtain rfl := ikEq_eq hk
            refine EffOk.mk hF (StepOk.conv rfl hw hd x2 x1 rfl (fun w => ?_))
            have u1 := hT.int hs h1
            have u2 := hT.int ht h2
            simp [convert, run_underlying u1, run_underlying u2, Conv.intToInt]
          · cases hF
        · cases hF
      · cases hF
    · cases hF
  exact regX.cons _ _ key.1 key.2 h
theorem yG {l : List Oper} {s : AS} (h : regX P E ops K draw l acc s) : regX P E ops K draw l acc s := h
theorem yS {op : Op} {j t : Nat} {b c : Bool} (hgd : g = some (j, b)) (ht : (ops[j]?).bind (·.dst) = some t) (hs : (AS.mk tm ob nx).get t = .c (.v (.bool c))) (hl : Nat.ble (t + 1) E.n = true) (hd : xR (some d) E.n = true) (hc : c = !b)
    (h : regX P E ops K draw r ((xX (some d) (.tup []), ⟨(Oper.mk (some d) op ty pos aft g).looksAt ops, []⟩) :: acc) ⟨(d, .tup []) :: tm, ob, nx⟩) : regX P E ops K draw (⟨some d, op, ty, pos, aft, g⟩ :: r) acc ⟨tm, ob, nx⟩ :=
  rx_skip (Skips.some_ hgd ht hs (by rw [hc]; cases b <;> rfl) hl) hd h
theorem yF {op : Op} {j t : Nat} {b : Bool} (hgd : g = some (j, b)) (ht : (ops[j]?).bind (·.dst) = some t) (hs : (AS.mk tm ob nx).get t = .tup []) (hl : Nat.ble (t + 1) E.n = true) (hd : xR (some d) E.n = true)
    (h : regX P E ops K draw r ((xX (some d) (.tup []), ⟨(Oper.mk (some d) op ty pos aft g).looksAt ops, []⟩) :: acc) ⟨(d, .tup []) :: tm, ob, nx⟩) : regX P E ops K draw (⟨some d, op, ty, pos, aft, g⟩ :: r) acc ⟨tm, ob, nx⟩ :=
  rx_skip (Skips.none_ hgd ht hs hl) hd h
theorem yR {c x y : Operand} {p' : AVal} {b b' : Bool} (hd : xR (some d) E.n = true) (hz : opV tm c = some (.c (.v (.bool b)))) (hb : b = b') (hy : (bif b' then opV tm x else opV tm y) = some p') (hxb : (opB x && opB y) = true)
    (h : regX P E ops K draw r ((xX (some d) p', ⟨(Oper.mk (some d) (.pick c x y) ty pos aft g).looksAt ops, []⟩) :: acc) ⟨(d, p') :: tm, ob, nx⟩) : regY P E ops K draw ⟨some d, .pick c x y, ty, pos, aft, g⟩ r acc ⟨tm, ob, nx⟩ := by
  refine ⟨fun hw => ?_⟩
  simp only [Bool.and_eq_true] at hxb
  subst hb
  cases b with
  | true => exact (rx_pickT hd hz rfl hy hxb.2 h).h hw
  | false => exact (rx_pickF hd hz rfl hxb.1 hy h).h hw
end
theorem zS {α : Type} {xs : List α} {j : Nat} {x y : α} (h : xs[j]? = some y) : (xs.set j x)[j]? = some x := by
  have := (List.getElem?_eq_some_iff.1 h).1
  rw [List.getElem?_set_self this]
end Go.Proofs.YtjeffognhcbiaaaGreatDoor

namespace Go.Proofs.YtjeffognhcbiaaaGreatDoor
open Go Go.RowKit
section
variable {P : Program} {E : Env} {ops : Array Oper} {o : Oper} {s : AS}
theorem StepOk.min2 {x y : Operand} {ts : Array TypeId} {k : IntKind} {p q : Int} (ho : o.op = .call { callee := .builtin .min, args := #[x, y], argTypes := ts }) (hw : Want E ops o s) (hd : xR o.dst E.n = true) (hxb : (opB x && opB y) = true)
    (hx : opA s x = .c (.v (.int k p))) (hy : opA s y = .c (.v (.int k q))) : StepOk P E ops o s (xX o.dst (.c (.v (.int k (min p q))))) ⟨o.looksAt ops, []⟩ := by
  simp only [Bool.and_eq_true] at hxb
  refine StepOk.val hw hd (by simp [ho, Op.operands, Call.operands, hxb]) fun N I s' β a w hop _ _ => ?_
  have h1 := hop x (by simp [ho, Op.operands, Call.operands])
  have h2 := hop y (by simp [ho, Op.operands, Call.operands])
  rw [hx] at h1
  rw [hy] at h2
  refine ⟨.int k (min p q), ?_, Rep.imm (.v _ rfl)⟩
  simp only [execOp, ho, resolve, invoke, builtin, Sem.run_bind, Sem.run_pure, Result.andThen, List.map_toArray, List.map_cons, List.map_nil, x8 h1, x8 h2]
  rw [show min p q = if p ≤ q then p else q from rfl]
  by_cases h : q < p
  · rw [if_neg (by omega)]; simp [Builtin.min_, Builtin.min2, h]
  · rw [if_pos (by omega)]; simp [Builtin.min_, Builtin.min2, h]
theorem StepOk.max2 {x y : Operand} {ts : Array TypeId} {k : IntKind} {p q : Int} (ho : o.op = .call { callee := .builtin .max, args := #[x, y], argTypes := ts }) (hw : Want E ops o s) (hd : xR o.dst E.n = true) (hxb : (opB x && opB y) = true)
    (hx : opA s x = .c (.v (.int k p))) (hy : opA s y = .c (.v (.int k q))) : StepOk P E ops o s (xX o.dst (.c (.v (.int k (max p q))))) ⟨o.looksAt ops, []⟩ := by
  simp only [Bool.and_eq_true] at hxb
  refine StepOk.val hw hd (by simp [ho, Op.operands, Call.operands, hxb]) fun N I s' β a w hop _ _ => ?_
  have h1 := hop x (by simp [ho, Op.operands, Call.operands])
  have h2 := hop y (by simp [ho, Op.operands, Call.operands])
  rw [hx] at h1
  rw [hy] at h2
  refine ⟨.int k (max p q), ?_, Rep.imm (.v _ rfl)⟩
  simp only [execOp, ho, resolve, invoke, builtin, Sem.run_bind, Sem.run_pure, Result.andThen, List.map_toArray, List.map_cons, List.map_nil, x8 h1, x8 h2]
  rw [show max p q = if p ≤ q then q else p from rfl]
  by_cases h : p < q
  · rw [if_pos (by omega)]; simp [Builtin.max_, Builtin.max2, h]
  · by_cases h' : p = q
    · subst h'; simp [Builtin.max_, Builtin.max2]
    · rw [if_neg (by omega)]; simp [Builtin.max_, Builtin.max2, h]
variable {K : AS → Prop} {draw : Bool} {r : List Oper} {acc : List (Upd × Foot)} {tm : List (Nat × AVal)} {ob : List (Nat × Option AObj)} {nx d ty : Nat} {pos : String} {aft : Array Edge} {g : Option (Nat × Bool)}
theorem yO {x y : Operand} {t t' : Nat} {p q : Int} (hd : xR (some d) E.n = true) (hx : opV tm x = some (.c (.v (.int .u8 p)))) (hy : opV tm y = some (.c (.v (.int .u8 q)))) (hr : 0 ≤ p - q ∧ p - q ≤ 255)
    (h : regX P E ops K draw r ((xX (some d) (.c (.v (.int .u8 (p - q)))), ⟨(Oper.mk (some d) (.binOp .sub t x y t') ty pos aft g).looksAt ops, []⟩) :: acc) ⟨(d, .c (.v (.int .u8 (p - q)))) :: tm, ob, nx⟩) : regY P E ops K draw ⟨some d, .binOp .sub t x y t', ty, pos, aft, g⟩ r acc ⟨tm, ob, nx⟩ := by
  rw [← IntWalk.u8_in _ hr] at h
  exact rx_subk hd hx hy h
theorem rx_min {x y : Operand} {ts : Array TypeId} {k : IntKind} {p q : Int} (hd : xR (some d) E.n = true)
    (hx : opV tm x = some (.c (.v (.int k p)))) (hy : opV tm y = some (.c (.v (.int k q))))
    (h : regX P E ops K draw r ((xX (some d) (.c (.v (.int k (min p q)))), ⟨(Oper.mk (some d) (.call { callee := .builtin .min, args := #[x, y], argTypes := ts }) ty pos aft g).looksAt ops, []⟩) :: acc) ⟨(d, .c (.v (.int k (min p q)))) :: tm, ob, nx⟩) : regY P E ops K draw ⟨some d, .call { callee := .builtin .min, args := #[x, y], argTypes := ts }, ty, pos, aft, g⟩ r acc ⟨tm, ob, nx⟩ := by
  refine ⟨fun hw => ?_⟩
  obtain ⟨x1, x2⟩ := xI (ob := ob) (nx := nx) hx
  obtain ⟨y1, y2⟩ := xI (ob := ob) (nx := nx) hy
  exact regX.cons _ _ (StepOk.min2 rfl hw hd (by rw [x2, y2]; rfl) x1 y1) rfl h
theorem rx_max {x y : Operand} {ts : Array TypeId} {k : IntKind} {p q : Int} (hd : xR (some d) E.n = true)
    (hx : opV tm x = some (.c (.v (.int k p)))) (hy : opV tm y = some (.c (.v (.int k q))))
    (h : regX P E ops K draw r ((xX (some d) (.c (.v (.int k (max p q)))), ⟨(Oper.mk (some d) (.call { callee := .builtin .max, args := #[x, y], argTypes := ts }) ty pos aft g).looksAt ops, []⟩) :: acc) ⟨(d, .c (.v (.int k (max p q)))) :: tm, ob, nx⟩) : regY P E ops K draw ⟨some d, .call { callee := .builtin .max, args := #[x, y], argTypes := ts }, ty, pos, aft, g⟩ r acc ⟨tm, ob, nx⟩ := by
  refine ⟨fun hw => ?_⟩
  obtain ⟨x1, x2⟩ := xI (ob := ob) (nx := nx) hx
  obtain ⟨y1, y2⟩ := xI (ob := ob) (nx := nx) hy
  exact regX.cons _ _ (StepOk.max2 rfl hw hd (by rw [x2, y2]; rfl) x1 y1) rfl h
end
end Go.Proofs.YtjeffognhcbiaaaGreatDoor

namespace Go.Proofs.YtjeffognhcbiaaaGreatDoor
open Go Go.RowKit
def wY (b : UInt8) : List Cell := [.v (.int .u8 b.toNat)]
theorem foldl_push : ∀ (l : List UInt8) (s : ByteArray), (l.map fun b : UInt8 => ((b.toNat : Nat) : Int)).foldl (fun r n => r.push (UInt8.ofNat n.toNat)) s = ⟨⟨s.data.toList ++ l⟩⟩
  | [], s => by simp
  | b :: l, s => by
    rw [List.map_cons, List.foldl_cons, foldl_push l]
    simp [ByteArray.push]
section
variable {P : Program} {E : Env} {ops : Array Oper} {s : AS}
theorem StepOk.convBS {o : Oper} {x : Operand} {src dst e : Nat} {cx : Cell} {obs : List Nat} {news : List (List Cell)} {l : List UInt8} (ho : o.op = .convert src dst x) (hw : Want E ops o s) (hd : xR o.dst E.n = true) (hxb : opB x = true)
    (hs : P.underlying src = some (.slice e)) (he : P.underlying e = some (.int .u8)) (ht : P.underlying dst = some .string) (hx : opA s x = .c cx) (hn : wT s cx = some (obs, news)) (hl : news = l.map wY) (hne : l ≠ []) :
    StepOk P E ops o s (xX o.dst (.c (str l))) ⟨o.looksAt ops, obs⟩ := by
  refine StepOk.val hw hd (by simp [ho, Op.operands, hxb]) fun N I s' β a w hop hobs hr => ?_
  have h1 := hop x (by simp [ho, Op.operands])
  rw [hx] at h1
  have hsz : ∀ y ∈ news, y.length = 1 := by
    subst hl
    intro y hy
    obtain ⟨b, _, rfl⟩ := List.mem_map.1 hy
    rfl
  obtain ⟨ad, cap, hv, _, hcell⟩ := news_mem hr (show Rep I β w cx _ from h1) hn hobs (by subst hl; simpa using hne) hsz
  have hll : news.length = l.length := by rw [hl, List.length_map]
  have hload : (loadCells ad news.length).run P w = .ok ((l.map fun b : UInt8 => ((b.toNat : Nat) : Int)).map (Value.int .u8)).toArray w := by
    have h2 := run_loadCells_list (P := P) w ad (((l.map fun b : UInt8 => ((b.toNat : Nat) : Int)).map (Value.int .u8))) fun j v hj => by
      rw [List.map_map, List.getElem?_map] at hj
      cases hb : l[j]? with
      | none => rw [hb] at hj; cases hj
      | some b =>
        rw [hb] at hj
        cases hj
        obtain ⟨u, hu, hr⟩ := hcell j 0 (wY b) (.v (.int .u8 b.toNat)) (by rw [hl, List.getElem?_map, hb]; rfl) rfl
        rw [Nat.mul_one, Nat.add_zero] at hu
        rw [hu, x8 (x := .int .u8 b.toNat) (show RepV I β w (.c (.v _)) u from hr)]
        rfl
    rwa [List.length_map, List.length_map, ← hll] at h2
  refine ⟨.string ⟨⟨l⟩⟩, ?_, .imm (.v _ rfl)⟩
  have h3 := run_bytesToString (P := P) w ad news.length cap _ hload
  rw [foldl_push] at h3
  simp only [execOp, ho, hv, convert, Sem.run_bind, run_underlying hs, run_underlying ht, run_underlying he, Result.andThen, h3]
  rfl
variable {K : AS → Prop} {draw : Bool} {r : List Oper} {acc : List (Upd × Foot)} {tm : List (Nat × AVal)} {ob : List (Nat × Option AObj)} {nx d ty : Nat} {pos : String} {aft : Array Edge} {g : Option (Nat × Bool)}
theorem vO {T : List (Nat × TyI)} {src dst e sz bytes : Nat} {i j k : TyI} {x : Operand} {cx : Cell} {obs : List Nat} {news : List (List Cell)} (l : List UInt8) (hd : xR (some d) E.n = true)
    (hx : opV tm x = some (.c cx)) (hT : TabOk P T) (hs : lk src T = some i) (he : i.elem = some (e, sz, bytes)) (hte : lk e T = some k) (hk : k.kind = some .u8) (ht : lk dst T = some j) (hj : j.isStr = true)
    (hn : wT ⟨tm, ob, nx⟩ cx = some (obs, news)) (hl : news = l.map wY) (hne : l ≠ [])
    (h : regX P E ops K draw r ((xX (some d) (.c (str l)), ⟨(Oper.mk (some d) (.convert src dst x) ty pos aft g).looksAt ops, obs⟩) :: acc) ⟨(d, .c (str l)) :: tm, ob, nx⟩) : regY P E ops K draw ⟨some d, .convert src dst x, ty, pos, aft, g⟩ r acc ⟨tm, ob, nx⟩ := by
  refine ⟨fun hw => ?_⟩
  obtain ⟨x1, x2⟩ := xI (ob := ob) (nx := nx) hx
  obtain ⟨_, _, hel, _⟩ := hT.elem hs he
  exact regX.cons _ _ (StepOk.convBS rfl hw hd x2 hel (hT.int hte hk) (hT.str ht hj) x1 hn hl hne) rfl h
end
end Go.Proofs.YtjeffognhcbiaaaGreatDoor

namespace Go.Proofs.YtjeffognhcbiaaaGreatDoor
open Go Go.RowKit
inductive cutK (m : Nat) (s1 : AS) : Exit → AS → Prop
  | mk {s : AS} : Weak m s s1 → cutK m s1 .normal s
inductive joinK {σ : Type} (m n : Nat) (S : σ → AS) (J : σ → Prop) : Exit → AS → Prop
  | mk {s : AS} (x : σ) : J x → Weak m s (S x) → joinK m n S J (.exit n) s
section
variable {P : Program} {E : Env} {K K1 K2 : Exit → AS → Prop} {s : AS}
theorem AWp.cut1 {a b : Code} (s1 : AS) (h : AWp P E a (cutK E.m s1) s) (h2 : AWp P E b K s1) : AWp P E (.seq a b) K s :=
  AWp.Q (h.mono fun e s' hk => by cases hk with | mk hw => exact .normal (h2.weaken hw))
end
end Go.Proofs.YtjeffognhcbiaaaGreatDoor
