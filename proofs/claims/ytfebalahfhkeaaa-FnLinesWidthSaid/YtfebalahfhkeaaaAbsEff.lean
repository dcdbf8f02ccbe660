/- The abstract machine, part 19: the steps that ask for nothing beside the state, as one function. No conditions but those stated. -/
import Derived.Test.YtfebalahfhkeaaaAbsRx
namespace Go.Proofs.Ytfebalahfhkeaaa
open Go Go.RowKit

structure Eff where
  v : AVal
  ob : List (Nat × Option AObj)
  nx : Nat
  u : Upd
  obs : List Nat

def nthE {α : Type} : List α → Nat → Option α
  | [], _ => none
  | x :: _, 0 => some x
  | _ :: xs, n + 1 => nthE xs n
theorem nthE_eq {α : Type} : ∀ (l : List α) (n : Nat), nthE l n = l[n]?
  | [], n => by simp [nthE]
  | x :: xs, 0 => by simp [nthE]
  | x :: xs, n + 1 => by simp [nthE, nthE_eq xs n]

section
variable (T : List (Nat × TyI)) (tm : List (Nat × AVal)) (ob : List (Nat × Option AObj)) (nx d : Nat)
def effV (v : AVal) : Option Eff := some ⟨v, ob, nx, setU (some d) v, []⟩
def cmpI (op : BinOp) (p q : Int) : Option Bool :=
  match op with
  | .lss => some (decide (p < q))
  | .leq => some (decide (p ≤ q))
  | .gtr => some (decide (q < p))
  | .geq => some (decide (q ≤ p))
  | .eql => some (decide (p = q))
  | .neq => some (decide (p ≠ q))
  | _ => none
def cmpS (op : BinOp) (p q : List UInt8) : Option Bool :=
  match op with
  | .eql => some (decide (p = q))
  | .neq => some (decide (p ≠ q))
  | .lss => some (Op.bytesLess p q)
  | .leq => some (Op.bytesLess p q || p == q)
  | .gtr => some (!(Op.bytesLess p q || p == q))
  | .geq => some (!Op.bytesLess p q)
  | _ => none
def ikEq : IntKind → IntKind → Bool
  | .i8, .i8 | .i16, .i16 | .i32, .i32 | .i64, .i64 | .u8, .u8 | .u16, .u16 | .u32, .u32 | .u64, .u64 => true
  | _, _ => false
def effBin (op : BinOp) (t : Nat) (x y : Operand) : Option Eff :=
  match opV tm x, opV tm y with
  | some (.c (.v (.int k p))), some (.c (.v (.int k' q))) => match ikEq k k', cmpI op p q with
    | true, some b => effV ob nx d (.c (.v (.bool b)))
    | _, _ => none
  | some (.c (.v (.string ⟨⟨p⟩⟩))), some (.c (.v (.string ⟨⟨q⟩⟩))) => match cmpS op p q with
    | some b => effV ob nx d (.c (.v (.bool b)))
    | none => none
  | some (.c (.v (.bool p))), some (.c (.v (.bool q))) => match lk t T with
    | some i => match i.isBool, op with
      | true, .eql => effV ob nx d (.c (.v (.bool (decide (p = q)))))
      | true, .neq => effV ob nx d (.c (.v (.bool (decide (p ≠ q)))))
      | _, _ => none
    | none => none
  | _, _ => none
def effLen (x : Operand) (t : Nat) : Option Eff :=
  match opV tm x, lk t T with
  | some (.c c), some i => match c, i.isStr, i.elem with
    | .v (.string ⟨⟨l⟩⟩), true, _ => effV ob nx d (.c (.v (.int .i64 (l.length : Int))))
    | .sl xs, _, some _ => effV ob nx d (.c (.v (.int .i64 (xs.length : Int))))
    | .ref _ _ n, _, some _ => effV ob nx d (.c (.v (.int .i64 (n : Int))))
    | .nil, _, some _ => effV ob nx d (.c (.v (.int .i64 0)))
    | _, _, _ => none
  | _, _ => none
def effField (x : Operand) (t f : Nat) : Option Eff :=
  match opV tm x, lk t T with
  | some (.agg cs), some i => match nthE i.fields f with
    | some (some (off, sz, false)) => match nthE cs off with
      | some c => effV ob nx d (.c c)
      | none => none
    | some (some (off, sz, true)) => effV ob nx d (.agg ((cs.drop off).take sz))
    | _ => none
  | _, _ => none
def effFieldAddr (x : Operand) (t f : Nat) : Option Eff :=
  match opV tm x, lk t T with
  | some (.c (.ptr q i0 g0)), some i => match nthE i.fields f with
    | some (some (off, n + 1, _)) => effV ob nx d (.c (.ptr q i0 (g0 + off)))
    | _ => none
  | some (.c (.ip cs)), some i => match nthE i.fields f with
    | some (some (off, n + 1, _)) => effV ob nx d (.c (.ip (cs.drop off)))
    | _ => none
  | _, _ => none
def effLoad (x : Operand) (t : Nat) : Option Eff :=
  match opV tm x, lk t T with
  | some (.c (.ptr q i0 f)), some i => match lk q ob with
    | some (some obj) => match nthE obj.els i0, i.agg with
      | some el, false => match nthE el f with
        | some c => some ⟨.c c, ob, nx, setU (some d) (.c c), [q]⟩
        | none => none
      | some el, true => bif Nat.ble (f + i.size) el.length then some ⟨.agg ((el.drop f).take i.size), ob, nx, setU (some d) (.agg ((el.drop f).take i.size)), [q]⟩ else none
      | _, _ => none
    | _ => none
  | some (.c (.ip el)), some i => match i.agg with
    | false => match nthE el 0 with
      | some c => effV ob nx d (.c c)
      | none => none
    | true => bif Nat.ble i.size el.length then effV ob nx d (.agg (el.take i.size)) else none
  | _, _ => none
def effBox (m : Nat) (x : Operand) (t : Nat) : Option Eff :=
  bif Nat.ble m nx then match opV tm x with
    | some (.c c) => some ⟨.c (.ptr nx 0 0), (nx, some ⟨t, 1, [[c]]⟩) :: ob, nx + 1, newU (some d) (.c (.ptr nx 0 0)) nx ⟨t, 1, [[c]]⟩, []⟩
    | some (.agg cs) => some ⟨.c (.ptr nx 0 0), (nx, some ⟨t, cs.length, [cs]⟩) :: ob, nx + 1, newU (some d) (.c (.ptr nx 0 0)) nx ⟨t, cs.length, [cs]⟩, []⟩
    | _ => none
  else none
def effNilCheck (x : Operand) : Option Eff :=
  match opV tm x with
  | some (.c (.ptr q i f)) => effV ob nx d (.c (.ptr q i f))
  | some (.c (.ip el)) => effV ob nx d (.c (.ip el))
  | some (.c (.fn f caps)) => effV ob nx d (.c (.fn f caps))
  | _ => none
def effNot (x : Operand) : Option Eff :=
  match opV tm x with
  | some (.c (.v (.bool b))) => effV ob nx d (.c (.v (.bool (!b))))
  | _ => none
def effExtract (x : Operand) (i : Nat) : Option Eff :=
  match opV tm x with
  | some (.tup vs) => match nthE vs i with
    | some y => effV ob nx d y
    | none => none
  | _ => none
def effConv (src dst : Nat) (x : Operand) : Option Eff :=
  match opV tm x, lk src T, lk dst T with
  | some (.c (.v (.int k p))), some i, some j => match i.kind, j.kind with
    | some k1, some k2 => match ikEq k1 k with
      | true => effV ob nx d (.c (.v (.int k2 (k2.wrap p))))
      | false => none
    | _, _ => none
  | _, _, _ => none
def effF (m : Nat) : Op → Option Eff
  | .move x => match opV tm x with | some v => effV ob nx d v | none => none
  | .assign x => match opV tm x with | some v => effV ob nx d v | none => none
  | .binOp op t x y _ => effBin T tm ob nx d op t x y
  | .call ⟨.builtin .len, ⟨[x]⟩, ⟨[t]⟩⟩ => effLen T tm ob nx d x t
  | .field t x f => effField T tm ob nx d x t f
  | .fieldAddr t x f => effFieldAddr T tm ob nx d x t f
  | .load t x => effLoad T tm ob nx d x t
  | .box t x => effBox tm ob nx d m x t
  | .nilCheck x => effNilCheck tm ob nx d x
  | .unOp .not _ x => effNot tm ob nx d x
  | .extract x i => effExtract tm ob nx d x i
  | .convert src dst x => effConv T tm ob nx d src dst x
  | _ => none
end

section
variable {P : Program} {E : Env} {ops : Array Oper} {K : AS → Prop} {draw : Bool}
variable {r : List Oper} {acc : List (Upd × Foot)} {tm : List (Nat × AVal)} {ob : List (Nat × Option AObj)} {nx d ty : Nat} {pos : String} {aft : Array Edge} {g : Option (Nat × Bool)} {T : List (Nat × TyI)}
/-- what an effect is worth -/
def EffOk (P : Program) (E : Env) (ops : Array Oper) (tm : List (Nat × AVal)) (ob : List (Nat × Option AObj)) (nx d : Nat) (o : Oper) (e : Eff) : Prop :=
  StepOk P E ops o ⟨tm, ob, nx⟩ e.u ⟨o.looksAt ops, e.obs⟩ ∧ AS.mk ((d, e.v) :: tm) e.ob e.nx = (AS.mk tm ob nx).upd e.u
theorem EffOk.mk {op : Op} {v : AVal} {e : Eff} (h : effV ob nx d v = some e) (hs : StepOk P E ops ⟨some d, op, ty, pos, aft, g⟩ ⟨tm, ob, nx⟩ (setU (some d) v) ⟨(Oper.mk (some d) op ty pos aft g).looksAt ops, []⟩) : EffOk P E ops tm ob nx d ⟨some d, op, ty, pos, aft, g⟩ e := by
  cases h
  exact ⟨hs, rfl⟩
theorem ikEq_eq {k k' : IntKind} (h : ikEq k k' = true) : k = k' := by cases k <;> cases k' <;> first | rfl | cases h
theorem bin_int {op : BinOp} {t : Nat} {x y : Operand} {k : IntKind} {p q : Int} {b : Bool} (h : cmpI op p q = some b) (w : World) : ((do eqGuard op t x y (.int k p) (.int k q); binOp op t (.int k p) (.int k q) : Sem Value)).run P w = .ok (.bool b) w := by
  unfold cmpI at h
  split at h <;> first | (cases h; done) | skip
  all_goals
    cases h
    simp only [eqGuard, binOp]
    first | (simp [Op.intCmp]; done) | (by_cases e : p = q <;> simp [Op.intCmp, e])
theorem bin_str {op : BinOp} {t : Nat} {x y : Operand} {p q : List UInt8} {b : Bool} (h : cmpS op p q = some b) (w : World) : ((do eqGuard op t x y (.string ⟨⟨p⟩⟩) (.string ⟨⟨q⟩⟩); binOp op t (.string ⟨⟨p⟩⟩) (.string ⟨⟨q⟩⟩) : Sem Value)).run P w = .ok (.bool b) w := by
  have e : ∀ l : List UInt8, (⟨⟨l⟩⟩ : ByteArray).toList = l := fun l => ByteArray.toList_eq _
  unfold cmpS at h
  split at h <;> first | (cases h; done) | skip
  all_goals
    cases h
    simp only [eqGuard, binOp]
    first | (simp [Op.stringOp, e]; done) | (by_cases e2 : p = q <;> simp [Op.stringOp, e, e2])
theorem bin_bool {op : BinOp} {t : Nat} {x y : Operand} {p q b : Bool} (hu : P.underlying t = some .bool) (h : (op = .eql ∧ b = decide (p = q)) ∨ (op = .neq ∧ b = decide (p ≠ q))) (w : World) : ((do eqGuard op t x y (.bool p) (.bool q); binOp op t (.bool p) (.bool q) : Sem Value)).run P w = .ok (.bool b) w := by
  have e : (Op.equal t (.bool p) (.bool q)).run P w = .ok (p == q) w := by
    show (Op.equalIn (9999 + 1) t (.bool p) (.bool q)).run P w = _
    rw [Op.equalIn]
    simp [run_underlying hu]
  rcases h with ⟨rfl, rfl⟩ | ⟨rfl, rfl⟩
  all_goals
    simp only [eqGuard, binOp]
    cases p <;> cases q <;> simp [e]
theorem nth_at {α : Type} {l : List α} {n : Nat} {x : α} (h : nthE l n = some x) : l[n]? = some x := by rw [← nthE_eq]; exact h
theorem opV2 {x : Operand} {v : AVal} (h : opV tm x = some v) : opA ⟨tm, ob, nx⟩ x = v ∧ opB x = true := opV_ok h

theorem effBin_ok {op : BinOp} {t t' : Nat} {x y : Operand} {e : Eff} (hT : TabOk P T) (hw : Want E ops ⟨some d, .binOp op t x y t', ty, pos, aft, g⟩ ⟨tm, ob, nx⟩) (hd : dstB (some d) E.n = true) (h : effBin T tm ob nx d op t x y = some e) :
    EffOk P E ops tm ob nx d ⟨some d, .binOp op t x y t', ty, pos, aft, g⟩ e := by
  unfold effBin at h
  split at h
  · rename_i k p k' q hx hy
    split at h
    · rename_i b hk hc
      obtain rfl := ikEq_eq hk
      obtain ⟨x1, x2⟩ := opV_ok (ob := ob) (nx := nx) hx
      obtain ⟨y1, y2⟩ := opV_ok (ob := ob) (nx := nx) hy
      exact EffOk.mk h (StepOk.bin rfl hw hd (by rw [x2, y2]; rfl) x1 y1 rfl (bin_int hc))
    · cases h
  · rename_i p q hx hy
    split at h
    · rename_i b hc
      obtain ⟨x1, x2⟩ := opV_ok (ob := ob) (nx := nx) hx
      obtain ⟨y1, y2⟩ := opV_ok (ob := ob) (nx := nx) hy
      exact EffOk.mk h (StepOk.bin rfl hw hd (by rw [x2, y2]; rfl) x1 y1 rfl (bin_str hc))
    · cases h
  · rename_i p q hx hy
    obtain ⟨x1, x2⟩ := opV_ok (ob := ob) (nx := nx) hx
    obtain ⟨y1, y2⟩ := opV_ok (ob := ob) (nx := nx) hy
    split at h
    · rename_i i hl
      split at h
      · rename_i hb
        exact EffOk.mk h (StepOk.bin rfl hw hd (by rw [x2, y2]; rfl) x1 y1 rfl (bin_bool (hT.bool hl hb) (.inl ⟨rfl, rfl⟩)))
      · rename_i hb
        exact EffOk.mk h (StepOk.bin rfl hw hd (by rw [x2, y2]; rfl) x1 y1 rfl (bin_bool (hT.bool hl hb) (.inr ⟨rfl, rfl⟩)))
      · cases h
    · cases h
  · cases h
theorem effLen_ok {t : Nat} {x : Operand} {e : Eff} (hT : TabOk P T) (hw : Want E ops ⟨some d, .call ⟨.builtin .len, ⟨[x]⟩, ⟨[t]⟩⟩, ty, pos, aft, g⟩ ⟨tm, ob, nx⟩) (hd : dstB (some d) E.n = true) (h : effLen T tm ob nx d x t = some e) :
    EffOk P E ops tm ob nx d ⟨some d, .call ⟨.builtin .len, ⟨[x]⟩, ⟨[t]⟩⟩, ty, pos, aft, g⟩ e := by
  unfold effLen at h
  split at h
  · rename_i c i hx hl
    obtain ⟨x1, x2⟩ := opV_ok (ob := ob) (nx := nx) hx
    split at h
    · rename_i l el hs
      exact EffOk.mk h (StepOk.len rfl hw hd x2 (.inl ⟨_, rfl, hT.str hl hs⟩) x1 rfl)
    · rename_i xs isS el he
      exact EffOk.mk h (StepOk.len rfl hw hd x2 (.inr ⟨(fun _ e => by cases e), _, (hT.elem hl he).under⟩) x1 rfl)
    · rename_i q off n isS el he
      exact EffOk.mk h (StepOk.len rfl hw hd x2 (.inr ⟨(fun _ e => by cases e), _, (hT.elem hl he).under⟩) x1 rfl)
    · rename_i isS el he
      exact EffOk.mk h (StepOk.len rfl hw hd x2 (.inr ⟨(fun _ e => by cases e), _, (hT.elem hl he).under⟩) x1 rfl)
    · cases h
  · cases h
theorem effField_ok {t f : Nat} {x : Operand} {e : Eff} (hT : TabOk P T) (hw : Want E ops ⟨some d, .field t x f, ty, pos, aft, g⟩ ⟨tm, ob, nx⟩) (hd : dstB (some d) E.n = true) (h : effField T tm ob nx d x t f = some e) :
    EffOk P E ops tm ob nx d ⟨some d, .field t x f, ty, pos, aft, g⟩ e := by
  unfold effField at h
  split at h
  · rename_i cs i hx hl
    obtain ⟨x1, x2⟩ := opV_ok (ob := ob) (nx := nx) hx
    split at h
    · rename_i off sz hf
      split at h
      · rename_i c hc
        exact EffOk.mk h (StepOk.field rfl hw hd x2 (hT.field hl (nth_at hf)) x1 (nth_at hc))
      · cases h
    · rename_i off sz hf
      exact EffOk.mk h (StepOk.fieldAgg rfl hw hd x2 (hT.field hl (nth_at hf)) x1)
    · cases h
  · cases h
theorem effFieldAddr_ok {t f : Nat} {x : Operand} {e : Eff} (hT : TabOk P T) (hw : Want E ops ⟨some d, .fieldAddr t x f, ty, pos, aft, g⟩ ⟨tm, ob, nx⟩) (hd : dstB (some d) E.n = true) (h : effFieldAddr T tm ob nx d x t f = some e) :
    EffOk P E ops tm ob nx d ⟨some d, .fieldAddr t x f, ty, pos, aft, g⟩ e := by
  unfold effFieldAddr at h
  split at h
  · rename_i q i0 g0 i hx hl
    obtain ⟨x1, x2⟩ := opV_ok (ob := ob) (nx := nx) hx
    split at h
    · rename_i off n ag hf
      exact EffOk.mk h (StepOk.fieldAddr rfl hw hd x2 (hT.field hl (nth_at hf)) x1)
    · cases h
  · rename_i cs i hx hl
    obtain ⟨x1, x2⟩ := opV_ok (ob := ob) (nx := nx) hx
    split at h
    · rename_i off n ag hf
      exact EffOk.mk h (StepOk.fieldAddrI rfl hw hd x2 (hT.field hl (nth_at hf)) x1)
    · cases h
  · cases h
theorem effLoad_ok {t : Nat} {x : Operand} {e : Eff} (hT : TabOk P T) (hw : Want E ops ⟨some d, .load t x, ty, pos, aft, g⟩ ⟨tm, ob, nx⟩) (hd : dstB (some d) E.n = true) (h : effLoad T tm ob nx d x t = some e) :
    EffOk P E ops tm ob nx d ⟨some d, .load t x, ty, pos, aft, g⟩ e := by
  unfold effLoad at h
  split at h
  · rename_i q i0 f i hx hl
    obtain ⟨x1, x2⟩ := opV_ok (ob := ob) (nx := nx) hx
    split at h
    · rename_i obj hob
      have hob' : (AS.mk tm ob nx).obj q = some obj := by simp only [AS.obj, hob]; rfl
      split at h
      · rename_i el hel ha
        split at h
        · rename_i c hc
          cases h
          exact ⟨StepOk.load rfl hw hd x2 (by rw [← ha]; exact hT.agg hl) x1 hob' (nth_at hel) (nth_at hc), rfl⟩
        · cases h
      · rename_i el hel ha
        cases hb : Nat.ble (f + i.size) el.length with
        | false => rw [hb] at h; cases h
        | true =>
          rw [hb] at h
          cases h
          exact ⟨StepOk.loadAgg rfl hw hd x2 (by rw [← ha]; exact hT.agg hl) (hT.size hl) x1 hob' (nth_at hel) (Nat.le_of_ble_eq_true hb), rfl⟩
      · cases h
    · cases h
  · rename_i el i hx hl
    obtain ⟨x1, x2⟩ := opV_ok (ob := ob) (nx := nx) hx
    split at h
    · rename_i ha
      split at h
      · rename_i c hc
        exact EffOk.mk h (StepOk.loadI rfl hw hd x2 (by rw [← ha]; exact hT.agg hl) x1 (nth_at hc))
      · cases h
    · rename_i ha
      cases hb : Nat.ble i.size el.length with
      | false => rw [hb] at h; cases h
      | true =>
        rw [hb] at h
        exact EffOk.mk h (StepOk.loadAggI rfl hw hd x2 (by rw [← ha]; exact hT.agg hl) (hT.size hl) x1 (Nat.le_of_ble_eq_true hb))
  · cases h
theorem effBox_ok {t : Nat} {x : Operand} {e : Eff} (hw : Want E ops ⟨some d, .box t x, ty, pos, aft, g⟩ ⟨tm, ob, nx⟩) (hd : dstB (some d) E.n = true) (h : effBox tm ob nx d E.m x t = some e) :
    EffOk P E ops tm ob nx d ⟨some d, .box t x, ty, pos, aft, g⟩ e := by
  unfold effBox at h
  cases hm : Nat.ble E.m nx with
  | false => rw [hm] at h; cases h
  | true =>
    rw [hm] at h
    simp only [cond_true] at h
    split at h
    · rename_i c hx
      obtain ⟨x1, x2⟩ := opV_ok (ob := ob) (nx := nx) hx
      cases h
      exact ⟨StepOk.box (cs := [c]) rfl hw hd x2 hm (by rw [x1]; rfl), rfl⟩
    · rename_i cs hx
      obtain ⟨x1, x2⟩ := opV_ok (ob := ob) (nx := nx) hx
      cases h
      exact ⟨StepOk.box rfl hw hd x2 hm (by rw [x1]; rfl), rfl⟩
    · cases h

/-- one step of the walk that asks for nothing beside the state -/
theorem xF {op : Op} {v : AVal} {ob' : List (Nat × Option AObj)} {nx' : Nat} {u : Upd} {obs : List Nat} (hT : TabOk P T) (hF : effF T tm ob nx d E.m op = some ⟨v, ob', nx', u, obs⟩) (hd : dstB (some d) E.n = true)
    (h : regX P E ops K draw r ((u, ⟨(Oper.mk (some d) op ty pos aft g).looksAt ops, obs⟩) :: acc) ⟨(d, v) :: tm, ob', nx'⟩) : regY P E ops K draw ⟨some d, op, ty, pos, aft, g⟩ r acc ⟨tm, ob, nx⟩ := by
  refine ⟨fun hw => ?_⟩
  have key : EffOk P E ops tm ob nx d ⟨some d, op, ty, pos, aft, g⟩ ⟨v, ob', nx', u, obs⟩ := by
    unfold effF at hF
    split at hF
    · split at hF
      · rename_i x v' hx
        obtain ⟨x1, x2⟩ := opV_ok (ob := ob) (nx := nx) hx
        refine EffOk.mk hF ?_
        subst x1
        exact StepOk.move (.inl rfl) hw hd x2
      · cases hF
    · split at hF
      · rename_i x v' hx
        obtain ⟨x1, x2⟩ := opV_ok (ob := ob) (nx := nx) hx
        refine EffOk.mk hF ?_
        subst x1
        exact StepOk.move (.inr rfl) hw hd x2
      · cases hF
    · exact effBin_ok hT hw hd hF
    · exact effLen_ok hT hw hd hF
    · exact effField_ok hT hw hd hF
    · exact effFieldAddr_ok hT hw hd hF
    · exact effLoad_ok hT hw hd hF
    · exact effBox_ok hw hd hF
    · unfold effNilCheck at hF
      split at hF
      · rename_i x q i f hx
        obtain ⟨x1, x2⟩ := opV_ok (ob := ob) (nx := nx) hx
        exact EffOk.mk hF (StepOk.nilCheck rfl hw hd x2 x1 (.inl ⟨q, i, f, rfl⟩))
      · rename_i x el hx
        obtain ⟨x1, x2⟩ := opV_ok (ob := ob) (nx := nx) hx
        exact EffOk.mk hF (StepOk.nilCheck rfl hw hd x2 x1 (.inr (.inl ⟨el, rfl⟩)))
      · rename_i x f caps hx
        obtain ⟨x1, x2⟩ := opV_ok (ob := ob) (nx := nx) hx
        exact EffOk.mk hF (StepOk.nilCheck rfl hw hd x2 x1 (.inr (.inr ⟨f, caps, rfl⟩)))
      · cases hF
    · unfold effNot at hF
      split at hF
      · rename_i t x b hx
        obtain ⟨x1, x2⟩ := opV_ok (ob := ob) (nx := nx) hx
        exact EffOk.mk hF (StepOk.un rfl hw hd x2 x1 rfl (fun _ => rfl))
      · cases hF
    · unfold effExtract at hF
      split at hF
      · rename_i x i vs hx
        obtain ⟨x1, x2⟩ := opV_ok (ob := ob) (nx := nx) hx
        split at hF
        · rename_i y hy
          exact EffOk.mk hF (StepOk.extract rfl hw hd x2 x1 (nth_at hy))
        · cases hF
      · cases hF
    · unfold effConv at hF
      split at hF
      · rename_i src dst x k p i j hx hs ht
        obtain ⟨x1, x2⟩ := opV_ok (ob := ob) (nx := nx) hx
        split at hF
        · rename_i k1 k2 h1 h2
          split at hF
          · rename_i hk
            obtain rfl := ikEq_eq hk
            refine EffOk.mk hF (StepOk.conv rfl hw hd x2 x1 rfl (fun w => ?_))
            have u1 := hT.int hs h1
            have u2 := hT.int ht h2
            simp [convert, run_underlying u1, run_underlying u2, Conv.intToInt]
          · cases hF
        · cases hF
      · cases hF
    · cases hF
  exact regX.cons _ _ key.1 key.2 h
theorem rxKnown {o : Oper} {j t : Nat} {b c : Bool} (_ : o.guard = some (j, b)) (_ : (ops[j]?).bind (·.dst) = some t) (_ : (lk t tm).getD .any = .c (.v (.bool c))) (_ : c = b ∨ c = !b) (h : regX P E ops K draw (o :: r) acc ⟨tm, ob, nx⟩) : regX P E ops K draw (o :: r) acc ⟨tm, ob, nx⟩ := h
theorem rxid {l : List Oper} {s : AS} (h : regX P E ops K draw l acc s) : regX P E ops K draw l acc s := h
theorem xSkip {op : Op} {j t : Nat} {b c : Bool} (hgd : g = some (j, b)) (ht : (ops[j]?).bind (·.dst) = some t) (hs : (AS.mk tm ob nx).get t = .c (.v (.bool c))) (hl : Nat.ble (t + 1) E.n = true) (hd : dstB (some d) E.n = true) (hc : c = !b)
    (h : regX P E ops K draw r ((setU (some d) (.tup []), ⟨(Oper.mk (some d) op ty pos aft g).looksAt ops, []⟩) :: acc) ⟨(d, .tup []) :: tm, ob, nx⟩) : regX P E ops K draw (⟨some d, op, ty, pos, aft, g⟩ :: r) acc ⟨tm, ob, nx⟩ :=
  rx_skip (Skips.some_ hgd ht hs (by rw [hc]; cases b <;> rfl) hl) hd h
theorem xSkipN {op : Op} {j t : Nat} {b : Bool} (hgd : g = some (j, b)) (ht : (ops[j]?).bind (·.dst) = some t) (hs : (AS.mk tm ob nx).get t = .tup []) (hl : Nat.ble (t + 1) E.n = true) (hd : dstB (some d) E.n = true)
    (h : regX P E ops K draw r ((setU (some d) (.tup []), ⟨(Oper.mk (some d) op ty pos aft g).looksAt ops, []⟩) :: acc) ⟨(d, .tup []) :: tm, ob, nx⟩) : regX P E ops K draw (⟨some d, op, ty, pos, aft, g⟩ :: r) acc ⟨tm, ob, nx⟩ :=
  rx_skip (Skips.none_ hgd ht hs hl) hd h
theorem xPick {c x y : Operand} {p' : AVal} {b b' : Bool} (hd : dstB (some d) E.n = true) (hz : opV tm c = some (.c (.v (.bool b)))) (hb : b = b') (hy : (bif b' then opV tm x else opV tm y) = some p') (hxb : (opB x && opB y) = true)
    (h : regX P E ops K draw r ((setU (some d) p', ⟨(Oper.mk (some d) (.pick c x y) ty pos aft g).looksAt ops, []⟩) :: acc) ⟨(d, p') :: tm, ob, nx⟩) : regY P E ops K draw ⟨some d, .pick c x y, ty, pos, aft, g⟩ r acc ⟨tm, ob, nx⟩ := by
  refine ⟨fun hw => ?_⟩
  simp only [Bool.and_eq_true] at hxb
  subst hb
  cases b with
  | true => exact (rx_pickT hd hz rfl hy hxb.2 h).h hw
  | false => exact (rx_pickF hd hz rfl hxb.1 hy h).h hw
end
theorem set_at {α : Type} {xs : List α} {j : Nat} {x y : α} (h : xs[j]? = some y) : (xs.set j x)[j]? = some x := by
  have := (List.getElem?_eq_some_iff.1 h).1
  rw [List.getElem?_set_self this]
end Go.Proofs.Ytfebalahfhkeaaa
