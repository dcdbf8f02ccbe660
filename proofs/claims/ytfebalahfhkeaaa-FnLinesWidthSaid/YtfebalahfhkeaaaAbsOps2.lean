/- The abstract machine, part 6: strings, fields, elements, loads, struct values. No conditions but those stated. -/
import Derived.Test.YtfebalahfhkeaaaAbsOps
namespace Go.Proofs.Ytfebalahfhkeaaa
open Go Go.RowKit

/-- a string by its bytes -/
def str (l : List UInt8) : Cell := .v (.string ⟨⟨l⟩⟩)
def int (n : Int) : Cell := .v (.int .i64 n)
def boo (b : Bool) : Cell := .v (.bool b)

/-- an operand that is an integer -/
def optI (s : AS) (d : Nat) : Option Operand → Nat → Prop
  | none, l => l = d
  | some x, l => opB x = true ∧ ∃ k z, opA s x = .c (.v (.int k z)) ∧ z = (l : Int)

section
variable {P : Program} {E : Env} {ops : Array Oper} {o : Oper} {s : AS}
theorem add_addr (b o n : Nat) : (⟨b, o, none⟩ : Addr).add n = ⟨b, o + n, none⟩ := by unfold Addr.add; split <;> simp_all

theorem StepOk.indexStr {x i : Operand} {t : Nat} {l : List UInt8} {k : IntKind} {z : Int} {c : UInt8} (ho : o.op = .index t x i) (hw : Want E ops o s) (hd : dstB o.dst E.n = true) (hxb : (opB x && opB i) = true)
    (ht : P.underlying t = some .string) (hx : opA s x = .c (str l)) (hi : opA s i = .c (.v (.int k z))) (hz : 0 ≤ z) (hc : l[z.toNat]? = some c) :
    StepOk P E ops o s (setU o.dst (.c (.v (.int .u8 c.toNat)))) ⟨o.looksAt ops, []⟩ := by
  simp only [Bool.and_eq_true] at hxb
  refine StepOk.val hw hd (by simp [ho, Op.operands, hxb]) fun N I s' β a w hop _ _ => ?_
  have h1 := hop x (by simp [ho, Op.operands])
  have h2 := hop i (by simp [ho, Op.operands])
  rw [hx] at h1
  rw [hi] at h2
  refine ⟨_, ?_, Rep.imm (.v _ rfl)⟩
  have hb : (⟨⟨l⟩⟩ : ByteArray)[z.toNat]? = some c := by
    have hlt : z.toNat < l.length := (List.getElem?_eq_some_iff.1 hc).1
    have h3 : z.toNat < (⟨⟨l⟩⟩ : ByteArray).size := hlt
    rw [getElem?_pos (⟨⟨l⟩⟩ : ByteArray) z.toNat h3]
    have h4 := (List.getElem?_eq_some_iff.1 hc).2
    simp only [Option.some.injEq]
    exact h4
  simp [execOp, ho, Instr.index, rep_v h1, rep_v h2, asIntOf, run_underlying ht, hz, hb]
theorem run_sliceBounds {s' : AS} {I : Nat → Prop} {β : Nat → Option BI} {a : Act} {w : World} (hs' : s' = s) (isS : Bool) (len cap lo hi : Nat) (low high : Option Operand) (hl : optI s 0 low lo) (hh : optI s len high hi)
    (hlow : ∀ y ∈ low, RepV I β w (opA s y) (a.eval y)) (hhigh : ∀ y ∈ high, RepV I β w (opA s y) (a.eval y)) (h1 : lo ≤ hi) (h2 : hi ≤ cap) :
    (Instr.sliceBounds isS len cap (low.map a.eval) (high.map a.eval) none).run P w = .ok (lo, hi, cap) w := by
  subst hs'
  cases low with
  | none =>
    simp only [optI] at hl
    subst hl
    cases high with
    | none => simp only [optI] at hh; subst hh; simp [Instr.sliceBounds]
    | some y =>
      obtain ⟨_, k, z, e, rfl⟩ := hh
      have := hhigh y rfl
      rw [e] at this
      simp [Instr.sliceBounds, Instr.sliceBound, rep_v this, asIntOf, h2]
  | some x =>
    obtain ⟨_, k, z, e, rfl⟩ := hl
    have hx := hlow x rfl
    rw [e] at hx
    cases high with
    | none =>
      simp only [optI] at hh
      subst hh
      simp [Instr.sliceBounds, Instr.sliceBound, rep_v hx, asIntOf, h1]
    | some y =>
      obtain ⟨_, k', z', e', rfl⟩ := hh
      have := hhigh y rfl
      rw [e'] at this
      simp [Instr.sliceBounds, Instr.sliceBound, rep_v hx, rep_v this, asIntOf, h1, h2]
theorem opts_mem {x y : Operand} {low high : Option Operand} : (y ∈ low → y ∈ (Op.operands (.slice 0 x low high none)).toList) ∧ (y ∈ high → y ∈ (Op.operands (.slice 0 x low high none)).toList) := by
  constructor <;> intro h <;> cases low <;> cases high <;> simp_all [Op.operands]
theorem opts_all {x : Operand} {low high : Option Operand} {lo hi n : Nat} (hx : opB x = true) (hl : optI s 0 low lo) (hh : optI s n high hi) : (Op.operands (.slice 0 x low high none)).toList.all opB = true := by
  cases low <;> cases high <;> simp_all [Op.operands, optI]
theorem extract_list (l : List UInt8) (a b : Nat) : (⟨⟨l⟩⟩ : ByteArray).extract a b = ⟨⟨(l.drop a).take (b - a)⟩⟩ := by
  apply ByteArray.ext
  rw [ByteArray.data_extract]
  apply Array.ext'
  rw [Array.toList_extract]
theorem StepOk.sliceStr {x : Operand} {low high : Option Operand} {t lo hi : Nat} {l : List UInt8} (ho : o.op = .slice t x low high none) (hw : Want E ops o s) (hd : dstB o.dst E.n = true) (hxb : opB x = true)
    (ht : P.underlying t = some .string) (hx : opA s x = .c (str l)) (hl : optI s 0 low lo) (hh : optI s l.length high hi) (h1 : lo ≤ hi) (h2 : hi ≤ l.length) :
    StepOk P E ops o s (setU o.dst (.c (str ((l.drop lo).take (hi - lo))))) ⟨o.looksAt ops, []⟩ := by
  refine StepOk.val hw hd (by have := opts_all (s := s) hxb hl hh; rw [ho]; exact this) fun N I s' β a w hop _ _ => ?_
  have h3 := hop x (by simp [ho, Op.operands])
  rw [hx] at h3
  have hsb := run_sliceBounds (P := P) (s := s) (I := I) (β := β) (w := w) (a := a) rfl false l.length l.length lo hi low high hl hh (fun y hy => hop y (by rw [ho]; exact opts_mem.1 hy)) (fun y hy => hop y (by rw [ho]; exact opts_mem.2 hy)) h1 h2
  refine ⟨.string ⟨⟨(l.drop lo).take (hi - lo)⟩⟩, ?_, Rep.imm (.v _ rfl)⟩
  have hsz : (⟨⟨l⟩⟩ : ByteArray).size = l.length := rfl
  simp [execOp, ho, Instr.sliceAt, Instr.slice, rep_v h3, run_underlying ht, hsz, hsb, extract_list]

/-- a field of a struct type -/
def tyField (P : Program) (t f off sz : Nat) (agg : Bool) : Prop := ∃ fields fd, P.underlying t = some (.struct fields) ∧ fields[f]? = some fd ∧ fd.offset = off ∧ tySize P fd.type sz ∧ tyAgg P fd.type agg
theorem StepOk.fieldAgg {x : Operand} {t f off sz : Nat} {cs : List Cell} (ho : o.op = .field t x f) (hw : Want E ops o s) (hd : dstB o.dst E.n = true) (hxb : opB x = true) (ht : tyField P t f off sz true)
    (hx : opA s x = .agg cs) : StepOk P E ops o s (setU o.dst (.agg ((cs.drop off).take sz))) ⟨o.looksAt ops, []⟩ := by
  refine StepOk.val hw hd (by simp [ho, Op.operands, hxb]) fun N I s' β a w hop _ _ => ?_
  have h1 := hop x (by simp [ho, Op.operands])
  rw [hx] at h1
  obtain ⟨vals, h2, h3⟩ := RepV.agg.1 h1
  obtain ⟨fields, fd, k1, k2, rfl, k4, k5⟩ := ht
  refine ⟨.agg (((vals.drop fd.offset).take sz).toArray), ?_, RepV.agg.2 ⟨_, rfl, (h3.drop _).take _⟩⟩
  simp [execOp, ho, Instr.field, h2, run_underlying k1, k2, asAgg, part, run_isAgg k5, run_sizeOf k4, List.extract_eq_take_drop]
theorem StepOk.field {x : Operand} {t f off sz : Nat} {cs : List Cell} {c : Cell} (ho : o.op = .field t x f) (hw : Want E ops o s) (hd : dstB o.dst E.n = true) (hxb : opB x = true) (ht : tyField P t f off sz false)
    (hx : opA s x = .agg cs) (hc : cs[off]? = some c) : StepOk P E ops o s (setU o.dst (.c c)) ⟨o.looksAt ops, []⟩ := by
  refine StepOk.val hw hd (by simp [ho, Op.operands, hxb]) fun N I s' β a w hop _ _ => ?_
  have h1 := hop x (by simp [ho, Op.operands])
  rw [hx] at h1
  obtain ⟨vals, h2, h3⟩ := RepV.agg.1 h1
  obtain ⟨fields, fd, k1, k2, rfl, k4, k5⟩ := ht
  obtain ⟨v, h4, h5⟩ := h3.at hc
  refine ⟨v, ?_, h5⟩
  simp [execOp, ho, Instr.field, h2, run_underlying k1, k2, asAgg, part, run_isAgg k5, h4]
theorem rep_ip {I : Nat → Prop} {β : Nat → Option BI} {w : World} {cs : List Cell} {v : Value} (h : Rep I β w (.ip cs) v) : ∃ (b o : Nat) (u : Nat → Value), v = .pointer (some ⟨b, o, none⟩) ∧ I b ∧
    (∀ (j : Nat) c, cs[j]? = some c → w.cell? ⟨b, o + j, none⟩ = some (u j)) ∧ (∀ (j : Nat) c, cs[j]? = some c → RepI I w c (u j)) := by
  cases h with
  | imm h => cases h with
    | ip _ b o u h1 h2 h3 => exact ⟨b, o, u, rfl, h1, h2, h3⟩
theorem StepOk.fieldAddr {x : Operand} {t f off sz q i g : Nat} {agg : Bool} (ho : o.op = .fieldAddr t x f) (hw : Want E ops o s) (hd : dstB o.dst E.n = true) (hxb : opB x = true) (ht : tyField P t f off (sz + 1) agg)
    (hx : opA s x = .c (.ptr q i g)) : StepOk P E ops o s (setU o.dst (.c (.ptr q i (g + off)))) ⟨o.looksAt ops, []⟩ := by
  refine StepOk.val hw hd (by simp [ho, Op.operands, hxb]) fun N I s' β a w hop _ _ => ?_
  have h1 := hop x (by simp [ho, Op.operands])
  rw [hx] at h1
  obtain ⟨b, z, C, h2, h3⟩ := rep_ptr (show Rep I β w _ _ from h1)
  obtain ⟨fields, fd, k1, k2, rfl, k4, k5⟩ := ht
  refine ⟨_, ?_, Rep.ptr q i (g + fd.offset) b z C h2⟩
  simp [execOp, ho, Instr.fieldAt, Instr.sureAddr, h3, run_underlying k1, k2, fieldPlace, run_sizeOf k4, add_addr]
  omega
theorem StepOk.fieldAddrI {x : Operand} {t f off sz : Nat} {agg : Bool} {cs : List Cell} (ho : o.op = .fieldAddr t x f) (hw : Want E ops o s) (hd : dstB o.dst E.n = true) (hxb : opB x = true) (ht : tyField P t f off (sz + 1) agg)
    (hx : opA s x = .c (.ip cs)) : StepOk P E ops o s (setU o.dst (.c (.ip (cs.drop off)))) ⟨o.looksAt ops, []⟩ := by
  refine StepOk.val hw hd (by simp [ho, Op.operands, hxb]) fun N I s' β a w hop _ _ => ?_
  have h1 := hop x (by simp [ho, Op.operands])
  rw [hx] at h1
  obtain ⟨b, p, u, h2, h3, h4, h5⟩ := rep_ip (show Rep I β w _ _ from h1)
  obtain ⟨fields, fd, k1, k2, rfl, k4, k5⟩ := ht
  refine ⟨.pointer (some ⟨b, p + fd.offset, none⟩), ?_, Rep.imm (.ip _ b (p + fd.offset) (fun j => u (fd.offset + j)) h3 (fun j c hj => ?_) (fun j c hj => ?_))⟩
  · simp [execOp, ho, Instr.fieldAt, Instr.sureAddr, h2, run_underlying k1, k2, fieldPlace, run_sizeOf k4, add_addr]
  · rw [List.getElem?_drop] at hj; rw [Nat.add_assoc]; exact h4 _ c hj
  · rw [List.getElem?_drop] at hj; exact h5 _ c hj

theorem StepOk.indexRef {x i : Operand} {t e q off n : Nat} {k : IntKind} {z : Int} {obj : AObj} (ho : o.op = .indexAddr t x i) (hw : Want E ops o s) (hd : dstB o.dst E.n = true) (hxb : (opB x && opB i) = true)
    (ht : P.underlying t = some (.slice e)) (hx : opA s x = .c (.ref q off n)) (hi : opA s i = .c (.v (.int k z))) (hz : 0 ≤ z) (hn : z < n) (hob : s.obj q = some obj) (hsz : tySize P e obj.sz) :
    StepOk P E ops o s (setU o.dst (.c (.ptr q (off + z.toNat) 0))) ⟨o.looksAt ops, [q]⟩ := by
  simp only [Bool.and_eq_true] at hxb
  refine StepOk.val hw hd (by simp [ho, Op.operands, hxb]) fun N I s' β a w hop hobs hr => ?_
  have h1 := hop x (by simp [ho, Op.operands])
  have h2 := hop i (by simp [ho, Op.operands])
  rw [hx] at h1
  rw [hi] at h2
  have hob' : s'.obj q = some obj := (hobs q (by simp)).trans hob
  obtain ⟨B, hB, _, _, h6⟩ := hr.obs q obj hob'
  have key : ∀ v, Rep I β w (.ref q off n) v → ∃ b cap C, v = .slice (some ⟨b, off * obj.sz, none⟩) n cap ∧ β q = some ⟨some b, obj.sz, C⟩ := by
    intro v hv
    cases hv with
    | imm h => cases h
    | ref _ _ _ b sz cap C g1 g2 g3 =>
      rw [hB] at g1
      cases g1
      have := (h6 b rfl).1
      simp only at this
      subst this
      exact ⟨b, cap, C, rfl, hB⟩
    | refE => omega
    | ref0 => omega
  obtain ⟨b, cap, C, h3, h4⟩ := key _ h1
  refine ⟨_, ?_, Rep.ptr q (off + z.toNat) 0 b obj.sz C h4⟩
  simp [execOp, ho, Instr.indexAt, h3, rep_v h2, asIntOf, run_underlying ht, hz, hn, run_sizeOf hsz, add_addr, Nat.add_mul]
theorem StepOk.indexSl {x i : Operand} {t e : Nat} {k : IntKind} {z : Int} {xs : List (List Cell)} {el : List Cell} (ho : o.op = .indexAddr t x i) (hw : Want E ops o s) (hd : dstB o.dst E.n = true) (hxb : (opB x && opB i) = true)
    (ht : P.underlying t = some (.slice e)) (hx : opA s x = .c (.sl xs)) (hi : opA s i = .c (.v (.int k z))) (hz : 0 ≤ z) (hel : xs[z.toNat]? = some el) (hsz : tySize P e el.length) :
    StepOk P E ops o s (setU o.dst (.c (.ip el))) ⟨o.looksAt ops, []⟩ := by
  simp only [Bool.and_eq_true] at hxb
  refine StepOk.val hw hd (by simp [ho, Op.operands, hxb]) fun N I s' β a w hop hobs hr => ?_
  have h1 := hop x (by simp [ho, Op.operands])
  have h2 := hop i (by simp [ho, Op.operands])
  rw [hx] at h1
  rw [hi] at h2
  have hlt : z.toNat < xs.length := (List.getElem?_eq_some_iff.1 hel).1
  have key : ∀ v, Rep I β w (.sl xs) v → ∃ b p cap, v = .slice (some ⟨b, p, none⟩) xs.length cap ∧ Rep I β w (.ip el) (.pointer (some ⟨b, p + z.toNat * el.length, none⟩)) := by
    intro v hv
    cases hv with
    | imm h =>
      cases h with
      | sl0 => simp at hlt
      | sl _ b p sz n cap u g1 g2 g3 g4 g5 g6 =>
        have hs := g3 el (List.mem_of_getElem? hel)
        subst hs
        exact ⟨b, p, cap, by rw [g1], .imm (.ip el b _ (fun j => u z.toNat j) g4 (fun j c hj => g5 _ j el c hel hj) (fun j c hj => g6 _ j el c hel hj))⟩
  obtain ⟨b, p, cap, h3, h4⟩ := key _ h1
  refine ⟨_, ?_, h4⟩
  simp [execOp, ho, Instr.indexAt, h3, rep_v h2, asIntOf, run_underlying ht, hz, show z < (xs.length : Int) by omega, run_sizeOf hsz, add_addr]

theorem StepOk.loadAgg {x : Operand} {t q i f n : Nat} {obj : AObj} {el : List Cell} (ho : o.op = .load t x) (hw : Want E ops o s) (hd : dstB o.dst E.n = true) (hxb : opB x = true)
    (ht : tyAgg P t true) (hn : tySize P t n) (hx : opA s x = .c (.ptr q i f)) (hob : s.obj q = some obj) (hel : obj.els[i]? = some el) (hl : f + n ≤ el.length) :
    StepOk P E ops o s (setU o.dst (.agg ((el.drop f).take n))) ⟨o.looksAt ops, [q]⟩ := by
  refine StepOk.val hw hd (by simp [ho, Op.operands, hxb]) fun N I s' β a w hop hobs hr => ?_
  have h1 := hop x (by simp [ho, Op.operands])
  rw [hx] at h1
  obtain ⟨vals, k1, k2⟩ := (run_loadVar_obj (P := P) (ty := t) (hr.obs q obj ((hobs q (by simp)).trans hob)) h1 hel).1 n ht hn hl
  exact ⟨_, by simp only [execOp, ho]; rw [Sem.run_bind, k2]; rfl, RepV.agg.2 ⟨vals, rfl, k1⟩⟩
theorem StepOk.load {x : Operand} {t q i f : Nat} {obj : AObj} {el : List Cell} {c : Cell} (ho : o.op = .load t x) (hw : Want E ops o s) (hd : dstB o.dst E.n = true) (hxb : opB x = true)
    (ht : tyAgg P t false) (hx : opA s x = .c (.ptr q i f)) (hob : s.obj q = some obj) (hel : obj.els[i]? = some el) (hc : el[f]? = some c) :
    StepOk P E ops o s (setU o.dst (.c c)) ⟨o.looksAt ops, [q]⟩ := by
  refine StepOk.val hw hd (by simp [ho, Op.operands, hxb]) fun N I s' β a w hop hobs hr => ?_
  have h1 := hop x (by simp [ho, Op.operands])
  rw [hx] at h1
  obtain ⟨u, k1, k2⟩ := (run_loadVar_obj (P := P) (ty := t) (hr.obs q obj ((hobs q (by simp)).trans hob)) h1 hel).2 c ht hc
  exact ⟨u, by simp only [execOp, ho]; rw [Sem.run_bind, k2]; rfl, k1⟩
theorem StepOk.loadAggI {x : Operand} {t n : Nat} {el : List Cell} (ho : o.op = .load t x) (hw : Want E ops o s) (hd : dstB o.dst E.n = true) (hxb : opB x = true)
    (ht : tyAgg P t true) (hn : tySize P t n) (hx : opA s x = .c (.ip el)) (hl : n ≤ el.length) : StepOk P E ops o s (setU o.dst (.agg (el.take n))) ⟨o.looksAt ops, []⟩ := by
  refine StepOk.val hw hd (by simp [ho, Op.operands, hxb]) fun N I s' β a w hop hobs hr => ?_
  have h1 := hop x (by simp [ho, Op.operands])
  rw [hx] at h1
  obtain ⟨b, p, u, h2, h3, h4, h5⟩ := rep_ip (show Rep I β w _ _ from h1)
  have hblk : ∃ vals : List Value, All2 (Rep I β w) (el.take n) vals ∧ ∀ (j : Nat) v, vals[j]? = some v → w.cell? ⟨b, p + j, none⟩ = some v := by
    refine ⟨(List.range n).map u, All2.of_at (by simp; omega) fun j c v hj hv => ?_, fun j v hv => ?_⟩
    · rw [List.getElem?_take] at hj
      split at hj
      · rw [List.getElem?_map, List.getElem?_range (by assumption)] at hv
        simp only [Option.map_some, Option.some.injEq] at hv
        subst hv
        exact .imm (h5 j c hj)
      · cases hj
    · rw [List.getElem?_map] at hv
      rcases Nat.lt_or_ge j n with hj | hj
      · rw [List.getElem?_range hj] at hv
        simp only [Option.map_some, Option.some.injEq] at hv
        subst hv
        exact h4 j (el[j]'(by omega)) (List.getElem?_eq_getElem (by omega))
      · rw [List.getElem?_eq_none (by simpa using hj)] at hv
        cases hv
  obtain ⟨vals, g1, g2⟩ := hblk
  have hlen : vals.length = n := by rw [g1.length]; simp; omega
  refine ⟨.agg vals.toArray, ?_, RepV.agg.2 ⟨vals, rfl, g1⟩⟩
  have hld : (loadCells ⟨b, p, none⟩ n).run P w = .ok vals.toArray w := by
    rw [← hlen]
    refine run_loadCells_list w ⟨b, p, none⟩ vals fun j v hj => ?_
    rw [add_addr]
    exact g2 j v hj
  simp [execOp, ho, Instr.loadAt, Instr.sureAddr, h2, loadVar, run_isAgg ht, run_sizeOf hn, hld]
theorem StepOk.loadI {x : Operand} {t : Nat} {el : List Cell} {c : Cell} (ho : o.op = .load t x) (hw : Want E ops o s) (hd : dstB o.dst E.n = true) (hxb : opB x = true)
    (ht : tyAgg P t false) (hx : opA s x = .c (.ip el)) (hc : el[0]? = some c) : StepOk P E ops o s (setU o.dst (.c c)) ⟨o.looksAt ops, []⟩ := by
  refine StepOk.val hw hd (by simp [ho, Op.operands, hxb]) fun N I s' β a w hop hobs hr => ?_
  have h1 := hop x (by simp [ho, Op.operands])
  rw [hx] at h1
  obtain ⟨b, p, u, h2, h3, h4, h5⟩ := rep_ip (show Rep I β w _ _ from h1)
  refine ⟨u 0, ?_, Rep.imm (h5 0 c hc)⟩
  have := h4 0 c hc
  simp only [Nat.add_zero] at this
  simp [execOp, ho, Instr.loadAt, Instr.sureAddr, h2, loadVar, run_isAgg ht, Go.load, Sem.run, this]
theorem StepOk.nilCheck {x : Operand} {c : Cell} (ho : o.op = .nilCheck x) (hw : Want E ops o s) (hd : dstB o.dst E.n = true) (hxb : opB x = true)
    (hx : opA s x = .c c) (hc : (∃ q i f, c = .ptr q i f) ∨ (∃ el, c = .ip el) ∨ ∃ f caps, c = .fn f caps) : StepOk P E ops o s (setU o.dst (.c c)) ⟨o.looksAt ops, []⟩ := by
  refine StepOk.val hw hd (by simp [ho, Op.operands, hxb]) fun N I s' β a w hop hobs hr => ?_
  have h1 := hop x (by simp [ho, Op.operands])
  rw [hx] at h1
  refine ⟨a.eval x, ?_, h1⟩
  rcases hc with ⟨q, i, f, rfl⟩ | ⟨el, rfl⟩ | ⟨f, caps, rfl⟩
  · obtain ⟨b, z, C, _, h3⟩ := rep_ptr (show Rep I β w _ _ from h1)
    simp [execOp, ho, h3]
  · obtain ⟨b, p, u, h2, _⟩ := rep_ip (show Rep I β w _ _ from h1)
    simp [execOp, ho, h2]
  · have : ∃ vals : Array Value, a.eval x = .func (.func f) #[] vals := by
      generalize a.eval x = v at h1
      cases (show Rep I β w (.fn f caps) v from h1) with
      | imm h => cases h with | fn _ _ vals => exact ⟨_, rfl⟩
      | fn _ _ vals => exact ⟨_, rfl⟩
    obtain ⟨vals, h3⟩ := this
    simp [execOp, ho, h3]
end
end Go.Proofs.Ytfebalahfhkeaaa
