/- The abstract machine, part 1: cells, what they stand for in memory, states, and how both are kept. No conditions but those stated. -/
import Derived.Calls
import Derived.Below
import Derived.OneCell
import Derived.Orders
import Derived.Laws.AppendOwn
import Derived.KernelRfl
namespace Go.Proofs.Ytfebalahfhkeaaa
open Go Go.RowKit

/-- a cell of memory, seen without addresses: 'sl' a slice that nobody writes to, 'ref' a slice of an object of one's own, 'ptr' a pointer into one -/
inductive Cell where
  | v (x : Value)
  | nil
  | sl (xs : List (List Cell))
  | ip (cs : List Cell)
  | ref (o off n : Nat)
  | ptr (o i f : Nat)
  | fn (f : Nat) (caps : List Cell)
  | dead

/-- data that stands in memory which nobody writes to (blocks in I) -/
inductive RepI (I : Nat → Prop) (w : World) : Cell → Value → Prop
  | v (x : Value) : x.oneCell' = true → RepI I w (.v x) x
  | nil : RepI I w .nil (.slice none 0 0)
  | sl0 (A : Option Addr) (cap : Nat) : RepI I w (.sl []) (.slice A 0 cap)
  | sl (xs : List (List Cell)) (b o sz n cap : Nat) (u : Nat → Nat → Value) : n = xs.length → n ≤ cap → (∀ x ∈ xs, x.length = sz) → I b →
      (∀ (i j : Nat) x c, xs[i]? = some x → x[j]? = some c → w.cell? ⟨b, o + i * sz + j, none⟩ = some (u i j)) →
      (∀ (i j : Nat) x c, xs[i]? = some x → x[j]? = some c → RepI I w c (u i j)) → RepI I w (.sl xs) (.slice (some ⟨b, o, none⟩) n cap)
  | ip (cs : List Cell) (b o : Nat) (u : Nat → Value) : I b →
      (∀ (j : Nat) c, cs[j]? = some c → w.cell? ⟨b, o + j, none⟩ = some (u j)) →
      (∀ (j : Nat) c, cs[j]? = some c → RepI I w c (u j)) → RepI I w (.ip cs) (.pointer (some ⟨b, o, none⟩))
  | fn (f : Nat) (caps : List Cell) (vals : List Value) (u : Nat → Value) : vals.length = caps.length →
      (∀ (j : Nat) c, caps[j]? = some c → vals[j]? = some (u j)) →
      (∀ (j : Nat) c, caps[j]? = some c → RepI I w c (u j)) → RepI I w (.fn f caps) (.func (.func f) #[] vals.toArray)

/-- where an object lies: its block (none: the nil slice), the cells of an element, the elements that the block has room for -/
structure BI where
  blk : Option Nat
  sz : Nat
  cap : Nat

inductive Rep (I : Nat → Prop) (β : Nat → Option BI) (w : World) : Cell → Value → Prop
  | imm {c : Cell} {v : Value} : RepI I w c v → Rep I β w c v
  | ref (o off n b sz cap C : Nat) : β o = some ⟨some b, sz, C⟩ → n ≤ cap → (off = 0 → cap = C) → Rep I β w (.ref o off n) (.slice (some ⟨b, off * sz, none⟩) n cap)
  | refE (o off : Nat) (A : Option Addr) (cap : Nat) : off ≠ 0 → Rep I β w (.ref o off 0) (.slice A 0 cap)
  | ref0 (o sz C : Nat) : β o = some ⟨none, sz, C⟩ → Rep I β w (.ref o 0 0) (.slice none 0 0)
  | ptr (o i f b sz C : Nat) : β o = some ⟨some b, sz, C⟩ → Rep I β w (.ptr o i f) (.pointer (some ⟨b, i * sz + f, none⟩))
  | fn (f : Nat) (caps : List Cell) (vals : List Value) (u : Nat → Value) : vals.length = caps.length →
      (∀ (j : Nat) c, caps[j]? = some c → vals[j]? = some (u j)) →
      (∀ (j : Nat) c, caps[j]? = some c → Rep I β w c (u j)) → Rep I β w (.fn f caps) (.func (.func f) #[] vals.toArray)
  | dead (x : Value) : x.oneCell' = true → Rep I β w .dead x

theorem RepI.mono {I I' : Nat → Prop} {w w' : World} {c : Cell} {v : Value} (h : RepI I w c v) (hI : ∀ b, I b → I' b) (hw : ∀ b, I b → w'.heap[b]? = w.heap[b]?) : RepI I' w' c v := by
  have hc : ∀ (b o : Nat), I b → w'.cell? ⟨b, o, none⟩ = w.cell? ⟨b, o, none⟩ := fun b o hb => by simp [World.cell?, hw b hb]
  induction h with
  | v x h => exact .v x h
  | nil => exact .nil
  | sl0 A cap => exact .sl0 A cap
  | sl xs b o sz n cap u h1 h2 h3 h4 h5 _ ih => exact .sl xs b o sz n cap u h1 h2 h3 (hI b h4) (fun i j x c hx hj => (hc _ _ h4).trans (h5 i j x c hx hj)) ih
  | ip cs b o u h1 h2 _ ih => exact .ip cs b o u (hI b h1) (fun j c hj => (hc _ _ h1).trans (h2 j c hj)) ih
  | fn f caps vals u h1 h2 _ ih => exact .fn f caps vals u h1 h2 ih

/-- β' knows all that β knows -/
def Ext (β β' : Nat → Option BI) : Prop := ∀ o B, β o = some B → β' o = some B
theorem Ext.refl (β : Nat → Option BI) : Ext β β := fun _ _ h => h
theorem Ext.trans {β β' β'' : Nat → Option BI} (h : Ext β β') (k : Ext β' β'') : Ext β β'' := fun o B e => k o B (h o B e)

theorem Rep.mono {I I' : Nat → Prop} {β β' : Nat → Option BI} {w w' : World} {c : Cell} {v : Value} (h : Rep I β w c v) (hβ : Ext β β') (hI : ∀ b, I b → I' b) (hw : ∀ b, I b → w'.heap[b]? = w.heap[b]?) : Rep I' β' w' c v := by
  induction h with
  | imm h => exact .imm (h.mono hI hw)
  | ref o off n b sz cap C h1 h2 h3 => exact .ref o off n b sz cap C (hβ _ _ h1) h2 h3
  | refE o off A cap h => exact .refE o off A cap h
  | ref0 o sz C h => exact .ref0 o sz C (hβ _ _ h)
  | ptr o i f b sz C h => exact .ptr o i f b sz C (hβ _ _ h)
  | fn f caps vals u h1 h2 _ ih => exact .fn f caps vals u h1 h2 ih
  | dead x h => exact .dead x h

theorem RepI.one {I : Nat → Prop} {w : World} {c : Cell} {v : Value} (h : RepI I w c v) : v.oneCell' = true := by
  cases h <;> first | assumption | rfl
theorem Rep.one {I : Nat → Prop} {β : Nat → Option BI} {w : World} {c : Cell} {v : Value} (h : Rep I β w c v) : v.oneCell' = true := by
  cases h <;> first | assumption | rfl | exact RepI.one ‹_›

inductive All2 {α β : Type} (R : α → β → Prop) : List α → List β → Prop
  | nil : All2 R [] []
  | cons {a b as bs} : R a b → All2 R as bs → All2 R (a :: as) (b :: bs)
section
variable {α β : Type} {R S : α → β → Prop}
theorem All2.mono (hRS : ∀ a b, R a b → S a b) {as : List α} {bs : List β} (h : All2 R as bs) : All2 S as bs := by
  induction h with
  | nil => exact .nil
  | cons h _ ih => exact .cons (hRS _ _ h) ih
theorem All2.length {as : List α} {bs : List β} (h : All2 R as bs) : bs.length = as.length := by
  induction h with
  | nil => rfl
  | cons _ _ ih => simp [ih]
theorem All2.at {as : List α} {bs : List β} (h : All2 R as bs) : ∀ {i : Nat} {a : α}, as[i]? = some a → ∃ b, bs[i]? = some b ∧ R a b := by
  induction h with
  | nil => intro i a h; simp at h
  | cons h0 _ ih =>
    intro i a hi
    cases i with
    | zero => simp at hi; subst hi; exact ⟨_, rfl, h0⟩
    | succ i => simpa using ih (by simpa using hi)
theorem All2.append {as as' : List α} {bs bs' : List β} (h : All2 R as bs) (h' : All2 R as' bs') : All2 R (as ++ as') (bs ++ bs') := by
  induction h with
  | nil => exact h'
  | cons h0 _ ih => exact .cons h0 ih
theorem All2.of_at : ∀ {as : List α} {bs : List β}, bs.length = as.length → (∀ (i : Nat) a b, as[i]? = some a → bs[i]? = some b → R a b) → All2 R as bs
  | [], [], _, _ => .nil
  | a :: as, b :: bs, hl, h => .cons (h 0 a b rfl rfl) (All2.of_at (by simpa using hl) (fun i x y hx hy => h (i + 1) x y (by simpa using hx) (by simpa using hy)))
  | [], _ :: _, hl, _ => by simp at hl
  | _ :: _, [], hl, _ => by simp at hl
theorem All2.drop {as : List α} {bs : List β} (h : All2 R as bs) : ∀ n, All2 R (as.drop n) (bs.drop n) := by
  induction h with
  | nil => intro n; simpa using All2.nil
  | cons h0 h1 ih =>
    intro n
    cases n with
    | zero => exact .cons h0 h1
    | succ n => exact ih n
theorem All2.take {as : List α} {bs : List β} (h : All2 R as bs) : ∀ n, All2 R (as.take n) (bs.take n) := by
  induction h with
  | nil => intro n; simpa using All2.nil
  | cons h0 h1 ih =>
    intro n
    cases n with
    | zero => exact .nil
    | succ n => exact .cons h0 (ih n)
end

/-- what a temporary holds: a cell, a struct's cells, a call's results, or nothing known -/
inductive AVal where
  | c (x : Cell)
  | agg (cs : List Cell)
  | tup (vs : List AVal)
  | any

def RepF (I : Nat → Prop) (β : Nat → Option BI) (w : World) : AVal → Value → Prop
  | .c x, v => Rep I β w x v
  | .agg cs, v => ∃ vals : List Value, v = .agg vals.toArray ∧ All2 (Rep I β w) cs vals
  | .any, _ => True
  | .tup _, _ => False
def RepV (I : Nat → Prop) (β : Nat → Option BI) (w : World) : AVal → Value → Prop
  | .tup vs, v => ∃ vals : List Value, v = .tuple vals.toArray ∧ All2 (RepF I β w) vs vals
  | x, v => RepF I β w x v
section
variable {I I' : Nat → Prop} {β β' : Nat → Option BI} {w w' : World}
theorem RepF.mono {x : AVal} {v : Value} (h : RepF I β w x v) (hβ : Ext β β') (hI : ∀ b, I b → I' b) (hw : ∀ b, I b → w'.heap[b]? = w.heap[b]?) : RepF I' β' w' x v := by
  cases x with
  | c x => exact Rep.mono h hβ hI hw
  | agg cs => obtain ⟨vals, rfl, h⟩ := h; exact ⟨vals, rfl, h.mono fun _ _ h => h.mono hβ hI hw⟩
  | tup vs => exact h
  | any => trivial
theorem RepV.mono {x : AVal} {v : Value} (h : RepV I β w x v) (hβ : Ext β β') (hI : ∀ b, I b → I' b) (hw : ∀ b, I b → w'.heap[b]? = w.heap[b]?) : RepV I' β' w' x v := by
  cases x with
  | tup vs => obtain ⟨vals, rfl, h⟩ := h; exact ⟨vals, rfl, h.mono fun _ _ h => RepF.mono h hβ hI hw⟩
  | c x => exact RepF.mono (x := .c x) h hβ hI hw
  | agg cs => exact RepF.mono (x := .agg cs) h hβ hI hw
  | any => trivial
theorem RepV.any (v : Value) : RepV I β w .any v := trivial
theorem RepV.c {x : Cell} {v : Value} : RepV I β w (.c x) v ↔ Rep I β w x v := Iff.rfl
theorem RepV.agg {cs : List Cell} {v : Value} : RepV I β w (.agg cs) v ↔ ∃ vals : List Value, v = .agg vals.toArray ∧ All2 (Rep I β w) cs vals := Iff.rfl
theorem RepV.tup {vs : List AVal} {v : Value} : RepV I β w (.tup vs) v ↔ ∃ vals : List Value, v = .tuple vals.toArray ∧ All2 (RepF I β w) vs vals := Iff.rfl
end

/-! ## States -/
/-- an object of one's own: its elements, each of sz cells -/
structure AObj where
  ty : Nat
  sz : Nat
  els : List (List Cell)

def lk {α : Type} (n : Nat) : List (Nat × α) → Option α
  | [] => none
  | (k, v) :: r => bif Nat.beq n k then some v else lk n r
theorem lk_cons {α : Type} (n k : Nat) (v : α) (r : List (Nat × α)) : lk n ((k, v) :: r) = if n = k then some v else lk n r := by
  rw [lk]
  by_cases h : n = k
  · subst h; simp
  · have : Nat.beq n k = false := by rw [Bool.eq_false_iff]; intro e; exact h (Nat.eq_of_beq_eq_true e)
    simp [this, h]

structure AS where
  tm : List (Nat × AVal)
  ob : List (Nat × Option AObj)
  nx : Nat
def AS.get (s : AS) (t : Nat) : AVal := (lk t s.tm).getD .any
def AS.obj (s : AS) (o : Nat) : Option AObj := (lk o s.ob).getD none

def ObjAt (I : Nat → Prop) (β : Nat → Option BI) (w : World) (M : Nat → Prop) (o : Nat) (obj : AObj) : Prop :=
  ∃ B, β o = some B ∧ (∀ x ∈ obj.els, x.length = obj.sz) ∧
    (B.blk = none → obj.els = []) ∧
    ∀ b, B.blk = some b → B.sz = obj.sz ∧ M b ∧ ¬ I b ∧ ∃ arr, w.heap[b]? = some (.cells arr obj.ty (0, 0)) ∧ arr.size = B.cap * obj.sz ∧ obj.els.length ≤ B.cap ∧ B.cap ≤ maxLen ∧
      ∀ (i j : Nat) x c, obj.els[i]? = some x → x[j]? = some c → ∃ u, arr[i * obj.sz + j]? = some u ∧ Rep I β w c u

/-- the frame of a call: the world in which it began, the blocks that it may write to, those that nobody writes to, the number of temporaries -/
structure Env where
  w0 : World
  mu : Nat → Prop
  I0 : Nat → Prop
  n : Nat
  β0 : Nat → Option BI      -- the names of what came in, and their number
  m : Nat
/-- blocks that the call may write to -/
def Env.may (E : Env) (b : Nat) : Prop := E.mu b ∨ E.w0.heap.size ≤ b

/-- of what was there nothing has turned but the blocks in M -/
structure Keeps (M : Nat → Prop) (w w' : World) : Prop where
  os : w'.os = w.os
  tape : w'.tape = w.tape
  output : w'.output = w.output
  size : w.heap.size ≤ w'.heap.size
  block : ∀ k, k < w.heap.size → ¬ M k → w'.heap[k]? = w.heap[k]?
theorem Keeps.refl (M : Nat → Prop) (w : World) : Keeps M w w := ⟨rfl, rfl, rfl, Nat.le_refl _, fun _ _ _ => rfl⟩
theorem Keeps.trans {M M' : Nat → Prop} {a b c : World} (h : Keeps M a b) (k : Keeps M' b c) (hM : ∀ x, x < a.heap.size → M' x → M x) : Keeps M a c :=
  ⟨k.os.trans h.os, k.tape.trans h.tape, k.output.trans h.output, Nat.le_trans h.size k.size,
   fun i hi hn => (k.block i (Nat.lt_of_lt_of_le hi h.size) (fun e => hn (hM i hi e))).trans (h.block i hi hn)⟩

structure Rel (E : Env) (N : Nat → Prop) (I : Nat → Prop) (s : AS) (β : Nat → Option BI) (a : Act) (w : World) : Prop where
  tms : ∀ t, RepV I β w (s.get t) (a.tmps.getD t undef)
  siz : a.tmps.size = E.n
  dfr : a.defers = []
  obs : ∀ o obj, s.obj o = some obj → ObjAt I β w E.may o obj
  inj : ∀ o o' obj obj' B B' b, s.obj o = some obj → s.obj o' = some obj' → o ≠ o' → β o = some B → β o' = some B' → B.blk = some b → B'.blk ≠ some b
  nam : ∀ o B, β o = some B → N o
  old : Keeps E.mu E.w0 w
  imm : ∀ b, I b → b < w.heap.size
  gro : ∀ b, b < E.w0.heap.size → (I b ↔ E.I0 b)
  ext : ∀ o, o < E.m → β o = E.β0 o

theorem ObjAt.lt {I : Nat → Prop} {β : Nat → Option BI} {w : World} {M : Nat → Prop} {o : Nat} {obj : AObj} {B : BI} {b : Nat} (h : ObjAt I β w M o obj) (hB : β o = some B) (hb : B.blk = some b) : b < w.heap.size ∧ M b ∧ ¬ I b := by
  obtain ⟨B', e, _, _, h⟩ := h
  rw [hB] at e
  obtain rfl : B = B' := by simpa using e
  obtain ⟨_, h1, h2, arr, h3, _⟩ := h b hb
  exact ⟨(Array.getElem?_eq_some_iff.1 h3).1, h1, h2⟩

theorem ObjAt.mono {I I' : Nat → Prop} {β β' : Nat → Option BI} {w w' : World} {M : Nat → Prop} {o : Nat} {obj : AObj} (h : ObjAt I β w M o obj) (hβ : Ext β β') (hI : ∀ b, I b → I' b) (hw : ∀ b, I b → w'.heap[b]? = w.heap[b]?)
    (hn : ∀ B b, β o = some B → B.blk = some b → ¬ I' b ∧ w'.heap[b]? = w.heap[b]?) : ObjAt I' β' w' M o obj := by
  obtain ⟨B, hB, h2, h3, h4⟩ := h
  refine ⟨B, hβ _ _ hB, h2, h3, fun b hb => ?_⟩
  obtain ⟨k0, k1, k2, arr, k3, k4, k5, k6, k7⟩ := h4 b hb
  obtain ⟨n1, n2⟩ := hn B b hB hb
  refine ⟨k0, k1, n1, arr, n2.trans k3, k4, k5, k6, fun i j x c hx hj => ?_⟩
  obtain ⟨u, hu, hr⟩ := k7 i j x c hx hj
  exact ⟨u, hu, hr.mono hβ hI hw⟩

/-- a state's change that a step brings -/
structure Upd where
  tm : List (Nat × AVal)
  ob : List (Nat × Option AObj)
  k : Nat          -- how many names it makes
def AS.upd (s : AS) (u : Upd) : AS := ⟨u.tm ++ s.tm, u.ob ++ s.ob, s.nx + u.k⟩
theorem lk_append {α : Type} (n : Nat) : ∀ (l r : List (Nat × α)), lk n (l ++ r) = (lk n l).or (lk n r)
  | [], r => by simp [lk]
  | (k, v) :: l, r => by
    simp only [List.cons_append, lk]
    cases Nat.beq n k <;> simp [lk_append n l r]
theorem AS.get_upd (s : AS) (u : Upd) (t : Nat) : (s.upd u).get t = ((lk t u.tm).or (lk t s.tm)).getD .any := by simp [AS.get, AS.upd, lk_append]
theorem AS.obj_upd (s : AS) (u : Upd) (o : Nat) : (s.upd u).obj o = ((lk o u.ob).or (lk o s.ob)).getD none := by simp [AS.obj, AS.upd, lk_append]
theorem AS.get_none {s : AS} {u : Upd} {t : Nat} (h : lk t u.tm = none) : (s.upd u).get t = s.get t := by rw [AS.get_upd, h]; rfl
theorem AS.get_some {s : AS} {u : Upd} {t : Nat} {x : AVal} (h : lk t u.tm = some x) : (s.upd u).get t = x := by rw [AS.get_upd, h]; rfl
theorem AS.obj_none {s : AS} {u : Upd} {t : Nat} (h : lk t u.ob = none) : (s.upd u).obj t = s.obj t := by rw [AS.obj_upd, h]; rfl
theorem AS.obj_some {s : AS} {u : Upd} {t : Nat} {x : Option AObj} (h : lk t u.ob = some x) : (s.upd u).obj t = x := by rw [AS.obj_upd, h]; rfl

/-- Rel looks at the state's values alone -/
theorem Rel.congr {E : Env} {N I : Nat → Prop} {s s' : AS} {β : Nat → Option BI} {a : Act} {w : World} (h : Rel E N I s β a w) (ht : ∀ t, s'.get t = s.get t) (ho : ∀ o, s'.obj o = s.obj o) : Rel E N I s' β a w :=
  ⟨fun t => by rw [ht]; exact h.tms t, h.siz, h.dfr, fun o obj e => h.obs o obj (by rw [← ho]; exact e), fun o o' obj obj' B B' b e e' => h.inj o o' obj obj' B B' b (by rw [← ho]; exact e) (by rw [← ho]; exact e'), h.nam, h.old, h.imm, h.gro, h.ext⟩
theorem Rel.names {E : Env} {N N' I : Nat → Prop} {s : AS} {β : Nat → Option BI} {a : Act} {w : World} (h : Rel E N I s β a w) (hN : ∀ o, N o → N' o) : Rel E N' I s β a w :=
  ⟨h.tms, h.siz, h.dfr, h.obs, h.inj, fun o B e => hN o (h.nam o B e), h.old, h.imm, h.gro, h.ext⟩

/-- the world and the names change; the objects either stay or are shown anew -/
theorem Rel.change {E : Env} {N N' I I' : Nat → Prop} {s s' : AS} {β β' : Nat → Option BI} {a : Act} {w w' : World} (h : Rel E N I s β a w)
    (hβ : Ext β β') (hN : ∀ o B, β' o = some B → N' o) (hI : ∀ b, I b → I' b) (hw : ∀ b, I b → w'.heap[b]? = w.heap[b]?)
    (ht : ∀ t, s'.get t = s.get t)
    (ho : ∀ o obj, s'.obj o = some obj → (s.obj o = some obj ∧ ∀ B b, β o = some B → B.blk = some b → ¬ I' b ∧ w'.heap[b]? = w.heap[b]?) ∨ ObjAt I' β' w' E.may o obj)
    (hinj : ∀ o o' obj obj' B B' b, s'.obj o = some obj → s'.obj o' = some obj' → o ≠ o' → β' o = some B → β' o' = some B' → B.blk = some b → B'.blk ≠ some b)
    (hold : Keeps E.mu E.w0 w') (himm : ∀ b, I' b → b < w'.heap.size) (hgro : ∀ b, b < E.w0.heap.size → (I' b ↔ E.I0 b)) (hext : ∀ o, o < E.m → β' o = E.β0 o) : Rel E N' I' s' β' a w' :=
  ⟨fun t => by rw [ht]; exact (h.tms t).mono hβ hI hw, h.siz, h.dfr,
   fun o obj e => (ho o obj e).elim (fun k => (h.obs o obj k.1).mono hβ hI hw k.2) id, hinj, hN, hold, himm, hgro, hext⟩

/-- a temporary is set -/
theorem Rel.put {E : Env} {N I : Nat → Prop} {s : AS} {β : Nat → Option BI} {a : Act} {w : World} (h : Rel E N I s β a w) {d : Option Nat} {x : AVal} {v : Value} (hv : RepV I β w x v)
    {u : Upd} (hu : u.tm = match d with | some t => [(t, x)] | none => []) (hob : u.ob = []) (hd : ∀ t, d = some t → t < E.n) : Rel E N I (s.upd u) β (a.put d v) w := by
  have ho : ∀ o, (s.upd u).obj o = s.obj o := fun o => AS.obj_none (by rw [hob]; rfl)
  refine ⟨fun t => ?_, ?_, ?_, fun o obj e => h.obs o obj (by rw [← ho]; exact e), fun o o' obj obj' B B' b e e' => h.inj o o' obj obj' B B' b (by rw [← ho]; exact e) (by rw [← ho]; exact e'), h.nam, h.old, h.imm, h.gro, h.ext⟩
  · cases d with
    | none =>
      rw [AS.get_none (by rw [hu]; rfl)]
      exact h.tms t
    | some k =>
      have hk := hd k rfl
      rw [← h.siz] at hk
      by_cases e : t = k
      · subst e
        rw [AS.get_some (x := x) (by rw [hu, lk_cons]; simp)]
        simp only [Act.put, Array.getD_eq_getD_getElem?, Array.getElem?_setIfInBounds]
        simpa [hk] using hv
      · rw [AS.get_none (by rw [hu, lk_cons]; simp [e, lk])]
        have := h.tms t
        simp only [Act.put, Array.getD_eq_getD_getElem?, Array.getElem?_setIfInBounds] at this ⊢
        rw [if_neg (by omega)]
        exact this
  · cases d <;> simp [Act.put, h.siz]
  · cases d <;> simp [Act.put, h.dfr]
end Go.Proofs.Ytfebalahfhkeaaa
