/- What is known of package-level variables: facts on their cells, kept by all that happens. -/
import Derived.Calls
import Derived.Below
import Derived.Test.YtjeffognhcbiaaaGreatDoorGt
import Derived.OneCell
import Derived.Orders
import Derived.Laws.AppendOwn
import Derived.KernelRfl
import Derived.Tactics
import Derived.OrdersHeld
import Derived.Laws.Rows
import Derived.IntWalk
import Derived.Laws.OwnMore
import Derived.Laws.MakeOwn
import Derived.Deep.AppendLies
namespace Go.Proofs.YtjeffognhcbiaaaGreatDoor
open Go
def GI (I : Nat → Prop) (w : World) : Prop := ∀ g p, (g, p) ∈ gtab → I g ∧ ∃ arr t z, w.heap[g]? = some (.cells arr t z) ∧ p arr
theorem GI.mono {I I' : Nat → Prop} {w w' : World} (h : GI I w) (hI : ∀ b, b < w.heap.size → I b → I' b) (hw : ∀ b, b < w.heap.size → I b → w'.heap[b]? = w.heap[b]?) : GI I' w' := fun g p hm => by
  obtain ⟨h1, arr, t, z, h2, h3⟩ := h g p hm
  have hl := (Array.getElem?_eq_some_iff.1 h2).1
  exact ⟨hI g hl h1, arr, t, z, (hw g hl h1).trans h2, h3⟩
theorem GI.none (I : Nat → Prop) (w : World) (h : gtab = []) : GI I w := fun g p hm => by rw [h] at hm; cases hm
end Go.Proofs.YtjeffognhcbiaaaGreatDoor

namespace Go.Proofs.YtjeffognhcbiaaaGreatDoor
open Go Go.RowKit
inductive Cell where
  | v (x : Value)
  | nil
  | sl (xs : List (List Cell))
  | ip (cs : List Cell)
  | ref (o off n : Nat)
  | ptr (o i f : Nat)
  | fn (f : Nat) (caps : List Cell)
  | dead
inductive RepI (I : Nat → Prop) (w : World) : Cell → Value → Prop
  | v (x : Value) : x.oneCell' = true → RepI I w (.v x) x
  | nil : RepI I w .nil (.slice none 0 0)
  | sl0 (A : Option Addr) (cap : Nat) : RepI I w (.sl []) (.slice A 0 cap)
  | sl (xs : List (List Cell)) (b o sz n cap : Nat) (u : Nat → Nat → Value) : n = xs.length → n ≤ cap → (∀ x ∈ xs, x.length = sz) → I b →
      (∀ (i j : Nat) x c, xs[i]? = some x → x[j]? = some c → w.cell? ⟨b, o + i * sz + j, none⟩ = some (u i j)) →
      (∀ (i j : Nat) x c, xs[i]? = some x → x[j]? = some c → RepI I w c (u i j)) → RepI I w (.sl xs) (.slice (some ⟨b, o, none⟩) n cap)
  | ip (cs : List Cell) (b o : Nat) (u : Nat → Value) : I b →
      (∀ (j : Nat) c, cs[j]? = some c → w.cell? ⟨b, o + j, none⟩ = some (u j)) →
      (∀ (j : Nat) c, cs[j]? = some c → RepI I w c (u j)) → RepI I w (.ip cs) (.pointer (some ⟨b, o, none⟩))
  | fn (f : Nat) (caps : List Cell) (vals : List Value) (u : Nat → Value) : vals.length = caps.length →
      (∀ (j : Nat) c, caps[j]? = some c → vals[j]? = some (u j)) →
      (∀ (j : Nat) c, caps[j]? = some c → RepI I w c (u j)) → RepI I w (.fn f caps) (.func (.func f) #[] vals.toArray)
structure BI where
  blk : Option Nat
  sz : Nat
  cap : Nat

inductive Rep (I : Nat → Prop) (β : Nat → Option BI) (w : World) : Cell → Value → Prop
  | imm {c : Cell} {v : Value} : RepI I w c v → Rep I β w c v
  | ref (o off n b sz cap C : Nat) : β o = some ⟨some b, sz, C⟩ → n ≤ cap → (off = 0 → cap = C) → Rep I β w (.ref o off n) (.slice (some ⟨b, off * sz, none⟩) n cap)
  | refE (o off : Nat) (A : Option Addr) (cap : Nat) : off ≠ 0 → Rep I β w (.ref o off 0) (.slice A 0 cap)
  | ref0 (o sz C : Nat) : β o = some ⟨none, sz, C⟩ → Rep I β w (.ref o 0 0) (.slice none 0 0)
  | ptr (o i f b sz C : Nat) : β o = some ⟨some b, sz, C⟩ → Rep I β w (.ptr o i f) (.pointer (some ⟨b, i * sz + f, none⟩))
  | fn (f : Nat) (caps : List Cell) (vals : List Value) (u : Nat → Value) : vals.length = caps.length →
      (∀ (j : Nat) c, caps[j]? = some c → vals[j]? = some (u j)) →
      (∀ (j : Nat) c, caps[j]? = some c → Rep I β w c (u j)) → Rep I β w (.fn f caps) (.func (.func f) #[] vals.toArray)
  | dead (x : Value) : x.oneCell' = true → Rep I β w .dead x

theorem RepI.mono {I I' : Nat → Prop} {w w' : World} {c : Cell} {v : Value} (h : RepI I w c v) (hI : ∀ b, I b → I' b) (hw : ∀ b, I b → w'.heap[b]? = w.heap[b]?) : RepI I' w' c v := by
  have hc : ∀ (b o : Nat), I b → w'.cell? ⟨b, o, none⟩ = w.cell? ⟨b, o, none⟩ := fun b o hb => by simp [World.cell?, hw b hb]
  induction h with
  | v x h => exact .v x h
  | nil => exact .nil
  | sl0 A cap => exact .sl0 A cap
  | sl xs b o sz n cap u h1 h2 h3 h4 h5 _ ih => exact .sl xs b o sz n cap u h1 h2 h3 (hI b h4) (fun i j x c hx hj => (hc _ _ h4).trans (h5 i j x c hx hj)) ih
  | ip cs b o u h1 h2 _ ih => exact .ip cs b o u (hI b h1) (fun j c hj => (hc _ _ h1).trans (h2 j c hj)) ih
  | fn f caps vals u h1 h2 _ ih => exact .fn f caps vals u h1 h2 ih
def Ext (β β' : Nat → Option BI) : Prop := ∀ o B, β o = some B → β' o = some B
theorem Ext.refl (β : Nat → Option BI) : Ext β β := fun _ _ h => h
theorem Ext.trans {β β' β'' : Nat → Option BI} (h : Ext β β') (k : Ext β' β'') : Ext β β'' := fun o B e => k o B (h o B e)

theorem Rep.mono {I I' : Nat → Prop} {β β' : Nat → Option BI} {w w' : World} {c : Cell} {v : Value} (h : Rep I β w c v) (hβ : Ext β β') (hI : ∀ b, I b → I' b) (hw : ∀ b, I b → w'.heap[b]? = w.heap[b]?) : Rep I' β' w' c v := by
  induction h with
  | imm h => exact .imm (h.mono hI hw)
  | ref o off n b sz cap C h1 h2 h3 => exact .ref o off n b sz cap C (hβ _ _ h1) h2 h3
  | refE o off A cap h => exact .refE o off A cap h
  | ref0 o sz C h => exact .ref0 o sz C (hβ _ _ h)
  | ptr o i f b sz C h => exact .ptr o i f b sz C (hβ _ _ h)
  | fn f caps vals u h1 h2 _ ih => exact .fn f caps vals u h1 h2 ih
  | dead x h => exact .dead x h

theorem RepI.one {I : Nat → Prop} {w : World} {c : Cell} {v : Value} (h : RepI I w c v) : v.oneCell' = true := by
  cases h <;> first | assumption | rfl
theorem Rep.one {I : Nat → Prop} {β : Nat → Option BI} {w : World} {c : Cell} {v : Value} (h : Rep I β w c v) : v.oneCell' = true := by
  cases h <;> first | assumption | rfl | exact RepI.one ‹_›

inductive All2 {α β : Type} (R : α → β → Prop) : List α → List β → Prop
  | nil : All2 R [] []
  | cons {a b as bs} : R a b → All2 R as bs → All2 R (a :: as) (b :: bs)
section
variable {α β : Type} {R S : α → β → Prop}
theorem All2.mono (hRS : ∀ a b, R a b → S a b) {as : List α} {bs : List β} (h : All2 R as bs) : All2 S as bs := by
  induction h with
  | nil => exact .nil
  | cons h _ ih => exact .cons (hRS _ _ h) ih
theorem All2.length {as : List α} {bs : List β} (h : All2 R as bs) : bs.length = as.length := by
  induction h with
  | nil => rfl
  | cons _ _ ih => simp [ih]
theorem All2.at {as : List α} {bs : List β} (h : All2 R as bs) : ∀ {i : Nat} {a : α}, as[i]? = some a → ∃ b, bs[i]? = some b ∧ R a b := by
  induction h with
  | nil => intro i a h; simp at h
  | cons h0 _ ih =>
    intro i a hi
    cases i with
    | zero => simp at hi; subst hi; exact ⟨_, rfl, h0⟩
    | succ i => simpa using ih (by simpa using hi)
theorem All2.append {as as' : List α} {bs bs' : List β} (h : All2 R as bs) (h' : All2 R as' bs') : All2 R (as ++ as') (bs ++ bs') := by
  induction h with
  | nil => exact h'
  | cons h0 _ ih => exact .cons h0 ih
theorem All2.of_at : ∀ {as : List α} {bs : List β}, bs.length = as.length → (∀ (i : Nat) a b, as[i]? = some a → bs[i]? = some b → R a b) → All2 R as bs
  | [], [], _, _ => .nil
  | a :: as, b :: bs, hl, h => .cons (h 0 a b rfl rfl) (All2.of_at (by simpa using hl) (fun i x y hx hy => h (i + 1) x y (by simpa using hx) (by simpa using hy)))
  | [], _ :: _, hl, _ => by simp at hl
  | _ :: _, [], hl, _ => by simp at hl
theorem All2.drop {as : List α} {bs : List β} (h : All2 R as bs) : ∀ n, All2 R (as.drop n) (bs.drop n) := by
  induction h with
  | nil => intro n; simpa using All2.nil
  | cons h0 h1 ih =>
    intro n
    cases n with
    | zero => exact .cons h0 h1
    | succ n => exact ih n
theorem All2.take {as : List α} {bs : List β} (h : All2 R as bs) : ∀ n, All2 R (as.take n) (bs.take n) := by
  induction h with
  | nil => intro n; simpa using All2.nil
  | cons h0 h1 ih =>
    intro n
    cases n with
    | zero => exact .nil
    | succ n => exact .cons h0 (ih n)
end
inductive AVal where
  | c (x : Cell)
  | agg (cs : List Cell)
  | tup (vs : List AVal)
  | any

def RepF (I : Nat → Prop) (β : Nat → Option BI) (w : World) : AVal → Value → Prop
  | .c x, v => Rep I β w x v
  | .agg cs, v => ∃ vals : List Value, v = .agg vals.toArray ∧ All2 (Rep I β w) cs vals
  | .any, _ => True
  | .tup _, _ => False
def RepV (I : Nat → Prop) (β : Nat → Option BI) (w : World) : AVal → Value → Prop
  | .tup vs, v => ∃ vals : List Value, v = .tuple vals.toArray ∧ All2 (RepF I β w) vs vals
  | x, v => RepF I β w x v
section
variable {I I' : Nat → Prop} {β β' : Nat → Option BI} {w w' : World}
theorem RepF.mono {x : AVal} {v : Value} (h : RepF I β w x v) (hβ : Ext β β') (hI : ∀ b, I b → I' b) (hw : ∀ b, I b → w'.heap[b]? = w.heap[b]?) : RepF I' β' w' x v := by
  cases x with
  | c x => exact Rep.mono h hβ hI hw
  | agg cs => obtain ⟨vals, rfl, h⟩ := h; exact ⟨vals, rfl, h.mono fun _ _ h => h.mono hβ hI hw⟩
  | tup vs => exact h
  | any => trivial
theorem RepV.mono {x : AVal} {v : Value} (h : RepV I β w x v) (hβ : Ext β β') (hI : ∀ b, I b → I' b) (hw : ∀ b, I b → w'.heap[b]? = w.heap[b]?) : RepV I' β' w' x v := by
  cases x with
  | tup vs => obtain ⟨vals, rfl, h⟩ := h; exact ⟨vals, rfl, h.mono fun _ _ h => RepF.mono h hβ hI hw⟩
  | c x => exact RepF.mono (x := .c x) h hβ hI hw
  | agg cs => exact RepF.mono (x := .agg cs) h hβ hI hw
  | any => trivial
theorem RepV.any (v : Value) : RepV I β w .any v := trivial
theorem RepV.c {x : Cell} {v : Value} : RepV I β w (.c x) v ↔ Rep I β w x v := Iff.rfl
theorem RepV.agg {cs : List Cell} {v : Value} : RepV I β w (.agg cs) v ↔ ∃ vals : List Value, v = .agg vals.toArray ∧ All2 (Rep I β w) cs vals := Iff.rfl
theorem RepV.tup {vs : List AVal} {v : Value} : RepV I β w (.tup vs) v ↔ ∃ vals : List Value, v = .tuple vals.toArray ∧ All2 (RepF I β w) vs vals := Iff.rfl
end
structure AObj where
  ty : Nat
  sz : Nat
  els : List (List Cell)

def lk {α : Type} (n : Nat) : List (Nat × α) → Option α
  | [] => none
  | (k, v) :: r => bif Nat.beq n k then some v else lk n r
theorem lk_cons {α : Type} (n k : Nat) (v : α) (r : List (Nat × α)) : lk n ((k, v) :: r) = if n = k then some v else lk n r := by
  rw [lk]
  by_cases h : n = k
  · subst h; simp
  · have : Nat.beq n k = false := by rw [Bool.eq_false_iff]; intro e; exact h (Nat.eq_of_beq_eq_true e)
    simp [this, h]

structure AS where
  tm : List (Nat × AVal)
  ob : List (Nat × Option AObj)
  nx : Nat
def AS.get (s : AS) (t : Nat) : AVal := (lk t s.tm).getD .any
def AS.obj (s : AS) (o : Nat) : Option AObj := (lk o s.ob).getD none
def szOk (n cap sz len : Nat) : Prop := n = cap * sz ∨ (cap = len ∧ cap * sz ≤ n)
theorem szOk.le {n cap sz len : Nat} (h : szOk n cap sz len) : cap * sz ≤ n := h.elim (fun e => Nat.le_of_eq e.symm) (fun k => k.2)
def ObjAt (I : Nat → Prop) (β : Nat → Option BI) (w : World) (M : Nat → Prop) (o : Nat) (obj : AObj) : Prop :=
  ∃ B, β o = some B ∧ (∀ x ∈ obj.els, x.length = obj.sz) ∧
    (B.blk = none → obj.els = []) ∧
    ∀ b, B.blk = some b → B.sz = obj.sz ∧ M b ∧ ¬ I b ∧ ∃ arr, w.heap[b]? = some (.cells arr obj.ty (0, 0)) ∧ szOk arr.size B.cap obj.sz obj.els.length ∧ obj.els.length ≤ B.cap ∧ B.cap ≤ maxLen ∧
      ∀ (i j : Nat) x c, obj.els[i]? = some x → x[j]? = some c → ∃ u, arr[i * obj.sz + j]? = some u ∧ Rep I β w c u
structure Env where
  w0 : World
  mu : Nat → Prop
  I0 : Nat → Prop
  n : Nat
  β0 : Nat → Option BI      -- the names of what came in, and their number
  m : Nat
  gi : GI I0 w0             -- what is known of package-level variables, in memory that the call does not write to
  dis : (∀ b, I0 b → ¬ mu b) ∧ ∀ b, mu b → ∃ o B, o < m ∧ β0 o = some B ∧ B.blk = some b
def Env.may (E : Env) (b : Nat) : Prop := E.mu b ∨ E.w0.heap.size ≤ b
structure Keeps (M : Nat → Prop) (w w' : World) : Prop where
  os : w'.os = w.os
  tape : w'.tape = w.tape
  output : w'.output = w.output
  size : w.heap.size ≤ w'.heap.size
  block : ∀ k, k < w.heap.size → ¬ M k → w'.heap[k]? = w.heap[k]?
theorem Keeps.refl (M : Nat → Prop) (w : World) : Keeps M w w := ⟨rfl, rfl, rfl, Nat.le_refl _, fun _ _ _ => rfl⟩
theorem Keeps.trans {M M' : Nat → Prop} {a b c : World} (h : Keeps M a b) (k : Keeps M' b c) (hM : ∀ x, x < a.heap.size → M' x → M x) : Keeps M a c :=
  ⟨k.os.trans h.os, k.tape.trans h.tape, k.output.trans h.output, Nat.le_trans h.size k.size,
   fun i hi hn => (k.block i (Nat.lt_of_lt_of_le hi h.size) (fun e => hn (hM i hi e))).trans (h.block i hi hn)⟩

structure Rel (E : Env) (N : Nat → Prop) (I : Nat → Prop) (s : AS) (β : Nat → Option BI) (a : Act) (w : World) : Prop where
  tms : ∀ t, RepV I β w (s.get t) (a.tmps.getD t undef)
  siz : a.tmps.size = E.n
  dfr : a.defers = []
  obs : ∀ o obj, s.obj o = some obj → ObjAt I β w E.may o obj
  inj : ∀ o o' obj obj' B B' b, s.obj o = some obj → s.obj o' = some obj' → o ≠ o' → β o = some B → β o' = some B' → B.blk = some b → B'.blk ≠ some b
  nam : ∀ o B, β o = some B → N o
  old : Keeps E.mu E.w0 w
  imm : ∀ b, I b → b < w.heap.size
  gro : ∀ b, b < E.w0.heap.size → (I b ↔ E.I0 b)
  ext : ∀ o, o < E.m → β o = E.β0 o

theorem Rel.gi {E : Env} {N I : Nat → Prop} {s : AS} {β : Nat → Option BI} {a : Act} {w : World} (h : Rel E N I s β a w) : GI I w :=
  E.gi.mono (fun b hb hi => (h.gro b hb).2 hi) (fun b hb hi => h.old.block b hb (E.dis.1 b hi))
theorem ObjAt.lt {I : Nat → Prop} {β : Nat → Option BI} {w : World} {M : Nat → Prop} {o : Nat} {obj : AObj} {B : BI} {b : Nat} (h : ObjAt I β w M o obj) (hB : β o = some B) (hb : B.blk = some b) : b < w.heap.size ∧ M b ∧ ¬ I b := by
  obtain ⟨B', e, _, _, h⟩ := h
  rw [hB] at e
  obtain rfl : B = B' := by simpa using e
  obtain ⟨_, h1, h2, arr, h3, _⟩ := h b hb
  exact ⟨(Array.getElem?_eq_some_iff.1 h3).1, h1, h2⟩

theorem ObjAt.mono {I I' : Nat → Prop} {β β' : Nat → Option BI} {w w' : World} {M : Nat → Prop} {o : Nat} {obj : AObj} (h : ObjAt I β w M o obj) (hβ : Ext β β') (hI : ∀ b, I b → I' b) (hw : ∀ b, I b → w'.heap[b]? = w.heap[b]?)
    (hn : ∀ B b, β o = some B → B.blk = some b → ¬ I' b ∧ w'.heap[b]? = w.heap[b]?) : ObjAt I' β' w' M o obj := by
  obtain ⟨B, hB, h2, h3, h4⟩ := h
  refine ⟨B, hβ _ _ hB, h2, h3, fun b hb => ?_⟩
  obtain ⟨k0, k1, k2, arr, k3, k4, k5, k6, k7⟩ := h4 b hb
  obtain ⟨n1, n2⟩ := hn B b hB hb
  refine ⟨k0, k1, n1, arr, n2.trans k3, k4, k5, k6, fun i j x c hx hj => ?_⟩
  obtain ⟨u, hu, hr⟩ := k7 i j x c hx hj
  exact ⟨u, hu, hr.mono hβ hI hw⟩
structure Upd where
  tm : List (Nat × AVal)
  ob : List (Nat × Option AObj)
  k : Nat          -- how many names it makes
def AS.upd (s : AS) (u : Upd) : AS := ⟨u.tm ++ s.tm, u.ob ++ s.ob, s.nx + u.k⟩
theorem lk_append {α : Type} (n : Nat) : ∀ (l r : List (Nat × α)), lk n (l ++ r) = (lk n l).or (lk n r)
  | [], r => by simp [lk]
  | (k, v) :: l, r => by
    simp only [List.cons_append, lk]
    cases Nat.beq n k <;> simp [lk_append n l r]
theorem AS.get_upd (s : AS) (u : Upd) (t : Nat) : (s.upd u).get t = ((lk t u.tm).or (lk t s.tm)).getD .any := by simp [AS.get, AS.upd, lk_append]
theorem AS.obj_upd (s : AS) (u : Upd) (o : Nat) : (s.upd u).obj o = ((lk o u.ob).or (lk o s.ob)).getD none := by simp [AS.obj, AS.upd, lk_append]
theorem zG {s : AS} {u : Upd} {t : Nat} (h : lk t u.tm = none) : (s.upd u).get t = s.get t := by rw [AS.get_upd, h]; rfl
theorem AS.get_some {s : AS} {u : Upd} {t : Nat} {x : AVal} (h : lk t u.tm = some x) : (s.upd u).get t = x := by rw [AS.get_upd, h]; rfl
theorem AS.obj_none {s : AS} {u : Upd} {t : Nat} (h : lk t u.ob = none) : (s.upd u).obj t = s.obj t := by rw [AS.obj_upd, h]; rfl
theorem AS.obj_some {s : AS} {u : Upd} {t : Nat} {x : Option AObj} (h : lk t u.ob = some x) : (s.upd u).obj t = x := by rw [AS.obj_upd, h]; rfl
theorem Rel.congr {E : Env} {N I : Nat → Prop} {s s' : AS} {β : Nat → Option BI} {a : Act} {w : World} (h : Rel E N I s β a w) (ht : ∀ t, s'.get t = s.get t) (ho : ∀ o, s'.obj o = s.obj o) : Rel E N I s' β a w :=
  ⟨fun t => by rw [ht]; exact h.tms t, h.siz, h.dfr, fun o obj e => h.obs o obj (by rw [← ho]; exact e), fun o o' obj obj' B B' b e e' => h.inj o o' obj obj' B B' b (by rw [← ho]; exact e) (by rw [← ho]; exact e'), h.nam, h.old, h.imm, h.gro, h.ext⟩
theorem Rel.names {E : Env} {N N' I : Nat → Prop} {s : AS} {β : Nat → Option BI} {a : Act} {w : World} (h : Rel E N I s β a w) (hN : ∀ o, N o → N' o) : Rel E N' I s β a w :=
  ⟨h.tms, h.siz, h.dfr, h.obs, h.inj, fun o B e => hN o (h.nam o B e), h.old, h.imm, h.gro, h.ext⟩
theorem Rel.change {E : Env} {N N' I I' : Nat → Prop} {s s' : AS} {β β' : Nat → Option BI} {a : Act} {w w' : World} (h : Rel E N I s β a w)
    (hβ : Ext β β') (hN : ∀ o B, β' o = some B → N' o) (hI : ∀ b, I b → I' b) (hw : ∀ b, I b → w'.heap[b]? = w.heap[b]?)
    (ht : ∀ t, s'.get t = s.get t)
    (ho : ∀ o obj, s'.obj o = some obj → (s.obj o = some obj ∧ ∀ B b, β o = some B → B.blk = some b → ¬ I' b ∧ w'.heap[b]? = w.heap[b]?) ∨ ObjAt I' β' w' E.may o obj)
    (hinj : ∀ o o' obj obj' B B' b, s'.obj o = some obj → s'.obj o' = some obj' → o ≠ o' → β' o = some B → β' o' = some B' → B.blk = some b → B'.blk ≠ some b)
    (hold : Keeps E.mu E.w0 w') (himm : ∀ b, I' b → b < w'.heap.size) (hgro : ∀ b, b < E.w0.heap.size → (I' b ↔ E.I0 b)) (hext : ∀ o, o < E.m → β' o = E.β0 o) : Rel E N' I' s' β' a w' :=
  ⟨fun t => by rw [ht]; exact (h.tms t).mono hβ hI hw, h.siz, h.dfr,
   fun o obj e => (ho o obj e).elim (fun k => (h.obs o obj k.1).mono hβ hI hw k.2) id, hinj, hN, hold, himm, hgro, hext⟩
theorem Rel.put {E : Env} {N I : Nat → Prop} {s : AS} {β : Nat → Option BI} {a : Act} {w : World} (h : Rel E N I s β a w) {d : Option Nat} {x : AVal} {v : Value} (hv : RepV I β w x v)
    {u : Upd} (hu : u.tm = match d with | some t => [(t, x)] | none => []) (hob : u.ob = []) (hd : ∀ t, d = some t → t < E.n) : Rel E N I (s.upd u) β (a.put d v) w := by
  have ho : ∀ o, (s.upd u).obj o = s.obj o := fun o => AS.obj_none (by rw [hob]; rfl)
  refine ⟨fun t => ?_, ?_, ?_, fun o obj e => h.obs o obj (by rw [← ho]; exact e), fun o o' obj obj' B B' b e e' => h.inj o o' obj obj' B B' b (by rw [← ho]; exact e) (by rw [← ho]; exact e'), h.nam, h.old, h.imm, h.gro, h.ext⟩
  · cases d with
    | none =>
      rw [zG (by rw [hu]; rfl)]
      exact h.tms t
    | some k =>
      have hk := hd k rfl
      rw [← h.siz] at hk
      by_cases e : t = k
      · subst e
        rw [AS.get_some (x := x) (by rw [hu, lk_cons]; simp)]
        simp only [Act.put, Array.getD_eq_getD_getElem?, Array.getElem?_setIfInBounds]
        simpa [hk] using hv
      · rw [zG (by rw [hu, lk_cons]; simp [e, lk])]
        have := h.tms t
        simp only [Act.put, Array.getD_eq_getD_getElem?, Array.getElem?_setIfInBounds] at this ⊢
        rw [if_neg (by omega)]
        exact this
  · cases d <;> simp [Act.put, h.siz]
  · cases d <;> simp [Act.put, h.dfr]
end Go.Proofs.YtjeffognhcbiaaaGreatDoor

namespace Go.Proofs.YtjeffognhcbiaaaGreatDoor
open Go Go.RowKit

def opRun (P : Program) (ops : Array Oper) (o : Oper) (a : Act) (w : World) (K : Act → World → Prop) : Prop :=
  ∀ Q, if Region.wanted o (yielded ops a.tmps) then o.wp P a w K Q else K (a.put o.dst undef) w
theorem opRun.mono {P : Program} {ops : Array Oper} {o : Oper} {a : Act} {w : World} {K K' : Act → World → Prop} (h : opRun P ops o a w K) (hK : ∀ a w, K a w → K' a w) : opRun P ops o a w K' := by
  intro Q
  have := h Q
  split
  · rw [if_pos ‹_›] at this; exact Oper.wp_mono hK this
  · rw [if_neg ‹_›] at this; exact hK _ _ this
structure Foot where
  tm : List Nat
  ob : List Nat
def Agree (F : Foot) (s s' : AS) : Prop := (∀ t ∈ F.tm, s'.get t = s.get t) ∧ (∀ o ∈ F.ob, s'.obj o = s.obj o)
theorem Agree.refl (F : Foot) (s : AS) : Agree F s s := ⟨fun _ _ => rfl, fun _ _ => rfl⟩

def StepOk (P : Program) (E : Env) (ops : Array Oper) (o : Oper) (s : AS) (u : Upd) (F : Foot) : Prop :=
  ∀ N I s' β a w, Agree F s s' → (∀ i, i < u.k → ¬ N (s.nx + i)) → Rel E N I s' β a w →
    opRun P ops o a w (fun a' w' => ∃ I' β', Rel E (fun o => N o ∨ (s.nx ≤ o ∧ o < s.nx + u.k)) I' (s'.upd u) β' a' w')

def wN (s : AS) (o : Nat) : Prop := o < s.nx
def regA (P : Program) (E : Env) (ops : Array Oper) (K : AS → Prop) : List Oper → AS → Prop
  | [], s => K s
  | o :: r, s => ∃ u F, StepOk P E ops o s u F ∧ regA P E ops K r (s.upd u)

theorem regA_sound {P : Program} {E : Env} {ops : Array Oper} {K : AS → Prop} {Q : Exit → Act → World → Prop} (hQ : ∀ s I β a w, K s → Rel E (wN s) I s β a w → Q .normal a w) :
    ∀ (l : List Oper) (s : AS), regA P E ops K l s → ∀ I β a w, Rel E (wN s) I s β a w → wpList P ops Q l a w
  | [], s, h, I, β, a, w, hr => hQ s I β a w h hr
  | o :: r, s, ⟨u, F, hs, h⟩, I, β, a, w, hr => by
    have h1 := hs (wN s) I s β a w (Agree.refl F s) (fun i _ => by simp [wN]) hr
    have h2 : opRun P ops o a w (wpList P ops Q r) := h1.mono fun a' w' ⟨I', β', hr'⟩ =>
      regA_sound hQ r (s.upd u) h I' β' a' w' (hr'.names fun o ho => by rcases ho with h | h <;> simp only [wN, AS.upd] at * <;> omega)
    have h3 := h2 Q
    unfold wpList
    split
    · rw [if_pos ‹_›] at h3; exact .inl h3
    · rw [if_neg ‹_›] at h3; exact h3
def anc (ops : Array Oper) : Nat → Nat → List Nat
  | 0, _ => []
  | f + 1, j => match ops[j]? with
    | none => []
    | some o => (o.after.toList.filter (Region.binds .any)).flatMap fun e => e.on :: anc ops f e.on
def kO (n : Nat) : List Nat → Bool
  | [] => false
  | k :: r => Nat.beq n k || kO n r
theorem memB_iff {n : Nat} : ∀ {l : List Nat}, kO n l = true ↔ n ∈ l
  | [] => by simp [kO]
  | k :: r => by simp [kO, memB_iff (l := r)]
def touches (u : Upd) (F : Foot) : Bool := u.tm.any (fun p => kO p.1 F.tm) || u.ob.any (fun p => kO p.1 F.ob)
def domF (u : Upd) : Foot := ⟨u.tm.map (·.1), u.ob.map (·.1)⟩
def vW (x y : Upd × Foot) : Bool := touches x.1 y.2 || touches x.1 (domF y.1)
def okPair (ops : Array Oper) (n : Nat) (us : List (Upd × Foot)) (i j : Nat) : Bool :=
  match us[i]?, us[j]? with
  | some x, some y => Nat.beq i j || !vW x y || kO i (anc ops n j) || kO j (anc ops n i)
  | _, _ => true
def depsB (ops : Array Oper) : Bool := (List.range ops.size).all fun j => match ops[j]? with | some o => o.after.toList.all (fun e => !Region.binds .any e || Nat.blt e.on j) | none => true
def okB (ops : Array Oper) (us : List (Upd × Foot)) : Bool :=
  depsB ops && Nat.beq us.length ops.size && (List.range ops.size).all fun i => (List.range ops.size).all fun j => okPair ops ops.size us i j

def regD (P : Program) (E : Env) (ops : Array Oper) (K : AS → Prop) : List Oper → List (Upd × Foot) → AS → Prop
  | [], acc, s => okB ops acc.reverse = true ∧ K s
  | o :: r, acc, s => ∃ u F, StepOk P E ops o s u F ∧ regD P E ops K r ((u, F) :: acc) (s.upd u)
def lastT {V : Type} (p : Upd → Option V) (T : Nat → Bool) : Nat → List (Upd × Foot) → Option V → Option V
  | _, [], acc => acc
  | i, u :: r, acc => lastT p T (i + 1) r (if T i then (p u.1).or acc else acc)
theorem vF {V : Type} {p : Upd → Option V} {T T' : Nat → Bool} : ∀ (us : List (Upd × Foot)) (k : Nat) (acc : Option V),
    (∀ (i : Nat) x, us[i]? = some x → p x.1 ≠ none → T (k + i) = T' (k + i)) → lastT p T k us acc = lastT p T' k us acc
  | [], _, _, _ => rfl
  | u :: r, k, acc, h => by
    rw [lastT, lastT]
    have e : (if T k then (p u.1).or acc else acc) = (if T' k then (p u.1).or acc else acc) := by
      by_cases hp : p u.1 = none
      · simp [hp]
      · have := h 0 u rfl hp
        simp only [Nat.add_zero] at this
        rw [this]
    rw [e]
    exact vF r (k + 1) _ fun i x hx hp => by
      have := h (i + 1) x (by simpa using hx) hp
      rwa [show k + (i + 1) = k + 1 + i by omega] at this
theorem lastT_top {V : Type} {p : Upd → Option V} {T : Nat → Bool} : ∀ (us : List (Upd × Foot)) (k : Nat) (acc : Option V) (j : Nat) (x : Upd × Foot) (v : V),
    us[j]? = some x → p x.1 = some v → T (k + j) = true → (∀ (i : Nat) y, us[i]? = some y → j < i → T (k + i) = true → p y.1 = none) → lastT p T k us acc = some v
  | [], _, _, j, x, v, h, _, _, _ => by simp at h
  | u :: r, k, acc, 0, x, v, h, hp, hT, hn => by
    simp only [List.getElem?_cons_zero, Option.some.injEq] at h
    subst h
    rw [lastT, if_pos (by simpa using hT), hp, Option.some_or]
    have : ∀ (us : List (Upd × Foot)) (k' : Nat), (∀ (i : Nat) y, us[i]? = some y → T (k' + i) = true → p y.1 = none) → lastT p T k' us (some v) = some v := by
      intro us
      induction us with
      | nil => intro k' _; rfl
      | cons y us ih =>
        intro k' hn'
        rw [lastT]
        have e : (if T k' then (p y.1).or (some v) else some v) = some v := by
          by_cases hk : T k' = true
          · rw [if_pos hk, hn' 0 y rfl (by simpa using hk)]; rfl
          · rw [if_neg hk]
        rw [e]
        exact ih (k' + 1) fun i z hz hTz => hn' (i + 1) z (by simpa using hz) (by rwa [show k' + (i + 1) = k' + 1 + i by omega])
    exact this r (k + 1) fun i y hy hTy => hn (i + 1) y (by simpa using hy) (by omega) (by rwa [show k + (i + 1) = k + 1 + i by omega])
  | u :: r, k, acc, j + 1, x, v, h, hp, hT, hn => by
    rw [lastT]
    exact lastT_top r (k + 1) _ j x v (by simpa using h) hp (by rwa [show k + 1 + j = k + (j + 1) by omega]) fun i y hy hj hTy =>
      hn (i + 1) y (by simpa using hy) (by omega) (by rwa [show k + (i + 1) = k + 1 + i by omega])
theorem lastT_insert {V : Type} {p : Upd → Option V} {T : Nat → Bool} {us : List (Upd × Foot)} {acc : Option V} {j : Nat} {x : Upd × Foot} (hx : us[j]? = some x)
    (hn : ∀ (i : Nat) y, us[i]? = some y → i ≠ j → T i = true → p x.1 ≠ none → j < i → p y.1 = none) :
    lastT p (fun i => i == j || T i) 0 us acc = (p x.1).or (lastT p T 0 us acc) := by
  cases hp : p x.1 with
  | none =>
    rw [Option.none_or]
    refine vF us 0 acc fun i y hy hpy => ?_
    by_cases e : i = j
    · subst e; rw [hx] at hy; cases hy; exact absurd hp hpy
    · simp [e]
  | some v =>
    rw [Option.some_or]
    exact lastT_top us 0 acc j x v hx hp (by simp) fun i y hy hj hT => hn i y hy (by omega) (by
      have hij : i ≠ j := by omega
      simpa [hij] using hT) (by simp [hp]) hj
def baseOf (nx : Nat) : List (Upd × Foot) → Nat → Nat
  | _, 0 => nx
  | [], _ + 1 => nx
  | u :: r, i + 1 => baseOf (nx + u.1.k) r i
def stT (s : AS) (us : List (Upd × Foot)) (T : Nat → Bool) (r : AS) : Prop :=
  (∀ t, r.get t = (lastT (fun u => lk t u.tm) T 0 us (lk t s.tm)).getD .any) ∧ (∀ o, r.obj o = (lastT (fun u => lk o u.ob) T 0 us (lk o s.ob)).getD none)
def qV (s : AS) : List (Upd × Foot) → Nat → AS
  | _, 0 => s
  | [], _ + 1 => s
  | u :: r, i + 1 => qV (s.upd u.1) r i
theorem stAt_nx : ∀ (us : List (Upd × Foot)) (s : AS) (i : Nat), (qV s us i).nx = baseOf s.nx us i
  | _, s, 0 => by simp [qV, baseOf]
  | [], s, i + 1 => rfl
  | u :: r, s, i + 1 => by rw [qV, baseOf, stAt_nx r]; rfl
theorem stAt_tm : ∀ (us : List (Upd × Foot)) (s : AS) (i k t : Nat), lk t (qV s us i).tm = lastT (fun u => lk t u.tm) (fun j => decide (j < k + i)) k us (lk t s.tm)
  | us, s, 0, k, t => by
    have : ∀ (us : List (Upd × Foot)) (k' : Nat) (acc : Option AVal), k ≤ k' → lastT (fun u => lk t u.tm) (fun j => decide (j < k + 0)) k' us acc = acc := by
      intro us
      induction us with
      | nil => intros; rfl
      | cons u us ih => intro k' acc hk; rw [lastT, if_neg (by simp; omega)]; exact ih _ _ (by omega)
    rw [this us k _ (Nat.le_refl _)]
    cases us <;> rfl
  | [], s, i + 1, k, t => rfl
  | u :: r, s, i + 1, k, t => by
    rw [qV, lastT, if_pos (by simp), stAt_tm r (s.upd u.1) i (k + 1) t, show k + 1 + i = k + (i + 1) by omega]
    simp only [AS.upd, lk_append]
theorem stAt_ob : ∀ (us : List (Upd × Foot)) (s : AS) (i k t : Nat), lk t (qV s us i).ob = lastT (fun u => lk t u.ob) (fun j => decide (j < k + i)) k us (lk t s.ob)
  | us, s, 0, k, t => by
    have : ∀ (us : List (Upd × Foot)) (k' : Nat) (acc : Option (Option AObj)), k ≤ k' → lastT (fun u => lk t u.ob) (fun j => decide (j < k + 0)) k' us acc = acc := by
      intro us
      induction us with
      | nil => intros; rfl
      | cons u us ih => intro k' acc hk; rw [lastT, if_neg (by simp; omega)]; exact ih _ _ (by omega)
    rw [this us k _ (Nat.le_refl _)]
    cases us <;> rfl
  | [], s, i + 1, k, t => rfl
  | u :: r, s, i + 1, k, t => by
    rw [qV, lastT, if_pos (by simp), stAt_ob r (s.upd u.1) i (k + 1) t, show k + 1 + i = k + (i + 1) by omega]
    simp only [AS.upd, lk_append]
theorem baseOf_le : ∀ (us : List (Upd × Foot)) (nx i : Nat), nx ≤ baseOf nx us i
  | _, nx, 0 => by simp [baseOf]
  | [], nx, i + 1 => Nat.le_refl _
  | u :: r, nx, i + 1 => Nat.le_trans (Nat.le_add_right _ _) (baseOf_le r (nx + u.1.k) i)
theorem baseOf_step : ∀ (us : List (Upd × Foot)) (nx i j : Nat) (x : Upd × Foot), us[i]? = some x → i < j → baseOf nx us i + x.1.k ≤ baseOf nx us j
  | [], nx, i, j, x, h, _ => by simp at h
  | u :: r, nx, 0, j + 1, x, h, _ => by
    simp only [List.getElem?_cons_zero, Option.some.injEq] at h
    subst h
    simp only [baseOf]
    exact baseOf_le r _ j
  | u :: r, nx, i + 1, j + 1, x, h, hj => by
    simp only [baseOf]
    exact baseOf_step r _ i j x (by simpa using h) (by omega)
theorem regD_all {P : Program} {E : Env} {ops : Array Oper} {K : AS → Prop} : ∀ (l : List Oper) (acc : List (Upd × Foot)) (s : AS), regD P E ops K l acc s →
    ∃ us : List (Upd × Foot), us.length = l.length ∧ (∀ (i : Nat) x o, us[i]? = some x → l[i]? = some o → StepOk P E ops o (qV s us i) x.1 x.2) ∧ okB ops (acc.reverse ++ us) = true ∧ K (qV s us us.length)
  | [], acc, s, h => ⟨[], rfl, fun i x o h => by simp at h, by simpa using h.1, h.2⟩
  | o :: r, acc, s, ⟨u, F, hs, h⟩ => by
    obtain ⟨us, h1, h2, h3, h4⟩ := regD_all r _ _ h
    refine ⟨(u, F) :: us, by simp [h1], fun i x o' hx ho => ?_, by simpa using h3, h4⟩
    cases i with
    | zero =>
      simp only [List.getElem?_cons_zero, Option.some.injEq] at hx ho
      subst hx; subst ho
      exact hs
    | succ i => exact h2 i x o' (by simpa using hx) (by simpa using ho)

theorem anc_lt {ops : Array Oper} (hd : depsB ops = true) : ∀ (f j i : Nat), i ∈ anc ops f j → i < j
  | 0, j, i, h => by simp [anc] at h
  | f + 1, j, i, h => by
    unfold anc at h
    cases ho : ops[j]? with
    | none => simp [ho] at h
    | some o =>
      simp only [ho, List.mem_flatMap, List.mem_filter, List.mem_cons] at h
      obtain ⟨e, ⟨he, hb⟩, h⟩ := h
      have hj : j < ops.size := (Array.getElem?_eq_some_iff.1 ho).1
      have h1 : e.on < j := by
        have := (List.all_eq_true.1 hd) j (List.mem_range.2 hj)
        simp only [ho] at this
        have := (List.all_eq_true.1 this) e he
        simpa [hb] using this
      rcases h with rfl | h
      · exact h1
      · exact Nat.lt_trans (anc_lt hd f e.on i h) h1
theorem anc_in {ops : Array Oper} {T : Nat → Bool} (hT : ∀ (j : Nat) o, ops[j]? = some o → T j = true → ∀ e ∈ o.after, Region.binds .any e = true → T e.on = true) :
    ∀ (f j i : Nat), (∀ o, ops[j]? = some o → ∀ e ∈ o.after, Region.binds .any e = true → T e.on = true) → i ∈ anc ops f j → T i = true
  | 0, j, i, _, h => by simp [anc] at h
  | f + 1, j, i, hj, h => by
    unfold anc at h
    cases ho : ops[j]? with
    | none => simp [ho] at h
    | some o =>
      simp only [ho, List.mem_flatMap, List.mem_filter, List.mem_cons] at h
      obtain ⟨e, ⟨he, hb⟩, h⟩ := h
      have h1 := hj o ho e (Array.mem_toList_iff.1 he) hb
      rcases h with rfl | h
      · exact h1
      · exact anc_in hT f e.on i (fun o' ho' => hT e.on o' ho' h1) h

def cnt (l : List Bool) : Nat := (l.filter (!·)).length
theorem cnt_set : ∀ (l : List Bool) (i : Nat), l[i]? = some false → cnt (l.set i true) + 1 = cnt l
  | [], i, h => by simp at h
  | b :: l, 0, h => by
    simp only [List.getElem?_cons_zero, Option.some.injEq] at h
    subst h
    simp [cnt]
  | b :: l, i + 1, h => by
    have := cnt_set l i (by simpa using h)
    cases b <;> simp [cnt] at * <;> omega

theorem regD_sound {P : Program} {E : Env} {ops : Array Oper} {K : AS → Prop} {Q : Exit → Act → World → Prop} {s0 : AS} {us : List (Upd × Foot)}
    (hQ : ∀ s I β a w, K s → Rel E (wN s) I s β a w → Q .normal a w) (hlen : us.length = ops.size)
    (hst : ∀ (i : Nat) x o, us[i]? = some x → ops[i]? = some o → StepOk P E ops o (qV s0 us i) x.1 x.2) (hB : okB ops us = true) (hK : K (qV s0 us us.length)) :
    ∀ (f : Nat) (listed : Array Bool) (r : AS) (I : Nat → Prop) (β : Nat → Option BI) (a : Act) (w : World), listed.size = ops.size → cnt listed.toList = f →
      (∀ (j : Nat) o, ops[j]? = some o → listed.getD j false = true → ∀ e ∈ o.after, Region.binds .any e = true → listed.getD e.on false = true) →
      stT s0 us (fun i => listed.getD i false) r →
      Rel E (fun o => o < s0.nx ∨ ∃ i x, us[i]? = some x ∧ listed.getD i false = true ∧ baseOf s0.nx us i ≤ o ∧ o < baseOf s0.nx us i + x.1.k) I r β a w →
      wpAny P .any ops Q f listed a w := by
  simp only [okB, Bool.and_eq_true] at hB
  obtain ⟨⟨hdeps, _⟩, hpairs⟩ := hB
  have hall : ∀ (listed : Array Bool) (r : AS) (I : Nat → Prop) (β : Nat → Option BI) (a : Act) (w : World), listed.size = ops.size → (∀ j, j < ops.size → listed.getD j false = true) → stT s0 us (fun i => listed.getD i false) r →
      Rel E (fun o => o < s0.nx ∨ ∃ i x, us[i]? = some x ∧ listed.getD i false = true ∧ baseOf s0.nx us i ≤ o ∧ o < baseOf s0.nx us i + x.1.k) I r β a w → Q .normal a w := by
    intro listed r I β a w hsz hl hT hr
    refine hQ _ I β a w hK ((hr.congr (s' := qV s0 us us.length) ?_ ?_).names ?_)
    · intro t
      rw [hT.1, AS.get, stAt_tm us s0 us.length 0 t]
      congr 1
      exact vF us 0 _ fun i x hx _ => by
        have : i < us.length := (List.getElem?_eq_some_iff.1 hx).1
        rw [hl (0 + i) (by omega)]
        simpa using this
    · intro o
      rw [hT.2, AS.obj, stAt_ob us s0 us.length 0 o]
      congr 1
      exact vF us 0 _ fun i x hx _ => by
        have : i < us.length := (List.getElem?_eq_some_iff.1 hx).1
        rw [hl (0 + i) (by omega)]
        simpa using this
    · intro o ho
      simp only [wN, stAt_nx]
      rcases ho with h | ⟨i, x, hx, _, _, h⟩
      · exact Nat.lt_of_lt_of_le h (baseOf_le us _ _)
      · exact Nat.lt_of_lt_of_le h (baseOf_step us _ i us.length x hx (List.getElem?_eq_some_iff.1 hx).1)
  have hready : ∀ listed : Array Bool, listed.size = ops.size → Region.ready .any ops listed = [] → ∀ j, j < ops.size → listed.getD j false = true := by
    intro listed hsz hr0 j
    induction j using Nat.strongRecOn with
    | _ j ih =>
      intro hj
      rcases hb : listed.getD j false with _ | _
      · exfalso
        have : j ∈ Region.ready .any ops listed := by
          rw [mem_ready]
          refine ⟨?_, ops[j], Array.getElem?_eq_getElem hj, fun e he hbe => ?_⟩
          · simp only [Array.getD_eq_getD_getElem?] at hb ⊢
            rw [Array.getElem?_eq_getElem (by omega)] at hb ⊢
            simpa using hb
          · have h1 : e.on < j := by
              have := (List.all_eq_true.1 hdeps) j (List.mem_range.2 hj)
              rw [Array.getElem?_eq_getElem hj] at this
              have := (List.all_eq_true.1 this) e (Array.mem_toList_iff.2 he)
              simpa [hbe] using this
            exact ih e.on h1 (by omega)
        rw [hr0] at this
        cases this
      · rfl
  intro f
  induction f with
  | zero =>
    intro listed r I β a w hsz hc hdc hT hr
    have hl : ∀ j, j < ops.size → listed.getD j false = true := by
      intro j hj
      have h0 : listed.toList.filter (!·) = [] := List.eq_nil_of_length_eq_zero hc
      rw [List.filter_eq_nil_iff] at h0
      have := h0 (listed[j]'(by omega)) (by simp)
      simp only [Array.getD_eq_getD_getElem?]
      rw [Array.getElem?_eq_getElem (by omega)]
      simpa using this
    refine ⟨?_, hall listed r I β a w hsz hl hT hr⟩
    rw [List.eq_nil_iff_forall_not_mem]
    intro j hj
    obtain ⟨h1, o, ho, _⟩ := mem_ready.1 hj
    have hj' : j < ops.size := (Array.getElem?_eq_some_iff.1 ho).1
    have h2 := hl j hj'
    simp only [Array.getD_eq_getD_getElem?] at h1 h2
    rw [Array.getElem?_eq_getElem (by omega)] at h1 h2
    simp at h1 h2
    rw [h1] at h2
    cases h2
  | succ f ih =>
    intro listed r I β a w hsz hc hdc hT hr
    refine ⟨fun h0 => hall listed r I β a w hsz (hready listed hsz h0) hT hr, fun j hj => ?_⟩
    obtain ⟨hun, o, ho, hdep⟩ := mem_ready.1 hj
    have hjs : j < ops.size := (Array.getElem?_eq_some_iff.1 ho).1
    have hjT : listed.getD j false = false := by
      simp only [Array.getD_eq_getD_getElem?] at hun ⊢
      rw [Array.getElem?_eq_getElem (by omega)] at hun ⊢
      simpa using hun
    have hgetj : listed.toList[j]? = some false := by
      simp only [Array.getD_eq_getD_getElem?] at hjT
      rw [Array.getElem?_eq_getElem (by omega)] at hjT
      rw [Array.getElem?_toList, Array.getElem?_eq_getElem (by omega)]
      simpa using hjT
    obtain ⟨x, hx⟩ : ∃ x, us[j]? = some x := ⟨us[j]'(by omega), List.getElem?_eq_getElem (by omega)⟩
    have hmed : ∀ (i : Nat) y, us[i]? = some y → i ≠ j → (vW y x = true ∨ vW x y = true) → (listed.getD i false = true ↔ i < j) := by
      intro i y hy hij hm
      have his : i < ops.size := by have := (List.getElem?_eq_some_iff.1 hy).1; omega
      have hor : i ∈ anc ops ops.size j ∨ j ∈ anc ops ops.size i := by
        rcases hm with hm | hm
        · have := (List.all_eq_true.1 ((List.all_eq_true.1 hpairs) i (List.mem_range.2 his))) j (List.mem_range.2 hjs)
          simp only [okPair, hy, hx, hm, Bool.or_eq_true, Bool.not_true, Bool.false_eq_true, or_false, memB_iff] at this
          rcases this with (h | h) | h
          · exact absurd (Nat.eq_of_beq_eq_true h) hij
          · exact .inl h
          · exact .inr h
        · have := (List.all_eq_true.1 ((List.all_eq_true.1 hpairs) j (List.mem_range.2 hjs))) i (List.mem_range.2 his)
          simp only [okPair, hy, hx, hm, Bool.or_eq_true, Bool.not_true, Bool.false_eq_true, or_false, memB_iff] at this
          rcases this with (h | h) | h
          · exact absurd (Nat.eq_of_beq_eq_true h).symm hij
          · exact .inr h
          · exact .inl h
      rcases hor with h | h
      · have h1 := anc_in (T := fun i => listed.getD i false) hdc ops.size j i (fun o' ho' e he hb => by rw [ho] at ho'; cases ho'; exact hdep e he hb) h
        exact ⟨fun _ => anc_lt hdeps _ _ _ h, fun _ => h1⟩
      · constructor
        · intro hi
          have hi' : ∀ o', ops[i]? = some o' → ∀ e ∈ o'.after, Region.binds .any e = true → listed.getD e.on false = true := fun o' ho' => hdc i o' ho' hi
          have := anc_in (T := fun i => listed.getD i false) hdc ops.size i j hi' h
          rw [hjT] at this
          cases this
        · intro hlt
          have := anc_lt hdeps _ _ _ h
          omega
    have hag : Agree x.2 (qV s0 us j) r := by
      refine ⟨fun t ht => ?_, fun q hq => ?_⟩
      · rw [hT.1, AS.get, stAt_tm us s0 j 0 t]
        congr 1
        refine vF us 0 _ fun i y hy hp => ?_
        simp only [Nat.zero_add]
        by_cases hij : i = j
        · subst hij; rw [hjT]; simp
        · have := hmed i y hy hij (.inl (by
            simp only [vW, touches, Bool.or_eq_true, List.any_eq_true]
            refine .inl (.inl ?_)
            have : ∀ (l : List (Nat × AVal)), lk t l ≠ none → ∃ q ∈ l, q.1 = t := by
              intro l
              induction l with
              | nil => intro h; exact absurd rfl h
              | cons p l ih =>
                intro h
                obtain ⟨pk, pv⟩ := p
                rw [lk_cons] at h
                by_cases e : t = pk
                · exact ⟨(pk, pv), by simp, e.symm⟩
                · rw [if_neg e] at h
                  obtain ⟨q, hq, e'⟩ := ih h
                  exact ⟨q, by simp [hq], e'⟩
            obtain ⟨q, hq, rfl⟩ := this _ hp
            exact ⟨q, hq, memB_iff.2 ht⟩))
          by_cases hi : i < j
          · rw [this.2 hi]; simp [hi]
          · have : listed.getD i false = false := by
              rcases hb : listed.getD i false with _ | _
              · rfl
              · exact absurd (this.1 hb) hi
            rw [this]; simp [hi]
      · rw [hT.2, AS.obj, stAt_ob us s0 j 0 q]
        congr 1
        refine vF us 0 _ fun i y hy hp => ?_
        simp only [Nat.zero_add]
        by_cases hij : i = j
        · subst hij; rw [hjT]; simp
        · have := hmed i y hy hij (.inl (by
            simp only [vW, touches, Bool.or_eq_true, List.any_eq_true]
            refine .inl (.inr ?_)
            have : ∀ (l : List (Nat × Option AObj)), lk q l ≠ none → ∃ z ∈ l, z.1 = q := by
              intro l
              induction l with
              | nil => intro h; exact absurd rfl h
              | cons p l ih =>
                intro h
                obtain ⟨pk, pv⟩ := p
                rw [lk_cons] at h
                by_cases e : q = pk
                · exact ⟨(pk, pv), by simp, e.symm⟩
                · rw [if_neg e] at h
                  obtain ⟨z, hz, e'⟩ := ih h
                  exact ⟨z, by simp [hz], e'⟩
            obtain ⟨z, hz, rfl⟩ := this _ hp
            exact ⟨z, hz, memB_iff.2 hq⟩))
          by_cases hi : i < j
          · rw [this.2 hi]; simp [hi]
          · have : listed.getD i false = false := by
              rcases hb : listed.getD i false with _ | _
              · rfl
              · exact absurd (this.1 hb) hi
            rw [this]; simp [hi]
    have hnames : ∀ i, i < x.1.k → ¬ ((qV s0 us j).nx + i < s0.nx ∨ ∃ i' y, us[i']? = some y ∧ listed.getD i' false = true ∧ baseOf s0.nx us i' ≤ (qV s0 us j).nx + i ∧ (qV s0 us j).nx + i < baseOf s0.nx us i' + y.1.k) := by
      intro i hi hcon
      rw [stAt_nx] at hcon
      rcases hcon with h | ⟨i', y, hy, hl, h1, h2⟩
      · have := baseOf_le us s0.nx j; omega
      · by_cases e : i' = j
        · subst e; rw [hjT] at hl; cases hl
        · rcases Nat.lt_or_ge i' j with h | h
          · have := baseOf_step us s0.nx i' j y hy h; omega
          · have := baseOf_step us s0.nx j i' x hx (by omega); omega
    have hrun := hst j x o hx ho _ I r β a w hag hnames hr
    have hgd : ∀ i, (listed.setIfInBounds j true).getD i false = (i == j || listed.getD i false) := by
      intro i
      simp only [Array.getD_eq_getD_getElem?, Array.getElem?_setIfInBounds]
      by_cases e : j = i
      · subst e; simp [show j < listed.size by omega]
      · rw [if_neg e]
        have : (i == j) = false := by simp; omega
        simp [this]
    have hmain : opRun P ops o a w (wpAny P .any ops Q f (listed.setIfInBounds j true)) := by
      refine hrun.mono fun a' w' ⟨I', β', hr'⟩ => ih (listed.setIfInBounds j true) (r.upd x.1) I' β' a' w' (by simp [hsz]) ?_ ?_ ?_ ?_
      · have := cnt_set listed.toList j hgetj
        simp only [Array.toList_setIfInBounds]
        omega
      · intro i oi hoi hi e he hb
        rw [hgd] at hi ⊢
        by_cases hij : i = j
        · subst hij
          rw [ho] at hoi; cases hoi
          rw [hdep e he hb]; simp
        · have : (i == j) = false := by simpa using hij
          rw [this, Bool.false_or] at hi
          rw [hdc i oi hoi hi e he hb]; simp
      · have hfun : (fun i => (listed.setIfInBounds j true).getD i false) = (fun i => i == j || listed.getD i false) := funext hgd
        rw [hfun]
        refine ⟨fun t => ?_, fun q => ?_⟩
        · rw [lastT_insert hx, AS.get_upd]
          · have := hT.1 t
            rw [AS.get] at this
            cases lk t x.1.tm with
            | some v => rfl
            | none => simpa using this
          · intro i y hy hij hl hp hji
            by_cases hy0 : lk t y.1.tm = none
            · exact hy0
            · exfalso
              have hm : vW y x = true := by
                simp only [vW, touches, Bool.or_eq_true, List.any_eq_true]
                refine .inr (.inl ?_)
                have key : ∀ (l : List (Nat × AVal)), lk t l ≠ none → ∃ q ∈ l, q.1 = t := by
                  intro l
                  induction l with
                  | nil => intro h; exact absurd rfl h
                  | cons p l ih =>
                    intro h
                    obtain ⟨pk, pv⟩ := p
                    rw [lk_cons] at h
                    by_cases e : t = pk
                    · exact ⟨(pk, pv), by simp, e.symm⟩
                    · rw [if_neg e] at h
                      obtain ⟨q, hq, e'⟩ := ih h
                      exact ⟨q, by simp [hq], e'⟩
                obtain ⟨q, hq, hqe⟩ := key _ hy0
                obtain ⟨q', hq', hqe'⟩ := key _ hp
                refine ⟨q, hq, memB_iff.2 ?_⟩
                simp only [domF, List.mem_map]
                exact ⟨q', hq', by rw [hqe', hqe]⟩
              have := (hmed i y hy hij (.inl hm)).1 hl
              omega
        · rw [lastT_insert hx, AS.obj_upd]
          · have := hT.2 q
            rw [AS.obj] at this
            cases lk q x.1.ob with
            | some v => rfl
            | none => simpa using this
          · intro i y hy hij hl hp hji
            by_cases hy0 : lk q y.1.ob = none
            · exact hy0
            · exfalso
              have hm : vW y x = true := by
                simp only [vW, touches, Bool.or_eq_true, List.any_eq_true]
                refine .inr (.inr ?_)
                have key : ∀ (l : List (Nat × Option AObj)), lk q l ≠ none → ∃ z ∈ l, z.1 = q := by
                  intro l
                  induction l with
                  | nil => intro h; exact absurd rfl h
                  | cons p l ih =>
                    intro h
                    obtain ⟨pk, pv⟩ := p
                    rw [lk_cons] at h
                    by_cases e : q = pk
                    · exact ⟨(pk, pv), by simp, e.symm⟩
                    · rw [if_neg e] at h
                      obtain ⟨z, hz, e'⟩ := ih h
                      exact ⟨z, by simp [hz], e'⟩
                obtain ⟨z, hz, hze⟩ := key _ hy0
                obtain ⟨z', hz', hze'⟩ := key _ hp
                refine ⟨z, hz, memB_iff.2 ?_⟩
                simp only [domF, List.mem_map]
                exact ⟨z', hz', by rw [hze', hze]⟩
              have := (hmed i y hy hij (.inl hm)).1 hl
              omega
      · refine hr'.names fun q hq => ?_
        rcases hq with (h | ⟨i, y, hy, hl, h1, h2⟩) | ⟨h1, h2⟩
        · exact .inl h
        · exact .inr ⟨i, y, hy, by rw [hgd, hl]; simp, h1, h2⟩
        · rw [stAt_nx] at h1 h2
          exact .inr ⟨j, x, hx, by rw [hgd]; simp, h1, h2⟩
    have h3 := hmain Q
    unfold wpOp
    simp only [ho]
    split
    · rw [if_pos ‹_›] at h3; exact .inl h3
    · rw [if_neg ‹_›] at h3; exact h3
end Go.Proofs.YtjeffognhcbiaaaGreatDoor

namespace Go.Proofs.YtjeffognhcbiaaaGreatDoor
open Go Go.RowKit
structure AWp (P : Program) (E : Env) (c : Code) (K : Exit → AS → Prop) (s : AS) : Prop where
  run : ∀ I β a w, Rel E (wN s) I s β a w → c.wp P (fun e a' w' => ∃ I' β' s', K e s' ∧ Rel E (wN s') I' s' β' a' w') a w
inductive thenK (next : AS → Prop) (K : Exit → AS → Prop) : Exit → AS → Prop
  | normal {s : AS} : next s → thenK next K .normal s
  | other {e : Exit} {s : AS} : e ≠ .normal → K e s → thenK next K e s
inductive blockK (id : Nat) (K : Exit → AS → Prop) : Exit → AS → Prop
  | here {s : AS} : K .normal s → blockK id K (.exit id) s
  | other {e : Exit} {s : AS} : e ≠ .exit id → K e s → blockK id K e s
def Weak (m : Nat) (s s' : AS) : Prop := ∀ E I β a w, E.m = m → Rel E (wN s) I s β a w → ∃ I' β', Rel E (wN s') I' s' β' a w
theorem Weak.refl (m : Nat) (s : AS) : Weak m s s := fun _ I β _ _ _ h => ⟨I, β, h⟩

section
variable {P : Program} {E : Env} {K : Exit → AS → Prop} {s : AS}
theorem AWp.mono {c : Code} {K' : Exit → AS → Prop} (h : AWp P E c K s) (hK : ∀ e s, K e s → K' e s) : AWp P E c K' s :=
  ⟨fun I β a w hr => wp_mono (h.run I β a w hr) fun _ _ _ ⟨I', β', s', hk, hr'⟩ => ⟨I', β', s', hK _ _ hk, hr'⟩⟩
theorem AWp.weaken {c : Code} {s' : AS} (hw : Weak E.m s s') (h : AWp P E c K s') : AWp P E c K s := ⟨fun I β a w hr =>
  let ⟨I', β', hr'⟩ := hw E I β a w rfl hr
  h.run I' β' a w hr'⟩
theorem AWp.J (h : K .normal s) : AWp P E .skip K s := ⟨fun I β _ _ hr => wp_skip ⟨I, β, s, h, hr⟩⟩
theorem AWp.L {l : Nat} (h : K .normal s) : AWp P E (.label l) K s := ⟨fun I β _ _ hr => wp_label ⟨I, β, s, h, hr⟩⟩
theorem AWp.X {id : Nat} (h : K (.exit id) s) : AWp P E (.exit id) K s := ⟨fun I β _ _ hr => wp_exit ⟨I, β, s, h, hr⟩⟩
theorem AWp.R (h : K .ret s) : AWp P E .ret K s := ⟨fun I β _ _ hr => wp_ret ⟨I, β, s, h, hr⟩⟩
theorem AWp.Q {x y : Code} (h : AWp P E x (thenK (AWp P E y K) K) s) : AWp P E (.seq x y) K s := ⟨fun I β a w hr =>
  wp_seq (wp_mono (h.run I β a w hr) fun e a' w' ⟨I', β', s', hk, hr'⟩ => by
    cases hk with
    | normal hk => exact hk.run I' β' a' w' hr'
    | other hne hk =>
      cases e with
      | normal => exact absurd rfl hne
      | exit id => exact ⟨I', β', s', hk, hr'⟩
      | goto l => exact ⟨I', β', s', hk, hr'⟩
      | ret => exact ⟨I', β', s', hk, hr'⟩
      | panic c => exact ⟨I', β', s', hk, hr'⟩
      | outgrown => exact ⟨I', β', s', hk, hr'⟩)⟩
theorem AWp.B {id : Nat} {c : Code} (h : AWp P E c (blockK id K) s) : AWp P E (.block id c) K s := ⟨fun I β a w hr =>
  wp_block (wp_mono (h.run I β a w hr) fun e a' w' ⟨I', β', s', hk, hr'⟩ => by
    cases hk with
    | here hk =>
      simp only [Exit.inBlock, if_true]
      exact ⟨I', β', s', hk, hr'⟩
    | other hne hk =>
      cases e with
      | normal => exact ⟨I', β', s', hk, hr'⟩
      | exit id' =>
        have hid : ¬ id' = id := fun e => hne (by rw [e])
        simp only [Exit.inBlock, hid, if_false]
        exact ⟨I', β', s', hk, hr'⟩
      | goto l => exact ⟨I', β', s', hk, hr'⟩
      | ret => exact ⟨I', β', s', hk, hr'⟩
      | panic c => exact ⟨I', β', s', hk, hr'⟩
      | outgrown => exact ⟨I', β', s', hk, hr'⟩)⟩
theorem rep_bool {I : Nat → Prop} {β : Nat → Option BI} {w : World} {x v : Value} (h : Rep I β w (.v x) v) : v = x := by
  cases h with
  | imm h => cases h; rfl
theorem AWp.O {t : Nat} {x y : Code} (b : Bool) (hc : s.get t = .c (.v (.bool b))) (ht : b = true → AWp P E x K s) (hf : b = false → AWp P E y K s) : AWp P E (.cond (.tmp t) x y) K s := ⟨fun I β a w hr => by
  have h1 := hr.tms t
  rw [hc] at h1
  exact wp_cond_split (t := b) (rep_bool h1) (fun e => (ht e).run I β a w hr) (fun e => (hf e).run I β a w hr)⟩
theorem AWp.U {c : Code} {σ : Type} (S : σ → AS) (J : σ → Prop) (μ : σ → Nat) (x : σ) (hx : J x) (hw : Weak E.m s (S x))
    (h : ∀ x, J x → AWp P E c (thenK (fun s' => ∃ y, J y ∧ μ y < μ x ∧ Weak E.m s' (S y)) K) (S x)) : AWp P E (.loop c) K s := by
  refine ⟨?_⟩
  intro I0 β0 a0 w0 hr0 b k cs
  have key : ∀ n x I β a w, μ x = n → J x → Rel E (wN (S x)) I (S x) β a w →
      ∃ e a' w', (∃ I' β' s', K e s' ∧ Rel E (wN s') I' s' β' a' w') ∧ Arrives P (lone (b.at a (.code c :: .inLoop c :: k)) cs w) b k cs e a' w' := by
    intro n
    induction n using Nat.strongRecOn with
    | _ n ih =>
      intro x I β a w hn hJ hr
      obtain ⟨e, a₁, w₁, ⟨I', β', s', hq, hr'⟩, harr⟩ := (h x hJ).run I β a w hr b (.inLoop c :: k) cs
      cases hq with
      | normal hq =>
        obtain ⟨y, hy, hlt, hwk⟩ := hq
        obtain ⟨I2, β2, hr2⟩ := hwk E I' β' a₁ w₁ rfl hr'
        obtain ⟨e₂, a₂, w₂, hq₂, harr₂⟩ := ih (μ y) (hn ▸ hlt) y I2 β2 a₁ w₁ rfl hy hr2
        exact ⟨e₂, a₂, w₂, hq₂, .of_steps (Steps.trans harr (.one step_inLoop)) harr₂⟩
      | other hne hq =>
        cases e with
        | normal => exact absurd rfl hne
        | exit id => exact ⟨_, a₁, w₁, ⟨I', β', s', hq, hr'⟩, .pass (x := .inLoop c) rfl (fun _ _ => .inl (by simp)) harr⟩
        | goto l => exact ⟨_, a₁, w₁, ⟨I', β', s', hq, hr'⟩, .pass (x := .inLoop c) rfl (fun _ _ => .inl (by simp)) harr⟩
        | ret => exact ⟨_, a₁, w₁, ⟨I', β', s', hq, hr'⟩, .pass (x := .inLoop c) rfl (fun _ _ => .inl (by simp)) harr⟩
        | panic ch => exact ⟨_, a₁, w₁, ⟨I', β', s', hq, hr'⟩, .pass (x := .inLoop c) rfl (fun _ _ => .inl (by simp)) harr⟩
        | outgrown => exact ⟨_, a₁, w₁, ⟨I', β', s', hq, hr'⟩, .pass (x := .inLoop c) rfl (fun _ _ => .inl (by simp)) harr⟩
  obtain ⟨I1, β1, hr1⟩ := hw E I0 β0 a0 w0 rfl hr0
  obtain ⟨e, a', w', hq, harr⟩ := key _ x I1 β1 a0 w0 rfl hx hr1
  exact ⟨e, a', w', hq, .of_steps (.one step_loop) harr⟩
theorem Rel.drew {N I : Nat → Prop} {β : Nat → Option BI} {a : Act} {w : World} (h : Rel E N I s β a w) : Rel E N I s β a w.drew :=
  h.change (Ext.refl β) h.nam (fun _ h => h) (fun _ _ => rfl) (fun _ => rfl) (fun o obj e => .inl ⟨e, fun B b hB hb => ⟨((h.obs o obj e).lt hB hb).2.2, rfl⟩⟩) h.inj
    ⟨h.old.os, h.old.tape, h.old.output, h.old.size, h.old.block⟩ h.imm h.gro h.ext
theorem AWp.region {id : Nat} {l : List Oper} (h : regA P E l.toArray (K .normal) l s) : AWp P E (.region id l.toArray false) K s := ⟨fun I β a w hr =>
  wp_region_lit (regA_sound (fun s' I' β' a' w' hk hr' => ⟨I', β', s', hk, hr'⟩) l s h I β a w hr)⟩
theorem AWp.draw {id : Nat} {l : List Oper} (hm : P.follows .mixedOrders = true) (h : regD P E l.toArray (K .normal) l [] s) : AWp P E (.region id l.toArray true) K s := by
  refine ⟨fun I β a w hr => ?_⟩
  obtain ⟨us, h1, h2, h3, h4⟩ := regD_all l [] s h
  refine wp_region_any hm ?_
  have hsz : (Array.replicate l.toArray.size false).size = l.toArray.size := by simp
  have hg : ∀ i, (Array.replicate l.toArray.size false).getD i false = false := fun i => by
    simp only [Array.getD_eq_getD_getElem?, Array.getElem?_replicate]
    split <;> rfl
  have hc : ∀ n, cnt (List.replicate n false) = n := by
    intro n
    induction n with
    | zero => rfl
    | succ n ih => rw [List.replicate_succ]; simp [cnt, ih]
  refine regD_sound (s0 := s) (us := us) (fun s' I' β' a' w' hk hr' => ⟨I', β', s', hk, hr'⟩) (by simpa using h1) (fun i x o hx ho => h2 i x o hx (by simpa using ho)) (by simpa using h3) h4
    l.toArray.size _ s I β a w.drew hsz (by rw [Array.toList_replicate]; exact hc _) (fun j o _ hl => by rw [hg] at hl; cases hl) ?_ ?_
  · have hf : (fun i => (Array.replicate l.toArray.size false).getD i false) = fun _ => false := funext hg
    rw [hf]
    have hno : ∀ {V : Type} (p : Upd → Option V) (us : List (Upd × Foot)) (k : Nat) (acc : Option V), lastT p (fun _ => false) k us acc = acc := by
      intro V p us
      induction us with
      | nil => intros; rfl
      | cons u us ih => intro k acc; rw [lastT, if_neg (by simp)]; exact ih _ _
    exact ⟨fun t => by rw [hno]; rfl, fun o => by rw [hno]; rfl⟩
  · exact hr.drew.names fun o ho => .inl ho
end
def Imm (c : Cell) : Prop := ∀ I β w v, Rep I β w c v → RepI I w c v
theorem Imm.v (x : Value) : Imm (.v x) := fun _ _ _ _ h => by cases h; assumption
theorem Imm.nil : Imm .nil := fun _ _ _ _ h => by cases h; assumption
theorem Imm.sl (xs : List (List Cell)) : Imm (.sl xs) := fun _ _ _ _ h => by cases h; assumption
theorem Imm.ip (xs : List Cell) : Imm (.ip xs) := fun _ _ _ _ h => by cases h; assumption
theorem Imm.fn (f : Nat) (caps : List Cell) (h : ∀ c ∈ caps, Imm c) : Imm (.fn f caps) := fun _ _ _ _ hr => by
  cases hr with
  | imm h => exact h
  | fn f caps vals u h1 h2 h3 => exact .fn f caps vals u h1 h2 fun j c hj => h c (List.mem_of_getElem? hj) _ _ _ _ (h3 j c hj)

abbrev Ren := List (Nat × Option Nat)
mutual
def CW (ρ : Ren) : Cell → Cell → Prop
  | .ref o off n, .ref o' off' n' => lk o' ρ = some (some o) ∧ off = off' ∧ n = n'
  | .ptr o i f, .ptr o' i' f' => lk o' ρ = some (some o) ∧ i = i' ∧ f = f'
  | .nil, .ref o' off n => lk o' ρ = some none ∧ off = 0 ∧ n = 0
  | .fn f caps, .fn f' caps' => f = f' ∧ CWs ρ caps caps' ∨ Cell.fn f caps = .fn f' caps' ∧ ∀ c ∈ caps', Imm c
  | _, .dead => True
  | .v x, .v y => x = y
  | .nil, .nil => True
  | .sl x, .sl y => x = y
  | .ip x, .ip y => x = y
  | _, _ => False
def CWs (ρ : Ren) : List Cell → List Cell → Prop
  | [], [] => True
  | x :: xs, y :: ys => CW ρ x y ∧ CWs ρ xs ys
  | _, _ => False
end
def vX (ρ : Ren) (β : Nat → Option BI) (o' : Nat) : Option BI :=
  match lk o' ρ with
  | some (some o) => β o
  | some none => some ⟨none, 1, 0⟩
  | none => none
theorem CWs_at {ρ : Ren} : ∀ {xs ys : List Cell}, CWs ρ xs ys → ys.length = xs.length ∧ ∀ (j : Nat) y, ys[j]? = some y → ∃ x, xs[j]? = some x ∧ CW ρ x y
  | [], [], _ => ⟨rfl, fun j y h => by simp at h⟩
  | [], _ :: _, h => by simp [CWs] at h
  | _ :: _, [], h => by simp [CWs] at h
  | x :: xs, y :: ys, h => by
    simp only [CWs] at h
    obtain ⟨h1, h2⟩ := CWs_at h.2
    refine ⟨by simp [h1], fun j z hz => ?_⟩
    cases j with
    | zero => simp at hz; subst hz; exact ⟨x, rfl, h.1⟩
    | succ j => simpa using h2 j z (by simpa using hz)
theorem CW_repI {ρ : Ren} {I : Nat → Prop} {β : Nat → Option BI} {w : World} {c : Cell} {v : Value} (h : RepI I w c v) : ∀ c', CW ρ c c' → Rep I (vX ρ β) w c' v := by
  induction h with
  | v x hx =>
    intro c' hc
    cases c' <;> simp only [CW] at hc <;> first | exact .dead _ hx | (subst hc; exact .imm (.v _ hx)) | exact hc.elim
  | nil =>
    intro c' hc
    cases c' <;> simp only [CW] at hc <;> first
      | exact .dead _ rfl
      | exact .imm .nil
      | (obtain ⟨h2, rfl, rfl⟩ := hc; exact .ref0 _ 1 0 (by simp [vX, h2]))
      | exact hc.elim
  | sl0 A cap =>
    intro c' hc
    cases c' <;> simp only [CW] at hc <;> first | exact .dead _ rfl | (subst hc; exact .imm (.sl0 A cap)) | exact hc.elim
  | sl xs b o sz n cap u h1 h2 h3 h4 h5 h6 ih =>
    intro c' hc
    cases c' <;> simp only [CW] at hc <;> first | exact .dead _ rfl | (subst hc; exact .imm (.sl xs b o sz n cap u h1 h2 h3 h4 h5 h6)) | exact hc.elim
  | ip cs b o u h1 h2 h3 ih =>
    intro c' hc
    cases c' <;> simp only [CW] at hc <;> first | exact .dead _ rfl | (subst hc; exact .imm (.ip cs b o u h1 h2 h3)) | exact hc.elim
  | fn f caps vals u h1 h2 h3 ih =>
    intro c' hc
    cases c' <;> simp only [CW] at hc <;> try exact hc.elim
    case dead => exact .dead _ rfl
    case fn f' caps' =>
      rcases hc with ⟨rfl, hc⟩ | ⟨hc, _⟩
      · obtain ⟨k1, k2⟩ := CWs_at hc
        refine .fn f caps' vals u (by rw [h1, k1]) (fun j c' hj => ?_) (fun j c' hj => ?_)
        · obtain ⟨c, e, _⟩ := k2 j c' hj; exact h2 j c e
        · obtain ⟨c, e, hcw⟩ := k2 j c' hj; exact ih j c e c' hcw
      · rw [← hc]; exact .imm (.fn f caps vals u h1 h2 h3)
theorem CW_rep {ρ : Ren} {I : Nat → Prop} {β : Nat → Option BI} {w : World} {c : Cell} {v : Value} (h : Rep I β w c v) : ∀ c', CW ρ c c' → Rep I (vX ρ β) w c' v := by
  induction h with
  | imm h => exact CW_repI h
  | ref o off n b sz cap C h1 h2 h3 =>
    intro c' hc
    cases c' <;> simp only [CW] at hc <;> try exact hc.elim
    case ref o' off' n' => obtain ⟨h4, rfl, rfl⟩ := hc; exact .ref o' off n b sz cap C (by simp [vX, h4, h1]) h2 h3
    case dead => exact .dead _ rfl
  | refE o off A cap h =>
    intro c' hc
    cases c' <;> simp only [CW] at hc <;> try exact hc.elim
    case ref o' off' n' => obtain ⟨h4, rfl, rfl⟩ := hc; exact .refE o' off A cap h
    case dead => exact .dead _ rfl
  | ref0 o sz C h =>
    intro c' hc
    cases c' <;> simp only [CW] at hc <;> try exact hc.elim
    case ref o' off' n' => obtain ⟨h4, rfl, rfl⟩ := hc; exact .ref0 o' sz C (by simp [vX, h4, h])
    case dead => exact .dead _ rfl
  | ptr o i f b sz C h =>
    intro c' hc
    cases c' <;> simp only [CW] at hc <;> try exact hc.elim
    case ptr o' i' f' => obtain ⟨h4, rfl, rfl⟩ := hc; exact .ptr o' i f b sz C (by simp [vX, h4, h])
    case dead => exact .dead _ rfl
  | fn f caps vals u h1 h2 h3 ih =>
    intro c' hc
    cases c' <;> simp only [CW] at hc <;> try exact hc.elim
    case dead => exact .dead _ rfl
    case fn f' caps' =>
      rcases hc with ⟨rfl, hc⟩ | ⟨hc, hi⟩
      · obtain ⟨k1, k2⟩ := CWs_at hc
        refine .fn f caps' vals u (by rw [h1, k1]) (fun j c' hj => ?_) (fun j c' hj => ?_)
        · obtain ⟨c, e, _⟩ := k2 j c' hj; exact h2 j c e
        · obtain ⟨c, e, hcw⟩ := k2 j c' hj; exact ih j c e c' hcw
      · rw [← hc]
        refine .imm (Imm.fn f caps (fun c hcm => hi c ?_) I β w _ (.fn f caps vals u h1 h2 h3))
        cases hc; exact hcm
  | dead x h =>
    intro c' hc
    cases c' <;> simp only [CW] at hc <;> try exact hc.elim
    case dead => exact .dead _ h

def FW (ρ : Ren) : AVal → AVal → Prop
  | _, .any => True
  | .c x, .c y => CW ρ x y
  | .agg xs, .agg ys => CWs ρ xs ys
  | _, _ => False
def FWs (ρ : Ren) : List AVal → List AVal → Prop
  | [], [] => True
  | x :: xs, y :: ys => FW ρ x y ∧ FWs ρ xs ys
  | _, _ => False
def VW (ρ : Ren) : AVal → AVal → Prop
  | .tup xs, .tup ys => FWs ρ xs ys
  | x, y => FW ρ x y
section
variable {ρ : Ren} {I : Nat → Prop} {β : Nat → Option BI} {w : World}
theorem CWs_rep : ∀ {xs ys : List Cell} {vs : List Value}, All2 (Rep I β w) xs vs → CWs ρ xs ys → All2 (Rep I (vX ρ β) w) ys vs
  | _, [], _, .nil, _ => .nil
  | _, _ :: _, _, .nil, h => by simp [CWs] at h
  | _, [], _, .cons _ _, h => by simp [CWs] at h
  | _, y :: ys, _, .cons h1 h2, h => by
    simp only [CWs] at h
    exact .cons (CW_rep h1 y h.1) (CWs_rep h2 h.2)
theorem FW_rep {x y : AVal} {v : Value} (h : RepF I β w x v) (hc : FW ρ x y) : RepF I (vX ρ β) w y v := by
  cases y with
  | any => trivial
  | c y => cases x <;> simp only [FW] at hc; exact CW_rep h y hc
  | agg ys => cases x <;> simp only [FW] at hc; obtain ⟨vals, rfl, h⟩ := h; exact ⟨vals, rfl, CWs_rep h hc⟩
  | tup ys => cases x <;> simp only [FW] at hc
theorem FWs_rep : ∀ {xs ys : List AVal} {vs : List Value}, All2 (RepF I β w) xs vs → FWs ρ xs ys → All2 (RepF I (vX ρ β) w) ys vs
  | _, [], _, .nil, _ => .nil
  | _, _ :: _, _, .nil, h => by simp [FWs] at h
  | _, [], _, .cons _ _, h => by simp [FWs] at h
  | _, y :: ys, _, .cons h1 h2, h => by
    simp only [FWs] at h
    exact .cons (FW_rep h1 h.1) (FWs_rep h2 h.2)
theorem VW_rep {x y : AVal} {v : Value} (h : RepV I β w x v) (hc : VW ρ x y) : RepV I (vX ρ β) w y v := by
  cases y with
  | any => trivial
  | c y => cases x <;> simp only [VW, FW] at hc; exact CW_rep h y hc
  | agg ys => cases x <;> simp only [VW, FW] at hc; obtain ⟨vals, rfl, h⟩ := h; exact ⟨vals, rfl, CWs_rep h hc⟩
  | tup ys => cases x <;> simp only [VW, FW] at hc; obtain ⟨vals, rfl, h⟩ := h; exact ⟨vals, rfl, FWs_rep h hc⟩
end
inductive OW (ρ : Ren) : List (List Cell) → List (List Cell) → Prop
  | same {els els' : List (List Cell)} : els = els' → (∀ x ∈ els', ∀ c ∈ x, Imm c) → OW ρ els els'
  | one {x y : List Cell} : CWs ρ x y → OW ρ [x] [y]
  | all {els els' : List (List Cell)} : All2 (CWs ρ) els els' → OW ρ els els'
theorem OW.parts {ρ : Ren} {a b : List (List Cell)} (h : OW ρ a b) : (a = b ∧ ∀ x ∈ b, ∀ c ∈ x, Imm c) ∨ All2 (CWs ρ) a b := by
  cases h with
  | same e h => exact .inl ⟨e, h⟩
  | one h => exact .inr (.cons h .nil)
  | all h => exact .inr h
theorem All2.atR {α β : Type} {R : α → β → Prop} {as : List α} {bs : List β} (h : All2 R as bs) {i : Nat} {b : β} (hb : bs[i]? = some b) : ∃ a, as[i]? = some a ∧ R a b := by
  have hl := (List.getElem?_eq_some_iff.1 hb).1
  rw [h.length] at hl
  obtain ⟨b', h1, h2⟩ := h.at (List.getElem?_eq_getElem hl)
  rw [hb] at h1; cases h1
  exact ⟨_, List.getElem?_eq_getElem hl, h2⟩
def obW (ρ : Ren) (s : AS) : List (Nat × Option AObj) → Prop
  | [] => True
  | (_, none) :: r => obW ρ s r
  | (o', some obj') :: r => (match lk o' ρ with
      | some (some o) => ∃ obj, s.obj o = some obj ∧ obj.ty = obj'.ty ∧ obj.sz = obj'.sz ∧ OW ρ obj.els obj'.els
      | some none => obj'.els = []
      | none => False) ∧ obW ρ s r
def tmW (ρ : Ren) (s : AS) : List (Nat × AVal) → Prop
  | [] => True
  | (t, x) :: r => VW ρ (s.get t) x ∧ tmW ρ s r
def srcs : Ren → List Nat
  | [] => []
  | (_, some o) :: r => o :: srcs r
  | (_, none) :: r => srcs r
def nodupB : List Nat → Bool
  | [] => true
  | x :: r => !kO x r && nodupB r
def renB (ρ : Ren) (m nx' : Nat) : Bool := ρ.all (fun p => Nat.blt p.1 nx') && nodupB (srcs ρ) && (List.range m).all fun o => match lk o ρ with | some (some o') => Nat.beq o o' | _ => false
theorem lk_mem {α : Type} {n : Nat} {v : α} : ∀ {l : List (Nat × α)}, lk n l = some v → (n, v) ∈ l
  | [], h => by simp [lk] at h
  | (k, x) :: r, h => by
    rw [lk_cons] at h
    by_cases e : n = k
    · subst e; rw [if_pos rfl] at h; cases h; simp
    · rw [if_neg e] at h; simp [lk_mem h]
theorem src_inj {ρ : Ren} (h : nodupB (srcs ρ) = true) : ∀ {o1 o2 o : Nat}, lk o1 ρ = some (some o) → lk o2 ρ = some (some o) → o1 = o2 := by
  have hin : ∀ {ρ : Ren} {o1 o : Nat}, lk o1 ρ = some (some o) → o ∈ srcs ρ := by
    intro ρ
    induction ρ with
    | nil => intro o1 o h; simp [lk] at h
    | cons p r ih =>
      intro o1 o h
      obtain ⟨k, x⟩ := p
      rw [lk_cons] at h
      by_cases e : o1 = k
      · rw [if_pos e] at h; cases h; simp [srcs]
      · rw [if_neg e] at h
        have := ih h
        cases x <;> simp [srcs, this]
  induction ρ with
  | nil => intro o1 o2 o h1; simp [lk] at h1
  | cons p r ih =>
    intro o1 o2 o h1 h2
    obtain ⟨k, x⟩ := p
    rw [lk_cons] at h1 h2
    by_cases e1 : o1 = k <;> by_cases e2 : o2 = k
    · rw [e1, e2]
    · rw [if_pos e1] at h1; rw [if_neg e2] at h2
      cases h1
      simp only [srcs, nodupB, Bool.and_eq_true, Bool.not_eq_true'] at h
      have := hin h2
      rw [← memB_iff, h.1] at this
      cases this
    · rw [if_neg e1] at h1; rw [if_pos e2] at h2
      cases h2
      simp only [srcs, nodupB, Bool.and_eq_true, Bool.not_eq_true'] at h
      have := hin h1
      rw [← memB_iff, h.1] at this
      cases this
    · rw [if_neg e1] at h1; rw [if_neg e2] at h2
      refine ih ?_ h1 h2
      cases x <;> simp [srcs, nodupB] at h ⊢ <;> simp [h]

theorem Rel.ren (ρ : Ren) {s s' : AS} {E : Env} {I : Nat → Prop} {β : Nat → Option BI} {a : Act} {w : World} (hB : renB ρ E.m s'.nx = true) (ht : tmW ρ s s'.tm) (ho : obW ρ s s'.ob)
    (hr : Rel E (wN s) I s β a w) : Rel E (wN s') I s' (vX ρ β) a w := by
  simp only [renB, Bool.and_eq_true] at hB
  obtain ⟨⟨hnx, hnd⟩, hrg⟩ := hB
  have htm : ∀ (l : List (Nat × AVal)) (t : Nat) (x : AVal), tmW ρ s l → lk t l = some x → VW ρ (s.get t) x := by
    intro l
    induction l with
    | nil => intro t x _ h; simp [lk] at h
    | cons p r ih =>
      intro t x h hl
      obtain ⟨k, y⟩ := p
      simp only [tmW] at h
      rw [lk_cons] at hl
      by_cases e : t = k
      · subst e; rw [if_pos rfl] at hl; cases hl; exact h.1
      · rw [if_neg e] at hl; exact ih t x h.2 hl
  have hob : ∀ (l : List (Nat × Option AObj)) (o' : Nat) (obj' : AObj), obW ρ s l → lk o' l = some (some obj') →
      (∃ o obj, lk o' ρ = some (some o) ∧ s.obj o = some obj ∧ obj.ty = obj'.ty ∧ obj.sz = obj'.sz ∧ OW ρ obj.els obj'.els) ∨ (lk o' ρ = some none ∧ obj'.els = []) := by
    intro l
    induction l with
    | nil => intro o' obj' _ h; simp [lk] at h
    | cons p r ih =>
      intro o' obj' h hl
      obtain ⟨k, y⟩ := p
      rw [lk_cons] at hl
      by_cases e : o' = k
      · subst e
        rw [if_pos rfl] at hl
        cases hl
        simp only [obW] at h
        have h1 := h.1
        split at h1
        · rename_i o hlo
          obtain ⟨obj, k1, k2, k3, k4⟩ := h1
          exact .inl ⟨o, obj, hlo, k1, k2, k3, k4⟩
        · rename_i hlo
          exact .inr ⟨hlo, h1⟩
        · exact h1.elim
      · rw [if_neg e] at hl
        refine ih o' obj' ?_ hl
        cases y with
        | none => simpa [obW] using h
        | some y => simp only [obW] at h; exact h.2
  have hgo : ∀ o obj, s'.obj o = some obj → lk o s'.ob = some (some obj) := by
    intro o obj h
    unfold AS.obj at h
    cases hl : lk o s'.ob with
    | none => simp [hl] at h
    | some x => simp [hl] at h; rw [h]
  refine ⟨fun t => ?_, hr.siz, hr.dfr, fun o' obj' h => ?_, fun o1 o2 obj1 obj2 B1 B2 b h1 h2 hne e1 e2 hb1 hb2 => ?_, fun o B h => ?_, hr.old, hr.imm, hr.gro, fun o ho' => ?_⟩
  · cases hl : lk t s'.tm with
    | none =>
      have : s'.get t = .any := by unfold AS.get; rw [hl]; rfl
      rw [this]; trivial
    | some x =>
      have : s'.get t = x := by unfold AS.get; rw [hl]; rfl
      rw [this]
      exact VW_rep (hr.tms t) (htm _ t x ht hl)
  · rcases hob _ o' obj' ho (hgo _ _ h) with ⟨o, obj, hlo, k1, k2, k3, k4⟩ | ⟨hlo, k1⟩
    · obtain ⟨B, hB, p2, p3, p4⟩ := hr.obs o obj k1
      have k5 := k4.parts
      have hleq : obj'.els.length = obj.els.length := by
        rcases k5 with ⟨e, _⟩ | hc
        · rw [← e]
        · exact hc.length
      refine ⟨B, by simp [vX, hlo, hB], ?_, ?_, ?_⟩
      · rcases k5 with ⟨e, _⟩ | hc
        · rw [← e, ← k3]; exact p2
        · intro x hx
          obtain ⟨i, hx⟩ := List.getElem?_of_mem hx
          obtain ⟨x0, hx0, hc⟩ := hc.atR hx
          rw [(CWs_at hc).1, ← k3]
          exact p2 _ (List.mem_of_getElem? hx0)
      · intro hb
        have h0 := p3 hb
        rcases k5 with ⟨e, _⟩ | hc
        · rw [← e]; exact h0
        · have := hc.length
          rw [h0] at this
          exact List.length_eq_zero_iff.1 this
      · intro b hb
        obtain ⟨q0, q1, q2, arr, q3, q4, q5, q6, q7⟩ := p4 b hb
        refine ⟨q0.trans k3, q1, q2, arr, by rw [← k2]; exact q3, by rw [← k3, hleq]; exact q4, ?_, q6, ?_⟩
        · rcases k5 with ⟨e, _⟩ | hc
          · rw [← e]; exact q5
          · rw [hc.length]; exact q5
        · intro i j x c hx hj
          rcases k5 with ⟨e, hi⟩ | hc
          · rw [← e] at hx
            obtain ⟨u, hu, hru⟩ := q7 i j x c hx hj
            rw [← k3]
            exact ⟨u, hu, .imm (hi x (by rw [← e]; exact List.mem_of_getElem? hx) c (List.mem_of_getElem? hj) _ _ _ _ hru)⟩
          · obtain ⟨x0, hx0, hc⟩ := hc.atR hx
            obtain ⟨c0, hc0, hcw⟩ := (CWs_at hc).2 j c hj
            obtain ⟨u, hu, hru⟩ := q7 i j x0 c0 hx0 hc0
            rw [← k3]
            exact ⟨u, hu, CW_rep hru c hcw⟩
    · refine ⟨⟨none, 1, 0⟩, by simp [vX, hlo], by rw [k1]; simp, fun _ => k1, fun b hb => by cases hb⟩
  · rcases hob _ o1 obj1 ho (hgo _ _ h1) with ⟨o, obj, hlo, k1, _⟩ | ⟨hlo, _⟩
    · rcases hob _ o2 obj2 ho (hgo _ _ h2) with ⟨o', obj', hlo', k1', _⟩ | ⟨hlo', _⟩
      · simp only [vX, hlo] at e1
        simp only [vX, hlo'] at e2
        by_cases e : o = o'
        · subst e
          exact hne (src_inj hnd hlo hlo')
        · exact hr.inj o o' obj obj' B1 B2 b k1 k1' e e1 e2 hb1 hb2
      · simp only [vX, hlo'] at e2
        cases e2; cases hb2
    · simp only [vX, hlo] at e1
      cases e1; cases hb1
  · have : ∃ x, lk o ρ = some x := by
      unfold vX at h
      split at h
      · exact ⟨_, by assumption⟩
      · exact ⟨_, by assumption⟩
      · cases h
    obtain ⟨x, hx⟩ := this
    have := (List.all_eq_true.1 hnx) _ (lk_mem hx)
    simpa [wN] using this
  · have := (List.all_eq_true.1 hrg) o (List.mem_range.2 ho')
    split at this
    · rename_i o' hlo
      have : o = o' := by simpa using this
      subst this
      simp only [vX, hlo]
      exact hr.ext o ho'
    · cases this
theorem Weak.of (ρ : Ren) {m : Nat} {s s' : AS} (hB : renB ρ m s'.nx = true) (ht : tmW ρ s s'.tm) (ho : obW ρ s s'.ob) : Weak m s s' :=
  fun _ I β _ _ hm hr => ⟨I, vX ρ β, Rel.ren ρ (by rw [hm]; exact hB) ht ho hr⟩
end Go.Proofs.YtjeffognhcbiaaaGreatDoor

namespace Go.Proofs.YtjeffognhcbiaaaGreatDoor
open Go Go.RowKit

def vQ {α : Type} : Nat → List α → List (Nat × α)
  | _, [] => []
  | k, x :: r => (k, x) :: vQ (k + 1) r
theorem lk_enum {α : Type} : ∀ (l : List α) (k n : Nat), lk n (vQ k l) = if k ≤ n then l[n - k]? else none
  | [], k, n => by simp [vQ, lk]
  | x :: r, k, n => by
    rw [vQ, lk_cons, lk_enum r (k + 1) n]
    by_cases h : n = k
    · subst h; simp
    · rw [if_neg h]
      by_cases h1 : k ≤ n
      · rw [if_pos h1, if_pos (by omega), show n - k = (n - (k + 1)) + 1 by omega]; simp
      · rw [if_neg h1, if_neg (by omega)]
def vR (β : Nat → Option BI) (n b : Nat) : Prop := ∃ o B, o < n ∧ β o = some B ∧ B.blk = some b
def InjO (β : Nat → Option BI) (obs : List (Option AObj)) : Prop :=
  ∀ (o o' : Nat) obj obj' B B' b, obs[o]? = some (some obj) → obs[o']? = some (some obj') → o ≠ o' → β o = some B → β o' = some B' → B.blk = some b → B'.blk ≠ some b

def FnOk (P : Program) (f : Nat) : Prop := ∃ fn, P.funcs[f]? = some fn ∧ (fn.name == "runtime.NumGoroutine") = false ∧ fn.body.isNone = false
structure PFM (P : Program) (f : Nat) (ins : List AObj) (as : List AVal) (outs : List (Option AObj)) (r : AVal) : Prop where
  ok : FnOk P f
  run : ∀ (I : Nat → Prop) (β : Nat → Option BI) (w : World) (vals : List Value),
    (∀ b, I b → b < w.heap.size) → GI I w → (∀ o B, β o = some B → o < ins.length) →
    (∀ (o : Nat) obj, ins[o]? = some obj → ObjAt I β w (fun b => vR β ins.length b) o obj) → InjO β (ins.map some) → All2 (RepF I β w) as vals →
    Calls P f vals.toArray w fun e w' => ∃ v I' β', e = .returned v ∧ RepV I' β' w' r v ∧ Keeps (vR β ins.length) w w' ∧ (∀ b, I' b → b < w'.heap.size) ∧ (∀ b, b < w.heap.size → (I' b ↔ I b)) ∧
      (∀ o B, β' o = some B → o < outs.length) ∧ (∀ o, o < ins.length → β' o = β o) ∧
      (∀ (o : Nat) obj, outs[o]? = some (some obj) → ObjAt I' β' w' (fun b => vR β ins.length b ∨ w.heap.size ≤ b) o obj) ∧ InjO β' outs
def PF (P : Program) (f : Nat) (as : List AVal) (fr : List AObj) (r : AVal) : Prop := PFM P f [] as (fr.map some) r

def isAggD : TypeDesc → Bool
  | .struct _ | .array _ _ => true
  | _ => false
def qU (P : Program) (t : Nat) (b : Bool) : Prop := ∃ d, P.underlying t = some d ∧ isAggD d = b
def vJ (P : Program) (t n : Nat) : Prop := ∃ i, P.info? t = some i ∧ i.size = n
inductive resVal (P : Program) (s : AS) : ResultVar → AVal → Prop
  | tmp {t : Nat} {x : AVal} : s.get t = x → resVal P s (.tmp t) x
  | agg {a ty o : Nat} {obj : AObj} {cs : List Cell} : s.get a = .c (.ptr o 0 0) → s.obj o = some obj → obj.els = [cs] → qU P ty true → vJ P ty cs.length → resVal P s (.cell a ty) (.agg cs)
  | cell {a ty o : Nat} {obj : AObj} {c : Cell} {r : List Cell} : s.get a = .c (.ptr o 0 0) → s.obj o = some obj → obj.els = [c :: r] → qU P ty false → resVal P s (.cell a ty) (.c c)
inductive resAll (P : Program) (s : AS) : List ResultVar → List AVal → Prop
  | nil : resAll P s [] []
  | cons {v : ResultVar} {x : AVal} {vs : List ResultVar} {xs : List AVal} : resVal P s v x → resAll P s vs xs → resAll P s (v :: vs) (x :: xs)
def mkRes : List AVal → AVal
  | [x] => x
  | xs => .tup xs
structure retK (P : Program) (res : List ResultVar) (outs : List (Option AObj)) (r : AVal) (m : Nat) (e : Exit) (s : AS) : Prop where
  he : e = .normal ∨ e = .ret
  hs : ∃ xs ρ, resAll P s res xs ∧ VW ρ (mkRes xs) r ∧ renB ρ m outs.length = true ∧ obW ρ s (vQ 0 outs)
def st0 (ins : List AObj) (as : List AVal) : AS := ⟨vQ 0 as, vQ 0 (ins.map some), ins.length⟩

theorem run_loadCells_obj {P : Program} {I : Nat → Prop} {β : Nat → Option BI} {w : World} {b o : Nat} {arr : Array Value} {ty : Nat} {fz : Nat × Nat} (hb : w.heap[b]? = some (.cells arr ty fz)) (cs : List Cell)
    (h : ∀ (j : Nat) c, cs[j]? = some c → ∃ u, arr[o + j]? = some u ∧ Rep I β w c u) :
    ∃ vals : List Value, All2 (Rep I β w) cs vals ∧ (loadCells ⟨b, o, none⟩ cs.length).run P w = .ok vals.toArray w := by
  have hv : ∀ (cs : List Cell) (o : Nat), (∀ (j : Nat) c, cs[j]? = some c → ∃ u, arr[o + j]? = some u ∧ Rep I β w c u) → ∃ vals : List Value, All2 (Rep I β w) cs vals ∧ ∀ (j : Nat) v, vals[j]? = some v → arr[o + j]? = some v := by
    intro cs
    induction cs with
    | nil => intro o _; exact ⟨[], .nil, fun j v h => by simp at h⟩
    | cons c cs ih =>
      intro o h
      obtain ⟨u, hu, hr⟩ := h 0 c rfl
      obtain ⟨vals, h1, h2⟩ := ih (o + 1) fun j c hj => by
        have := h (j + 1) c (by simpa using hj)
        rwa [show o + (j + 1) = o + 1 + j by omega] at this
      refine ⟨u :: vals, .cons hr h1, fun j v hj => ?_⟩
      cases j with
      | zero => simp at hj; subst hj; exact hu
      | succ j =>
        have := h2 j v (by simpa using hj)
        rwa [show o + 1 + j = o + (j + 1) by omega] at this
  obtain ⟨vals, h1, h2⟩ := hv cs o h
  refine ⟨vals, h1, ?_⟩
  rw [← h1.length]
  refine run_loadCells_list w ⟨b, o, none⟩ vals fun j v hj => ?_
  have : (⟨b, o, none⟩ : Addr).add j = ⟨b, o + j, none⟩ := by unfold Addr.add; split <;> simp_all
  rw [this, cell_of_row w b _ arr ty fz hb]
  exact h2 j v hj
theorem vZ {P : Program} {t : Nat} {b : Bool} (h : qU P t b) (w : World) : (isAgg t).run P w = .ok b w := by
  obtain ⟨d, h1, h2⟩ := h
  cases d <;> simp_all [isAgg, run_underlying h1, isAggD]
theorem x7 {P : Program} {t n : Nat} (h : vJ P t n) (w : World) : (sizeOf t).run P w = .ok n w := by
  obtain ⟨i, h1, h2⟩ := h
  simp [sizeOf, typeInfo, h1, h2]
theorem run_loadVar_obj {P : Program} {I : Nat → Prop} {β : Nat → Option BI} {w : World} {M : Nat → Prop} {o i f : Nat} {obj : AObj} {x : List Cell} {ty : Nat} {v : Value} (ho : ObjAt I β w M o obj) (hv : Rep I β w (.ptr o i f) v) (hx : obj.els[i]? = some x) :
    (∀ n, qU P ty true → vJ P ty n → f + n ≤ x.length → ∃ vals : List Value, All2 (Rep I β w) ((x.drop f).take n) vals ∧ (Instr.loadAt ty v).run P w = .ok (.agg vals.toArray) w) ∧
    (∀ c, qU P ty false → x[f]? = some c → ∃ u, Rep I β w c u ∧ (Instr.loadAt ty v).run P w = .ok u w) := by
  cases hv with
  | imm h => cases h
  | ptr _ _ _ b sz C hβ =>
    obtain ⟨B, hB, h2, h3, h4⟩ := ho
    rw [hβ] at hB
    cases hB
    obtain ⟨h1, _, _, arr, h5, h6, h7, h8, h9⟩ := h4 b rfl
    simp only at h1
    subst h1
    have hadd : ∀ j, arr[i * obj.sz + f + j]? = arr[i * obj.sz + (f + j)]? := fun j => by rw [Nat.add_assoc]
    refine ⟨fun n ha hs hn => ?_, fun c ha hc => ?_⟩
    · obtain ⟨vals, k1, k2⟩ := run_loadCells_obj (P := P) (I := I) (β := β) (o := i * obj.sz + f) h5 ((x.drop f).take n) fun j c hj => by
        rw [List.getElem?_take] at hj
        split at hj
        · rw [List.getElem?_drop] at hj
          obtain ⟨u, hu, hr⟩ := h9 i (f + j) x c hx hj
          exact ⟨u, by rw [hadd]; exact hu, hr⟩
        · cases hj
      refine ⟨vals, k1, ?_⟩
      rw [show ((x.drop f).take n).length = n by simp; omega] at k2
      simp [Instr.loadAt, Instr.sureAddr, loadVar, vZ ha, x7 hs, k2]
    · obtain ⟨u, hu, hr⟩ := h9 i f x c hx hc
      refine ⟨u, hr, ?_⟩
      have hcell : w.cell? ⟨b, i * obj.sz + f, none⟩ = some u := by rw [cell_of_row w b _ arr _ _ h5]; exact hu
      simp [Instr.loadAt, Instr.sureAddr, loadVar, vZ ha, load, Sem.run, hcell]

section
variable {I : Nat → Prop} {β : Nat → Option BI} {w : World}
theorem RepF.toV {x : AVal} {v : Value} (h : RepF I β w x v) : RepV I β w x v := by
  cases x with
  | tup vs => exact h.elim
  | c x => exact h
  | agg cs => exact h
  | any => trivial
theorem FW_repV {ρ : Ren} {x y : AVal} {v : Value} (h : RepV I β w x v) (hc : FW ρ x y) : RepF I (vX ρ β) w y v := by
  cases y with
  | any => trivial
  | c y => cases x <;> simp only [FW] at hc; exact CW_rep h y hc
  | agg ys => cases x <;> simp only [FW] at hc; obtain ⟨vals, rfl, h⟩ := h; exact ⟨vals, rfl, CWs_rep h hc⟩
  | tup ys => cases x <;> simp only [FW] at hc
theorem FWs_repV {ρ : Ren} : ∀ {xs ys : List AVal} {vs : List Value}, All2 (RepV I β w) xs vs → FWs ρ xs ys → All2 (RepF I (vX ρ β) w) ys vs
  | _, [], _, .nil, _ => .nil
  | _, _ :: _, _, .nil, h => by simp [FWs] at h
  | _, [], _, .cons _ _, h => by simp [FWs] at h
  | _, y :: ys, _, .cons h1 h2, h => by
    simp only [FWs] at h
    exact .cons (FW_repV h1 h.1) (FWs_repV h2 h.2)
theorem ObjAt.mayMono {M M' : Nat → Prop} {o : Nat} {obj : AObj} (h : ObjAt I β w M o obj) (hM : ∀ b, M b → M' b) : ObjAt I β w M' o obj := by
  obtain ⟨B, hB, h2, h3, h4⟩ := h
  exact ⟨B, hB, h2, h3, fun b hb => let ⟨k0, k1, k2⟩ := h4 b hb; ⟨k0, hM b k1, k2⟩⟩
end

def resOne (g : Nat → Value) : ResultVar → Sem Value
  | .tmp t => pure (g t)
  | .cell p t => do loadVar t (← asAddr (g p))
theorem qX {I : Nat → Prop} {β : Nat → Option BI} {w : World} {o i f : Nat} {v : Value} (h : Rep I β w (.ptr o i f) v) : ∃ b sz C, β o = some ⟨some b, sz, C⟩ ∧ v = .pointer (some ⟨b, i * sz + f, none⟩) := by
  cases h with
  | imm h => cases h
  | ptr _ _ _ b sz C hβ => exact ⟨b, sz, C, hβ, rfl⟩
theorem resAll_run {P : Program} {E : Env} {N I : Nat → Prop} {s : AS} {β : Nat → Option BI} {a : Act} {w : World} (hr : Rel E N I s β a w) :
    ∀ (res : List ResultVar) (xs : List AVal), resAll P s res xs → ∃ vals : List Value, All2 (RepV I β w) xs vals ∧
      (res.mapM (resOne fun t => a.tmps.getD t undef)).run P w = .ok vals w := by
  intro res xs h
  induction h with
  | nil => exact ⟨[], .nil, by simp⟩
  | cons hv _ ih =>
    obtain ⟨vals, h1, h2⟩ := ih
    cases hv with
    | @tmp t x hx =>
      refine ⟨a.tmps.getD t undef :: vals, .cons (by rw [← hx]; exact hr.tms t) h1, ?_⟩
      simp only [List.mapM_cons, resOne, Sem.run_bind, Sem.run_pure, Result.andThen, h2]
    | @agg p ty o obj cs k1 k2 k3 g1 g2 =>
      have hp := hr.tms p
      rw [k1] at hp
      have hob := hr.obs o obj k2
      obtain ⟨l1, _⟩ := run_loadVar_obj (P := P) (ty := ty) hob hp (x := cs) (by rw [k3]; rfl)
      obtain ⟨b, sz, C, _, had⟩ := qX hp
      obtain ⟨vs', m1, m2⟩ := l1 cs.length g1 g2 (by simp)
      simp only [List.drop_zero, List.take_length] at m1
      refine ⟨.agg vs'.toArray :: vals, .cons ⟨vs', rfl, m1⟩ h1, ?_⟩
      rw [had] at m2
      simp only [Instr.loadAt, Instr.sureAddr, pure_bind] at m2
      have m3 : resOne (fun t => a.tmps.getD t undef) (.cell p ty) = loadVar ty { block := b, off := 0 * sz + 0 } := by
        simp only [resOne, had, asAddr, pure_bind]
      simp only [List.mapM_cons, Sem.run_bind, Sem.run_pure, Result.andThen, m3, m2, h2]
    | @cell p ty o obj c r k1 k2 k3 g1 =>
      have hp := hr.tms p
      rw [k1] at hp
      have hob := hr.obs o obj k2
      obtain ⟨_, l2⟩ := run_loadVar_obj (P := P) (ty := ty) hob hp (x := c :: r) (by rw [k3]; rfl)
      obtain ⟨b, sz, C, _, had⟩ := qX hp
      obtain ⟨u, m1, m2⟩ := l2 c g1 rfl
      refine ⟨u :: vals, .cons m1 h1, ?_⟩
      rw [had] at m2
      simp only [Instr.loadAt, Instr.sureAddr, pure_bind] at m2
      have m3 : resOne (fun t => a.tmps.getD t undef) (.cell p ty) = loadVar ty { block := b, off := 0 * sz + 0 } := by
        simp only [resOne, had, asAddr, pure_bind]
      simp only [List.mapM_cons, Sem.run_bind, Sem.run_pure, Result.andThen, m3, m2, h2]
theorem mkRes_rep {ρ : Ren} {I : Nat → Prop} {β : Nat → Option BI} {w : World} {xs : List AVal} {r : AVal} {vals : List Value} (h : All2 (RepV I β w) xs vals) (hc : VW ρ (mkRes xs) r) :
    RepV I (vX ρ β) w r (if h : vals.toArray.size = 1 then vals.toArray[0] else .tuple vals.toArray) := by
  have htup : vals.length ≠ 1 → mkRes xs = .tup xs := by
    intro hl
    rw [h.length] at hl
    cases xs with
    | nil => rfl
    | cons x xs => cases xs with
      | nil => simp at hl
      | cons y ys => rfl
  by_cases hl : vals.length = 1
  · rw [dif_pos (by simpa using hl)]
    cases h with
    | nil => simp at hl
    | cons h0 h1 =>
      cases h1 with
      | nil => exact VW_rep h0 hc
      | cons _ _ => simp at hl
  · rw [dif_neg (by simpa using hl)]
    rw [htup hl] at hc
    cases r with
    | tup ys => exact ⟨vals, rfl, FWs_repV h hc⟩
    | any => trivial
    | c y => simp [VW, FW] at hc
    | agg y => simp [VW, FW] at hc
theorem PFM.enter {P : Program} {f : Nat} {fn : Func} {c : Code} {ins : List AObj} {as : List AVal} {outs : List (Option AObj)} {r : AVal} (hf : P.funcs[f]? = some fn) (hb : fn.body = some c) (hnm : (fn.name == "runtime.NumGoroutine") = false)
    (n : Nat) (res : List ResultVar) (hn : fn.ntmps = n) (hl : Nat.ble as.length n = true) (hres : fn.results = res.toArray)
    (h : ∀ w0 mu I0 β0 gi dis, AWp P ⟨w0, mu, I0, n, β0, ins.length, gi, dis⟩ c (retK P res outs r ins.length) (st0 ins as)) : PFM P f ins as outs r := by
  refine ⟨⟨fn, hf, hnm, by rw [hb]; rfl⟩, fun I β w vals hI hgi hβ hobs hinj hargs => ?_⟩
  have hdis : (∀ b, I b → ¬ vR β ins.length b) ∧ ∀ b, vR β ins.length b → ∃ o B, o < ins.length ∧ β o = some B ∧ B.blk = some b := ⟨fun b hb ⟨o, B, h1, h2, h3⟩ => by
    exact ((hobs o _ (List.getElem?_eq_getElem h1)).lt h2 h3).2.2 hb, fun b h => h⟩
  have hl' : as.length ≤ n := Nat.le_of_ble_eq_true hl
  have hvl := hargs.length
  refine calls_of_wp hf hb ?_
  have hget : ∀ t, (st0 ins as).get t = (as[t]?).getD .any := fun t => by simp [AS.get, st0, lk_enum]
  have hobj : ∀ o, (st0 ins as).obj o = ins[o]? := fun o => by
    simp only [AS.obj, st0, lk_enum]
    cases h : ins[o]? <;> simp [h]
  have hrel : Rel ⟨w, vR β ins.length, I, n, β, ins.length, hgi, hdis⟩ (wN (st0 ins as)) I (st0 ins as) β { tmps := vals.toArray ++ Array.replicate (fn.ntmps - vals.toArray.size) undef, defers := [] } w := by
    refine ⟨fun t => ?_, ?_, rfl, fun o obj ho => ?_, fun o o' obj obj' B B' b ho ho' => ?_, fun o B h => hβ o B h, Keeps.refl _ _, hI, fun _ _ => Iff.rfl, fun _ _ => rfl⟩
    · rw [hget]
      cases ht : as[t]? with
      | none => trivial
      | some x =>
        obtain ⟨v, hv, hx⟩ := hargs.at ht
        have htl : t < vals.length := (List.getElem?_eq_some_iff.1 hv).1
        simp only [Option.getD_some, Array.getD_eq_getD_getElem?]
        rw [Array.getElem?_append_left (by simpa using htl)]
        simp only [List.getElem?_toArray, hv, Option.getD_some]
        exact hx.toV
    · simp only [Array.size_append, List.size_toArray, Array.size_replicate, hn, hvl]
      omega
    · rw [hobj] at ho
      exact (hobs o obj ho).mayMono fun b h => .inl h
    · rw [hobj] at ho ho'
      exact hinj o o' obj obj' B B' b (by simp [ho]) (by simp [ho'])
  refine wp_mono ((h w (vR β ins.length) I β hgi hdis).run I β _ w hrel) fun e a' w' ⟨I', β', s', ⟨he, xs, ρ, hxs, hvw, hB, hob⟩, hr'⟩ => ?_
  obtain ⟨vs, hv1, hv2⟩ := resAll_run hr' res xs hxs
  have hR := Rel.ren ρ (s' := ⟨[], vQ 0 outs, outs.length⟩) hB trivial hob hr'
  have hres' : (results fn a'.tmps).run P w' = .ok (if h : vs.toArray.size = 1 then vs.toArray[0] else .tuple vs.toArray) w' := by
    unfold results
    have e : (fn.results.mapM (resOne fun t => a'.tmps.getD t undef)).run P w' = .ok vs.toArray w' := by
      rw [hres, Array.mapM_eq_mapM_toList]
      simp only [Sem.run_map, hv2]
      rfl
    show (fn.results.mapM (resOne fun t => a'.tmps.getD t undef) >>= _).run P w' = _
    rw [Sem.run_bind, e]
    rfl
  have hout : ∀ o obj, outs[o]? = some (some obj) → (AS.mk [] (vQ 0 outs) outs.length).obj o = some obj := fun o obj h => by
    simp [AS.obj, lk_enum, h]
  rcases he with rfl | rfl
  all_goals exact ⟨hr'.dfr, _, hres', _, I', vX ρ β', rfl, mkRes_rep hv1 hvw, hr'.old, hr'.imm, hr'.gro, fun o B h => hR.nam o B h, fun o ho => hR.ext o ho,
    fun o obj ho => hR.obs o obj (hout o obj ho), fun o o' obj obj' B B' b ho ho' => hR.inj o o' obj obj' B B' b (hout _ _ ho) (hout _ _ ho')⟩
end Go.Proofs.YtjeffognhcbiaaaGreatDoor

namespace Go.Proofs.YtjeffognhcbiaaaGreatDoor
open Go Go.RowKit

def wL : Value → Cell
  | .slice none 0 0 => .nil
  | v => .v v
def constA : Value → AVal
  | .agg cs => .agg (cs.toList.map wL)
  | .tuple _ => .any
  | v => .c (wL v)
def opA (s : AS) : Operand → AVal
  | .tmp t => s.get t
  | .const v => constA v
  | .func f => .c (.fn f [])
  | .global _ => .any
def xX (d : Option Nat) (x : AVal) : Upd := ⟨match d with | some t => [(t, x)] | none => [], [], 0⟩
def xR (d : Option Nat) (n : Nat) : Bool := match d with | none => true | some t => Nat.ble (t + 1) n
def Want (E : Env) (ops : Array Oper) (o : Oper) (s : AS) : Prop :=
  match o.guard with
  | none => True
  | some (j, b) => ∃ t, (ops[j]?).bind (·.dst) = some t ∧ s.get t = .c (.v (.bool b)) ∧ Nat.ble (t + 1) E.n = true
def Skips (E : Env) (ops : Array Oper) (o : Oper) (s : AS) : Prop :=
  match o.guard with
  | none => False
  | some (j, b) => ∃ t, (ops[j]?).bind (·.dst) = some t ∧ (s.get t = .tup [] ∨ ∃ c, s.get t = .c (.v (.bool c)) ∧ (c == b) = false) ∧ Nat.ble (t + 1) E.n = true
theorem Want.none_ {E : Env} {ops : Array Oper} {o : Oper} {s : AS} (h : o.guard = none) : Want E ops o s := by unfold Want; rw [h]; trivial
theorem Want.some_ {E : Env} {ops : Array Oper} {o : Oper} {s : AS} {j t : Nat} {b : Bool} (h : o.guard = some (j, b)) (ht : (ops[j]?).bind (·.dst) = some t) (hs : s.get t = .c (.v (.bool b))) (hl : Nat.ble (t + 1) E.n = true) : Want E ops o s := by
  unfold Want; rw [h]; exact ⟨t, ht, hs, hl⟩
theorem Skips.some_ {E : Env} {ops : Array Oper} {o : Oper} {s : AS} {j t : Nat} {b c : Bool} (h : o.guard = some (j, b)) (ht : (ops[j]?).bind (·.dst) = some t) (hs : s.get t = .c (.v (.bool c))) (hc : (c == b) = false) (hl : Nat.ble (t + 1) E.n = true) : Skips E ops o s := by
  unfold Skips; rw [h]; exact ⟨t, ht, .inr ⟨c, hs, hc⟩, hl⟩
theorem Skips.none_ {E : Env} {ops : Array Oper} {o : Oper} {s : AS} {j t : Nat} {b : Bool} (h : o.guard = some (j, b)) (ht : (ops[j]?).bind (·.dst) = some t) (hs : s.get t = .tup []) (hl : Nat.ble (t + 1) E.n = true) : Skips E ops o s := by
  unfold Skips; rw [h]; exact ⟨t, ht, .inl hs, hl⟩

theorem oneCell_of {v : Value} (h : ∀ cs, v ≠ .agg cs) (h' : ∀ cs, v ≠ .tuple cs) : v.oneCell' = true := by
  cases v <;> first | rfl | exact absurd rfl (h _) | exact absurd rfl (h' _)
def noTup : Value → Bool
  | .agg cs => cs.toList.all (·.oneCell')
  | _ => true
section
variable {I : Nat → Prop} {β : Nat → Option BI} {w : World}
theorem constC_rep {v : Value} (h : v.oneCell' = true) : Rep I β w (wL v) v := by
  unfold wL
  split
  · exact .imm .nil
  · exact .imm (.v _ h)
theorem constA_rep {v : Value} (hv : noTup v = true) : RepV I β w (constA v) v := by
  unfold constA
  split
  · rename_i cs
    refine RepV.agg.2 ⟨cs.toList, by simp, ?_⟩
    simp only [noTup, List.all_eq_true] at hv
    revert hv
    generalize cs.toList = l
    intro hv
    induction l with
    | nil => exact .nil
    | cons c l ih => exact .cons (constC_rep (hv c (by simp))) (ih fun x hx => hv x (by simp [hx]))
  · trivial
  · exact constC_rep (oneCell_of (by assumption) (by assumption))
def opB : Operand → Bool
  | .const v => noTup v
  | _ => true
theorem vA {E : Env} {N : Nat → Prop} {s : AS} {a : Act} (hr : Rel E N I s β a w) (x : Operand) (hx : opB x = true) : RepV I β w (opA s x) (a.eval x) := by
  cases x with
  | tmp t => exact hr.tms t
  | const v => exact constA_rep hx
  | global g => trivial
  | func f =>
    refine Rep.imm (.fn f [] [] (fun _ => undef) rfl ?_ ?_) <;> (intro j c h; simp at h)
end

theorem looks_mem {ops : Array Oper} {o : Oper} {t : Nat} (h : Operand.tmp t ∈ o.op.operands.toList) : t ∈ o.looksAt ops := by
  unfold Oper.looksAt
  rw [List.mem_append, List.mem_filterMap]
  exact .inl ⟨.tmp t, h, rfl⟩
theorem looks_guard {ops : Array Oper} {o : Oper} {j t : Nat} {b : Bool} (hg : o.guard = some (j, b)) (h : (ops[j]?).bind (·.dst) = some t) : t ∈ o.looksAt ops := by
  unfold Oper.looksAt
  rw [List.mem_append, hg]
  simp [h]
theorem wO {ops : Array Oper} {o : Oper} {s s' : AS} {obs : List Nat} (h : Agree ⟨o.looksAt ops, obs⟩ s s') {x : Operand} (hx : x ∈ o.op.operands.toList) : opA s' x = opA s x := by
  cases x with
  | tmp t => exact h.1 t (looks_mem hx)
  | _ => rfl
theorem x8 {I : Nat → Prop} {β : Nat → Option BI} {w : World} {x v : Value} (h : RepV I β w (.c (.v x)) v) : v = x := by
  cases (show Rep I β w (.v x) v from h) with
  | imm h => cases h; rfl
theorem yielded_of {E : Env} {N I : Nat → Prop} {s : AS} {β : Nat → Option BI} {a : Act} {w : World} (hr : Rel E N I s β a w) {ops : Array Oper} {j t : Nat} {c : Bool} (ht : (ops[j]?).bind (·.dst) = some t) (hs : s.get t = .c (.v (.bool c))) (hl : Nat.ble (t + 1) E.n = true) :
    yielded ops a.tmps j = some c := by
  have h1 := hr.tms t
  rw [hs] at h1
  have h2 := x8 h1
  have h3 : t < a.tmps.size := by rw [hr.siz]; exact Nat.le_of_ble_eq_true hl
  rw [Array.getD_eq_getD_getElem?, Array.getElem?_eq_getElem h3] at h2
  simp only [Option.getD_some] at h2
  unfold yielded
  rw [ht]
  simp [Array.getElem?_eq_getElem h3, h2]
theorem Want.wanted {E : Env} {N I : Nat → Prop} {s s' : AS} {β : Nat → Option BI} {a : Act} {w : World} (hr : Rel E N I s' β a w) {ops : Array Oper} {o : Oper} {obs : List Nat} (hag : Agree ⟨o.looksAt ops, obs⟩ s s') (h : Want E ops o s) :
    Region.wanted o (yielded ops a.tmps) = true := by
  unfold Want at h
  unfold Region.wanted
  cases hg : o.guard with
  | none => rfl
  | some p =>
    obtain ⟨j, b⟩ := p
    rw [hg] at h
    obtain ⟨t, h1, h2, h3⟩ := h
    simp only
    rw [yielded_of hr h1 ((hag.1 t (looks_guard hg h1)).trans h2) h3]
    simp
theorem Skips.wanted {E : Env} {N I : Nat → Prop} {s s' : AS} {β : Nat → Option BI} {a : Act} {w : World} (hr : Rel E N I s' β a w) {ops : Array Oper} {o : Oper} {obs : List Nat} (hag : Agree ⟨o.looksAt ops, obs⟩ s s') (h : Skips E ops o s) :
    Region.wanted o (yielded ops a.tmps) = false := by
  unfold Skips at h
  unfold Region.wanted
  cases hg : o.guard with
  | none => rw [hg] at h; exact h.elim
  | some p =>
    obtain ⟨j, b⟩ := p
    rw [hg] at h
    obtain ⟨t, h1, h2, h4⟩ := h
    simp only
    rcases h2 with h2 | ⟨c, h2, h3⟩
    · have e := hr.tms t
      rw [(hag.1 t (looks_guard hg h1)).trans h2] at e
      obtain ⟨vals, ev, el⟩ := (show ∃ vals : List Value, _ = Value.tuple vals.toArray ∧ All2 (RepF _ _ _) [] vals from e)
      cases el
      have h5 : t < a.tmps.size := by rw [hr.siz]; exact Nat.le_of_ble_eq_true h4
      rw [Array.getD_eq_getD_getElem?, Array.getElem?_eq_getElem h5] at ev
      simp only [Option.getD_some] at ev
      unfold yielded
      rw [h1]
      simp [Array.getElem?_eq_getElem h5, ev]
    · rw [yielded_of hr h1 ((hag.1 t (looks_guard hg h1)).trans h2) h4]
      simpa using h3
theorem kL {d : Option Nat} {n : Nat} (h : xR d n = true) : ∀ t, d = some t → t < n := by
  intro t e
  subst e
  exact Nat.le_of_ble_eq_true h

section
variable {P : Program} {E : Env} {ops : Array Oper} {o : Oper} {s : AS}
theorem StepOk.skip (hs : Skips E ops o s) (hd : xR o.dst E.n = true) : StepOk P E ops o s (xX o.dst (.tup [])) ⟨o.looksAt ops, []⟩ := by
  intro N I s' β a w hag _ hr Q
  rw [hs.wanted hr hag, if_neg (by simp)]
  exact ⟨I, β, (hr.put (x := .tup []) (v := undef) ⟨[], rfl, .nil⟩ (u := xX o.dst (.tup [])) rfl rfl (kL hd)).names fun o h => .inl h⟩
theorem StepOk.val {x : AVal} {obs : List Nat} (hw : Want E ops o s) (hd : xR o.dst E.n = true) (hop : o.op.operands.toList.all opB = true)
    (h : ∀ N I s' β a w, (∀ y ∈ o.op.operands.toList, RepV I β w (opA s y) (a.eval y)) → (∀ q ∈ obs, s'.obj q = s.obj q) → Rel E N I s' β a w → ∃ v, (execOp a.eval o).run P w = .ok (.value v) w ∧ RepV I β w x v) :
    StepOk P E ops o s (xX o.dst x) ⟨o.looksAt ops, obs⟩ := by
  intro N I s' β a w hag _ hr Q
  rw [hw.wanted hr hag, if_pos rfl]
  obtain ⟨v, h1, h2⟩ := h N I s' β a w (fun y hy => by rw [← wO hag hy]; exact vA hr y (List.all_eq_true.1 hop y hy)) (fun q hq => hag.2 q hq) hr
  unfold Oper.wp
  rw [h1]
  exact ⟨I, β, (hr.put h2 (u := xX o.dst x) rfl rfl (kL hd)).names fun o h => .inl h⟩
theorem StepOk.move {x : Operand} (ho : o.op = .move x ∨ o.op = .assign x) (hw : Want E ops o s) (hd : xR o.dst E.n = true) (hx : opB x = true) : StepOk P E ops o s (xX o.dst (opA s x)) ⟨o.looksAt ops, []⟩ := by
  refine StepOk.val hw hd ?_ fun N I s' β a w hop _ _ => ?_
  · rcases ho with ho | ho <;> simp [ho, Op.operands, hx]
  · refine ⟨a.eval x, ?_, hop x ?_⟩
    · rcases ho with ho | ho <;> simp [execOp, ho]
    · rcases ho with ho | ho <;> simp [ho, Op.operands]
theorem zE {op : BinOp} {t t' : Nat} {x y : Operand} {p q v : Value} (ho : o.op = .binOp op t x y t') (hw : Want E ops o s) (hd : xR o.dst E.n = true) (hxy : (opB x && opB y) = true)
    (hx : opA s x = .c (.v p)) (hy : opA s y = .c (.v q)) (hv : v.oneCell' = true) (h : ∀ w : World, ((do eqGuard op t x y p q; binOp op t p q : Sem Value)).run P w = .ok v w) :
    StepOk P E ops o s (xX o.dst (.c (.v v))) ⟨o.looksAt ops, []⟩ := by
  simp only [Bool.and_eq_true] at hxy
  refine StepOk.val hw hd (by simp [ho, Op.operands, hxy]) fun N I s' β a w hop _ _ => ?_
  have h1 := hop x (by simp [ho, Op.operands])
  have h2 := hop y (by simp [ho, Op.operands])
  rw [hx] at h1
  rw [hy] at h2
  refine ⟨v, ?_, Rep.imm (.v v hv)⟩
  have h3 := h w
  simp only [execOp, ho, x8 h1, x8 h2]
  rw [Sem.run_bind, h3]
  rfl
theorem StepOk.un {op : UnOp} {t : Nat} {x : Operand} {p v : Value} (ho : o.op = .unOp op t x) (hw : Want E ops o s) (hd : xR o.dst E.n = true) (hxb : opB x = true)
    (hx : opA s x = .c (.v p)) (hv : v.oneCell' = true) (h : ∀ w : World, (Op.unary op p).run P w = .ok v w) : StepOk P E ops o s (xX o.dst (.c (.v v))) ⟨o.looksAt ops, []⟩ := by
  refine StepOk.val hw hd (by simp [ho, Op.operands, hxb]) fun N I s' β a w hop _ _ => ?_
  have h1 := hop x (by simp [ho, Op.operands])
  rw [hx] at h1
  refine ⟨v, ?_, Rep.imm (.v v hv)⟩
  simp only [execOp, ho, x8 h1]
  rw [Sem.run_bind, h w]
  rfl
theorem StepOk.pick {c x y : Operand} {b : Bool} (ho : o.op = .pick c x y) (hw : Want E ops o s) (hd : xR o.dst E.n = true) (hxy : (opB c && opB x && opB y) = true)
    (hc : opA s c = .c (.v (.bool b))) : StepOk P E ops o s (xX o.dst (if b then opA s x else opA s y)) ⟨o.looksAt ops, []⟩ := by
  simp only [Bool.and_eq_true] at hxy
  refine StepOk.val hw hd (by simp [ho, Op.operands, hxy]) fun N I s' β a w hop _ _ => ?_
  have h1 := hop c (by simp [ho, Op.operands])
  have h2 := hop x (by simp [ho, Op.operands])
  have h3 := hop y (by simp [ho, Op.operands])
  rw [hc] at h1
  refine ⟨if b then a.eval x else a.eval y, ?_, ?_⟩
  · simp [execOp, ho, x8 h1, asBool]
  · cases b
    · exact h3
    · exact h2
theorem StepOk.extract {x : Operand} {i : Nat} {vs : List AVal} {y : AVal} (ho : o.op = .extract x i) (hw : Want E ops o s) (hd : xR o.dst E.n = true) (hxb : opB x = true)
    (hx : opA s x = .tup vs) (hy : vs[i]? = some y) : StepOk P E ops o s (xX o.dst y) ⟨o.looksAt ops, []⟩ := by
  refine StepOk.val hw hd (by simp [ho, Op.operands, hxb]) fun N I s' β a w hop _ _ => ?_
  have h1 := hop x (by simp [ho, Op.operands])
  rw [hx] at h1
  obtain ⟨vals, h2, h3⟩ := RepV.tup.1 h1
  obtain ⟨v, h4, h5⟩ := h3.at hy
  refine ⟨v, ?_, h5.toV⟩
  simp [execOp, ho, h2, Instr.extract, h4]
def kE : Cell → Option Int
  | .v (.string b) => some b.size
  | .nil => some 0
  | .sl xs => some xs.length
  | .ref _ _ n => some n
  | _ => none
theorem rep_slice {I : Nat → Prop} {β : Nat → Option BI} {w : World} {c : Cell} {v : Value} {n : Int} (h : Rep I β w c v) (hne : ∀ x, c ≠ .v x) (hn : kE c = some n) : ∃ A k cap, v = .slice A k cap ∧ (k : Int) = n := by
  cases h with
  | imm h =>
    cases h with
    | v y hy => exact absurd rfl (hne _)
    | nil => simp only [kE, Option.some.injEq] at hn; exact ⟨_, _, _, rfl, by simpa using hn⟩
    | sl0 A cap => simp only [kE, Option.some.injEq] at hn; exact ⟨_, _, _, rfl, by simpa using hn⟩
    | sl xs b off sz k cap u k1 => simp only [kE, Option.some.injEq] at hn; exact ⟨_, _, _, rfl, by rw [k1]; exact hn⟩
    | ip => simp [kE] at hn
    | fn => simp [kE] at hn
  | ref q off k b sz cap C k1 => simp only [kE, Option.some.injEq] at hn; exact ⟨_, _, _, rfl, hn⟩
  | refE q off A cap k1 => simp only [kE, Option.some.injEq] at hn; exact ⟨_, _, _, rfl, hn⟩
  | ref0 q sz C k1 => simp only [kE, Option.some.injEq] at hn; exact ⟨_, _, _, rfl, hn⟩
  | ptr => simp [kE] at hn
  | fn => simp [kE] at hn
  | dead => simp [kE] at hn
theorem StepOk.len {x : Operand} {t : Nat} {c : Cell} {n : Int} (ho : o.op = .call { callee := .builtin .len, args := #[x], argTypes := #[t] }) (hw : Want E ops o s) (hd : xR o.dst E.n = true) (hxb : opB x = true)
    (ht : (∃ b, c = .v (.string b) ∧ P.underlying t = some .string) ∨ ((∀ v, c ≠ .v v) ∧ ∃ e, P.underlying t = some (.slice e)))
    (hx : opA s x = .c c) (hn : kE c = some n) : StepOk P E ops o s (xX o.dst (.c (.v (.int .i64 n)))) ⟨o.looksAt ops, []⟩ := by
  refine StepOk.val hw hd (by simp [ho, Op.operands, Call.operands, hxb]) fun N I s' β a w hop _ _ => ?_
  have h1 := hop x (by simp [ho, Op.operands, Call.operands])
  rw [hx] at h1
  refine ⟨.int .i64 n, ?_, Rep.imm (.v _ rfl)⟩
  have hrun : ∀ v : Value, a.eval x = v → (Builtin.len_ #[t] o.type #[v]).run P w = .ok (.int .i64 n) w → (execOp a.eval o).run P w = .ok (.value (.int .i64 n)) w := fun v hv h => by
    simp only [execOp, ho, resolve, invoke, builtin, Sem.run_bind, Sem.run_pure, Result.andThen, List.map_toArray, List.map_cons, List.map_nil, hv, h]
  rcases ht with ⟨b, rfl, hu⟩ | ⟨hne, e, hu⟩
  · have h2 := x8 h1
    simp only [kE, Option.some.injEq] at hn
    subst hn
    exact hrun _ h2 (by simp [Builtin.len_, run_underlying hu, goInt])
  · have hs : ∀ (A : Option Addr) (k cap : Nat), a.eval x = .slice A k cap → (k : Int) = n → (execOp a.eval o).run P w = .ok (.value (.int .i64 n)) w := fun A k cap hv hk => by
      refine hrun _ hv ?_
      simp [Builtin.len_, run_underlying hu, goInt, hk]
    obtain ⟨A, k, cap, h2, h3⟩ := rep_slice (show Rep I β w c _ from h1) hne hn
    exact hs A k cap h2 h3
end
end Go.Proofs.YtjeffognhcbiaaaGreatDoor

namespace Go.Proofs.YtjeffognhcbiaaaGreatDoor
open Go Go.RowKit
def str (l : List UInt8) : Cell := .v (.string ⟨⟨l⟩⟩)
def int (n : Int) : Cell := .v (.int .i64 n)
def boo (b : Bool) : Cell := .v (.bool b)
def kH (s : AS) (d : Nat) : Option Operand → Nat → Prop
  | none, l => l = d
  | some x, l => opB x = true ∧ ∃ k z, opA s x = .c (.v (.int k z)) ∧ z = (l : Int)

section
variable {P : Program} {E : Env} {ops : Array Oper} {o : Oper} {s : AS}
theorem add_addr (b o n : Nat) : (⟨b, o, none⟩ : Addr).add n = ⟨b, o + n, none⟩ := by unfold Addr.add; split <;> simp_all

theorem StepOk.indexStr {x i : Operand} {t : Nat} {l : List UInt8} {k : IntKind} {z : Int} {c : UInt8} (ho : o.op = .index t x i) (hw : Want E ops o s) (hd : xR o.dst E.n = true) (hxb : (opB x && opB i) = true)
    (ht : P.underlying t = some .string) (hx : opA s x = .c (str l)) (hi : opA s i = .c (.v (.int k z))) (hz : 0 ≤ z) (hc : l[z.toNat]? = some c) :
    StepOk P E ops o s (xX o.dst (.c (.v (.int .u8 c.toNat)))) ⟨o.looksAt ops, []⟩ := by
  simp only [Bool.and_eq_true] at hxb
  refine StepOk.val hw hd (by simp [ho, Op.operands, hxb]) fun N I s' β a w hop _ _ => ?_
  have h1 := hop x (by simp [ho, Op.operands])
  have h2 := hop i (by simp [ho, Op.operands])
  rw [hx] at h1
  rw [hi] at h2
  refine ⟨_, ?_, Rep.imm (.v _ rfl)⟩
  have hb : (⟨⟨l⟩⟩ : ByteArray)[z.toNat]? = some c := by
    have hlt : z.toNat < l.length := (List.getElem?_eq_some_iff.1 hc).1
    have h3 : z.toNat < (⟨⟨l⟩⟩ : ByteArray).size := hlt
    rw [getElem?_pos (⟨⟨l⟩⟩ : ByteArray) z.toNat h3]
    have h4 := (List.getElem?_eq_some_iff.1 hc).2
    simp only [Option.some.injEq]
    exact h4
  simp [execOp, ho, Instr.index, x8 h1, x8 h2, asIntOf, run_underlying ht, hz, hb]
theorem run_sliceBounds {s' : AS} {I : Nat → Prop} {β : Nat → Option BI} {a : Act} {w : World} (hs' : s' = s) (isS : Bool) (len cap lo hi : Nat) (low high : Option Operand) (hl : kH s 0 low lo) (hh : kH s len high hi)
    (hlow : ∀ y ∈ low, RepV I β w (opA s y) (a.eval y)) (hhigh : ∀ y ∈ high, RepV I β w (opA s y) (a.eval y)) (h1 : lo ≤ hi) (h2 : hi ≤ cap) :
    (Instr.sliceBounds isS len cap (low.map a.eval) (high.map a.eval) none).run P w = .ok (lo, hi, cap) w := by
  subst hs'
  cases low with
  | none =>
    simp only [kH] at hl
    subst hl
    cases high with
    | none => simp only [kH] at hh; subst hh; simp [Instr.sliceBounds]
    | some y =>
      obtain ⟨_, k, z, e, rfl⟩ := hh
      have := hhigh y rfl
      rw [e] at this
      simp [Instr.sliceBounds, Instr.sliceBound, x8 this, asIntOf, h2]
  | some x =>
    obtain ⟨_, k, z, e, rfl⟩ := hl
    have hx := hlow x rfl
    rw [e] at hx
    cases high with
    | none =>
      simp only [kH] at hh
      subst hh
      simp [Instr.sliceBounds, Instr.sliceBound, x8 hx, asIntOf, h1]
    | some y =>
      obtain ⟨_, k', z', e', rfl⟩ := hh
      have := hhigh y rfl
      rw [e'] at this
      simp [Instr.sliceBounds, Instr.sliceBound, x8 hx, x8 this, asIntOf, h1, h2]
theorem opts_mem {x y : Operand} {low high : Option Operand} : (y ∈ low → y ∈ (Op.operands (.slice 0 x low high none)).toList) ∧ (y ∈ high → y ∈ (Op.operands (.slice 0 x low high none)).toList) := by
  constructor <;> intro h <;> cases low <;> cases high <;> simp_all [Op.operands]
theorem opts_all {x : Operand} {low high : Option Operand} {lo hi n : Nat} (hx : opB x = true) (hl : kH s 0 low lo) (hh : kH s n high hi) : (Op.operands (.slice 0 x low high none)).toList.all opB = true := by
  cases low <;> cases high <;> simp_all [Op.operands, kH]
theorem extract_list (l : List UInt8) (a b : Nat) : (⟨⟨l⟩⟩ : ByteArray).extract a b = ⟨⟨(l.drop a).take (b - a)⟩⟩ := by
  apply ByteArray.ext
  rw [ByteArray.data_extract]
  apply Array.ext'
  rw [Array.toList_extract]
theorem StepOk.sliceStr {x : Operand} {low high : Option Operand} {t lo hi : Nat} {l : List UInt8} (ho : o.op = .slice t x low high none) (hw : Want E ops o s) (hd : xR o.dst E.n = true) (hxb : opB x = true)
    (ht : P.underlying t = some .string) (hx : opA s x = .c (str l)) (hl : kH s 0 low lo) (hh : kH s l.length high hi) (h1 : lo ≤ hi) (h2 : hi ≤ l.length) :
    StepOk P E ops o s (xX o.dst (.c (str ((l.drop lo).take (hi - lo))))) ⟨o.looksAt ops, []⟩ := by
  refine StepOk.val hw hd (by have := opts_all (s := s) hxb hl hh; rw [ho]; exact this) fun N I s' β a w hop _ _ => ?_
  have h3 := hop x (by simp [ho, Op.operands])
  rw [hx] at h3
  have hsb := run_sliceBounds (P := P) (s := s) (I := I) (β := β) (w := w) (a := a) rfl false l.length l.length lo hi low high hl hh (fun y hy => hop y (by rw [ho]; exact opts_mem.1 hy)) (fun y hy => hop y (by rw [ho]; exact opts_mem.2 hy)) h1 h2
  refine ⟨.string ⟨⟨(l.drop lo).take (hi - lo)⟩⟩, ?_, Rep.imm (.v _ rfl)⟩
  have hsz : (⟨⟨l⟩⟩ : ByteArray).size = l.length := rfl
  simp [execOp, ho, Instr.sliceAt, Instr.slice, x8 h3, run_underlying ht, hsz, hsb, extract_list]
def tyField (P : Program) (t f off sz : Nat) (agg : Bool) : Prop := ∃ fields fd, P.underlying t = some (.struct fields) ∧ fields[f]? = some fd ∧ fd.offset = off ∧ vJ P fd.type sz ∧ qU P fd.type agg
theorem StepOk.fieldAgg {x : Operand} {t f off sz : Nat} {cs : List Cell} (ho : o.op = .field t x f) (hw : Want E ops o s) (hd : xR o.dst E.n = true) (hxb : opB x = true) (ht : tyField P t f off sz true)
    (hx : opA s x = .agg cs) : StepOk P E ops o s (xX o.dst (.agg ((cs.drop off).take sz))) ⟨o.looksAt ops, []⟩ := by
  refine StepOk.val hw hd (by simp [ho, Op.operands, hxb]) fun N I s' β a w hop _ _ => ?_
  have h1 := hop x (by simp [ho, Op.operands])
  rw [hx] at h1
  obtain ⟨vals, h2, h3⟩ := RepV.agg.1 h1
  obtain ⟨fields, fd, k1, k2, rfl, k4, k5⟩ := ht
  refine ⟨.agg (((vals.drop fd.offset).take sz).toArray), ?_, RepV.agg.2 ⟨_, rfl, (h3.drop _).take _⟩⟩
  simp [execOp, ho, Instr.field, h2, run_underlying k1, k2, asAgg, part, vZ k5, x7 k4, List.extract_eq_take_drop]
theorem StepOk.field {x : Operand} {t f off sz : Nat} {cs : List Cell} {c : Cell} (ho : o.op = .field t x f) (hw : Want E ops o s) (hd : xR o.dst E.n = true) (hxb : opB x = true) (ht : tyField P t f off sz false)
    (hx : opA s x = .agg cs) (hc : cs[off]? = some c) : StepOk P E ops o s (xX o.dst (.c c)) ⟨o.looksAt ops, []⟩ := by
  refine StepOk.val hw hd (by simp [ho, Op.operands, hxb]) fun N I s' β a w hop _ _ => ?_
  have h1 := hop x (by simp [ho, Op.operands])
  rw [hx] at h1
  obtain ⟨vals, h2, h3⟩ := RepV.agg.1 h1
  obtain ⟨fields, fd, k1, k2, rfl, k4, k5⟩ := ht
  obtain ⟨v, h4, h5⟩ := h3.at hc
  refine ⟨v, ?_, h5⟩
  simp [execOp, ho, Instr.field, h2, run_underlying k1, k2, asAgg, part, vZ k5, h4]
theorem rep_ip {I : Nat → Prop} {β : Nat → Option BI} {w : World} {cs : List Cell} {v : Value} (h : Rep I β w (.ip cs) v) : ∃ (b o : Nat) (u : Nat → Value), v = .pointer (some ⟨b, o, none⟩) ∧ I b ∧
    (∀ (j : Nat) c, cs[j]? = some c → w.cell? ⟨b, o + j, none⟩ = some (u j)) ∧ (∀ (j : Nat) c, cs[j]? = some c → RepI I w c (u j)) := by
  cases h with
  | imm h => cases h with
    | ip _ b o u h1 h2 h3 => exact ⟨b, o, u, rfl, h1, h2, h3⟩
theorem StepOk.fieldAddr {x : Operand} {t f off sz q i g : Nat} {agg : Bool} (ho : o.op = .fieldAddr t x f) (hw : Want E ops o s) (hd : xR o.dst E.n = true) (hxb : opB x = true) (ht : tyField P t f off (sz + 1) agg)
    (hx : opA s x = .c (.ptr q i g)) : StepOk P E ops o s (xX o.dst (.c (.ptr q i (g + off)))) ⟨o.looksAt ops, []⟩ := by
  refine StepOk.val hw hd (by simp [ho, Op.operands, hxb]) fun N I s' β a w hop _ _ => ?_
  have h1 := hop x (by simp [ho, Op.operands])
  rw [hx] at h1
  obtain ⟨b, z, C, h2, h3⟩ := qX (show Rep I β w _ _ from h1)
  obtain ⟨fields, fd, k1, k2, rfl, k4, k5⟩ := ht
  refine ⟨_, ?_, Rep.ptr q i (g + fd.offset) b z C h2⟩
  simp [execOp, ho, Instr.fieldAt, Instr.sureAddr, h3, run_underlying k1, k2, fieldPlace, x7 k4, add_addr]
  omega
theorem StepOk.fieldAddrI {x : Operand} {t f off sz : Nat} {agg : Bool} {cs : List Cell} (ho : o.op = .fieldAddr t x f) (hw : Want E ops o s) (hd : xR o.dst E.n = true) (hxb : opB x = true) (ht : tyField P t f off (sz + 1) agg)
    (hx : opA s x = .c (.ip cs)) : StepOk P E ops o s (xX o.dst (.c (.ip (cs.drop off)))) ⟨o.looksAt ops, []⟩ := by
  refine StepOk.val hw hd (by simp [ho, Op.operands, hxb]) fun N I s' β a w hop _ _ => ?_
  have h1 := hop x (by simp [ho, Op.operands])
  rw [hx] at h1
  obtain ⟨b, p, u, h2, h3, h4, h5⟩ := rep_ip (show Rep I β w _ _ from h1)
  obtain ⟨fields, fd, k1, k2, rfl, k4, k5⟩ := ht
  refine ⟨.pointer (some ⟨b, p + fd.offset, none⟩), ?_, Rep.imm (.ip _ b (p + fd.offset) (fun j => u (fd.offset + j)) h3 (fun j c hj => ?_) (fun j c hj => ?_))⟩
  · simp [execOp, ho, Instr.fieldAt, Instr.sureAddr, h2, run_underlying k1, k2, fieldPlace, x7 k4, add_addr]
  · rw [List.getElem?_drop] at hj; rw [Nat.add_assoc]; exact h4 _ c hj
  · rw [List.getElem?_drop] at hj; exact h5 _ c hj

theorem StepOk.indexRef {x i : Operand} {t e q off n : Nat} {k : IntKind} {z : Int} {obj : AObj} (ho : o.op = .indexAddr t x i) (hw : Want E ops o s) (hd : xR o.dst E.n = true) (hxb : (opB x && opB i) = true)
    (ht : P.underlying t = some (.slice e)) (hx : opA s x = .c (.ref q off n)) (hi : opA s i = .c (.v (.int k z))) (hz : 0 ≤ z) (hn : z < n) (hob : s.obj q = some obj) (hsz : vJ P e obj.sz) :
    StepOk P E ops o s (xX o.dst (.c (.ptr q (off + z.toNat) 0))) ⟨o.looksAt ops, [q]⟩ := by
  simp only [Bool.and_eq_true] at hxb
  refine StepOk.val hw hd (by simp [ho, Op.operands, hxb]) fun N I s' β a w hop hobs hr => ?_
  have h1 := hop x (by simp [ho, Op.operands])
  have h2 := hop i (by simp [ho, Op.operands])
  rw [hx] at h1
  rw [hi] at h2
  have hob' : s'.obj q = some obj := (hobs q (by simp)).trans hob
  obtain ⟨B, hB, _, _, h6⟩ := hr.obs q obj hob'
  have key : ∀ v, Rep I β w (.ref q off n) v → ∃ b cap C, v = .slice (some ⟨b, off * obj.sz, none⟩) n cap ∧ β q = some ⟨some b, obj.sz, C⟩ := by
    intro v hv
    cases hv with
    | imm h => cases h
    | ref _ _ _ b sz cap C g1 g2 g3 =>
      rw [hB] at g1
      cases g1
      have := (h6 b rfl).1
      simp only at this
      subst this
      exact ⟨b, cap, C, rfl, hB⟩
    | refE => omega
    | ref0 => omega
  obtain ⟨b, cap, C, h3, h4⟩ := key _ h1
  refine ⟨_, ?_, Rep.ptr q (off + z.toNat) 0 b obj.sz C h4⟩
  simp [execOp, ho, Instr.indexAt, h3, x8 h2, asIntOf, run_underlying ht, hz, hn, x7 hsz, add_addr, Nat.add_mul]
theorem StepOk.indexSl {x i : Operand} {t e : Nat} {k : IntKind} {z : Int} {xs : List (List Cell)} {el : List Cell} (ho : o.op = .indexAddr t x i) (hw : Want E ops o s) (hd : xR o.dst E.n = true) (hxb : (opB x && opB i) = true)
    (ht : P.underlying t = some (.slice e)) (hx : opA s x = .c (.sl xs)) (hi : opA s i = .c (.v (.int k z))) (hz : 0 ≤ z) (hel : xs[z.toNat]? = some el) (hsz : vJ P e el.length) :
    StepOk P E ops o s (xX o.dst (.c (.ip el))) ⟨o.looksAt ops, []⟩ := by
  simp only [Bool.and_eq_true] at hxb
  refine StepOk.val hw hd (by simp [ho, Op.operands, hxb]) fun N I s' β a w hop hobs hr => ?_
  have h1 := hop x (by simp [ho, Op.operands])
  have h2 := hop i (by simp [ho, Op.operands])
  rw [hx] at h1
  rw [hi] at h2
  have hlt : z.toNat < xs.length := (List.getElem?_eq_some_iff.1 hel).1
  have key : ∀ v, Rep I β w (.sl xs) v → ∃ b p cap, v = .slice (some ⟨b, p, none⟩) xs.length cap ∧ Rep I β w (.ip el) (.pointer (some ⟨b, p + z.toNat * el.length, none⟩)) := by
    intro v hv
    cases hv with
    | imm h =>
      cases h with
      | sl0 => simp at hlt
      | sl _ b p sz n cap u g1 g2 g3 g4 g5 g6 =>
        have hs := g3 el (List.mem_of_getElem? hel)
        subst hs
        exact ⟨b, p, cap, by rw [g1], .imm (.ip el b _ (fun j => u z.toNat j) g4 (fun j c hj => g5 _ j el c hel hj) (fun j c hj => g6 _ j el c hel hj))⟩
  obtain ⟨b, p, cap, h3, h4⟩ := key _ h1
  refine ⟨_, ?_, h4⟩
  simp [execOp, ho, Instr.indexAt, h3, x8 h2, asIntOf, run_underlying ht, hz, show z < (xs.length : Int) by omega, x7 hsz, add_addr]

theorem StepOk.loadAgg {x : Operand} {t q i f n : Nat} {obj : AObj} {el : List Cell} (ho : o.op = .load t x) (hw : Want E ops o s) (hd : xR o.dst E.n = true) (hxb : opB x = true)
    (ht : qU P t true) (hn : vJ P t n) (hx : opA s x = .c (.ptr q i f)) (hob : s.obj q = some obj) (hel : obj.els[i]? = some el) (hl : f + n ≤ el.length) :
    StepOk P E ops o s (xX o.dst (.agg ((el.drop f).take n))) ⟨o.looksAt ops, [q]⟩ := by
  refine StepOk.val hw hd (by simp [ho, Op.operands, hxb]) fun N I s' β a w hop hobs hr => ?_
  have h1 := hop x (by simp [ho, Op.operands])
  rw [hx] at h1
  obtain ⟨vals, k1, k2⟩ := (run_loadVar_obj (P := P) (ty := t) (hr.obs q obj ((hobs q (by simp)).trans hob)) h1 hel).1 n ht hn hl
  exact ⟨_, by simp only [execOp, ho]; rw [Sem.run_bind, k2]; rfl, RepV.agg.2 ⟨vals, rfl, k1⟩⟩
theorem StepOk.load {x : Operand} {t q i f : Nat} {obj : AObj} {el : List Cell} {c : Cell} (ho : o.op = .load t x) (hw : Want E ops o s) (hd : xR o.dst E.n = true) (hxb : opB x = true)
    (ht : qU P t false) (hx : opA s x = .c (.ptr q i f)) (hob : s.obj q = some obj) (hel : obj.els[i]? = some el) (hc : el[f]? = some c) :
    StepOk P E ops o s (xX o.dst (.c c)) ⟨o.looksAt ops, [q]⟩ := by
  refine StepOk.val hw hd (by simp [ho, Op.operands, hxb]) fun N I s' β a w hop hobs hr => ?_
  have h1 := hop x (by simp [ho, Op.operands])
  rw [hx] at h1
  obtain ⟨u, k1, k2⟩ := (run_loadVar_obj (P := P) (ty := t) (hr.obs q obj ((hobs q (by simp)).trans hob)) h1 hel).2 c ht hc
  exact ⟨u, by simp only [execOp, ho]; rw [Sem.run_bind, k2]; rfl, k1⟩
theorem StepOk.loadAggI {x : Operand} {t n : Nat} {el : List Cell} (ho : o.op = .load t x) (hw : Want E ops o s) (hd : xR o.dst E.n = true) (hxb : opB x = true)
    (ht : qU P t true) (hn : vJ P t n) (hx : opA s x = .c (.ip el)) (hl : n ≤ el.length) : StepOk P E ops o s (xX o.dst (.agg (el.take n))) ⟨o.looksAt ops, []⟩ := by
  refine StepOk.val hw hd (by simp [ho, Op.operands, hxb]) fun N I s' β a w hop hobs hr => ?_
  have h1 := hop x (by simp [ho, Op.operands])
  rw [hx] at h1
  obtain ⟨b, p, u, h2, h3, h4, h5⟩ := rep_ip (show Rep I β w _ _ from h1)
  have hblk : ∃ vals : List Value, All2 (Rep I β w) (el.take n) vals ∧ ∀ (j : Nat) v, vals[j]? = some v → w.cell? ⟨b, p + j, none⟩ = some v := by
    refine ⟨(List.range n).map u, All2.of_at (by simp; omega) fun j c v hj hv => ?_, fun j v hv => ?_⟩
    · rw [List.getElem?_take] at hj
      split at hj
      · rw [List.getElem?_map, List.getElem?_range (by assumption)] at hv
        simp only [Option.map_some, Option.some.injEq] at hv
        subst hv
        exact .imm (h5 j c hj)
      · cases hj
    · rw [List.getElem?_map] at hv
      rcases Nat.lt_or_ge j n with hj | hj
      · rw [List.getElem?_range hj] at hv
        simp only [Option.map_some, Option.some.injEq] at hv
        subst hv
        exact h4 j (el[j]'(by omega)) (List.getElem?_eq_getElem (by omega))
      · rw [List.getElem?_eq_none (by simpa using hj)] at hv
        cases hv
  obtain ⟨vals, g1, g2⟩ := hblk
  have hlen : vals.length = n := by rw [g1.length]; simp; omega
  refine ⟨.agg vals.toArray, ?_, RepV.agg.2 ⟨vals, rfl, g1⟩⟩
  have hld : (loadCells ⟨b, p, none⟩ n).run P w = .ok vals.toArray w := by
    rw [← hlen]
    refine run_loadCells_list w ⟨b, p, none⟩ vals fun j v hj => ?_
    rw [add_addr]
    exact g2 j v hj
  simp [execOp, ho, Instr.loadAt, Instr.sureAddr, h2, loadVar, vZ ht, x7 hn, hld]
theorem StepOk.loadI {x : Operand} {t : Nat} {el : List Cell} {c : Cell} (ho : o.op = .load t x) (hw : Want E ops o s) (hd : xR o.dst E.n = true) (hxb : opB x = true)
    (ht : qU P t false) (hx : opA s x = .c (.ip el)) (hc : el[0]? = some c) : StepOk P E ops o s (xX o.dst (.c c)) ⟨o.looksAt ops, []⟩ := by
  refine StepOk.val hw hd (by simp [ho, Op.operands, hxb]) fun N I s' β a w hop hobs hr => ?_
  have h1 := hop x (by simp [ho, Op.operands])
  rw [hx] at h1
  obtain ⟨b, p, u, h2, h3, h4, h5⟩ := rep_ip (show Rep I β w _ _ from h1)
  refine ⟨u 0, ?_, Rep.imm (h5 0 c hc)⟩
  have := h4 0 c hc
  simp only [Nat.add_zero] at this
  simp [execOp, ho, Instr.loadAt, Instr.sureAddr, h2, loadVar, vZ ht, Go.load, Sem.run, this]
theorem StepOk.nilCheck {x : Operand} {c : Cell} (ho : o.op = .nilCheck x) (hw : Want E ops o s) (hd : xR o.dst E.n = true) (hxb : opB x = true)
    (hx : opA s x = .c c) (hc : (∃ q i f, c = .ptr q i f) ∨ (∃ el, c = .ip el) ∨ ∃ f caps, c = .fn f caps) : StepOk P E ops o s (xX o.dst (.c c)) ⟨o.looksAt ops, []⟩ := by
  refine StepOk.val hw hd (by simp [ho, Op.operands, hxb]) fun N I s' β a w hop hobs hr => ?_
  have h1 := hop x (by simp [ho, Op.operands])
  rw [hx] at h1
  refine ⟨a.eval x, ?_, h1⟩
  rcases hc with ⟨q, i, f, rfl⟩ | ⟨el, rfl⟩ | ⟨f, caps, rfl⟩
  · obtain ⟨b, z, C, _, h3⟩ := qX (show Rep I β w _ _ from h1)
    simp [execOp, ho, h3]
  · obtain ⟨b, p, u, h2, _⟩ := rep_ip (show Rep I β w _ _ from h1)
    simp [execOp, ho, h2]
  · have : ∃ vals : Array Value, a.eval x = .func (.func f) #[] vals := by
      generalize a.eval x = v at h1
      cases (show Rep I β w (.fn f caps) v from h1) with
      | imm h => cases h with | fn _ _ vals => exact ⟨_, rfl⟩
      | fn _ _ vals => exact ⟨_, rfl⟩
    obtain ⟨vals, h3⟩ := this
    simp [execOp, ho, h3]
end
end Go.Proofs.YtjeffognhcbiaaaGreatDoor

namespace Go.Proofs.YtjeffognhcbiaaaGreatDoor
open Go Go.RowKit

def kY (d : Option Nat) (x : AVal) (nx : Nat) (obj : AObj) : Upd := ⟨match d with | some t => [(t, x)] | none => [], [(nx, some obj)], 1⟩

section
variable {P : Program} {E : Env} {ops : Array Oper} {o : Oper} {s : AS}
theorem Rel.fresh {N I : Nat → Prop} {s' : AS} {β : Nat → Option BI} {a : Act} {w : World} {nx : Nat} {obj : AObj} {arr : Array Value} {C : Nat} {x : AVal} {v : Value} {d : Option Nat} (hr : Rel E N I s' β a w) (hnx : ¬ N nx)
    (hm : E.m ≤ nx) (hd : xR d E.n = true)
    (hlen : ∀ x ∈ obj.els, x.length = obj.sz) (hsz : arr.size = C * obj.sz) (hC : obj.els.length ≤ C) (hmx : C ≤ maxLen)
    (hcells : ∀ (i j : Nat) x c, obj.els[i]? = some x → x[j]? = some c → ∃ u, arr[i * obj.sz + j]? = some u ∧ Rep I β w c u)
    (hx : ∀ β' w', β' nx = some ⟨some w.heap.size, obj.sz, C⟩ → RepV I β' w' x v) :
    ∃ β', Rel E (fun o => N o ∨ (nx ≤ o ∧ o < nx + 1)) I (s'.upd (kY d x nx obj)) β' (a.put d v) (w.alloc (.cells arr obj.ty)) := by
  have hβn : β nx = none := by
    cases h : β nx with
    | none => rfl
    | some B => exact absurd (hr.nam nx B h) hnx
  let β' : Nat → Option BI := fun o => if o = nx then some ⟨some w.heap.size, obj.sz, C⟩ else β o
  have hβ'n : β' nx = some ⟨some w.heap.size, obj.sz, C⟩ := by simp [β']
  have hext : Ext β β' := fun q B h => by
    have : q ≠ nx := fun e => by rw [e, hβn] at h; cases h
    simp [β', this, h]
  have hwI : ∀ b, I b → (w.alloc (.cells arr obj.ty)).heap[b]? = w.heap[b]? := fun b hb => heap_alloc_old w _ b (hr.imm b hb)
  have hsome : ∀ q obj', (s'.upd ⟨[], [(nx, some obj)], 1⟩).obj q = some obj' → (q = nx ∧ obj' = obj) ∨ (q ≠ nx ∧ s'.obj q = some obj') := fun q obj' h => by
    by_cases e : q = nx
    · subst e
      rw [AS.obj_some (x := some obj) (by simp [lk_cons])] at h
      exact .inl ⟨rfl, by simpa using h.symm⟩
    · rw [AS.obj_none (by rw [lk_cons, if_neg e]; rfl)] at h
      exact .inr ⟨e, h⟩
  have hold : Keeps E.mu E.w0 (w.alloc (.cells arr obj.ty)) := hr.old.trans (M' := fun _ => False) ⟨rfl, rfl, rfl, by simp, fun k hk _ => heap_alloc_old w _ k hk⟩ (fun _ _ h => h.elim)
  have hnew : ObjAt I β' (w.alloc (.cells arr obj.ty)) E.may nx obj := by
    refine ⟨_, hβ'n, hlen, (fun h => by cases h), fun b hb => ?_⟩
    simp only [Option.some.injEq] at hb
    subst hb
    refine ⟨rfl, .inr hr.old.size, fun h => absurd (hr.imm _ h) (Nat.lt_irrefl _), arr, heap_alloc_new w _, .inl hsz, hC, hmx, fun i j x c h1 h2 => ?_⟩
    obtain ⟨u, hu, hru⟩ := hcells i j x c h1 h2
    exact ⟨u, hu, hru.mono hext (fun _ h => h) hwI⟩
  have h1 : Rel E (fun o => N o ∨ (nx ≤ o ∧ o < nx + 1)) I (s'.upd ⟨[], [(nx, some obj)], 1⟩) β' a (w.alloc (.cells arr obj.ty)) := by
    refine hr.change hext (fun q B h => ?_) (fun _ h => h) hwI (fun t => zG rfl) (fun q obj' h => ?_) (fun q q' obj1 obj2 B B' b h1 h2 hne e1 e2 hb hb' => ?_) hold (fun b hb => ?_) hr.gro (fun q hq => ?_)
    · by_cases e : q = nx
      · exact .inr (by omega)
      · simp only [β', e, if_false] at h
        exact .inl (hr.nam q B h)
    · rcases hsome q obj' h with ⟨rfl, rfl⟩ | ⟨e, h⟩
      · exact .inr hnew
      · exact .inl ⟨h, fun B b hB hb => by
          obtain ⟨k1, _, k3⟩ := (hr.obs q obj' h).lt hB hb
          exact ⟨k3, heap_alloc_old w _ b k1⟩⟩
    · rcases hsome q obj1 h1 with ⟨rfl, rfl⟩ | ⟨n1, g1⟩
      · rcases hsome q' obj2 h2 with ⟨rfl, rfl⟩ | ⟨n2, g2⟩
        · exact hne rfl
        · rw [hβ'n] at e1
          cases e1
          simp only [Option.some.injEq] at hb
          simp only [β', n2, if_false] at e2
          obtain ⟨k1, _⟩ := (hr.obs q' obj2 g2).lt e2 hb'
          omega
      · simp only [β', n1, if_false] at e1
        rcases hsome q' obj2 h2 with ⟨rfl, rfl⟩ | ⟨n2, g2⟩
        · rw [hβ'n] at e2
          cases e2
          simp only [Option.some.injEq] at hb'
          obtain ⟨k1, _⟩ := (hr.obs q obj1 g1).lt e1 hb
          omega
        · simp only [β', n2, if_false] at e2
          exact hr.inj q q' obj1 obj2 B B' b g1 g2 hne e1 e2 hb hb'
    · have := hr.imm b hb
      simp only [World.size_alloc]
      omega
    · simp only [β', show q ≠ nx by omega, if_false]
      exact hr.ext q hq
  have h2 := h1.put (hx β' _ hβ'n) (u := xX d x) (d := d) rfl rfl (kL hd)
  refine ⟨β', h2.congr (fun t => ?_) (fun q => ?_)⟩
  · cases d <;> rfl
  · rfl

theorem StepOk.fresh {obj : AObj} {x : AVal} {obs : List Nat} (hw : Want E ops o s) (hd : xR o.dst E.n = true) (hop : o.op.operands.toList.all opB = true) (hm : Nat.ble E.m s.nx = true)
    (hlen : ∀ x ∈ obj.els, x.length = obj.sz)
    (h : ∀ N I s' β a w, (∀ y ∈ o.op.operands.toList, RepV I β w (opA s y) (a.eval y)) → (∀ q ∈ obs, s'.obj q = s.obj q) → Rel E N I s' β a w →
      ∃ (arr : Array Value) (C : Nat) (v : Value), (execOp a.eval o).run P w = .ok (.value v) (w.alloc (.cells arr obj.ty)) ∧ arr.size = C * obj.sz ∧ obj.els.length ≤ C ∧ C ≤ maxLen ∧
        (∀ (i j : Nat) x c, obj.els[i]? = some x → x[j]? = some c → ∃ u, arr[i * obj.sz + j]? = some u ∧ Rep I β w c u) ∧ (∀ β' w', β' s.nx = some ⟨some w.heap.size, obj.sz, C⟩ → RepV I β' w' x v)) :
    StepOk P E ops o s (kY o.dst x s.nx obj) ⟨o.looksAt ops, obs⟩ := by
  intro N I s' β a w hag hnm hr Q
  rw [hw.wanted hr hag, if_pos rfl]
  obtain ⟨arr, C, v, h1, h2, h3, h4, h5, h6⟩ := h N I s' β a w (fun y hy => by rw [← wO hag hy]; exact vA hr y (List.all_eq_true.1 hop y hy)) (fun q hq => hag.2 q hq) hr
  unfold Oper.wp
  rw [h1]
  obtain ⟨β', hr'⟩ := hr.fresh (hnm 0 (by simp [kY])) (Nat.le_of_ble_eq_true hm) hd hlen h2 h3 h4 h5 h6
  exact ⟨I, β', hr'⟩

def tyZero (P : Program) (t : Nat) (zs : List Value) : Prop := ∃ i z, P.info? t = some i ∧ i.zero = some z ∧ z.cells.toList = zs
def cellsOf : AVal → Option (List Cell)
  | .c x => some [x]
  | .agg cs => some cs
  | _ => none
theorem cellsOf_rep {I : Nat → Prop} {β : Nat → Option BI} {w : World} {x : AVal} {cs : List Cell} {v : Value} (h : RepV I β w x v) (hc : cellsOf x = some cs) : All2 (Rep I β w) cs v.cells.toList := by
  cases x with
  | c x =>
    simp only [cellsOf, Option.some.injEq] at hc
    subst hc
    have h1 : v.oneCell' = true := Rep.one h
    have : v.cells.toList = [v] := by cases v <;> first | rfl | cases h1
    rw [this]
    exact .cons h .nil
  | agg xs =>
    simp only [cellsOf, Option.some.injEq] at hc
    subst hc
    obtain ⟨vals, rfl, h'⟩ := RepV.agg.1 h
    exact h'
  | tup _ => cases hc
  | any => cases hc
theorem all2_at {I : Nat → Prop} {β : Nat → Option BI} {w : World} {cs : List Cell} {arr : Array Value} (h : All2 (Rep I β w) cs arr.toList) : ∀ (i j : Nat) x c, [cs][i]? = some x → x[j]? = some c → ∃ u, arr[i * cs.length + j]? = some u ∧ Rep I β w c u := by
  intro i j x c hi hj
  cases i with
  | succ i => simp at hi
  | zero =>
    simp only [List.getElem?_cons_zero, Option.some.injEq] at hi
    subst hi
    obtain ⟨u, hu, hr⟩ := h.at hj
    exact ⟨u, by simpa using hu, hr⟩

theorem run_zero {t : Nat} {i : TypeInfo} {z : Value} {w : World} (k1 : P.info? t = some i) (k2 : i.zero = some z) : (zeroValue t).run P w = .ok z w := by
  simp [zeroValue, typeInfo, k1, k2]
theorem StepOk.box {x : Operand} {t : Nat} {cs : List Cell} (ho : o.op = .box t x) (hw : Want E ops o s) (hd : xR o.dst E.n = true) (hxb : opB x = true) (hm : Nat.ble E.m s.nx = true)
    (hx : cellsOf (opA s x) = some cs) : StepOk P E ops o s (kY o.dst (.c (.ptr s.nx 0 0)) s.nx ⟨t, cs.length, [cs]⟩) ⟨o.looksAt ops, []⟩ := by
  refine StepOk.fresh hw hd (by simp [ho, Op.operands, hxb]) hm (by simp) fun N I s' β a w hop _ _ => ?_
  have h1 := cellsOf_rep (hop x (by simp [ho, Op.operands])) hx
  refine ⟨(a.eval x).cells, 1, .pointer (some ⟨w.heap.size, 0, none⟩), ?_, ?_, by simp, by simp [maxLen], all2_at h1, fun β' w' h => ?_⟩
  · simp only [execOp, ho]
    rfl
  · have := h1.length
    simpa using this
  · have := Rep.ptr (I := I) (w := w') (β := β') s.nx 0 0 _ _ _ h
    simp only [Nat.zero_mul, Nat.zero_add] at this
    exact this
theorem StepOk.alloc {t : Nat} {zs : List Value} (ho : o.op = .alloc t) (hw : Want E ops o s) (hd : xR o.dst E.n = true) (hm : Nat.ble E.m s.nx = true)
    (hz : tyZero P t zs) (h1 : zs.all (·.oneCell') = true) : StepOk P E ops o s (kY o.dst (.c (.ptr s.nx 0 0)) s.nx ⟨t, zs.length, [zs.map wL]⟩) ⟨o.looksAt ops, []⟩ := by
  refine StepOk.fresh hw hd (by simp [ho, Op.operands]) hm (by simp) fun N I s' β a w hop _ _ => ?_
  obtain ⟨i, z, k1, k2, rfl⟩ := hz
  refine ⟨z.cells, 1, .pointer (some ⟨w.heap.size, 0, none⟩), ?_, by simp, by simp, by simp [maxLen], ?_, fun β' w' h => ?_⟩
  · simp only [execOp, ho, Instr.alloc, Sem.run_bind, run_zero k1 k2]
    rfl
  · have : All2 (Rep I β w) (z.cells.toList.map wL) z.cells.toList := by
      simp only [List.all_eq_true] at h1
      revert h1
      generalize z.cells.toList = l
      intro h1
      induction l with
      | nil => exact .nil
      | cons c l ih => exact .cons (constC_rep (h1 c (by simp))) (ih fun x hx => h1 x (by simp [hx]))
    have := all2_at this
    simpa using this
  · have := Rep.ptr (I := I) (w := w') (β := β') s.nx 0 0 _ _ _ h
    simp only [Nat.zero_mul, Nat.zero_add] at this
    exact this
end
end Go.Proofs.YtjeffognhcbiaaaGreatDoor

namespace Go.Proofs.YtjeffognhcbiaaaGreatDoor
open Go Go.RowKit

def fillL {α : Type} (cells : List α) : List (Nat × List α) → List α
  | [] => cells
  | (off, vs) :: r => fillL (cells.take off ++ vs ++ cells.drop (off + vs.length)) r

section
variable {P : Program} {E : Env} {ops : Array Oper} {o : Oper} {s : AS}
theorem Rel.mod {N I : Nat → Prop} {s' : AS} {β : Nat → Option BI} {a : Act} {w : World} {q : Nat} {obj : AObj} {els : List (List Cell)} {b sz C : Nat} {arr : Array Value} (hr : Rel E N I s' β a w)
    (hob : s'.obj q = some obj) (hβ : β q = some ⟨some b, sz, C⟩) (hlen : ∀ x ∈ els, x.length = obj.sz) (hsz : szOk arr.size C obj.sz els.length) (hC : els.length ≤ C)
    (hcells : ∀ (i j : Nat) x c, els[i]? = some x → x[j]? = some c → ∃ u, arr[i * obj.sz + j]? = some u ∧ Rep I β w c u) :
    Rel E N I (s'.upd ⟨[], [(q, some ⟨obj.ty, obj.sz, els⟩)], 0⟩) β a (w.setRow b arr) := by
  obtain ⟨B, hB, h2, h3, h4⟩ := hr.obs q obj hob
  rw [hβ] at hB
  cases hB
  obtain ⟨k0, k1, k2, cur, k3, k4, k5, k6, k7⟩ := h4 b rfl
  simp only at k0 k4 k5 k6
  subst k0
  have hbI : ∀ b', I b' → (w.setRow b arr).heap[b']? = w.heap[b']? := fun b' h => setRow_other w b b' arr (fun e => k2 (e ▸ h))
  have hsize : (w.setRow b arr).heap.size = w.heap.size := by simp [World.setRow]
  have hsome : ∀ q' obj', (s'.upd ⟨[], [(q, some ⟨obj.ty, obj.sz, els⟩)], 0⟩).obj q' = some obj' → (q' = q ∧ obj' = ⟨obj.ty, obj.sz, els⟩) ∨ (q' ≠ q ∧ s'.obj q' = some obj') := fun q' obj' h => by
    by_cases e : q' = q
    · subst e
      rw [AS.obj_some (x := some ⟨obj.ty, obj.sz, els⟩) (by simp [lk_cons])] at h
      exact .inl ⟨rfl, by simpa using h.symm⟩
    · rw [AS.obj_none (by rw [lk_cons, if_neg e]; rfl)] at h
      exact .inr ⟨e, h⟩
  have hlive : ∀ q' obj', (s'.upd ⟨[], [(q, some ⟨obj.ty, obj.sz, els⟩)], 0⟩).obj q' = some obj' → ∃ obj'', s'.obj q' = some obj'' := fun q' obj' h => by
    rcases hsome q' obj' h with ⟨rfl, _⟩ | ⟨_, h⟩
    · exact ⟨_, hob⟩
    · exact ⟨_, h⟩
  have hmay : E.w0.heap.size ≤ b ∨ E.mu b := k1.symm
  refine hr.change (Ext.refl β) hr.nam (fun _ h => h) hbI (fun t => zG rfl) (fun q' obj' h => ?_) (fun q1 q2 o1 o2 B1 B2 b' g1 g2 hne e1 e2 hb1 => ?_)
    (hr.old.trans (M' := fun x => x = b) ⟨rfl, rfl, rfl, Nat.le_of_eq hsize.symm, fun k _ hk => setRow_other w b k arr hk⟩ (fun x hx e => hmay.elim (fun h => absurd h (by rw [← e]; omega)) (fun h => e ▸ h))) (fun b' h => by rw [hsize]; exact hr.imm b' h) hr.gro hr.ext
  · rcases hsome q' obj' h with ⟨rfl, rfl⟩ | ⟨e, h⟩
    · refine .inr ⟨_, hβ, hlen, (fun h => by cases h), fun b' hb' => ?_⟩
      simp only [Option.some.injEq] at hb'
      subst hb'
      refine ⟨rfl, k1, k2, arr, setRow_heap w b cur arr obj.ty _ k3, hsz, hC, k6, fun i j x c hx hj => ?_⟩
      obtain ⟨u, hu, hru⟩ := hcells i j x c hx hj
      exact ⟨u, hu, hru.mono (Ext.refl β) (fun _ h => h) hbI⟩
    · refine .inl ⟨h, fun B' b' hB' hb' => ?_⟩
      obtain ⟨_, _, g3⟩ := (hr.obs q' obj' h).lt hB' hb'
      have := hr.inj q' q obj' obj B' _ b' h hob e hB' hβ hb'
      exact ⟨g3, setRow_other w b b' arr (fun e' => this (by rw [e']))⟩
  · obtain ⟨o1', g1'⟩ := hlive q1 o1 g1
    obtain ⟨o2', g2'⟩ := hlive q2 o2 g2
    exact hr.inj q1 q2 o1' o2' B1 B2 b' g1' g2' hne e1 e2 hb1

theorem Rel.set_any {N I : Nat → Prop} {s' : AS} {β : Nat → Option BI} {a : Act} {w : World} {d : Option Nat} (hr : Rel E N I s' β a w) (hd : xR d E.n = true) : Rel E N I (s'.upd (xX d .any)) β (a.put d undef) w :=
  hr.put (x := .any) trivial rfl rfl (kL hd)

def storeU (d : Option Nat) (q : Nat) (obj : AObj) : Upd := ⟨match d with | some t => [(t, .any)] | none => [], [(q, some obj)], 0⟩
theorem StepOk.store {x y : Operand} {t q i f : Nat} {obj : AObj} {el cs : List Cell} (ho : o.op = .store t x y) (hw : Want E ops o s) (hd : xR o.dst E.n = true) (hxb : (opB x && opB y) = true)
    (hx : opA s x = .c (.ptr q i f)) (hy : cellsOf (opA s y) = some cs) (hn : vJ P t cs.length) (hob : s.obj q = some obj) (hel : obj.els[i]? = some el) (hl : f + cs.length ≤ el.length) :
    StepOk P E ops o s (storeU o.dst q ⟨obj.ty, obj.sz, obj.els.set i (el.take f ++ cs ++ el.drop (f + cs.length))⟩) ⟨o.looksAt ops, [q]⟩ := by
  intro N I s' β a w hag hnm hr Q
  simp only [Bool.and_eq_true] at hxb
  rw [hw.wanted hr hag, if_pos rfl]
  have hob' : s'.obj q = some obj := (hag.2 q (by simp)).trans hob
  have h1 := vA hr x hxb.1
  have h2 := vA hr y hxb.2
  rw [wO hag (by simp [ho, Op.operands]), hx] at h1
  rw [wO hag (by simp [ho, Op.operands])] at h2
  have h3 := cellsOf_rep h2 hy
  obtain ⟨b, sz, C, hβ, had⟩ := qX (show Rep I β w _ _ from h1)
  obtain ⟨B, hB, g2, g3, g4⟩ := hr.obs q obj hob'
  rw [hβ] at hB
  cases hB
  obtain ⟨k0, k1, k2, cur, k3, k4, k5, k6, k7⟩ := g4 b rfl
  simp only at k0 k4 k5 k6
  subst k0
  have hell : el.length = obj.sz := g2 el (List.mem_of_getElem? hel)
  have hil : i < obj.els.length := (List.getElem?_eq_some_iff.1 hel).1
  have hcs := h3.length
  have hroom : i * obj.sz + obj.sz ≤ C * obj.sz := by
    have : (i + 1) * obj.sz ≤ C * obj.sz := Nat.mul_le_mul_right _ (by omega)
    rwa [Nat.add_mul, Nat.one_mul] at this
  have hone : ∀ v ∈ (a.eval y).cells.toList, v.oneCell' = true := by
    intro v hv
    obtain ⟨j, hj⟩ := List.mem_iff_getElem?.1 hv
    have hlt : j < cs.length := by rw [← hcs]; exact (List.getElem?_eq_some_iff.1 hj).1
    obtain ⟨v', hv', hrv⟩ := h3.at (List.getElem?_eq_getElem hlt)
    rw [hj] at hv'
    cases hv'
    exact hrv.one
  have hst := run_storeCells_at P b (i * obj.sz + f) obj.ty (a.eval y).cells.toList 0 cur w k3 (by have := k4.le; rw [hcs]; omega) hone
  simp only [Nat.add_zero, hcs] at hst
  unfold Oper.wp
  have hrun : (execOp a.eval o).run P w = .ok .skip (w.setRow b (cur.toList.take (i * obj.sz + f) ++ (a.eval y).cells.toList ++ cur.toList.drop (i * obj.sz + f + cs.length)).toArray) := by
    have hnn : (a.eval y).cells.size = cs.length := by simpa using hcs
    simp [execOp, ho, Instr.storeAt, Instr.sureAddr, had, storeVar, x7 hn, hnn, hst]
  rw [hrun]
  have hmod := hr.mod (els := obj.els.set i (el.take f ++ cs ++ el.drop (f + cs.length))) (arr := (cur.toList.take (i * obj.sz + f) ++ (a.eval y).cells.toList ++ cur.toList.drop (i * obj.sz + f + cs.length)).toArray) hob' hβ ?_ ?_ ?_ ?_
  · have h5 := hmod.set_any (d := o.dst) hd
    refine ⟨I, β, ((h5.congr (fun t => ?_) (fun q' => ?_)).names fun o h => .inl h)⟩
    · cases o.dst <;> rfl
    · rfl
  · intro x hx
    rcases List.mem_or_eq_of_mem_set hx with h | h
    · exact g2 x h
    · rw [h]
      simp only [List.length_append, List.length_take, List.length_drop]
      omega
  · have e : (cur.toList.take (i * obj.sz + f) ++ (a.eval y).cells.toList ++ cur.toList.drop (i * obj.sz + f + cs.length)).toArray.size = cur.size := by
      have := k4.le
      simp only [List.size_toArray, List.length_append, List.length_take, List.length_drop, Array.length_toList, hcs]
      omega
    rw [e, List.length_set]
    exact k4
  · simpa using k5
  · intro i' j x c hx hj
    have hjl : j < obj.sz := by
      have h6 : x ∈ obj.els.set i (el.take f ++ cs ++ el.drop (f + cs.length)) := List.mem_of_getElem? hx
      have h7 : x.length = obj.sz := by
        rcases List.mem_or_eq_of_mem_set h6 with h | h
        · exact g2 x h
        · rw [h]
          simp only [List.length_append, List.length_take, List.length_drop]
          omega
      have := (List.getElem?_eq_some_iff.1 hj).1
      omega
    have hi'l : i' < obj.els.length := by
      have := (List.getElem?_eq_some_iff.1 hx).1
      simpa using this
    have hget : ∀ k, (cur.toList.take (i * obj.sz + f) ++ (a.eval y).cells.toList ++ cur.toList.drop (i * obj.sz + f + cs.length)).toArray[k]? =
        if k < i * obj.sz + f then cur[k]? else if k < i * obj.sz + f + cs.length then (a.eval y).cells.toList[k - (i * obj.sz + f)]? else cur[k]? := by
      intro k
      have hl0 : (cur.toList.take (i * obj.sz + f)).length = i * obj.sz + f := by
        have := k4.le
        simp only [List.length_take, Array.length_toList]
        omega
      simp only [List.getElem?_toArray]
      by_cases c1 : k < i * obj.sz + f
      · rw [if_pos c1, List.append_assoc, List.getElem?_append_left (by omega), List.getElem?_take, if_pos c1]
        simp
      · rw [if_neg c1, List.append_assoc, List.getElem?_append_right (by omega), hl0]
        by_cases c2 : k < i * obj.sz + f + cs.length
        · rw [if_pos c2, List.getElem?_append_left (by omega)]
        · rw [if_neg c2, List.getElem?_append_right (by omega), hcs, List.getElem?_drop]
          simp only [Array.getElem?_toList]
          congr 1
          omega
    by_cases hii : i = i'
    · subst hii
      rw [List.getElem?_set_self hil] at hx
      simp only [Option.some.injEq] at hx
      subst hx
      have htf : (el.take f).length = f := by rw [List.length_take]; omega
      rw [hget]
      by_cases c1 : j < f
      · rw [List.append_assoc, List.getElem?_append_left (by omega), List.getElem?_take, if_pos c1] at hj
        rw [if_pos (by omega)]
        exact k7 i j el c hel hj
      · rw [List.append_assoc, List.getElem?_append_right (by omega), htf] at hj
        rw [if_neg (by omega)]
        by_cases c2 : j < f + cs.length
        · rw [List.getElem?_append_left (by omega)] at hj
          rw [if_pos (by omega)]
          obtain ⟨u, hu, hru⟩ := h3.at hj
          refine ⟨u, ?_, hru⟩
          rw [← hu]
          congr 1
          omega
        · rw [List.getElem?_append_right (by omega), List.getElem?_drop] at hj
          rw [if_neg (by omega)]
          refine k7 i j el c hel ?_
          rw [← hj]
          congr 1
          omega
    · rw [List.getElem?_set_ne hii] at hx
      obtain ⟨u, hu, hru⟩ := k7 i' j x c hx hj
      refine ⟨u, ?_, hru⟩
      rw [hget, ← hu]
      have hcase : i' * obj.sz + j < i * obj.sz ∨ i * obj.sz + obj.sz ≤ i' * obj.sz + j := by
        rcases Nat.lt_or_ge i' i with h | h
        · left
          have : (i' + 1) * obj.sz ≤ i * obj.sz := Nat.mul_le_mul_right _ h
          rw [Nat.add_mul, Nat.one_mul] at this
          omega
        · right
          have : (i + 1) * obj.sz ≤ i' * obj.sz := Nat.mul_le_mul_right _ (by omega)
          rw [Nat.add_mul, Nat.one_mul] at this
          omega
      rcases hcase with h | h
      · rw [if_pos (by omega)]
      · rw [if_neg (by omega), if_neg (by omega)]
end
end Go.Proofs.YtjeffognhcbiaaaGreatDoor
