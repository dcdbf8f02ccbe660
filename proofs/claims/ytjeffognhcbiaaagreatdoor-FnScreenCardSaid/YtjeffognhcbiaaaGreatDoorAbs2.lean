/- The abstract machine, part 9: append, make, slices of slices. -/
import Derived.Test.YtjeffognhcbiaaaGreatDoorAbs1
import Derived.Deep.AppendSrc
namespace Go.Proofs.YtjeffognhcbiaaaGreatDoor
open Go Go.RowKit

def killL : Option Nat → List (Nat × Option AObj)
  | some q => [(q, none)]
  | none => []
def jD (d : Option Nat) (x : AVal) (qo : Option Nat) (nx : Nat) (obj : AObj) : Upd :=
  ⟨match d with | some t => [(t, x)] | none => [], (nx, some obj) :: killL qo, 1⟩

section
variable {P : Program} {E : Env} {ops : Array Oper} {o : Oper} {s : AS}
theorem Rel.app {N I : Nat → Prop} {s' : AS} {β : Nat → Option BI} {a : Act} {w w' : World} {nx : Nat} {obj : AObj} {qo row : Option Nat} {B : BI} {x : AVal} {v : Value} {d : Option Nat} (hr : Rel E N I s' β a w) (hnx : ¬ N nx)
    (hm : E.m ≤ nx) (hd : xR d E.n = true) (hg : w.grownBy w' row) (hrow : ∀ b, row = some b → ∃ q obj0 sz C, qo = some q ∧ s'.obj q = some obj0 ∧ β q = some ⟨some b, sz, C⟩)
    (hlen : ∀ x ∈ obj.els, x.length = obj.sz) (hnil : B.blk = none → obj.els = [])
    (hblk : ∀ b, B.blk = some b → B.sz = obj.sz ∧ (row = some b ∨ b = w.heap.size) ∧ ∃ arr, w'.heap[b]? = some (.cells arr obj.ty (0, 0)) ∧ szOk arr.size B.cap obj.sz obj.els.length ∧ obj.els.length ≤ B.cap ∧ B.cap ≤ maxLen ∧
      ∀ (i j : Nat) x c, obj.els[i]? = some x → x[j]? = some c → ∃ u, arr[i * obj.sz + j]? = some u ∧ Rep I β w c u)
    (hx : ∀ β' w', β' nx = some B → RepV I β' w' x v) :
    ∃ β', Rel E (fun o => N o ∨ (nx ≤ o ∧ o < nx + 1)) I (s'.upd (jD d x qo nx obj)) β' (a.put d v) w' := by
  have hβn : β nx = none := by
    cases h : β nx with
    | none => rfl
    | some B => exact absurd (hr.nam nx B h) hnx
  let β' : Nat → Option BI := fun o => if o = nx then some B else β o
  have hβ'n : β' nx = some B := by simp [β']
  have hext : Ext β β' := fun q B' h => by
    have : q ≠ nx := fun e => by rw [e, hβn] at h; cases h
    simp [β', this, h]
  have hrowI : ∀ b, row = some b → E.may b ∧ ¬ I b ∧ b < w.heap.size := fun b e => by
    obtain ⟨q, obj0, sz, C, _, h1, h2⟩ := hrow b e
    obtain ⟨k1, k2, k3⟩ := (hr.obs q obj0 h1).lt h2 rfl
    exact ⟨k2, k3, k1⟩
  have hwI : ∀ b, I b → w'.heap[b]? = w.heap[b]? := fun b hb => hg.block b (hr.imm b hb) (fun e => (hrowI b e.symm).2.1 hb)
  let u0 : Upd := ⟨[], (nx, some obj) :: killL qo, 1⟩
  have hsome : ∀ q obj', (s'.upd u0).obj q = some obj' → (q = nx ∧ obj' = obj) ∨ (q ≠ nx ∧ qo ≠ some q ∧ s'.obj q = some obj') := fun q obj' h => by
    by_cases e : q = nx
    · subst e
      rw [AS.obj_some (x := some obj) (by simp [u0, lk_cons])] at h
      exact .inl ⟨rfl, by simpa using h.symm⟩
    · by_cases e2 : qo = some q
      · rw [AS.obj_some (x := none) (by
          show lk q ((nx, some obj) :: killL qo) = _
          rw [lk_cons, if_neg e, e2]
          simp [killL, lk_cons])] at h
        cases h
      · rw [AS.obj_none (by
          show lk q ((nx, some obj) :: killL qo) = _
          rw [lk_cons, if_neg e]
          cases qo with
          | none => rfl
          | some q' => rw [killL, lk_cons, if_neg (fun h => e2 (by rw [h]))]; rfl)] at h
        exact .inr ⟨e, e2, h⟩
  have hfar : ∀ q obj' B' b, qo ≠ some q → s'.obj q = some obj' → β q = some B' → B'.blk = some b → row ≠ some b := fun q obj' B' b hne ho hB hb e => by
    obtain ⟨q', obj0, sz, C, h0, h1, h2⟩ := hrow b e
    have : q ≠ q' := fun h => hne (by rw [h, h0])
    exact hr.inj q q' obj' obj0 B' _ b ho h1 this hB h2 hb rfl
  have hold : Keeps E.mu E.w0 w' := hr.old.trans (M' := fun x => row = some x) ⟨hg.os, hg.tape, hg.output, hg.size, fun k hk hn => hg.block k hk (fun e => hn e.symm)⟩
    (fun b hb e => (hrowI b e).1.elim id (fun h => absurd h (by omega)))
  have hnew : ObjAt I β' w' E.may nx obj := by
    refine ⟨_, hβ'n, hlen, hnil, fun b hb => ?_⟩
    obtain ⟨k0, k1, arr, k2, k3, k4, k5, k6⟩ := hblk b hb
    refine ⟨k0, ?_, ?_, arr, k2, k3, k4, k5, fun i j x c h1 h2 => ?_⟩
    · rcases k1 with k1 | k1
      · exact (hrowI b k1).1
      · exact .inr (by rw [k1]; exact hr.old.size)
    · rcases k1 with k1 | k1
      · exact (hrowI b k1).2.1
      · intro h
        have := hr.imm b h
        omega
    · obtain ⟨u, hu, hru⟩ := k6 i j x c h1 h2
      exact ⟨u, hu, hru.mono hext (fun _ h => h) hwI⟩
  have h1 : Rel E (fun o => N o ∨ (nx ≤ o ∧ o < nx + 1)) I (s'.upd u0) β' a w' := by
    refine hr.change hext (fun q B' h => ?_) (fun _ h => h) hwI (fun t => zG rfl) (fun q obj' h => ?_) (fun q q' obj1 obj2 B1 B2 b h1 h2 hne e1 e2 hb hb' => ?_) hold (fun b hb => Nat.lt_of_lt_of_le (hr.imm b hb) hg.size) hr.gro (fun q hq => ?_)
    · by_cases e : q = nx
      · exact .inr (by omega)
      · simp only [β', e, if_false] at h
        exact .inl (hr.nam q B' h)
    · rcases hsome q obj' h with ⟨rfl, rfl⟩ | ⟨e, e2, h⟩
      · exact .inr hnew
      · exact .inl ⟨h, fun B' b hB hb => by
          obtain ⟨k1, _, k3⟩ := (hr.obs q obj' h).lt hB hb
          exact ⟨k3, hg.block b k1 (fun e' => hfar q obj' B' b e2 h hB hb e'.symm)⟩⟩
    · have hnb : ∀ q obj1 B1 b, qo ≠ some q → s'.obj q = some obj1 → β q = some B1 → B1.blk = some b → B.blk ≠ some b := fun q obj1 B1 b n g e hb h => by
        obtain ⟨_, k1, _⟩ := hblk b h
        rcases k1 with k1 | k1
        · exact hfar q obj1 B1 b n g e hb k1
        · have := ((hr.obs q obj1 g).lt e hb).1; omega
      rcases hsome q obj1 h1 with ⟨rfl, rfl⟩ | ⟨n1, m1, g1⟩
      · rcases hsome q' obj2 h2 with ⟨rfl, rfl⟩ | ⟨n2, m2, g2⟩
        · exact hne rfl
        · rw [hβ'n] at e1
          cases e1
          simp only [β', n2, if_false] at e2
          exact hnb q' obj2 B2 b m2 g2 e2 hb' hb
      · simp only [β', n1, if_false] at e1
        rcases hsome q' obj2 h2 with ⟨rfl, rfl⟩ | ⟨n2, m2, g2⟩
        · rw [hβ'n] at e2
          cases e2
          exact hnb q obj1 B1 b m1 g1 e1 hb hb'
        · simp only [β', n2, if_false] at e2
          exact hr.inj q q' obj1 obj2 B1 B2 b g1 g2 hne e1 e2 hb hb'
    · simp only [β', show q ≠ nx by omega, if_false]
      exact hr.ext q hq
  have h2 := h1.put (hx β' _ hβ'n) (u := xX d x) (d := d) rfl rfl (kL hd)
  refine ⟨β', h2.congr (fun t => ?_) (fun q => ?_)⟩
  · cases d <;> rfl
  · rfl
def wT (s : AS) : Cell → Option (List Nat × List (List Cell))
  | .nil => some ([], [])
  | .sl xs => some ([], xs)
  | .ref q off n => match s.obj q with
    | some obj => if off + n ≤ obj.els.length then some ([q], (obj.els.drop off).take n) else none
    | none => none
  | _ => none
theorem news_mem {N I : Nat → Prop} {s' : AS} {β : Nat → Option BI} {a : Act} {w : World} {c : Cell} {v : Value} {obs : List Nat} {news : List (List Cell)} {sz : Nat} (hr : Rel E N I s' β a w) (hv : Rep I β w c v)
    (hc : wT s c = some (obs, news)) (hag : ∀ q ∈ obs, s'.obj q = s.obj q) (hn : news ≠ []) (hsz : ∀ x ∈ news, x.length = sz) :
    ∃ ad cap, v = .slice (some ad) news.length cap ∧ ad.spot = none ∧ ∀ (i j : Nat) x c, news[i]? = some x → x[j]? = some c → ∃ u, w.cell? (ad.add (i * sz + j)) = some u ∧ Rep I β w c u := by
  cases c with
  | nil => simp only [wT, Option.some.injEq, Prod.mk.injEq] at hc; exact absurd hc.2.symm hn
  | sl xs =>
    simp only [wT, Option.some.injEq, Prod.mk.injEq] at hc
    obtain ⟨_, rfl⟩ := hc
    cases hv with
    | imm h =>
      cases h with
      | sl0 => exact absurd rfl hn
      | sl _ b p z n cap u g1 g2 g3 g4 g5 g6 =>
        refine ⟨⟨b, p, none⟩, cap, by rw [g1], rfl, fun i j x c hx hj => ⟨u i j, ?_, .imm (g6 i j x c hx hj)⟩⟩
        have : z = sz := (g3 x (List.mem_of_getElem? hx)).symm.trans (hsz x (List.mem_of_getElem? hx))
        subst this
        rw [add_addr, ← Nat.add_assoc]
        exact g5 i j x c hx hj
  | ref q off n =>
    simp only [wT] at hc
    split at hc
    · rename_i obj hob
      split at hc
      · simp only [Option.some.injEq, Prod.mk.injEq] at hc
        obtain ⟨rfl, rfl⟩ := hc
        obtain ⟨B, hB, g2, g3, g4⟩ := hr.obs q obj ((hag q (by simp)).trans hob)
        cases hv with
        | imm h => cases h
        | refE => simp at hn
        | ref0 => simp at hn
        | ref _ _ _ b z cap C k1 k2 k3 =>
          rw [hB] at k1
          cases k1
          obtain ⟨l0, _, _, arr, l1, l2, l3, l4, l5⟩ := g4 b rfl
          simp only at l0
          subst l0
          refine ⟨⟨b, off * obj.sz, none⟩, cap, by simp only [List.length_take, List.length_drop]; congr 1; omega, rfl, fun i j x c hx hj => ?_⟩
          rw [List.getElem?_take] at hx
          split at hx
          · rw [List.getElem?_drop] at hx
            obtain ⟨u, hu, hru⟩ := l5 (off + i) j x c hx hj
            have : obj.sz = sz := (g2 x (List.mem_of_getElem? hx)).symm.trans (hsz x (by
              refine List.mem_of_getElem? (i := i) ?_
              rw [List.getElem?_take, if_pos (by assumption), List.getElem?_drop]
              exact hx))
            subst this
            refine ⟨u, ?_, hru⟩
            rw [add_addr, cell_of_row w b _ arr _ _ l1, ← hu, Nat.add_mul]
            congr 1
            omega
          · cases hx
      · cases hc
    · cases hc
  | _ => simp [wT] at hc

theorem flat_at : ∀ (xs : List (List Cell)) (sz : Nat), (∀ x ∈ xs, x.length = sz) → xs.flatten.length = xs.length * sz ∧ ∀ (i j : Nat) x, xs[i]? = some x → j < sz → xs.flatten[i * sz + j]? = x[j]?
  | [], sz, _ => ⟨by simp, fun i j x h => by simp at h⟩
  | y :: ys, sz, h => by
    obtain ⟨h1, h2⟩ := flat_at ys sz fun x hx => h x (by simp [hx])
    have hy : y.length = sz := h y (by simp)
    refine ⟨by rw [List.flatten_cons, List.length_append, h1, hy, List.length_cons, Nat.add_mul]; omega, fun i j x hi hj => ?_⟩
    cases i with
    | zero =>
      simp only [List.getElem?_cons_zero, Option.some.injEq] at hi
      subst hi
      rw [List.flatten_cons, Nat.zero_mul, Nat.zero_add, List.getElem?_append_left (by omega)]
    | succ i =>
      rw [List.flatten_cons, List.getElem?_append_right (by rw [hy, Nat.add_mul]; omega), hy, ← h2 i j x (by simpa using hi) hj]
      congr 1
      rw [Nat.add_mul]
      omega
theorem vals_of {I : Nat → Prop} {β : Nat → Option BI} {w : World} {Q : Nat → Value → Prop} : ∀ (cs : List Cell) (k : Nat), (∀ (j : Nat) c, cs[j]? = some c → ∃ u, Q (k + j) u ∧ Rep I β w c u) → ∃ vals : List Value, All2 (Rep I β w) cs vals ∧ ∀ (j : Nat) v, vals[j]? = some v → Q (k + j) v
  | [], k, _ => ⟨[], .nil, fun j v h => by simp at h⟩
  | c :: cs, k, h => by
    obtain ⟨u, hu, hr⟩ := h 0 c rfl
    obtain ⟨vals, h1, h2⟩ := vals_of (Q := Q) cs (k + 1) fun j c hj => by
      have := h (j + 1) c (by simpa using hj)
      rwa [show k + (j + 1) = k + 1 + j by omega] at this
    refine ⟨u :: vals, .cons hr h1, fun j v hj => ?_⟩
    cases j with
    | zero => simp at hj; subst hj; exact hu
    | succ j =>
      have := h2 j v (by simpa using hj)
      rwa [show k + 1 + j = k + (j + 1) by omega] at this
def tyElem (P : Program) (t e sz bytes : Nat) : Prop := ∃ i z, P.underlying t = some (.slice e) ∧ P.info? e = some i ∧ i.zero = some z ∧ i.size = sz ∧ i.bytes = bytes ∧ z.cells.size = sz ∧ 0 < sz

theorem run_append_zero {t ty e : Nat} {sz bytes : Nat} (ht : tyElem P t e sz bytes) (w : World) (A : Option Addr) (n cap : Nat) (hn : n ≤ cap) (v : Value) (hv : ∃ A' c', v = .slice A' 0 c') :
    (Builtin.append_ #[t, t] ty #[.slice A n cap, v]).run P w = .ok (.slice A n cap) w := by
  obtain ⟨i, z, h1, h2, h3, h4, h5, _⟩ := ht
  obtain ⟨A', c', rfl⟩ := hv
  cases A <;> cases A' <;> simp [Builtin.append_, run_underlying h1, sizeOf, typeInfo, h2, Builtin.lenOf, hn, Builtin.firstCells, loadCells, loadCellsFrom, storeCells]

theorem newsOf_len {c : Cell} {obs : List Nat} {news : List (List Cell)} (h : wT s c = some (obs, news)) : kE c = some (news.length : Int) ∧ ∀ x, c ≠ .v x := by
  cases c with
  | nil => simp only [wT, Option.some.injEq, Prod.mk.injEq] at h; rw [← h.2]; exact ⟨rfl, fun _ e => by cases e⟩
  | sl xs => simp only [wT, Option.some.injEq, Prod.mk.injEq] at h; rw [← h.2]; exact ⟨rfl, fun _ e => by cases e⟩
  | ref q off n =>
    simp only [wT] at h
    split at h
    · split at h
      · simp only [Option.some.injEq, Prod.mk.injEq] at h
        rw [← h.2]
        refine ⟨?_, fun _ e => by cases e⟩
        simp only [kE, List.length_take, List.length_drop]
        congr 2
        omega
      · cases h
    · cases h
  | _ => simp [wT] at h
def baseOk (s : AS) (e sz : Nat) (qo : Option Nat) (els : List (List Cell)) : Cell → Prop
  | .nil => qo = none ∧ els = []
  | .ref q off n => qo = some q ∧ off = 0 ∧ s.obj q = some ⟨e, sz, els⟩ ∧ n = els.length
  | _ => False

theorem StepOk.append {x y : Operand} {t e sz bytes : Nat} {cx cy : Cell} {qo : Option Nat} {obs : List Nat} {els news : List (List Cell)} (ho : o.op = .call { callee := .builtin .append, args := #[x, y], argTypes := #[t, t] })
    (hw : Want E ops o s) (hd : xR o.dst E.n = true) (hxb : (opB x && opB y) = true) (hm : Nat.ble E.m s.nx = true) (ht : tyElem P t e sz bytes)
    (hx : opA s x = .c cx) (hb : baseOk s e sz qo els cx) (hy : opA s y = .c cy) (hn : wT s cy = some (obs, news)) (hsz : ∀ x ∈ news, x.length = sz)
    (hbytes : (els.length + news.length) * bytes ≤ 140737488355328) (hmax : els.length + news.length ≤ maxLen) :
    StepOk P E ops o s (jD o.dst (.c (.ref s.nx 0 (els.length + news.length))) qo s.nx ⟨e, sz, els ++ news⟩) ⟨o.looksAt ops, qo.toList ++ obs⟩ := by
  intro N I s' β a w hag hnm hr Q
  simp only [Bool.and_eq_true] at hxb
  rw [hw.wanted hr hag, if_pos rfl]
  have hnx : ¬ N s.nx := hnm 0 (by simp [jD])
  have h1 := vA hr x hxb.1
  have h2 := vA hr y hxb.2
  rw [wO hag (by simp [ho, Op.operands, Call.operands]), hx] at h1
  rw [wO hag (by simp [ho, Op.operands, Call.operands]), hy] at h2
  have hagn : ∀ q ∈ obs, s'.obj q = s.obj q := fun q hq => hag.2 q (by simp [hq])
  have hm' := Nat.le_of_ble_eq_true hm
  have fin : ∀ (v' : Value) (w' : World) (row : Option Nat) (B : BI), (Builtin.append_ #[t, t] o.type #[a.eval x, a.eval y]).run P w = .ok v' w' → w.grownBy w' row →
      (∀ b, row = some b → ∃ q obj0 sz C, qo = some q ∧ s'.obj q = some obj0 ∧ β q = some ⟨some b, sz, C⟩) → (B.blk = none → els ++ news = []) →
      (∀ b, B.blk = some b → B.sz = sz ∧ (row = some b ∨ b = w.heap.size) ∧ ∃ arr, w'.heap[b]? = some (.cells arr e (0, 0)) ∧ szOk arr.size B.cap sz (els ++ news).length ∧ (els ++ news).length ≤ B.cap ∧ B.cap ≤ maxLen ∧
        ∀ (i j : Nat) x c, (els ++ news)[i]? = some x → x[j]? = some c → ∃ u, arr[i * sz + j]? = some u ∧ Rep I β w c u) →
      (∀ β' w', β' s.nx = some B → RepV I β' w' (.c (.ref s.nx 0 (els.length + news.length))) v') → (∀ x ∈ els, x.length = sz) →
      o.wp P a w (fun a' w' => ∃ I' β', Rel E (fun o => N o ∨ (s.nx ≤ o ∧ o < s.nx + 1)) I' (s'.upd (jD o.dst (.c (.ref s.nx 0 (els.length + news.length))) qo s.nx ⟨e, sz, els ++ news⟩)) β' a' w') Q := by
    intro v' w' row B hrun hg hrow hnil hblk hxv hels
    obtain ⟨β', hr'⟩ := hr.app (obj := ⟨e, sz, els ++ news⟩) (qo := qo) (B := B) (d := o.dst) (v := v') hnx hm' hd hg hrow (by
      intro x hx
      rcases List.mem_append.1 hx with h | h
      · exact hels x h
      · exact hsz x h) hnil hblk hxv
    unfold Oper.wp
    have : (execOp a.eval o).run P w = .ok (.value v') w' := by
      simp only [execOp, ho, resolve, invoke, builtin, Sem.run_bind, Sem.run_pure, Result.andThen, List.map_toArray, List.map_cons, List.map_nil, hrun]
    rw [this]
    exact ⟨I, β', hr'⟩
  obtain ⟨hlen, hne⟩ := newsOf_len hn
  obtain ⟨ti, z, t1, t2, t3, t4, t5, t6, t7⟩ := ht
  have hbase : (els = [] ∧ a.eval x = .slice none 0 0 ∧ (qo = none ∨ ∃ q, qo = some q)) ∨
      (∃ q b C arr, qo = some q ∧ s'.obj q = some ⟨e, sz, els⟩ ∧ β q = some ⟨some b, sz, C⟩ ∧ a.eval x = .slice (some ⟨b, 0, none⟩) els.length C ∧ w.heap[b]? = some (.cells arr e (0, 0)) ∧ szOk arr.size C sz els.length ∧ els.length ≤ C ∧ C ≤ maxLen ∧
        (∀ x ∈ els, x.length = sz) ∧ ∀ (i j : Nat) x c, els[i]? = some x → x[j]? = some c → ∃ u, arr[i * sz + j]? = some u ∧ Rep I β w c u) := by
    generalize a.eval x = v at h1
    cases cx with
    | nil =>
      obtain ⟨rfl, rfl⟩ := hb
      cases (show Rep I β w .nil v from h1) with
      | imm h => cases h; exact .inl ⟨rfl, rfl, .inl rfl⟩
    | ref q off n =>
      obtain ⟨rfl, rfl, hob, hnl⟩ := hb
      have hob' : s'.obj q = some ⟨e, sz, els⟩ := (hag.2 q (by simp)).trans hob
      obtain ⟨B, hB, g2, g3, g4⟩ := hr.obs q _ hob'
      cases (show Rep I β w (.ref q 0 n) v from h1) with
      | imm h => cases h
      | ref _ _ _ b z' cap C k1 k2 k3 =>
        rw [hB] at k1
        cases k1
        obtain ⟨l0, _, _, arr, l1, l2, l3, l4, l5⟩ := g4 b rfl
        simp only at l0 l2 l3 l4
        subst l0
        rw [k3 rfl, Nat.zero_mul, hnl]
        exact .inr ⟨q, b, C, arr, rfl, hob', hB, rfl, l1, l2, l3, l4, g2, l5⟩
      | refE _ _ _ _ h => exact absurd rfl h
      | ref0 _ z' C k1 =>
        rw [hB] at k1
        cases k1
        exact .inl ⟨g3 rfl, rfl, .inr ⟨q, rfl⟩⟩
    | _ => exact hb.elim
  have hrefl : w.grownBy w none := ⟨rfl, rfl, rfl, Nat.le_refl _, fun _ _ _ => rfl⟩
  by_cases hnews : news = []
  · subst hnews
    obtain ⟨A', k', c', hy2, hk'⟩ := rep_slice (show Rep I β w cy _ from h2) hne hlen
    have hk0 : k' = 0 := by simpa using hk'
    subst hk0
    rcases hbase with ⟨rfl, hxe, _⟩ | ⟨q, b, C, arr, rfl, hob', hβ, hxe, l1, l2, l3, l4, l5, l6⟩
    · refine fin (.slice none 0 0) w none ⟨none, 1, 0⟩ ?_ hrefl (fun b h => by cases h) (fun _ => rfl) (fun b h => by cases h) (fun β' w' h => Rep.ref0 s.nx 1 0 h) (by simp)
      rw [hxe]
      exact run_append_zero ⟨ti, z, t1, t2, t3, t4, t5, t6, t7⟩ w none 0 0 (Nat.le_refl _) _ ⟨A', c', hy2⟩
    · refine fin (.slice (some ⟨b, 0, none⟩) els.length C) w (some b) ⟨some b, sz, C⟩ ?_ ⟨rfl, rfl, rfl, Nat.le_refl _, fun _ _ _ => rfl⟩ (fun b' h => by cases h; exact ⟨q, _, sz, C, rfl, hob', hβ⟩) (fun h => by cases h)
        (fun b' h => by cases h; exact ⟨rfl, .inl rfl, arr, l1, by rw [List.append_nil]; exact l2, by simpa using l3, l4, by simpa using l6⟩) (fun β' w' h => ?_) l5
      · rw [hxe]
        exact run_append_zero ⟨ti, z, t1, t2, t3, t4, t5, t6, t7⟩ w _ _ _ l3 _ ⟨A', c', hy2⟩
      · have := Rep.ref (I := I) (w := w') (β := β') s.nx 0 (els.length + 0) b sz C C h (by simpa using l3) (fun _ => rfl)
        show Rep I β' w' _ _
        simpa using this
  · obtain ⟨ad, cap, hy2, hspot, hcell⟩ := news_mem hr (show Rep I β w cy _ from h2) hn hagn hnews hsz
    obtain ⟨f1, f2⟩ := flat_at news sz hsz
    obtain ⟨nv, v1, v2⟩ := vals_of (I := I) (β := β) (w := w) (Q := fun j u => w.cell? (ad.add j) = some u) news.flatten 0 fun j c hj => by
      have hjl : j < news.length * sz := by rw [← f1]; exact (List.getElem?_eq_some_iff.1 hj).1
      have hd' : j / sz < news.length := (Nat.div_lt_iff_lt_mul t7).2 hjl
      have hm2 : j % sz < sz := Nat.mod_lt _ t7
      have e1 : j / sz * sz + j % sz = j := by rw [Nat.mul_comm]; exact Nat.div_add_mod j sz
      obtain ⟨u, hu, hru⟩ := hcell (j / sz) (j % sz) _ c (List.getElem?_eq_getElem hd') (by rw [← f2 (j / sz) (j % sz) _ (List.getElem?_eq_getElem hd') hm2, e1]; exact hj)
      rw [e1] at hu
      exact ⟨u, by rw [Nat.zero_add]; exact hu, hru⟩
    have hnl : nv.length = news.length * sz := by rw [v1.length, f1]
    have hone : ∀ u ∈ nv, u.oneCell' = true := by
      intro u hu
      obtain ⟨j, hj⟩ := List.mem_iff_getElem?.1 hu
      have hlt : j < news.flatten.length := by rw [← v1.length]; exact (List.getElem?_eq_some_iff.1 hj).1
      obtain ⟨v', hv', hrv⟩ := v1.at (List.getElem?_eq_getElem hlt)
      rw [hj] at hv'
      cases hv'
      exact hrv.one
    have hnvat : ∀ (i j : Nat) x c, news[i]? = some x → x[j]? = some c → ∃ u, nv[i * sz + j]? = some u ∧ Rep I β w c u := by
      intro i j x c hx hj
      have hjl : j < sz := by have := hsz x (List.mem_of_getElem? hx); have := (List.getElem?_eq_some_iff.1 hj).1; omega
      exact v1.at (by rw [f2 i j x hx hjl]; exact hj)
    have hpos : 0 < news.length := List.length_pos_iff.2 hnews
    rcases hbase with ⟨rfl, hxe, _⟩ | ⟨q, b, C, arr, rfl, hob', hβ, hxe, l1, l2, l3, l4, l5, l6⟩
    · obtain ⟨g, cap', w', r1, r2, r3, r4, r5⟩ := run_append_lies w t o.type 0 e ti z sz bytes t1 t2 t3 t4 t5 t6 t7 (.slice none 0 0) 0 [] (World.ownsRow_nil w 0 e sz) ad news.length cap nv hnl (fun j u hj => by simpa using v2 j u hj) hone hpos
        (by simpa using hmax) (by simpa using hbytes) (Nat.zero_le _) w.heap.size rfl
      have hrow2 := r2.2
      simp only [Nat.zero_add] at r1 hrow2
      rcases hrow2 with ⟨h0, _⟩ | ⟨g', cp, cur, hv, _, hh, c1, c2, c3, c4⟩
      · cases h0
      · simp only [Value.slice.injEq, Option.some.injEq, Addr.mk.injEq, and_true, true_and] at hv
        obtain ⟨rfl, rfl⟩ := hv
        have hgH : g = w.heap.size := r4.resolve_left (fun h => by simp [Value.ownBlock] at h)
        refine fin _ w' none ⟨some g, sz, cap'⟩ (by rw [hxe, hy2]; exact r1) r3 (fun b h => by cases h) (fun h => by cases h) (fun b' h => ?_) (fun β' w' h => ?_) (by simp)
        · cases h
          refine ⟨rfl, .inr hgH, cur, hh, .inl c3, by simpa using c1, c2, fun i j x c hx hj => ?_⟩
          obtain ⟨u, hu, hru⟩ := hnvat i j x c (by simpa using hx) hj
          refine ⟨u, ?_, hru⟩
          simp only [List.nil_append] at c4
          rw [← c4, List.getElem?_take] at hu
          split at hu
          · simpa using hu
          · cases hu
        · have := Rep.ref (I := I) (w := w') (β := β') s.nx 0 news.length g sz cap' cap' h c1 (fun _ => rfl)
          show Rep I β' w' _ _
          simpa using this
    · rcases l2 with l2 | ⟨l2, l2'⟩
      · have hown : w.ownsRow 0 e sz (.slice (some ⟨b, 0, none⟩) els.length C) els.length (arr.toList.take (els.length * sz)) := by
          refine ⟨?_, .inr ⟨b, C, arr, rfl, Nat.zero_le _, l1, l3, l4, l2, rfl⟩⟩
          have hal : arr.toList.length = C * sz := by simpa using l2
          rw [List.length_take, hal]
          exact Nat.min_eq_left (Nat.mul_le_mul_right _ l3)
        obtain ⟨g, cap', w', r1, r2, r3, r4, r5⟩ := run_append_lies w t o.type 0 e ti z sz bytes t1 t2 t3 t4 t5 t6 t7 _ _ _ hown ad news.length cap nv hnl (fun j u hj => by simpa using v2 j u hj) hone hpos hmax hbytes (Nat.zero_le _) w.heap.size rfl
        have hrow2 := r2.2
        rcases hrow2 with ⟨h0, _⟩ | ⟨g', cp, cur, hv, _, hh, c1, c2, c3, c4⟩
        · cases h0
        · simp only [Value.slice.injEq, Option.some.injEq, Addr.mk.injEq, and_true, true_and] at hv
          obtain ⟨rfl, rfl⟩ := hv
          have hold : (arr.toList.take (els.length * sz)).length = els.length * sz := hown.1
          refine fin _ w' (some b) ⟨some g, sz, cap'⟩ (by rw [hxe, hy2]; exact r1) r3 (fun b' h => by cases h; exact ⟨q, _, sz, C, rfl, hob', hβ⟩) (fun h => by cases h) (fun b' h => ?_) (fun β' w' h => ?_) l5
          · cases h
            refine ⟨rfl, r4.imp (fun h => by simpa [Value.ownBlock] using h) id, cur, hh, .inl c3, by rw [List.length_append]; exact c1, c2, fun i j x c hx hj => ?_⟩
            have hcur : ∀ (k : Nat) (u : Value), (arr.toList.take (els.length * sz) ++ nv)[k]? = some u → cur[k]? = some u := by
              intro k u hk
              rw [← c4, List.getElem?_take] at hk
              split at hk
              · simpa using hk
              · cases hk
            by_cases hi : i < els.length
            · rw [List.getElem?_append_left hi] at hx
              obtain ⟨u, hu, hru⟩ := l6 i j x c hx hj
              have hjl : j < sz := by have := l5 x (List.mem_of_getElem? hx); have := (List.getElem?_eq_some_iff.1 hj).1; omega
              have hlt : i * sz + j < els.length * sz := by
                have : (i + 1) * sz ≤ els.length * sz := Nat.mul_le_mul_right _ hi
                rw [Nat.add_mul, Nat.one_mul] at this
                omega
              refine ⟨u, hcur _ _ ?_, hru⟩
              rw [List.getElem?_append_left (by omega), List.getElem?_take, if_pos hlt]
              simpa using hu
            · rw [List.getElem?_append_right (by omega)] at hx
              obtain ⟨u, hu, hru⟩ := hnvat (i - els.length) j x c hx hj
              refine ⟨u, hcur _ _ ?_, hru⟩
              have hmul : els.length * sz ≤ i * sz := Nat.mul_le_mul_right _ (by omega)
              rw [List.getElem?_append_right (by omega), hold, ← hu, Nat.sub_mul]
              congr 1
              omega
          · have := Rep.ref (I := I) (w := w') (β := β') s.nx 0 (els.length + news.length) g sz cap' cap' h c1 (fun _ => rfl)
            show Rep I β' w' _ _
            simpa using this
      · -- a clipped slice: a new block
        have hol : (arr.toList.take (els.length * sz)).length = els.length * sz := by
          have hal : arr.toList.length = arr.size := by simp
          have e2 : C * sz = els.length * sz := by rw [l2]
          rw [List.length_take, hal]
          exact Nat.min_eq_left (by rw [← e2]; exact l2')
        have hcell0 : ∀ j u, (arr.toList.take (els.length * sz))[j]? = some u → w.cell? ((⟨b, 0, none⟩ : Addr).add j) = some u := by
          intro j u hj
          rw [List.getElem?_take] at hj
          split at hj
          · rw [add_addr, cell_of_row w b _ arr _ _ l1]
            simpa using hj
          · cases hj
        have hfc := run_firstCells_some (P := P) w.drew sz els.length ⟨b, 0, none⟩ els.length C _ hol (fun j u hj => by simpa using hcell0 j u hj)
        have hsrc : Src P ti.size t (.slice (some ad) news.length cap) news.length nv w := Src.ofSlice w t1 ad news.length cap nv (by rw [t4]; exact hnl) (fun j u hj => by simpa using v2 j u hj) hone
        have hlt : C < els.length + news.length := by omega
        have r1 := run_append_grow_src (P := P) w t t o.type e ti z t1 t2 t3 (some ⟨b, 0, none⟩) els.length C _ (by rw [t4]; exact hfc) _ news.length nv hsrc hlt (by simp only [maxLen] at hmax; omega) (growslice_fits hlt (by rw [t5]; exact hbytes))
        have hcap := grownCap_ge w (els.length + news.length) C e
        have hcm := grownCap_le_maxLen w (els.length + news.length) C e hmax
        have hL : (arr.toList.take (els.length * sz) ++ nv).length = (els.length + news.length) * sz := by rw [List.length_append, hol, hnl, Nat.add_mul]
        generalize hbig : (Obj.cells ((arr.toList.take (els.length * sz) ++ nv).toArray ++ Builtin.zeroCells z.cells (grownCap w (els.length + news.length) C e - (els.length + news.length))) e) = big at r1
        have hgo : ∀ k, k < w.heap.size → (w.drew.alloc big).heap[k]? = w.heap[k]? := fun k hk => heap_alloc_old w.drew big k hk
        refine fin _ (w.drew.alloc big) none ⟨some w.heap.size, sz, grownCap w (els.length + news.length) C e⟩ (by rw [hxe, hy2]; exact r1) ⟨rfl, rfl, rfl, by simp, fun k hk _ => hgo k hk⟩ (fun b h => by cases h) (fun h => by cases h) (fun b' h => ?_) (fun β' w' h => ?_) l5
        · cases h
          have hnew : (w.drew.alloc big).heap[w.heap.size]? = some big := heap_alloc_new w.drew big
          rw [← hbig] at hnew
          refine ⟨rfl, .inr rfl, _, by rw [← hbig]; exact hnew, .inl ?_, by rw [List.length_append]; exact hcap, hcm, fun i j x c hx hj => ?_⟩
          · rw [Array.size_append, List.size_toArray, hL, size_zeroCells, t6, ← Nat.add_mul]
            show _ = grownCap w (els.length + news.length) C e * sz
            congr 1
            omega
          have hcur : ∀ (k : Nat) (u : Value), (arr.toList.take (els.length * sz) ++ nv)[k]? = some u → ((arr.toList.take (els.length * sz) ++ nv).toArray ++ Builtin.zeroCells z.cells (grownCap w (els.length + news.length) C e - (els.length + news.length)))[k]? = some u := by
            intro k u hk
            have hlt := (List.getElem?_eq_some_iff.1 hk).1
            rw [Array.getElem?_append_left (by simpa using hlt), List.getElem?_toArray]
            exact hk
          by_cases hi : i < els.length
          · rw [List.getElem?_append_left hi] at hx
            obtain ⟨u, hu, hru⟩ := l6 i j x c hx hj
            have hjl : j < sz := by have := l5 x (List.mem_of_getElem? hx); have := (List.getElem?_eq_some_iff.1 hj).1; omega
            have hlt : i * sz + j < els.length * sz := by
              have : (i + 1) * sz ≤ els.length * sz := Nat.mul_le_mul_right _ hi
              rw [Nat.add_mul, Nat.one_mul] at this
              omega
            refine ⟨u, hcur _ _ ?_, hru⟩
            rw [List.getElem?_append_left (by omega), List.getElem?_take, if_pos hlt]
            simpa using hu
          · rw [List.getElem?_append_right (by omega)] at hx
            obtain ⟨u, hu, hru⟩ := hnvat (i - els.length) j x c hx hj
            refine ⟨u, hcur _ _ ?_, hru⟩
            have hmul : els.length * sz ≤ i * sz := Nat.mul_le_mul_right _ (by omega)
            rw [List.getElem?_append_right (by omega), hol, ← hu, Nat.sub_mul]
            congr 1
            omega
        · have := Rep.ref (I := I) (w := w') (β := β') s.nx 0 (els.length + news.length) w.heap.size sz _ _ h hcap (fun _ => rfl)
          show Rep I β' w' _ _
          simpa using this
theorem StepOk.clip {x hi mx : Operand} {t e q n : Nat} {k k' : IntKind} {obj : AObj} (ho : o.op = .slice t x none (some hi) (some mx)) (hw : Want E ops o s) (hd : xR o.dst E.n = true) (hxb : (opB x && (opB hi && opB mx)) = true) (hm : Nat.ble E.m s.nx = true)
    (ht : P.underlying t = some (.slice e)) (hx : opA s x = .c (.ref q 0 n)) (hh : opA s hi = .c (.v (.int k (n : Int)))) (hmx : opA s mx = .c (.v (.int k' (n : Int)))) (hob : s.obj q = some obj) (hn : n = obj.els.length) (hsz : vJ P e obj.sz) :
    StepOk P E ops o s (jD o.dst (.c (.ref s.nx 0 n)) (some q) s.nx obj) ⟨o.looksAt ops, [q]⟩ := by
  intro N I s' β a w hag hnm hr Q
  simp only [Bool.and_eq_true] at hxb
  rw [hw.wanted hr hag, if_pos rfl]
  have hnx : ¬ N s.nx := hnm 0 (by simp [jD])
  have hm' := Nat.le_of_ble_eq_true hm
  have h1 := vA hr x hxb.1
  have h2 := vA hr hi hxb.2.1
  have h3 := vA hr mx hxb.2.2
  rw [wO hag (by simp [ho, Op.operands]), hx] at h1
  rw [wO hag (by simp [ho, Op.operands]), hh] at h2
  rw [wO hag (by simp [ho, Op.operands]), hmx] at h3
  have h2' := x8 h2
  have h3' := x8 h3
  have hob' : s'.obj q = some obj := (hag.2 q (by simp)).trans hob
  obtain ⟨B, hB, g2, g3, g4⟩ := hr.obs q obj hob'
  have hrefl : ∀ row, w.grownBy w row := fun _ => ⟨rfl, rfl, rfl, Nat.le_refl _, fun _ _ _ => rfl⟩
  have hsb : ∀ C, n ≤ C → (Instr.sliceBounds true n C none (some (.int k (n : Int))) (some (.int k' (n : Int)))).run P w = .ok (0, n, n) w := by
    intro C hC
    have e1 : (0 : Int) ≤ (n : Int) ∧ (n : Int) ≤ (C : Int) := by omega
    have e2 : (0 : Int) ≤ (n : Int) ∧ (n : Int) ≤ (n : Int) := by omega
    simp [Instr.sliceBounds, Instr.sliceBound, asIntOf, e1]
  have fin : ∀ (v' : Value) (row : Option Nat) (B : BI), (execOp a.eval o).run P w = .ok (.value v') w → (∀ b, row = some b → ∃ q' obj0 sz C, some q = some q' ∧ s'.obj q' = some obj0 ∧ β q' = some ⟨some b, sz, C⟩) → (B.blk = none → obj.els = []) →
      (∀ b, B.blk = some b → B.sz = obj.sz ∧ (row = some b ∨ b = w.heap.size) ∧ ∃ arr, w.heap[b]? = some (.cells arr obj.ty (0, 0)) ∧ szOk arr.size B.cap obj.sz obj.els.length ∧ obj.els.length ≤ B.cap ∧ B.cap ≤ maxLen ∧
        ∀ (i j : Nat) x c, obj.els[i]? = some x → x[j]? = some c → ∃ u, arr[i * obj.sz + j]? = some u ∧ Rep I β w c u) →
      (∀ β' w', β' s.nx = some B → RepV I β' w' (.c (.ref s.nx 0 n)) v') →
      o.wp P a w (fun a' w' => ∃ I' β', Rel E (fun o => N o ∨ (s.nx ≤ o ∧ o < s.nx + 1)) I' (s'.upd (jD o.dst (.c (.ref s.nx 0 n)) (some q) s.nx obj)) β' a' w') Q := by
    intro v' row B hrun hrow hnil hblk hxv
    obtain ⟨β', hr'⟩ := hr.app (obj := obj) (qo := some q) (B := B) (d := o.dst) (v := v') hnx hm' hd (hrefl row) hrow g2 hnil hblk hxv
    unfold Oper.wp
    rw [hrun]
    exact ⟨I, β', hr'⟩
  have key : ∀ v, Rep I β w (.ref q 0 n) v → (v = .slice none 0 0 ∧ n = 0 ∧ B.blk = none) ∨ ∃ b C, v = .slice (some ⟨b, 0, none⟩) n C ∧ n ≤ C ∧ B = ⟨some b, obj.sz, C⟩ := by
    intro v hv
    cases hv with
    | imm h => cases h
    | refE _ _ _ _ h => exact absurd rfl h
    | ref0 _ z C k1 =>
      rw [hB] at k1
      cases k1
      exact .inl ⟨rfl, rfl, rfl⟩
    | ref _ _ _ b z cap C k1 k2 k3 =>
      rw [hB] at k1
      cases k1
      have l0 := (g4 b rfl).1
      simp only at l0
      subst l0
      have := k3 rfl
      subst this
      exact .inr ⟨b, cap, by rw [Nat.zero_mul], k2, rfl⟩
  rcases key _ h1 with ⟨hv, h0, hbn⟩ | ⟨b, C, hv, hnC, hBe⟩
  · subst h0
    refine fin (.slice none 0 0) none ⟨none, obj.sz, 0⟩ ?_ (fun b h => by cases h) (fun _ => g3 hbn) (fun b h => by cases h) (fun β' w' h => Rep.ref0 s.nx _ _ h)
    have := hsb 0 (Nat.le_refl 0)
    simp only [execOp, ho, Instr.sliceAt, Instr.slice, hv, h2', h3', Sem.run_bind, run_underlying ht, Result.andThen, Option.map_none, Option.map_some, this, x7 hsz, Sem.run_pure]
    rfl
  · subst hBe
    obtain ⟨_, _, _, arr, l1, l2, l3, l4, l5⟩ := g4 b rfl
    simp only at l2 l3 l4
    have hle : n * obj.sz ≤ arr.size := Nat.le_trans (Nat.mul_le_mul_right _ hnC) l2.le
    refine fin (.slice (some ⟨b, 0, none⟩) n n) (some b) ⟨some b, obj.sz, n⟩ ?_ (fun b' h => by cases h; exact ⟨q, obj, obj.sz, C, rfl, hob', hB⟩) (fun h => by cases h) (fun b' h => ?_) (fun β' w' h => ?_)
    · have := hsb C hnC
      have hadd : (if n = 0 then (some (⟨b, 0, none⟩ : Addr)) else some ⟨b, 0, none⟩) = some ⟨b, 0, none⟩ := ite_self _
      simp only [execOp, ho, Instr.sliceAt, Instr.slice, hv, h2', h3', Sem.run_bind, run_underlying ht, Result.andThen, Option.map_none, Option.map_some, this, x7 hsz, Sem.run_pure, Nat.zero_mul, add_addr, Nat.add_zero, Nat.sub_zero, hadd]
    · cases h
      exact ⟨rfl, .inl rfl, arr, l1, .inr ⟨hn, hle⟩, by simp only; omega, Nat.le_trans hnC l4, l5⟩
    · have := Rep.ref (I := I) (w := w') (β := β') s.nx 0 n b obj.sz n n h (Nat.le_refl n) (fun _ => rfl)
      show Rep I β' w' _ _
      simpa using this
end
end Go.Proofs.YtjeffognhcbiaaaGreatDoor

namespace Go.Proofs.YtjeffognhcbiaaaGreatDoor
open Go Go.RowKit

theorem fillL_all2 {R : Cell → Value → Prop} : ∀ (ps : List (Nat × List Cell)) (vs : List (Nat × List Value)) (cs : List Cell) (us : List Value), All2 R cs us → All2 (fun p v => p.1 = v.1 ∧ All2 R p.2 v.2) ps vs → All2 R (fillL cs ps) (fillL us vs)
  | [], _, _, _, h, .nil => h
  | (off, p) :: ps, _, cs, us, h, .cons (b := (off', v)) h1 h2 => by
    obtain ⟨h3, h4⟩ := h1
    simp only at h3 h4
    subst h3
    simp only [fillL]
    refine fillL_all2 ps _ _ _ (((h.take _).append h4).append ?_) h2
    rw [h4.length]
    exact h.drop _
theorem foldl_set (off : Nat) : ∀ (l : List Value) (k : Nat) (cells : Array Value), off + k + l.length ≤ cells.size →
    ((l.zipIdx k).foldl (fun cs p => cs.setIfInBounds (off + p.2) p.1) cells).toList = cells.toList.take (off + k) ++ l ++ cells.toList.drop (off + k + l.length)
  | [], k, cells, _ => by simp
  | c :: l, k, cells, h => by
    simp only [List.length_cons] at h
    rw [List.zipIdx_cons, List.foldl_cons, foldl_set off l (k + 1) _ (by simp; omega)]
    simp only [Array.toList_setIfInBounds, List.length_cons]
    have h1 : (cells.toList.set (off + k) c).take (off + (k + 1)) = cells.toList.take (off + k) ++ [c] := by
      apply List.ext_getElem?
      intro i
      rw [List.getElem?_take]
      by_cases hi : i < off + k
      · rw [if_pos (by omega), List.getElem?_set_ne (by omega), List.getElem?_append_left (by simp; omega), List.getElem?_take, if_pos hi]
      · have hl : (cells.toList.take (off + k)).length = off + k := by simp; omega
        rw [List.getElem?_append_right (by omega), hl]
        by_cases h2 : i = off + k
        · subst h2
          rw [if_pos (by omega), List.getElem?_set_self (by simp; omega)]
          simp
        · rw [if_neg (by omega), List.getElem?_eq_none (by simp; omega)]
    have h2 : (cells.toList.set (off + k) c).drop (off + (k + 1) + l.length) = cells.toList.drop (off + k + (l.length + 1)) := by
      rw [List.drop_set_of_lt (by omega)]
      congr 1
      omega
    rw [h1, h2]
    simp
theorem run_fill (place : Nat → Option (Nat × Nat)) : ∀ (parts : List (Nat × Value)) (ps : List (Nat × List Value)) (cells : Array Value),
    All2 (fun p q => ∃ sz, place p.1 = some (q.1, sz) ∧ p.2.cells.toList = q.2 ∧ q.2.length = sz ∧ q.1 + sz ≤ cells.size) parts ps → ∃ arr, Instr.fill place cells parts = some arr ∧ arr.toList = fillL cells.toList ps
  | [], _, cells, .nil => ⟨cells, rfl, rfl⟩
  | (i, v) :: parts, _, cells, .cons (b := (off, vs)) h1 h2 => by
    obtain ⟨sz, k1, k2, k3, k4⟩ := h1
    simp only at k1 k2 k3 k4
    have hsz : v.cells.size = sz := by rw [← k3, ← k2]; simp
    have hstep : (v.cells.zipIdx.foldl (fun cs (c, j) => cs.setIfInBounds (off + j) c) cells).toList = cells.toList.take off ++ vs ++ cells.toList.drop (off + vs.length) := by
      rw [← Array.foldl_toList, Array.toList_zipIdx, k2]
      have := foldl_set off vs 0 cells (by omega)
      simpa using this
    have hsize : (v.cells.zipIdx.foldl (fun cs (c, j) => cs.setIfInBounds (off + j) c) cells).size = cells.size := by
      rw [← Array.length_toList, hstep]
      simp only [List.length_append, List.length_take, List.length_drop, Array.length_toList]
      omega
    obtain ⟨arr, h3, h4⟩ := run_fill place parts _ _ (h2.mono fun p q ⟨sz', a1, a2, a3, a4⟩ => ⟨sz', a1, a2, a3, by rw [hsize]; exact a4⟩)
    refine ⟨arr, ?_, ?_⟩
    · simp only [Instr.fill, k1]
      rw [if_neg (by rw [hsz]; simp; omega)]
      exact h3
    · rw [h4, hstep, fillL]

def qJ (P : Program) (t : Nat) : Option (List (Nat × Nat)) :=
  match P.underlying t with
  | some (.struct fields) => fields.toList.mapM fun f => (P.info? f.type).map fun i => (f.offset, i.size)
  | _ => none
def kQ (s : AS) (places : List (Nat × Nat)) : List (Nat × Operand) → Option (List (Nat × List Cell))
  | [] => some []
  | (i, x) :: r => match places[i]?, cellsOf (opA s x), kQ s places r with
    | some (off, sz), some cs, some rest => if cs.length = sz then some ((off, cs) :: rest) else none
    | _, _, _ => none
def fitsB (n : Nat) (ps : List (Nat × List Cell)) : Bool := ps.all fun p => Nat.ble (p.1 + p.2.length) n

section
variable {P : Program} {E : Env} {ops : Array Oper} {o : Oper} {s : AS}
theorem mapM_places {fields : List Field} {pl : List (Nat × Nat)} (h : fields.mapM (fun f => (P.info? f.type).map fun i => (f.offset, i.size)) = some pl) (w : World) :
    (fields.mapM (fun f => do pure (f.offset, ← sizeOf f.type) : Field → Sem (Nat × Nat))).run P w = .ok pl w := by
  induction fields generalizing pl with
  | nil => simp at h; subst h; simp
  | cons f fs ih =>
    rw [List.mapM_cons] at h
    cases hi : P.info? f.type with
    | none => simp [hi] at h
    | some i =>
      cases hr : fs.mapM (fun f => (P.info? f.type).map fun i => (f.offset, i.size)) with
      | none => simp [hi, hr] at h
      | some pl' =>
        simp [hi, hr] at h
        subst h
        have hsz : (sizeOf f.type).run P w = .ok i.size w := by simp [sizeOf, typeInfo, hi]
        simp only [List.mapM_cons, Sem.run_bind, Sem.run_pure, Result.andThen, ih hr, hsz]
theorem partsC_rep {I : Nat → Prop} {β : Nat → Option BI} {a : Act} {w : World} {places : List (Nat × Nat)} {n : Nat} : ∀ {parts : List (Nat × Operand)} {ps : List (Nat × List Cell)}, kQ s places parts = some ps → fitsB n ps = true →
    (∀ x ∈ parts.map (·.2), RepV I β w (opA s x) (a.eval x)) →
    ∃ vs : List (Nat × List Value), All2 (fun p v => p.1 = v.1 ∧ All2 (Rep I β w) p.2 v.2) ps vs ∧
      ∀ (cells : Array Value), cells.size = n → All2 (fun (p : Nat × Value) (q : Nat × List Value) => ∃ sz, places.toArray[p.1]? = some (q.1, sz) ∧ p.2.cells.toList = q.2 ∧ q.2.length = sz ∧ q.1 + sz ≤ cells.size) (parts.map fun p => (p.1, a.eval p.2)) vs
  | [], ps, h, _, _ => by
    simp only [kQ, Option.some.injEq] at h
    subst h
    exact ⟨[], .nil, fun _ _ => .nil⟩
  | (i, x) :: r, ps, h, hf, hv => by
    simp only [kQ] at h
    split at h
    · rename_i off sz cs rest h1 h2 h3
      split at h
      · rename_i h4
        simp only [Option.some.injEq] at h
        subst h
        simp only [fitsB, List.all_cons, Bool.and_eq_true] at hf
        obtain ⟨vs, k1, k2⟩ := partsC_rep (a := a) h3 hf.2 (fun y hy => hv y (by simp at hy ⊢; exact .inr hy))
        have k3 := cellsOf_rep (hv x (by simp)) h2
        refine ⟨(off, (a.eval x).cells.toList) :: vs, .cons ⟨rfl, k3⟩ k1, fun cells hn => ?_⟩
        refine .cons ⟨sz, by simpa using h1, rfl, by rw [k3.length, h4], ?_⟩ (k2 cells hn)
        rw [hn, ← h4]
        exact Nat.le_of_ble_eq_true hf.1
      · cases h
    · cases h
theorem constL_rep {I : Nat → Prop} {β : Nat → Option BI} {w : World} : ∀ {zs : List Value}, zs.all (·.oneCell') = true → All2 (Rep I β w) (zs.map wL) zs
  | [], _ => .nil
  | z :: zs, h => by
    simp only [List.all_cons, Bool.and_eq_true] at h
    exact .cons (constC_rep h.1) (constL_rep h.2)
theorem StepOk.build {t : Nat} {parts : Array (Nat × Operand)} {zs : List Value} {pl : List (Nat × Nat)} {ps : List (Nat × List Cell)} (ho : o.op = .build t parts) (hw : Want E ops o s) (hd : xR o.dst E.n = true) (hop : parts.toList.all (fun p => opB p.2) = true)
    (hz : tyZero P t zs) (h1 : zs.all (·.oneCell') = true) (hpl : qJ P t = some pl) (hps : kQ s pl parts.toList = some ps) (hf : fitsB zs.length ps = true) :
    StepOk P E ops o s (xX o.dst (.agg (fillL (zs.map wL) ps))) ⟨o.looksAt ops, []⟩ := by
  refine StepOk.val hw hd ?_ fun N I s' β a w hopr _ _ => ?_
  · simp only [ho, Op.operands, List.all_eq_true, List.mem_map] at hop ⊢
    rintro x ⟨p, hp, rfl⟩
    exact hop p hp
  · obtain ⟨i, z, k1, k2, rfl⟩ := hz
    unfold qJ at hpl
    split at hpl
    · rename_i fields hu
      obtain ⟨vs, g1, g2⟩ := partsC_rep (I := I) (β := β) (a := a) (w := w) hps hf (fun x hx => hopr x (by simpa [ho, Op.operands] using hx))
      obtain ⟨arr, g3, g4⟩ := run_fill (pl.toArray[·]?) _ vs z.cells (g2 z.cells (by simp))
      refine ⟨.agg arr, ?_, RepV.agg.2 ⟨arr.toList, by simp, ?_⟩⟩
      · have hm : (fields.mapM (fun f => do pure (f.offset, ← sizeOf f.type) : Field → Sem (Nat × Nat))).run P w = .ok pl.toArray w := by
          rw [Array.mapM_eq_mapM_toList]
          simp only [Sem.run_map, mapM_places hpl w]
          rfl
        have hmap : (parts.map fun (i, x) => (i, a.eval x)).toList = parts.toList.map fun p => (p.1, a.eval p.2) := by simp
        simp only [execOp, ho, Instr.build, Sem.run_bind, run_zero k1 k2, Result.andThen, run_underlying hu, hm, hmap, g3, Sem.run_pure]
      · rw [g4]
        exact fillL_all2 ps vs _ _ (constL_rep h1) g1
    · cases hpl
end
end Go.Proofs.YtjeffognhcbiaaaGreatDoor

namespace Go.Proofs.YtjeffognhcbiaaaGreatDoor
open Go Go.RowKit
def qM (s : AS) (sz : Nat) : List (Nat × Operand) → List (List Cell) → Option (List (List Cell))
  | [], els => some els
  | (i, x) :: r, els => match cellsOf (opA s x) with
    | some cs => if cs.length = sz ∧ i < els.length then qM s sz r (els.set i cs) else none
    | none => none
theorem set_flatten : ∀ (els : List (List Cell)) (i sz : Nat) (cs : List Cell), (∀ x ∈ els, x.length = sz) → i < els.length → cs.length = sz →
    els.flatten.take (i * sz) ++ cs ++ els.flatten.drop (i * sz + cs.length) = (els.set i cs).flatten
  | [], i, sz, cs, _, h, _ => by simp at h
  | y :: ys, 0, sz, cs, h, _, hc => by
    have hy : y.length = sz := h y (by simp)
    simp only [Nat.zero_mul, List.take_zero, List.nil_append, Nat.zero_add, List.set_cons_zero, List.flatten_cons]
    rw [List.drop_append_of_le_length (by omega), List.drop_of_length_le (by omega), List.nil_append]
  | y :: ys, i + 1, sz, cs, h, hi, hc => by
    have hy : y.length = sz := h y (by simp)
    have ih := set_flatten ys i sz cs (fun x hx => h x (by simp [hx])) (by simpa using hi) hc
    simp only [List.set_cons_succ, List.flatten_cons]
    rw [← ih, Nat.add_mul, Nat.one_mul, List.take_append, List.drop_append, List.take_of_length_le (by omega), List.drop_of_length_le (by omega),
      show i * sz + sz - y.length = i * sz by omega, show i * sz + sz + cs.length - y.length = i * sz + cs.length by omega]
    simp [List.append_assoc]

section
variable {P : Program} {E : Env} {ops : Array Oper} {o : Oper} {s : AS}
theorem partsE_rep {I : Nat → Prop} {β : Nat → Option BI} {a : Act} {w : World} {sz n : Nat} (hszp : 0 < sz) : ∀ {parts : List (Nat × Operand)} {els els' : List (List Cell)}, qM s sz parts els = some els' → els.length = n → (∀ x ∈ els, x.length = sz) →
    (∀ x ∈ parts.map (·.2), RepV I β w (opA s x) (a.eval x)) →
    els'.length = n ∧ (∀ x ∈ els', x.length = sz) ∧ ∃ (ps : List (Nat × List Cell)) (vs : List (Nat × List Value)), All2 (fun p v => p.1 = v.1 ∧ All2 (Rep I β w) p.2 v.2) ps vs ∧ els'.flatten = fillL els.flatten ps ∧
      ∀ (cells : Array Value), cells.size = n * sz → All2 (fun (p : Nat × Value) (q : Nat × List Value) => ∃ z, some (p.1 * sz, sz) = some (q.1, z) ∧ p.2.cells.toList = q.2 ∧ q.2.length = z ∧ q.1 + z ≤ cells.size) (parts.map fun p => (p.1, a.eval p.2)) vs
  | [], els, els', h, hl, he, _ => by
    simp only [qM, Option.some.injEq] at h
    subst h
    exact ⟨hl, he, [], [], .nil, rfl, fun _ _ => .nil⟩
  | (i, x) :: r, els, els', h, hl, he, hv => by
    simp only [qM] at h
    split at h
    · rename_i cs hcs
      split at h
      · rename_i hc
        have k3 := cellsOf_rep (hv x (by simp)) hcs
        have he' : ∀ y ∈ els.set i cs, y.length = sz := by
          intro y hy
          rcases List.mem_or_eq_of_mem_set hy with h | h
          · exact he y h
          · rw [h]; exact hc.1
        obtain ⟨g1, g2, ps, vs, g3, g4, g5⟩ := partsE_rep (a := a) (n := n) hszp h (by rw [List.length_set]; exact hl) he' (fun y hy => hv y (by simp at hy ⊢; exact .inr hy))
        refine ⟨g1, g2, (i * sz, cs) :: ps, (i * sz, (a.eval x).cells.toList) :: vs, .cons ⟨rfl, k3⟩ g3, ?_, fun cells hn => .cons ⟨sz, rfl, rfl, by rw [k3.length, hc.1], ?_⟩ (g5 cells hn)⟩
        · rw [g4, fillL, set_flatten els i sz cs he hc.2 hc.1]
        · have : (i + 1) * sz ≤ n * sz := Nat.mul_le_mul_right _ (by omega)
          rw [Nat.add_mul, Nat.one_mul] at this
          simp only
          omega
      · cases h
    · cases h
theorem made_all2 {I : Nat → Prop} {β : Nat → Option BI} {w : World} {z : Value} {sz n : Nat} (hsz : z.cells.size = sz) (hp : 0 < sz) (h1 : z.cells.toList.all (·.oneCell') = true) :
    All2 (Rep I β w) (List.replicate n (z.cells.toList.map wL)).flatten ((Array.range (n * sz)).map (z.cells[· % z.cells.size]!)).toList := by
  have hlen : ∀ x ∈ List.replicate n (z.cells.toList.map wL), x.length = sz := by
    intro x hx
    rw [(List.mem_replicate.1 hx).2]
    simp [hsz]
  obtain ⟨f1, f2⟩ := flat_at _ sz hlen
  have hz := constL_rep (I := I) (β := β) (w := w) h1
  refine All2.of_at ?_ fun j c v hj hv => ?_
  · rw [f1]; simp
  · have hjl : j < n * sz := by
      have := (List.getElem?_eq_some_iff.1 hj).1
      rw [f1] at this
      simpa using this
    have hd' : j / sz < n := (Nat.div_lt_iff_lt_mul hp).2 hjl
    have hm2 : j % sz < sz := Nat.mod_lt _ hp
    have e1 : j / sz * sz + j % sz = j := by rw [Nat.mul_comm]; exact Nat.div_add_mod j sz
    have h2 := f2 (j / sz) (j % sz) (z.cells.toList.map wL) (by simp [hd']) hm2
    rw [e1, hj] at h2
    obtain ⟨u, hu, hru⟩ := hz.at h2.symm
    have hv' : v = z.cells[j % z.cells.size]! := by
      have h3 : ((Array.range (n * sz)).map (z.cells[· % z.cells.size]!)).toList[j]? = some (z.cells[j % z.cells.size]!) := by
        simp [hjl]
      rw [h3] at hv
      simpa using hv.symm
    have hu' : u = z.cells[j % z.cells.size]! := by
      rw [hsz]
      have h3 : j % sz < z.cells.size := by omega
      rw [Array.getElem?_toList, Array.getElem?_eq_getElem h3] at hu
      rw [getElem!_pos z.cells _ h3]
      simpa using hu.symm
    rw [hv', ← hu']
    exact hru
theorem at_of_flat {I : Nat → Prop} {β : Nat → Option BI} {w : World} {els : List (List Cell)} {sz : Nat} {arr : Array Value} (he : ∀ x ∈ els, x.length = sz) (h : All2 (Rep I β w) els.flatten arr.toList) :
    ∀ (i j : Nat) x c, els[i]? = some x → x[j]? = some c → ∃ u, arr[i * sz + j]? = some u ∧ Rep I β w c u := by
  intro i j x c hi hj
  have hjl : j < sz := by have := he x (List.mem_of_getElem? hi); have := (List.getElem?_eq_some_iff.1 hj).1; omega
  obtain ⟨u, hu, hru⟩ := h.at (by rw [(flat_at els sz he).2 i j x hi hjl]; exact hj)
  exact ⟨u, by simpa using hu, hru⟩

theorem StepOk.buildSlice {t e sz bytes n : Nat} {parts : Array (Nat × Operand)} {zs : List Value} {els : List (List Cell)} (ho : o.op = .buildSlice t n parts) (hw : Want E ops o s) (hd : xR o.dst E.n = true) (hop : parts.toList.all (fun p => opB p.2) = true)
    (hm : Nat.ble E.m s.nx = true) (ht : tyElem P t e sz bytes) (hz : tyZero P e zs) (h1 : zs.all (·.oneCell') = true) (hn : Nat.ble (n * sz) 16777216 = true) (hps : qM s sz parts.toList (List.replicate n (zs.map wL)) = some els) :
    StepOk P E ops o s (kY o.dst (.c (.ref s.nx 0 n)) s.nx ⟨e, sz, els⟩) ⟨o.looksAt ops, []⟩ := by
  obtain ⟨ti, z, t1, t2, t3, t4, t5, t6, t7⟩ := ht
  obtain ⟨ti', z', k1, k2, rfl⟩ := hz
  rw [t2] at k1
  cases k1
  rw [t3] at k2
  cases k2
  have hn' : n * sz ≤ 16777216 := Nat.le_of_ble_eq_true hn
  have hzl : ∀ x ∈ List.replicate n (z.cells.toList.map wL), x.length = sz := by
    intro x hx
    rw [(List.mem_replicate.1 hx).2]
    simp [t6]
  have hall : ∀ {I : Nat → Prop} {β : Nat → Option BI} {a : Act} {w : World}, (∀ y ∈ o.op.operands.toList, RepV I β w (opA s y) (a.eval y)) → (∀ x ∈ parts.toList.map (·.2), RepV I β w (opA s x) (a.eval x)) := fun h x hx => h x (by simpa [ho, Op.operands] using hx)
  have hstat : els.length = n ∧ ∀ x ∈ els, x.length = sz := by
    have : ∀ {parts : List (Nat × Operand)} {e0 els : List (List Cell)}, qM s sz parts e0 = some els → e0.length = n → (∀ x ∈ e0, x.length = sz) → els.length = n ∧ ∀ x ∈ els, x.length = sz := by
      intro parts
      induction parts with
      | nil => intro e0 els h h2 h3; simp only [qM, Option.some.injEq] at h; subst h; exact ⟨h2, h3⟩
      | cons p r ih =>
        obtain ⟨i, x⟩ := p
        intro e0 els h h2 h3
        simp only [qM] at h
        split at h
        · split at h
          · rename_i hc
            refine ih h (by rw [List.length_set]; exact h2) fun y hy => ?_
            rcases List.mem_or_eq_of_mem_set hy with h | h
            · exact h3 y h
            · rw [h]; exact hc.1
          · cases h
        · cases h
    exact this hps (by simp) hzl
  refine StepOk.fresh hw hd ?_ hm hstat.2 fun N I s' β a w hopr _ _ => ?_
  · simp only [ho, Op.operands, List.all_eq_true, List.mem_map] at hop ⊢
    rintro x ⟨p, hp, rfl⟩
    exact hop p hp
  · obtain ⟨g1, g2, ps, vs, g3, g4, g5⟩ := partsE_rep (I := I) (β := β) (a := a) (w := w) (n := n) t7 hps (by simp) hzl (hall hopr)
    have hmade := made_all2 (I := I) (β := β) (w := w) (n := n) t6 t7 h1
    obtain ⟨arr, f1, f2⟩ := run_fill (fun i => some (i * sz, sz)) _ vs ((Array.range (n * sz)).map (z.cells[· % z.cells.size]!)) (g5 _ (by simp))
    have hflat : All2 (Rep I β w) els.flatten arr.toList := by
      rw [g4, f2]
      exact fillL_all2 ps vs _ _ hmade g3
    have harr : arr.size = n * sz := by
      have := hflat.length
      rw [(flat_at els sz g2).1, g1] at this
      simpa using this
    refine ⟨arr, n, .slice (some ⟨w.heap.size, 0, none⟩) n n, ?_, harr, by simp only; omega, ?_, at_of_flat g2 hflat, fun β' w' h => ?_⟩
    · have hmap : (parts.map fun (i, x) => (i, a.eval x)).toList = parts.toList.map fun p => (p.1, a.eval p.2) := by simp
      have hbig : ¬ n * sz > 2 ^ 24 := by omega
      by_cases h0 : n * sz = 0
      · have hcells : (Array.range (n * sz)).map (fun x => (#[] : Array Value)[x % (#[] : Array Value).size]!) = (Array.range (n * sz)).map (z.cells[· % z.cells.size]!) := by
          apply Array.ext'
          rw [h0]
          simp
        simp only [execOp, ho, Instr.buildSlice, Sem.run_bind, run_underlying t1, Result.andThen, x7 ⟨ti, t2, t4⟩, if_neg hbig, if_pos h0, Sem.run_pure, hcells, hmap, f1]
        rfl
      · simp only [execOp, ho, Instr.buildSlice, Sem.run_bind, run_underlying t1, Result.andThen, x7 ⟨ti, t2, t4⟩, if_neg hbig, if_neg h0, Sem.run_pure, run_zero t2 t3, hmap, f1]
        rfl
    · have : n ≤ n * sz := Nat.le_mul_of_pos_right n t7
      simp only [maxLen]
      omega
    · have := Rep.ref (I := I) (w := w') (β := β') s.nx 0 n _ _ _ _ h (Nat.le_refl n) (fun _ => rfl)
      show Rep I β' w' _ _
      simpa using this
theorem StepOk.makeSlice {x y : Operand} {t e sz bytes : Nat} {k k' : IntKind} {zx zy : Int} {n : Nat} {zs : List Value} (ho : o.op = .makeSlice t x y) (hw : Want E ops o s) (hd : xR o.dst E.n = true) (hxb : (opB x && opB y) = true)
    (hm : Nat.ble E.m s.nx = true) (ht : tyElem P t e sz bytes) (hz : tyZero P e zs) (h1 : zs.all (·.oneCell') = true) (hx : opA s x = .c (.v (.int k zx))) (hy : opA s y = .c (.v (.int k' zy))) (hnx : zx = (n : Int)) (hny : zy = (n : Int))
    (hb : bytes * n ≤ 281474976710656) (hl : n ≤ maxLen) :
    StepOk P E ops o s (kY o.dst (.c (.ref s.nx 0 n)) s.nx ⟨e, sz, List.replicate n (zs.map wL)⟩) ⟨o.looksAt ops, []⟩ := by
  obtain ⟨ti, z, t1, t2, t3, t4, t5, t6, t7⟩ := ht
  obtain ⟨ti', z', k1, k2, rfl⟩ := hz
  rw [t2] at k1
  cases k1
  rw [t3] at k2
  cases k2
  subst hnx
  subst hny
  simp only [Bool.and_eq_true] at hxb
  have hzl : ∀ x ∈ List.replicate n (z.cells.toList.map wL), x.length = sz := by
    intro x hx
    rw [(List.mem_replicate.1 hx).2]
    simp [t6]
  refine StepOk.fresh hw hd (by simp [ho, Op.operands, hxb]) hm hzl fun N I s' β a w hopr _ _ => ?_
  have h2 := hopr x (by simp [ho, Op.operands])
  have h3 := hopr y (by simp [ho, Op.operands])
  rw [hx] at h2
  rw [hy] at h3
  have hmade := made_all2 (I := I) (β := β) (w := w) (n := n) t6 t7 h1
  refine ⟨madeCells z.cells (n * sz), n, .slice (some ⟨w.heap.size, 0, none⟩) n n, ?_, by simp [size_madeCells], by simp, hl, at_of_flat hzl (by unfold madeCells; exact hmade), fun β' w' h => ?_⟩
  · have hrun := run_make (P := P) w t e ti z t1 t2 t3 k k' n n (by omega) (by omega) (by rw [t5, ← Int.natCast_mul]; have h := hb; generalize bytes * n = q at h ⊢; omega) (by simp only [maxLen] at hl; omega)
    simp only [Int.toNat_natCast, t4] at hrun
    simp only [execOp, ho, x8 h2, x8 h3, Sem.run_bind, hrun]
    rfl
  · have := Rep.ref (I := I) (w := w') (β := β') s.nx 0 n _ _ _ _ h (Nat.le_refl n) (fun _ => rfl)
    show Rep I β' w' _ _
    simpa using this

theorem StepOk.sliceSl {x : Operand} {low high : Option Operand} {t e sz lo hi : Nat} {xs : List (List Cell)} (ho : o.op = .slice t x low high none) (hw : Want E ops o s) (hd : xR o.dst E.n = true) (hxb : opB x = true)
    (ht : P.underlying t = some (.slice e)) (hsz : vJ P e sz) (hxs : ∀ x ∈ xs, x.length = sz) (hx : opA s x = .c (.sl xs)) (hl : kH s 0 low lo) (hh : kH s xs.length high hi) (h1 : lo ≤ hi) (h2 : hi ≤ xs.length) :
    StepOk P E ops o s (xX o.dst (.c (.sl ((xs.drop lo).take (hi - lo))))) ⟨o.looksAt ops, []⟩ := by
  refine StepOk.val hw hd (by have := opts_all (s := s) hxb hl hh; rw [ho]; exact this) fun N I s' β a w hop _ _ => ?_
  have h3 := hop x (by simp [ho, Op.operands])
  rw [hx] at h3
  have key : ∀ v, Rep I β w (.sl xs) v → ∃ A cap, v = .slice A xs.length cap ∧ xs.length ≤ cap ∧ RepI I w (.sl ((xs.drop lo).take (hi - lo))) (.slice (if cap = lo then A else A.map (·.add (lo * sz))) (hi - lo) (cap - lo)) := by
    intro v hv
    cases hv with
    | imm h =>
      cases h with
      | sl0 A cap =>
        refine ⟨A, cap, rfl, Nat.zero_le _, ?_⟩
        simp only [List.length_nil] at h2
        have : hi - lo = 0 := by omega
        rw [this]
        exact .sl0 _ _
      | sl _ b p z n cap u g1 g2 g3 g4 g5 g6 =>
        refine ⟨_, cap, by rw [g1], by omega, ?_⟩
        by_cases he : hi - lo = 0
        · rw [he, List.take_zero]; exact .sl0 _ _
        · have hz : z = sz := by
            have h0 : 0 < xs.length := by omega
            have := g3 xs[0] (List.getElem_mem h0)
            rw [← this]
            exact hxs _ (List.getElem_mem h0)
          subst hz
          have hne : cap ≠ lo := by omega
          rw [if_neg hne]
          simp only [Option.map_some, add_addr]
          have hat : ∀ (i : Nat) (x : List Cell), ((xs.drop lo).take (hi - lo))[i]? = some x → xs[lo + i]? = some x := by
            intro i x hx
            rw [List.getElem?_take] at hx
            split at hx
            · rwa [List.getElem?_drop] at hx
            · cases hx
          refine .sl _ b (p + lo * z) z (hi - lo) (cap - lo) (fun i j => u (lo + i) j) (by simp; omega) (by omega) (fun x hx => ?_) g4 (fun i j x c hx hj => ?_) (fun i j x c hx hj => g6 _ j x c (hat i x hx) hj)
          · exact g3 x (List.mem_of_mem_drop (List.mem_of_mem_take hx))
          · have := g5 (lo + i) j x c (hat i x hx) hj
            rw [← this]
            congr 2
            rw [Nat.add_mul]
            omega
  obtain ⟨A, cap, hv, hc, hrep⟩ := key _ h3
  have hsb := run_sliceBounds (P := P) (s := s) (I := I) (β := β) (w := w) (a := a) rfl true xs.length cap lo hi low high hl hh (fun y hy => hop y (by rw [ho]; exact opts_mem.1 hy)) (fun y hy => hop y (by rw [ho]; exact opts_mem.2 hy)) h1 (by omega)
  refine ⟨_, ?_, Rep.imm hrep⟩
  simp only [execOp, ho, Instr.sliceAt, Instr.slice, hv, Sem.run_bind, run_underlying ht, Result.andThen, hsb, x7 hsz, Option.map_none, Sem.run_pure]
theorem StepOk.sliceRef {x : Operand} {low high : Option Operand} {t e lo hi q off n : Nat} {obj : AObj} (ho : o.op = .slice t x low high none) (hw : Want E ops o s) (hd : xR o.dst E.n = true) (hxb : opB x = true)
    (ht : P.underlying t = some (.slice e)) (hx : opA s x = .c (.ref q off n)) (hob : s.obj q = some obj) (hsz : vJ P e obj.sz) (hl : kH s 0 low lo) (hh : kH s n high hi) (h1 : lo ≤ hi) (h2 : hi ≤ n) :
    StepOk P E ops o s (xX o.dst (.c (.ref q (off + lo) (hi - lo)))) ⟨o.looksAt ops, [q]⟩ := by
  refine StepOk.val hw hd (by have := opts_all (s := s) hxb hl hh; rw [ho]; exact this) fun N I s' β a w hop hobs hr => ?_
  have h3 := hop x (by simp [ho, Op.operands])
  rw [hx] at h3
  obtain ⟨B, hB, g2, g3, g4⟩ := hr.obs q obj ((hobs q (by simp)).trans hob)
  have key : ∀ v, Rep I β w (.ref q off n) v → ∃ A cap, v = .slice A n cap ∧ n ≤ cap ∧ Rep I β w (.ref q (off + lo) (hi - lo)) (.slice (if cap = lo then A else A.map (·.add (lo * obj.sz))) (hi - lo) (cap - lo)) := by
    intro v hv
    cases hv with
    | imm h => cases h
    | ref _ _ _ b z cap C k1 k2 k3 =>
      refine ⟨_, cap, rfl, k2, ?_⟩
      rw [hB] at k1
      cases k1
      have l0 := (g4 b rfl).1
      simp only at l0
      subst l0
      by_cases hc : cap = lo
      · rw [if_pos hc]
        have hz : hi - lo = 0 := by omega
        rw [hz]
        by_cases h0 : off + lo = 0
        · have e1 : off = 0 := by omega
          have e2 : lo = 0 := by omega
          subst e1; subst e2
          have := Rep.ref (I := I) (w := w) (β := β) q 0 0 b obj.sz cap C hB (Nat.zero_le _) (fun _ => k3 rfl)
          simpa using this
        · exact .refE q (off + lo) _ _ h0
      · rw [if_neg hc]
        simp only [Option.map_some, add_addr]
        have hcap : off + lo = 0 → cap - lo = C := by
          intro h
          have e1 : off = 0 := by omega
          have := k3 e1
          omega
        have := Rep.ref (I := I) (w := w) (β := β) q (off + lo) (hi - lo) b obj.sz (cap - lo) C hB (by omega) hcap
        rwa [Nat.add_mul] at this
    | refE _ _ A cap k1 =>
      refine ⟨A, cap, rfl, Nat.zero_le _, ?_⟩
      have hz : hi - lo = 0 := by omega
      rw [hz]
      exact .refE q (off + lo) _ _ (by omega)
    | ref0 _ z C k1 =>
      refine ⟨none, 0, rfl, Nat.le_refl _, ?_⟩
      have e1 : lo = 0 := by omega
      have e2 : hi = 0 := by omega
      subst e1; subst e2
      exact .ref0 q z C k1
  obtain ⟨A, cap, hv, hc, hrep⟩ := key _ h3
  have hsb := run_sliceBounds (P := P) (s := s) (I := I) (β := β) (w := w) (a := a) rfl true n cap lo hi low high hl hh (fun y hy => hop y (by rw [ho]; exact opts_mem.1 hy)) (fun y hy => hop y (by rw [ho]; exact opts_mem.2 hy)) h1 (by omega)
  refine ⟨_, ?_, hrep⟩
  simp only [execOp, ho, Instr.sliceAt, Instr.slice, hv, Sem.run_bind, run_underlying ht, Result.andThen, hsb, x7 hsz, Option.map_none, Sem.run_pure]
theorem StepOk.makeFunc {f : Nat} {captured : Array Operand} {caps : List Cell} (ho : o.op = .makeFunc (.func f) #[] captured) (hw : Want E ops o s) (hd : xR o.dst E.n = true) (hcb : captured.toList.all opB = true)
    (hc : captured.toList.map (opA s) = caps.map AVal.c) : StepOk P E ops o s (xX o.dst (.c (.fn f caps))) ⟨o.looksAt ops, []⟩ := by
  refine StepOk.val hw hd (by simpa [ho, Op.operands] using hcb) fun N I s' β a w hop _ _ => ?_
  have hlen : captured.toList.length = caps.length := by have := congrArg List.length hc; simpa using this
  have hlen' : captured.size = caps.length := by simpa using hlen
  refine ⟨.func (.func f) #[] (captured.toList.map a.eval).toArray, ?_, Rep.fn f caps _ (fun j => (captured.toList.map a.eval).getD j undef) (by simpa using hlen) (fun j c hj => ?_) (fun j c hj => ?_)⟩
  · have : captured.map a.eval = (captured.toList.map a.eval).toArray := by apply Array.ext'; simp
    have h0 : (#[] : Array Operand).map a.eval = #[] := by simp
    simp only [execOp, ho, Instr.makeFunc, this, h0, Sem.run_bind, Sem.run_pure, Result.andThen]
  · have hjl : j < caps.length := (List.getElem?_eq_some_iff.1 hj).1
    rw [List.getElem?_eq_getElem (by simp; omega), List.getD_eq_getElem?_getD, List.getElem?_eq_getElem (by simp; omega)]
    rfl
  · have hjl : j < caps.length := (List.getElem?_eq_some_iff.1 hj).1
    have hjc : j < captured.toList.length := by omega
    have h1 : (captured.toList.map (opA s))[j]? = (caps.map AVal.c)[j]? := by rw [hc]
    rw [List.getElem?_map, List.getElem?_map, hj, List.getElem?_eq_getElem hjc] at h1
    simp only [Option.map_some, Option.some.injEq] at h1
    have h2 := hop captured.toList[j] (by simp [ho, Op.operands])
    rw [h1] at h2
    rw [List.getD_eq_getElem?_getD, List.getElem?_map, List.getElem?_eq_getElem hjc]
    exact h2
theorem StepOk.conv {src dst : Nat} {x : Operand} {p v : Value} (ho : o.op = .convert src dst x) (hw : Want E ops o s) (hd : xR o.dst E.n = true) (hxb : opB x = true)
    (hx : opA s x = .c (.v p)) (hv : v.oneCell' = true) (h : ∀ w : World, (convert src dst p).run P w = .ok v w) : StepOk P E ops o s (xX o.dst (.c (.v v))) ⟨o.looksAt ops, []⟩ := by
  refine StepOk.val hw hd (by simp [ho, Op.operands, hxb]) fun N I s' β a w hop _ _ => ?_
  have h1 := hop x (by simp [ho, Op.operands])
  rw [hx] at h1
  refine ⟨v, ?_, Rep.imm (.v v hv)⟩
  simp only [execOp, ho, x8 h1]
  rw [Sem.run_bind, h w]
  rfl
end
end Go.Proofs.YtjeffognhcbiaaaGreatDoor

namespace Go.Proofs.YtjeffognhcbiaaaGreatDoor
open Go Go.RowKit

mutual
inductive VC (s : AS) (V : List Nat) : Cell → Cell → Prop
  | imm {c : Cell} : Imm c → VC s V c c
  | nil : VC s V .nil (.sl [])
  | ref {q off n : Nat} {obj : AObj} {xs : List (List Cell)} : q ∈ V → s.obj q = some obj → off + n ≤ obj.els.length → (obj.els.drop off).take n = xs → (∀ x ∈ obj.els, ∀ c ∈ x, Imm c) → VC s V (.ref q off n) (.sl xs)
  | ptr {q i f : Nat} {obj : AObj} {el cs : List Cell} : q ∈ V → s.obj q = some obj → obj.els[i]? = some el → el.drop f = cs → (∀ c ∈ el, Imm c) → VC s V (.ptr q i f) (.ip cs)
  | fn {f : Nat} {caps caps' : List Cell} : VCs s V caps caps' → VC s V (.fn f caps) (.fn f caps')
inductive VCs (s : AS) (V : List Nat) : List Cell → List Cell → Prop
  | nil : VCs s V [] []
  | cons {c c' : Cell} {cs cs' : List Cell} : VC s V c c' → VCs s V cs cs' → VCs s V (c :: cs) (c' :: cs')
end
inductive VA (s : AS) (V : List Nat) : AVal → AVal → Prop
  | c {x y : Cell} : VC s V x y → VA s V (.c x) (.c y)
  | agg {xs ys : List Cell} : VCs s V xs ys → VA s V (.agg xs) (.agg ys)
inductive VAs (s : AS) (V : List Nat) : List AVal → List AVal → Prop
  | nil : VAs s V [] []
  | cons {c c' : AVal} {cs cs' : List AVal} : VA s V c c' → VAs s V cs cs' → VAs s V (c :: cs) (c' :: cs')
def lent (I : Nat → Prop) (β : Nat → Option BI) (V : List Nat) (b : Nat) : Prop := I b ∨ ∃ q B, q ∈ V ∧ β q = some B ∧ B.blk = some b
section
variable {E : Env} {N I : Nat → Prop} {s s' : AS} {β : Nat → Option BI} {a : Act} {w : World} {V : List Nat}
theorem RepI.lent {c : Cell} {v : Value} (h : RepI I w c v) : RepI (lent I β V) w c v := h.mono (fun _ h => .inl h) (fun _ _ => rfl)
theorem VC.rep (hr : Rel E N I s' β a w) (hag : ∀ q ∈ V, s'.obj q = s.obj q) {c c' : Cell} (h : VC s V c c') : ∀ v, Rep I β w c v → RepI (lent I β V) w c' v := by
  refine VC.rec (motive_1 := fun c c' _ => ∀ v, Rep I β w c v → RepI (Go.Proofs.YtjeffognhcbiaaaGreatDoor.lent I β V) w c' v)
    (motive_2 := fun cs cs' _ => cs'.length = cs.length ∧ ∀ (j : Nat) c', cs'[j]? = some c' → ∃ c, cs[j]? = some c ∧ ∀ v, Rep I β w c v → RepI (Go.Proofs.YtjeffognhcbiaaaGreatDoor.lent I β V) w c' v) ?_ ?_ ?_ ?_ ?_ ?_ ?_ h
  · intro c hi v hv
    exact (hi I β w v hv).lent
  · intro v hv
    cases hv with
    | imm h => cases h; exact .sl0 _ _
  · intro q off n obj xs hq ho hl hxs hi v hv
    obtain ⟨B, hB, g2, g3, g4⟩ := hr.obs q obj ((hag q hq).trans ho)
    have hempty : n = 0 → xs = [] := fun h => by rw [← hxs, h, List.take_zero]
    cases hv with
    | imm h => cases h
    | refE _ _ A cap _ => rw [hempty rfl]; exact .sl0 _ _
    | ref0 _ z C _ => rw [hempty rfl]; exact .sl0 _ _
    | ref _ _ _ b z cap C k1 k2 k3 =>
      rw [hB] at k1
      cases k1
      obtain ⟨l0, _, _, arr, l1, l2, l3, l4, l5⟩ := g4 b rfl
      simp only at l0
      subst l0
      have hat : ∀ (i : Nat) x, xs[i]? = some x → obj.els[off + i]? = some x := by
        intro i x hx
        rw [← hxs, List.getElem?_take] at hx
        split at hx
        · rwa [List.getElem?_drop] at hx
        · cases hx
      have key : ∀ (i j : Nat) x c, xs[i]? = some x → x[j]? = some c → w.cell? ⟨b, off * obj.sz + i * obj.sz + j, none⟩ = some (arr.getD ((off + i) * obj.sz + j) undef) ∧ RepI (Go.Proofs.YtjeffognhcbiaaaGreatDoor.lent I β V) w c (arr.getD ((off + i) * obj.sz + j) undef) := by
        intro i j x c hx hj
        obtain ⟨u, hu, hru⟩ := l5 (off + i) j x c (hat i x hx) hj
        have hd : arr.getD ((off + i) * obj.sz + j) undef = u := by rw [Array.getD_eq_getD_getElem?, hu]; rfl
        rw [hd]
        refine ⟨?_, (hi x (List.mem_of_getElem? (hat i x hx)) c (List.mem_of_getElem? hj) _ _ _ _ hru).lent⟩
        rw [cell_of_row w b _ arr _ _ l1, ← hu, Nat.add_mul]
      refine .sl xs b (off * obj.sz) obj.sz n cap (fun i j => arr.getD ((off + i) * obj.sz + j) undef) ?_ k2 (fun x hx => ?_) (.inr ⟨q, _, hq, hB, rfl⟩) (fun i j x c hx hj => (key i j x c hx hj).1) (fun i j x c hx hj => (key i j x c hx hj).2)
      · rw [← hxs]; simp only [List.length_take, List.length_drop]; omega
      · rw [← hxs] at hx
        exact g2 x (List.mem_of_mem_drop (List.mem_of_mem_take hx))
  · intro q i f obj el cs hq ho hel hcs hi v hv
    obtain ⟨B, hB, g2, g3, g4⟩ := hr.obs q obj ((hag q hq).trans ho)
    obtain ⟨b, z, C, k1, rfl⟩ := qX hv
    rw [hB] at k1
    cases k1
    obtain ⟨l0, _, _, arr, l1, l2, l3, l4, l5⟩ := g4 b rfl
    simp only at l0
    subst l0
    have key : ∀ (j : Nat) c, cs[j]? = some c → w.cell? ⟨b, i * obj.sz + f + j, none⟩ = some (arr.getD (i * obj.sz + (f + j)) undef) ∧ RepI (Go.Proofs.YtjeffognhcbiaaaGreatDoor.lent I β V) w c (arr.getD (i * obj.sz + (f + j)) undef) := by
      intro j c hj
      rw [← hcs, List.getElem?_drop] at hj
      obtain ⟨u, hu, hru⟩ := l5 i (f + j) el c hel hj
      have hd : arr.getD (i * obj.sz + (f + j)) undef = u := by rw [Array.getD_eq_getD_getElem?, hu]; rfl
      rw [hd]
      refine ⟨?_, (hi c (List.mem_of_getElem? hj) _ _ _ _ hru).lent⟩
      rw [cell_of_row w b _ arr _ _ l1, ← hu, Nat.add_assoc]
    exact .ip cs b _ (fun j => arr.getD (i * obj.sz + (f + j)) undef) (.inr ⟨q, _, hq, hB, rfl⟩) (fun j c hj => (key j c hj).1) (fun j c hj => (key j c hj).2)
  · intro f caps caps' _ ih v hv
    obtain ⟨k1, k2⟩ := ih
    cases hv with
    | imm h =>
      cases h with
      | fn _ _ vals u h1 h2 h3 =>
        refine .fn f caps' vals u (by rw [h1, k1]) (fun j c' hj => ?_) (fun j c' hj => ?_)
        · obtain ⟨c, e, _⟩ := k2 j c' hj; exact h2 j c e
        · obtain ⟨c, e, hc⟩ := k2 j c' hj; exact hc _ (.imm (h3 j c e))
    | fn _ _ vals u h1 h2 h3 =>
      refine .fn f caps' vals u (by rw [h1, k1]) (fun j c' hj => ?_) (fun j c' hj => ?_)
      · obtain ⟨c, e, _⟩ := k2 j c' hj; exact h2 j c e
      · obtain ⟨c, e, hc⟩ := k2 j c' hj; exact hc _ (h3 j c e)
  · exact ⟨rfl, fun j c' h => by simp at h⟩
  · intro c c' cs cs' _ _ ih1 ih2
    refine ⟨by simp [ih2.1], fun j x hj => ?_⟩
    cases j with
    | zero => simp at hj; subst hj; exact ⟨c, rfl, ih1⟩
    | succ j => simpa using ih2.2 j x (by simpa using hj)
theorem VCs.rep (hr : Rel E N I s' β a w) (hag : ∀ q ∈ V, s'.obj q = s.obj q) : ∀ {cs cs' : List Cell} {vs : List Value}, VCs s V cs cs' → All2 (Rep I β w) cs vs → All2 (RepI (lent I β V) w) cs' vs
  | _, _, _, .nil, .nil => .nil
  | _, _, _, .cons h hs, .cons k ks => .cons (h.rep hr hag _ k) (VCs.rep hr hag hs ks)
theorem VA.rep (hr : Rel E N I s' β a w) (hag : ∀ q ∈ V, s'.obj q = s.obj q) {x y : AVal} (h : VA s V x y) {v : Value} (hv : RepV I β w x v) : RepF (lent I β V) (fun _ => none) w y v := by
  cases h with
  | c h => exact Rep.imm (h.rep hr hag _ hv)
  | agg h =>
    obtain ⟨vals, rfl, h2⟩ := RepV.agg.1 hv
    exact ⟨vals, rfl, (h.rep hr hag h2).mono fun _ _ h => .imm h⟩
mutual
def shC (k : Nat) : Cell → Cell
  | .ref q off n => .ref (k + q) off n
  | .ptr q i f => .ptr (k + q) i f
  | .fn f caps => .fn f (shL k caps)
  | c => c
def shL (k : Nat) : List Cell → List Cell
  | [] => []
  | c :: cs => shC k c :: shL k cs
end
def shF (k : Nat) : AVal → AVal
  | .c x => .c (shC k x)
  | .agg xs => .agg (shL k xs)
  | x => x
def shV (k : Nat) : AVal → AVal
  | .tup xs => .tup (xs.map (shF k))
  | x => shF k x
theorem shL_at (k : Nat) : ∀ (cs : List Cell), (shL k cs).length = cs.length ∧ ∀ (j : Nat) c', (shL k cs)[j]? = some c' → ∃ c, cs[j]? = some c ∧ c' = shC k c
  | [] => ⟨rfl, fun j c' h => by simp [shL] at h⟩
  | c :: cs => by
    obtain ⟨h1, h2⟩ := shL_at k cs
    refine ⟨by simp [shL, h1], fun j c' hj => ?_⟩
    rw [shL] at hj
    cases j with
    | zero => simp at hj; subst hj; exact ⟨c, rfl, rfl⟩
    | succ j => simpa using h2 j c' (by simpa using hj)
theorem sh_rep {β' : Nat → Option BI} {k : Nat} (hβ : ∀ o B, β o = some B → β' (k + o) = some B) {c : Cell} {v : Value} (h : Rep I β w c v) : Rep I β' w (shC k c) v := by
  have himm : ∀ {c : Cell} {v : Value}, RepI I w c v → Rep I β' w (shC k c) v := by
    intro c v h
    induction h with
    | v x h => exact .imm (.v x h)
    | nil => exact .imm .nil
    | sl0 A cap => exact .imm (.sl0 A cap)
    | sl xs b o sz n cap u h1 h2 h3 h4 h5 h6 _ => exact .imm (.sl xs b o sz n cap u h1 h2 h3 h4 h5 h6)
    | ip cs b o u h1 h2 h3 _ => exact .imm (.ip cs b o u h1 h2 h3)
    | fn f caps vals u h1 h2 _ ih =>
      obtain ⟨k1, k2⟩ := shL_at k caps
      refine .fn f (shL k caps) vals u (by rw [h1, k1]) (fun j c' hj => ?_) (fun j c' hj => ?_)
      · obtain ⟨c, e, _⟩ := k2 j c' hj; exact h2 j c e
      · obtain ⟨c, e, rfl⟩ := k2 j c' hj; exact ih j c e
  induction h with
  | imm h => exact himm h
  | ref o off n b sz cap C h1 h2 h3 => exact .ref _ off n b sz cap C (hβ _ _ h1) h2 h3
  | refE o off A cap h => exact .refE _ off A cap h
  | ref0 o sz C h => exact .ref0 _ sz C (hβ _ _ h)
  | ptr o i f b sz C h => exact .ptr _ i f b sz C (hβ _ _ h)
  | fn f caps vals u h1 h2 _ ih =>
    obtain ⟨k1, k2⟩ := shL_at k caps
    refine .fn f (shL k caps) vals u (by rw [h1, k1]) (fun j c' hj => ?_) (fun j c' hj => ?_)
    · obtain ⟨c, e, _⟩ := k2 j c' hj; exact h2 j c e
    · obtain ⟨c, e, rfl⟩ := k2 j c' hj; exact ih j c e
  | dead x h => exact .dead x h
theorem shL_rep {β' : Nat → Option BI} {k : Nat} (hβ : ∀ o B, β o = some B → β' (k + o) = some B) : ∀ {cs : List Cell} {vs : List Value}, All2 (Rep I β w) cs vs → All2 (Rep I β' w) (shL k cs) vs
  | _, _, .nil => .nil
  | _, _, .cons h hs => .cons (sh_rep hβ h) (shL_rep hβ hs)
theorem shF_rep {β' : Nat → Option BI} {k : Nat} (hβ : ∀ o B, β o = some B → β' (k + o) = some B) {x : AVal} {v : Value} (h : RepF I β w x v) : RepF I β' w (shF k x) v := by
  cases x with
  | c x => exact sh_rep hβ h
  | agg xs => obtain ⟨vals, rfl, h⟩ := h; exact ⟨vals, rfl, shL_rep hβ h⟩
  | tup xs => exact h
  | any => trivial
theorem shV_rep {β' : Nat → Option BI} {k : Nat} (hβ : ∀ o B, β o = some B → β' (k + o) = some B) {x : AVal} {v : Value} (h : RepV I β w x v) : RepV I β' w (shV k x) v := by
  cases x with
  | tup xs =>
    obtain ⟨vals, rfl, g⟩ := RepV.tup.1 h
    refine RepV.tup.2 ⟨vals, rfl, ?_⟩
    clear h
    induction g with
    | nil => exact .nil
    | cons h _ ih => exact .cons (shF_rep hβ h) ih
  | c x => exact sh_rep hβ h
  | agg xs => obtain ⟨vals, rfl, g⟩ := RepV.agg.1 h; exact RepV.agg.2 ⟨vals, rfl, shL_rep hβ g⟩
  | any => trivial
def Flat (c : Cell) : Prop := ∀ I I' β w v, Rep I β w c v → Rep I' β w c v
theorem Flat.v (x : Value) : Flat (.v x) := fun _ _ _ _ _ h => by cases h with | imm h => cases h with | v _ h => exact .imm (.v _ h)
theorem Flat.nil : Flat .nil := fun _ _ _ _ _ h => by cases h with | imm h => cases h; exact .imm .nil
theorem Flat.ref (q off n : Nat) : Flat (.ref q off n) := fun _ _ _ _ _ h => by
  cases h with
  | imm h => cases h
  | ref _ _ _ b sz cap C h1 h2 h3 => exact .ref _ off n b sz cap C h1 h2 h3
  | refE _ _ A cap h => exact .refE _ off A cap h
  | ref0 _ sz C h => exact .ref0 _ sz C h
def FlatCs : List Cell → Prop
  | [] => True
  | c :: cs => Flat c ∧ FlatCs cs
theorem FlatCs.all : ∀ {cs : List Cell}, FlatCs cs → ∀ c ∈ cs, Flat c
  | [], _, c, hc => by simp at hc
  | x :: xs, h, c, hc => by
    rcases List.mem_cons.1 hc with rfl | hc
    · exact h.1
    · exact FlatCs.all h.2 c hc
def FlatF : AVal → Prop
  | .c x => Flat x
  | .agg xs => FlatCs xs
  | .any => True
  | .tup _ => False
def FlatFs : List AVal → Prop
  | [] => True
  | x :: xs => FlatF x ∧ FlatFs xs
def kV : AVal → Prop
  | .tup xs => FlatFs xs
  | x => FlatF x
def AllSc (els : List (List Cell)) : Prop := ∀ x ∈ els, ∀ c ∈ x, Imm c ∧ Flat c
def frOk : List AObj → Prop
  | [] => True
  | o :: r => AllSc o.els ∧ frOk r
theorem frOk.all : ∀ {fr : List AObj}, frOk fr → ∀ obj ∈ fr, ∀ x ∈ obj.els, ∀ c ∈ x, Imm c ∧ Flat c
  | [], _, o, ho => by simp at ho
  | x :: xs, h, o, ho => by
    rcases List.mem_cons.1 ho with rfl | ho
    · exact h.1
    · exact frOk.all h.2 o ho
theorem AllSc.map {α : Type} {f : α → List Cell} (h : ∀ a, ∀ c ∈ f a, Imm c ∧ Flat c) (xs : List α) : AllSc (xs.map f) := by
  intro x hx
  obtain ⟨a, _, rfl⟩ := List.mem_map.1 hx
  exact h a
theorem AllSc.nil : AllSc [] := fun x hx => by simp at hx
theorem AllSc.append {a b : List (List Cell)} (h : AllSc a) (k : AllSc b) : AllSc (a ++ b) := fun x hx => (List.mem_append.1 hx).elim (h x) (k x)
theorem AllSc.imm {els : List (List Cell)} (h : AllSc els) : ∀ x ∈ els, ∀ c ∈ x, Imm c := fun x hx c hc => (h x hx c hc).1
theorem cgI {a b : Int} (h : a = b) : Value.int .i64 a = Value.int .i64 b := congrArg _ h
theorem oRi {p q : Prop} {α : Type} {a : α} (h : q) : p ∨ (a = a ∧ q) := .inr ⟨rfl, h⟩
theorem oLi {q : Prop} {α : Type} {a : α} : (a = a ∧ True) ∨ q := .inl ⟨rfl, trivial⟩
theorem oWs {ρ : Ren} {s : AS} {o : Nat} {obj obj' : AObj} (h : s.obj o = some obj) (h1 : obj.ty = obj'.ty) (h2 : obj.sz = obj'.sz) (h3 : obj.els = obj'.els) (h4 : ∀ x ∈ obj'.els, ∀ c ∈ x, Imm c) : ∃ q, s.obj o = some q ∧ q.ty = obj'.ty ∧ q.sz = obj'.sz ∧ OW ρ q.els obj'.els := ⟨obj, h, h1, h2, .same h3 h4⟩
theorem aIm {els : List (List Cell)} (h : AllSc els) : ∀ x ∈ els, ∀ c ∈ x, Imm c := fun x hx c hc => (h x hx c hc).1
theorem zF {q n : Nat} {obj : AObj} (hq : q ∈ V) (ho : s.obj q = some obj) (hn : n = obj.els.length) (hi : ∀ x ∈ obj.els, ∀ c ∈ x, Imm c) : VC s V (.ref q 0 n) (.sl obj.els) :=
  .ref hq ho (by omega) (by rw [List.drop_zero, hn, List.take_length]) hi
theorem flatL_rep {I' : Nat → Prop} : ∀ {cs : List Cell} {vs : List Value}, (∀ x ∈ cs, Flat x) → All2 (Rep I β w) cs vs → All2 (Rep I' β w) cs vs
  | _, _, _, .nil => .nil
  | _, _, h, .cons k ks => .cons (h _ (by simp) _ _ _ _ _ k) (flatL_rep (fun x hx => h x (by simp [hx])) ks)
theorem flatF_rep {I' : Nat → Prop} {x : AVal} {v : Value} (hf : FlatF x) (h : RepF I β w x v) : RepF I' β w x v := by
  cases x with
  | c x => exact hf _ _ _ _ _ h
  | agg xs => obtain ⟨vals, rfl, g⟩ := h; exact ⟨vals, rfl, flatL_rep hf.all g⟩
  | any => trivial
  | tup _ => exact hf.elim
theorem flatV_rep {I' : Nat → Prop} {x : AVal} {v : Value} (hf : kV x) (h : RepV I β w x v) : RepV I' β w x v := by
  cases x with
  | c x => exact flatF_rep (x := .c x) hf h
  | agg xs => exact flatF_rep (x := .agg xs) hf h
  | any => trivial
  | tup xs =>
    obtain ⟨vals, rfl, g⟩ := RepV.tup.1 h
    refine RepV.tup.2 ⟨vals, rfl, ?_⟩
    simp only [kV] at hf
    clear h
    induction g with
    | nil => exact .nil
    | cons h _ ih =>
      simp only [FlatFs] at hf
      exact .cons (flatF_rep hf.1 h) (ih hf.2)
end
end Go.Proofs.YtjeffognhcbiaaaGreatDoor

namespace Go.Proofs.YtjeffognhcbiaaaGreatDoor
open Go Go.RowKit

def callU (d : Option Nat) (r : AVal) (nx : Nat) (fr : List AObj) : Upd := ⟨match d with | some t => [(t, shV nx r)] | none => [], vQ nx (fr.map some), fr.length⟩

section
variable {P : Program} {E : Env} {ops : Array Oper} {o : Oper} {s : AS}
theorem Rel.called {N I I' : Nat → Prop} {s' : AS} {β β' : Nat → Option BI} {a : Act} {w w' : World} {nx : Nat} {r : AVal} {fr : List AObj} {v : Value} {d : Option Nat} (hr : Rel E N I s' β a w) (hnx : ∀ i, i < fr.length → ¬ N (nx + i)) (hm : E.m ≤ nx) (hd : xR d E.n = true)
    (hk : Keeps (fun _ => False) w w') (hdom : ∀ o B, β' o = some B → o < fr.length) (hobs : ∀ (o : Nat) obj, fr[o]? = some obj → ObjAt I' β' w' (fun b => w.heap.size ≤ b) o obj) (hinj : InjO β' (fr.map some))
    (hfr : ∀ obj ∈ fr, ∀ x ∈ obj.els, ∀ c ∈ x, Imm c ∧ Flat c) (hv : RepV I β' w' r v) :
    ∃ β2, Rel E (fun o => N o ∨ (nx ≤ o ∧ o < nx + fr.length)) I (s'.upd (callU d r nx fr)) β2 (a.put d v) w' := by
  have hβn : ∀ i, i < fr.length → β (nx + i) = none := fun i hi => by
    cases h : β (nx + i) with
    | none => rfl
    | some B => exact absurd (hr.nam _ B h) (hnx i hi)
  let β2 : Nat → Option BI := fun o => match β o with | some B => some B | none => if nx ≤ o then β' (o - nx) else none
  have hext : Ext β β2 := fun q B h => by simp [β2, h]
  have hsh : ∀ o B, β' o = some B → β2 (nx + o) = some B := fun o B h => by
    have h1 := hβn o (hdom o B h)
    simp [β2, h1, h]
  have hold : ∀ q B, β2 q = some B → β q = some B ∨ (β q = none ∧ nx ≤ q ∧ β' (q - nx) = some B) := fun q B h => by
    simp only [β2] at h
    cases hq : β q with
    | some B' => rw [hq] at h; exact .inl h
    | none =>
      rw [hq] at h
      simp only at h
      split at h
      · rename_i hle
        exact .inr ⟨rfl, hle, h⟩
      · cases h
  have hw : ∀ b, b < w.heap.size → w'.heap[b]? = w.heap[b]? := fun b hb => hk.block b hb (fun h => h)
  have hwI : ∀ b, I b → w'.heap[b]? = w.heap[b]? := fun b hb => hw b (hr.imm b hb)
  let u0 : Upd := ⟨[], vQ nx (fr.map some), fr.length⟩
  have hsome : ∀ q obj, (s'.upd u0).obj q = some obj → (nx ≤ q ∧ fr[q - nx]? = some obj) ∨ ((q < nx ∨ nx + fr.length ≤ q) ∧ s'.obj q = some obj) := fun q obj h => by
    by_cases hin : nx ≤ q ∧ q < nx + fr.length
    · have hq : fr[q - nx]? = some (fr[q - nx]'(by omega)) := List.getElem?_eq_getElem (by omega)
      rw [AS.obj_some (x := some (fr[q - nx]'(by omega))) (by
        show lk q (vQ nx (fr.map some)) = _
        rw [lk_enum, if_pos hin.1, List.getElem?_map, hq]
        rfl)] at h
      exact .inl ⟨hin.1, by rw [hq]; exact h⟩
    · rw [AS.obj_none (by
        show lk q (vQ nx (fr.map some)) = _
        rw [lk_enum]
        split
        · rw [List.getElem?_eq_none (by simp; omega)]
        · rfl)] at h
      exact .inr ⟨by omega, h⟩
  have hnewβ : ∀ q obj B, nx ≤ q → fr[q - nx]? = some obj → β2 q = some B → β' (q - nx) = some B := fun q obj B hq hf h => by
    have hl : q - nx < fr.length := (List.getElem?_eq_some_iff.1 hf).1
    rcases hold q B h with h1 | ⟨_, _, h1⟩
    · have := hβn (q - nx) hl
      rw [show nx + (q - nx) = q by omega, h1] at this
      cases this
    · exact h1
  have holdβ : ∀ q obj B, s'.obj q = some obj → (q < nx ∨ nx + fr.length ≤ q) → β2 q = some B → β q = some B := fun q obj B ho hq h => by
    rcases hold q B h with h1 | ⟨_, h2, h1⟩
    · exact h1
    · have := hdom _ B h1
      omega
  have h1 : Rel E (fun o => N o ∨ (nx ≤ o ∧ o < nx + fr.length)) I (s'.upd u0) β2 a w' := by
    refine hr.change hext (fun q B h => ?_) (fun _ h => h) hwI (fun t => zG rfl) (fun q obj h => ?_) (fun q q' obj1 obj2 B1 B2 b g1 g2 hne e1 e2 hb hb' => ?_)
      (hr.old.trans (M' := fun _ => False) hk (fun _ _ h => h.elim)) (fun b hb => Nat.lt_of_lt_of_le (hr.imm b hb) hk.size) hr.gro (fun q hq => ?_)
    · rcases hold q B h with h1 | ⟨_, h2, h1⟩
      · exact .inl (hr.nam q B h1)
      · have := hdom _ B h1
        exact .inr (by omega)
    · rcases hsome q obj h with ⟨hq, hf⟩ | ⟨hq, ho⟩
      · right
        obtain ⟨B, hB, g2, g3, g4⟩ := hobs _ obj hf
        refine ⟨B, ?_, g2, g3, fun b hb => ?_⟩
        · have := hsh _ B hB
          rwa [show nx + (q - nx) = q by omega] at this
        · obtain ⟨k0, k1, k2, arr, k3, k4, k5, k6, k7⟩ := g4 b hb
          refine ⟨k0, .inr (Nat.le_trans hr.old.size k1), fun h => absurd (hr.imm b h) (by omega), arr, k3, k4, k5, k6, fun i j x c hx hj => ?_⟩
          obtain ⟨u, hu, hru⟩ := k7 i j x c hx hj
          obtain ⟨f1, f2⟩ := hfr obj (List.mem_of_getElem? hf) x (List.mem_of_getElem? hx) c (List.mem_of_getElem? hj)
          exact ⟨u, hu, .imm (f1 _ _ _ _ (f2 _ I _ _ _ hru))⟩
      · exact .inl ⟨ho, fun B b hB hb => by
          obtain ⟨k1, _, k3⟩ := (hr.obs q obj ho).lt hB hb
          exact ⟨k3, hw b k1⟩⟩
    · have hlow : ∀ q obj B b, s'.obj q = some obj → β q = some B → B.blk = some b → b < w.heap.size := fun q obj B b ho hB hb => ((hr.obs q obj ho).lt hB hb).1
      have hhigh : ∀ q obj B b, fr[q]? = some obj → β' q = some B → B.blk = some b → w.heap.size ≤ b := fun q obj B b ho hB hb => ((hobs q obj ho).lt hB hb).2.1
      rcases hsome q obj1 g1 with ⟨n1, f1⟩ | ⟨n1, f1⟩
      · have e1' := hnewβ q obj1 B1 n1 f1 e1
        rcases hsome q' obj2 g2 with ⟨n2, f2⟩ | ⟨n2, f2⟩
        · have e2' := hnewβ q' obj2 B2 n2 f2 e2
          exact hinj (q - nx) (q' - nx) obj1 obj2 B1 B2 b (by simp [f1]) (by simp [f2]) (by omega) e1' e2' hb hb'
        · have e2' := holdβ q' obj2 B2 f2 n2 e2
          have l1 := hhigh _ obj1 B1 b f1 e1' hb
          have l2 := hlow _ obj2 B2 b f2 e2' hb'
          omega
      · have e1' := holdβ q obj1 B1 f1 n1 e1
        rcases hsome q' obj2 g2 with ⟨n2, f2⟩ | ⟨n2, f2⟩
        · have e2' := hnewβ q' obj2 B2 n2 f2 e2
          have l1 := hhigh _ obj2 B2 b f2 e2' hb'
          have l2 := hlow _ obj1 B1 b f1 e1' hb
          omega
        · have e2' := holdβ q' obj2 B2 f2 n2 e2
          exact hr.inj q q' obj1 obj2 B1 B2 b f1 f2 hne e1' e2' hb hb'
    · rw [← hr.ext q hq]
      simp only [β2]
      cases β q with
      | some B => rfl
      | none => simp only; rw [if_neg (by omega)]
  have h2 := h1.put (shV_rep hsh hv) (u := xX d (shV nx r)) (d := d) rfl rfl (kL hd)
  refine ⟨β2, h2.congr (fun t => ?_) (fun q => ?_)⟩
  · cases d <;> rfl
  · rfl
theorem VAs.rep {N I : Nat → Prop} {s' : AS} {β : Nat → Option BI} {a : Act} {w : World} {V : List Nat} (hr : Rel E N I s' β a w) (hag : ∀ q ∈ V, s'.obj q = s.obj q) : ∀ {xs : List Operand} {ys : List AVal}, VAs s V (xs.map (opA s)) ys → (∀ x ∈ xs, RepV I β w (opA s x) (a.eval x)) →
    All2 (RepF (lent I β V) (fun _ => none) w) ys (xs.map a.eval)
  | [], _, .nil, _ => .nil
  | x :: xs, _, .cons h hs, hv => .cons (h.rep hr hag (hv x (by simp))) (VAs.rep hr hag hs fun y hy => hv y (by simp [hy]))
theorem run_call {fo : Operand} {args : Array Operand} {ats : Array TypeId} {g : Nat} {cv : List Value} {a : Act} {w : World} (ho : o.op = .call { callee := .value fo, args := args, argTypes := ats }) (hf : a.eval fo = .func (.func g) #[] cv.toArray) (hg : FnOk P g) :
    (execOp a.eval o).run P w = .ok (.enter g (args.toList.map a.eval ++ cv).toArray) w := by
  obtain ⟨fn, h1, h2, h3⟩ := hg
  have h4 : ¬ fn.name = "runtime.NumGoroutine" := by simpa using h2
  have h5 : ¬ fn.body = none := by intro e; rw [e] at h3; cases h3
  have e : (#[] : Array Value) ++ args.map a.eval ++ cv.toArray = (args.toList.map a.eval ++ cv).toArray := by apply Array.ext'; simp
  simp only [execOp, ho, resolve, Deferred.ofValue, hf, invoke, Sem.run_bind, Sem.run_pure, Result.andThen, e]
  simp [callFunc, h1, h4, h5]
theorem rep_fn {I : Nat → Prop} {β : Nat → Option BI} {w : World} {f : Nat} {caps : List Cell} {v : Value} (h : Rep I β w (.fn f caps) v) : ∃ vals : List Value, v = .func (.func f) #[] vals.toArray ∧ All2 (Rep I β w) caps vals := by
  cases h with
  | imm h =>
    cases h with
    | fn _ _ vals u h1 h2 h3 =>
      refine ⟨vals, rfl, All2.of_at h1 fun i c v hc hv => ?_⟩
      rw [h2 i c hc] at hv
      cases hv
      exact .imm (h3 i c hc)
  | fn _ _ vals u h1 h2 h3 =>
    refine ⟨vals, rfl, All2.of_at h1 fun i c v hc hv => ?_⟩
    rw [h2 i c hc] at hv
    cases hv
    exact h3 i c hc
theorem All2.map_c {I : Nat → Prop} {w : World} : ∀ {cs : List Cell} {vs : List Value}, All2 (RepI I w) cs vs → All2 (RepF I (fun _ => none) w) (cs.map AVal.c) vs
  | _, _, .nil => .nil
  | _, _, .cons h hs => .cons (Rep.imm h) (All2.map_c hs)

theorem StepOk.call {fo : Operand} {args : Array Operand} {ats : Array TypeId} {g : Nat} {caps caps' : List Cell} {as' : List AVal} {fr : List AObj} {r : AVal} (V : List Nat) (ho : o.op = .call { callee := .value fo, args := args, argTypes := ats })
    (hw : Want E ops o s) (hd : xR o.dst E.n = true) (hop : (opB fo && args.toList.all opB) = true) (hm : Nat.ble E.m s.nx = true) (hV : V.all (fun q => (s.obj q).isSome) = true)
    (hf : opA s fo = .c (.fn g caps)) (hargs : VAs s V (args.toList.map (opA s)) as') (hcaps : VCs s V caps caps') (h : PF P g (as' ++ caps'.map AVal.c) fr r) (hrf : kV r) (hfr : ∀ obj ∈ fr, ∀ x ∈ obj.els, ∀ c ∈ x, Imm c ∧ Flat c) :
    StepOk P E ops o s (callU o.dst r s.nx fr) ⟨o.looksAt ops, V⟩ := by
  intro N I s' β a w hag hnm hr Q
  simp only [Bool.and_eq_true, List.all_eq_true] at hop
  rw [hw.wanted hr hag, if_pos rfl]
  have hagV : ∀ q ∈ V, s'.obj q = s.obj q := fun q hq => hag.2 q hq
  have hmem : ∀ x ∈ args.toList, x ∈ o.op.operands.toList := fun x hx => by simp [ho, Op.operands, Call.operands, Array.mem_toList_iff.1 hx]
  have h1 := vA hr fo hop.1
  rw [wO hag (by simp [ho, Op.operands, Call.operands]), hf] at h1
  obtain ⟨cv, hcv, hcr⟩ := rep_fn (show Rep I β w _ _ from h1)
  have hav := VAs.rep hr hagV hargs fun x hx => by
    have := vA hr x (hop.2 x hx)
    rwa [wO hag (hmem x hx)] at this
  have hall := hav.append (VCs.rep hr hagV hcaps hcr).map_c
  have hI : ∀ b, lent I β V b → b < w.heap.size := fun b hb => by
    rcases hb with hb | ⟨q, B, hq, hB, hb⟩
    · exact hr.imm b hb
    · have hl := List.all_eq_true.1 hV q hq
      rw [← hagV q hq] at hl
      cases ho' : s'.obj q with
      | some obj => exact ((hr.obs q obj ho').lt hB hb).1
      | none => rw [ho'] at hl; cases hl
  have hc := h.run (lent I β V) (fun _ => none) w _ hI (hr.gi.mono (fun _ _ h => .inl h) fun _ _ _ => rfl) (fun o B e => by cases e) (fun o obj e => by simp at e) (fun o o' obj obj' B B' b e => by simp at e) hall
  unfold Oper.wp
  rw [run_call ho hcv h.ok, Oper.upon_enter]
  refine hc.mono fun e w' ⟨v, I', β', he, hv, hk, hI', hgr, hdom, _, hobs, hinj⟩ => ?_
  subst he
  have hk' : Keeps (fun _ => False) w w' := ⟨hk.os, hk.tape, hk.output, hk.size, fun k hk1 hk2 => hk.block k hk1 (fun ⟨o, B, h1, _⟩ => absurd h1 (Nat.not_lt_zero _))⟩
  have hdom' : ∀ o B, β' o = some B → o < fr.length := fun o B h => by have := hdom o B h; simpa using this
  obtain ⟨β2, hr2⟩ := hr.called (d := o.dst) (fun i hi => hnm i hi) (Nat.le_of_ble_eq_true hm) hd hk' hdom' (fun o obj ho => (hobs o obj (by simp [ho])).mayMono fun b hb => hb.elim (fun ⟨o, B, h1, _⟩ => absurd h1 (Nat.not_lt_zero _)) id) hinj hfr (flatV_rep hrf hv)
  exact ⟨I, β2, hr2⟩
end
end Go.Proofs.YtjeffognhcbiaaaGreatDoor

namespace Go.Proofs.YtjeffognhcbiaaaGreatDoor
open Go Go.RowKit
def nm (μ : List Nat) (nx i : Nat) : Nat := match μ[i]? with | some q => q | none => nx + (i - μ.length)
mutual
def reC (μ : List Nat) (nx : Nat) : Cell → Cell
  | .ref q off n => .ref (nm μ nx q) off n
  | .ptr q i f => .ptr (nm μ nx q) i f
  | .fn f caps => .fn f (reL μ nx caps)
  | c => c
def reL (μ : List Nat) (nx : Nat) : List Cell → List Cell
  | [] => []
  | c :: cs => reC μ nx c :: reL μ nx cs
end
def reF (μ : List Nat) (nx : Nat) : AVal → AVal
  | .c x => .c (reC μ nx x)
  | .agg xs => .agg (reL μ nx xs)
  | x => x
def reV (μ : List Nat) (nx : Nat) : AVal → AVal
  | .tup xs => .tup (xs.map (reF μ nx))
  | x => reF μ nx x
theorem reL_at (μ : List Nat) (nx : Nat) : ∀ (cs : List Cell), (reL μ nx cs).length = cs.length ∧ ∀ (j : Nat) c', (reL μ nx cs)[j]? = some c' → ∃ c, cs[j]? = some c ∧ c' = reC μ nx c
  | [] => ⟨rfl, fun j c' h => by simp [reL] at h⟩
  | c :: cs => by
    obtain ⟨h1, h2⟩ := reL_at μ nx cs
    refine ⟨by simp [reL, h1], fun j c' hj => ?_⟩
    rw [reL] at hj
    cases j with
    | zero => simp at hj; subst hj; exact ⟨c, rfl, rfl⟩
    | succ j => simpa using h2 j c' (by simpa using hj)
section
variable {E : Env} {N I : Nat → Prop} {s s' : AS} {β β' : Nat → Option BI} {a : Act} {w : World} {V μ : List Nat} {nx : Nat}
theorem re_rep (hβ : ∀ o B, β o = some B → β' (nm μ nx o) = some B) {c : Cell} {v : Value} (h : Rep I β w c v) : Rep I β' w (reC μ nx c) v := by
  have himm : ∀ {c : Cell} {v : Value}, RepI I w c v → Rep I β' w (reC μ nx c) v := by
    intro c v h
    induction h with
    | v x h => exact .imm (.v x h)
    | nil => exact .imm .nil
    | sl0 A cap => exact .imm (.sl0 A cap)
    | sl xs b o sz n cap u h1 h2 h3 h4 h5 h6 _ => exact .imm (.sl xs b o sz n cap u h1 h2 h3 h4 h5 h6)
    | ip cs b o u h1 h2 h3 _ => exact .imm (.ip cs b o u h1 h2 h3)
    | fn f caps vals u h1 h2 _ ih =>
      obtain ⟨k1, k2⟩ := reL_at μ nx caps
      refine .fn f (reL μ nx caps) vals u (by rw [h1, k1]) (fun j c' hj => ?_) (fun j c' hj => ?_)
      · obtain ⟨c, e, _⟩ := k2 j c' hj; exact h2 j c e
      · obtain ⟨c, e, rfl⟩ := k2 j c' hj; exact ih j c e
  induction h with
  | imm h => exact himm h
  | ref o off n b sz cap C h1 h2 h3 => exact .ref _ off n b sz cap C (hβ _ _ h1) h2 h3
  | refE o off A cap h => exact .refE _ off A cap h
  | ref0 o sz C h => exact .ref0 _ sz C (hβ _ _ h)
  | ptr o i f b sz C h => exact .ptr _ i f b sz C (hβ _ _ h)
  | fn f caps vals u h1 h2 _ ih =>
    obtain ⟨k1, k2⟩ := reL_at μ nx caps
    refine .fn f (reL μ nx caps) vals u (by rw [h1, k1]) (fun j c' hj => ?_) (fun j c' hj => ?_)
    · obtain ⟨c, e, _⟩ := k2 j c' hj; exact h2 j c e
    · obtain ⟨c, e, rfl⟩ := k2 j c' hj; exact ih j c e
  | dead x h => exact .dead x h
theorem reL_rep (hβ : ∀ o B, β o = some B → β' (nm μ nx o) = some B) : ∀ {cs : List Cell} {vs : List Value}, All2 (Rep I β w) cs vs → All2 (Rep I β' w) (reL μ nx cs) vs
  | _, _, .nil => .nil
  | _, _, .cons h hs => .cons (re_rep hβ h) (reL_rep hβ hs)
theorem reF_rep (hβ : ∀ o B, β o = some B → β' (nm μ nx o) = some B) {x : AVal} {v : Value} (h : RepF I β w x v) : RepF I β' w (reF μ nx x) v := by
  cases x with
  | c x => exact re_rep hβ h
  | agg xs => obtain ⟨vals, rfl, h⟩ := h; exact ⟨vals, rfl, reL_rep hβ h⟩
  | tup xs => exact h
  | any => trivial
theorem reV_rep (hβ : ∀ o B, β o = some B → β' (nm μ nx o) = some B) {x : AVal} {v : Value} (h : RepV I β w x v) : RepV I β' w (reV μ nx x) v := by
  cases x with
  | tup xs =>
    obtain ⟨vals, rfl, g⟩ := RepV.tup.1 h
    refine RepV.tup.2 ⟨vals, rfl, ?_⟩
    clear h
    induction g with
    | nil => exact .nil
    | cons h _ ih => exact .cons (reF_rep hβ h) ih
  | c x => exact re_rep hβ h
  | agg xs => obtain ⟨vals, rfl, g⟩ := RepV.agg.1 h; exact RepV.agg.2 ⟨vals, rfl, reL_rep hβ g⟩
  | any => trivial

mutual
inductive MC (s : AS) (V μ : List Nat) : Cell → Cell → Prop
  | vc {c c' : Cell} : VC s V c c' → MC s V μ c c'
  | ref {q i off n : Nat} : μ[i]? = some q → MC s V μ (.ref q off n) (.ref i off n)
  | ptr {q k i f : Nat} : μ[k]? = some q → MC s V μ (.ptr q i f) (.ptr k i f)
  | fn {f : Nat} {caps caps' : List Cell} : MCs s V μ caps caps' → MC s V μ (.fn f caps) (.fn f caps')
inductive MCs (s : AS) (V μ : List Nat) : List Cell → List Cell → Prop
  | nil : MCs s V μ [] []
  | cons {c c' : Cell} {cs cs' : List Cell} : MC s V μ c c' → MCs s V μ cs cs' → MCs s V μ (c :: cs) (c' :: cs')
end
inductive MA (s : AS) (V μ : List Nat) : AVal → AVal → Prop
  | c {x y : Cell} : MC s V μ x y → MA s V μ (.c x) (.c y)
  | agg {xs ys : List Cell} : MCs s V μ xs ys → MA s V μ (.agg xs) (.agg ys)
inductive MAs (s : AS) (V μ : List Nat) : List AVal → List AVal → Prop
  | nil : MAs s V μ [] []
  | cons {c c' : AVal} {cs cs' : List AVal} : MA s V μ c c' → MAs s V μ cs cs' → MAs s V μ (c :: cs) (c' :: cs')
def inβ (β : Nat → Option BI) (μ : List Nat) (i : Nat) : Option BI := match μ[i]? with | some q => β q | none => none
theorem MC.rep (hr : Rel E N I s' β a w) (hag : ∀ q ∈ V, s'.obj q = s.obj q) {c c' : Cell} (h : MC s V μ c c') : ∀ v, Rep I β w c v → Rep (lent I β V) (inβ β μ) w c' v := by
  have hl : ∀ {c v}, RepI I w c v → RepI (lent I β V) w c v := fun h => h.lent
  refine MC.rec (motive_1 := fun c c' _ => ∀ v, Rep I β w c v → Rep (Go.Proofs.YtjeffognhcbiaaaGreatDoor.lent I β V) (inβ β μ) w c' v)
    (motive_2 := fun cs cs' _ => cs'.length = cs.length ∧ ∀ (j : Nat) c', cs'[j]? = some c' → ∃ c, cs[j]? = some c ∧ ∀ v, Rep I β w c v → Rep (Go.Proofs.YtjeffognhcbiaaaGreatDoor.lent I β V) (inβ β μ) w c' v) ?_ ?_ ?_ ?_ ?_ ?_ h
  · intro c c' h v hv
    exact .imm (h.rep hr hag v hv)
  · intro q i off n hq v hv
    cases hv with
    | imm h => cases h
    | ref _ _ _ b sz cap C h1 h2 h3 => exact .ref i off n b sz cap C (by simp only [inβ, hq]; exact h1) h2 h3
    | refE _ _ A cap h => exact .refE i off A cap h
    | ref0 _ sz C h => exact .ref0 i sz C (by simp only [inβ, hq]; exact h)
  · intro q k i f hq v hv
    cases hv with
    | imm h => cases h
    | ptr _ _ _ b sz C h => exact .ptr k i f b sz C (by simp only [inβ, hq]; exact h)
  · intro f caps caps' _ ih v hv
    obtain ⟨k1, k2⟩ := ih
    cases hv with
    | imm h =>
      cases h with
      | fn _ _ vals u h1 h2 h3 =>
        refine .fn f caps' vals u (by rw [h1, k1]) (fun j c' hj => ?_) (fun j c' hj => ?_)
        · obtain ⟨c, e, _⟩ := k2 j c' hj; exact h2 j c e
        · obtain ⟨c, e, hc⟩ := k2 j c' hj; exact hc _ (.imm (h3 j c e))
    | fn _ _ vals u h1 h2 h3 =>
      refine .fn f caps' vals u (by rw [h1, k1]) (fun j c' hj => ?_) (fun j c' hj => ?_)
      · obtain ⟨c, e, _⟩ := k2 j c' hj; exact h2 j c e
      · obtain ⟨c, e, hc⟩ := k2 j c' hj; exact hc _ (h3 j c e)
  · exact ⟨rfl, fun j c' h => by simp at h⟩
  · intro c c' cs cs' _ _ ih1 ih2
    refine ⟨by simp [ih2.1], fun j x hj => ?_⟩
    cases j with
    | zero => simp at hj; subst hj; exact ⟨c, rfl, ih1⟩
    | succ j => simpa using ih2.2 j x (by simpa using hj)
theorem MCs.rep (hr : Rel E N I s' β a w) (hag : ∀ q ∈ V, s'.obj q = s.obj q) : ∀ {cs cs' : List Cell} {vs : List Value}, MCs s V μ cs cs' → All2 (Rep I β w) cs vs → All2 (Rep (lent I β V) (inβ β μ) w) cs' vs
  | _, _, _, .nil, .nil => .nil
  | _, _, _, .cons h hs, .cons k ks => .cons (h.rep hr hag _ k) (MCs.rep hr hag hs ks)
theorem MA.rep (hr : Rel E N I s' β a w) (hag : ∀ q ∈ V, s'.obj q = s.obj q) {x y : AVal} (h : MA s V μ x y) {v : Value} (hv : RepV I β w x v) : RepF (lent I β V) (inβ β μ) w y v := by
  cases h with
  | c h => exact h.rep hr hag _ hv
  | agg h =>
    obtain ⟨vals, rfl, h2⟩ := RepV.agg.1 hv
    exact ⟨vals, rfl, h.rep hr hag h2⟩
theorem MAs.rep (hr : Rel E N I s' β a w) (hag : ∀ q ∈ V, s'.obj q = s.obj q) : ∀ {xs : List Operand} {ys : List AVal}, MAs s V μ (xs.map (opA s)) ys → (∀ x ∈ xs, RepV I β w (opA s x) (a.eval x)) →
    All2 (RepF (lent I β V) (inβ β μ) w) ys (xs.map a.eval)
  | [], _, .nil, _ => .nil
  | x :: xs, _, .cons h hs, hv => .cons (h.rep hr hag (hv x (by simp))) (MAs.rep hr hag hs fun y hy => hv y (by simp [hy]))
end
def qS (μ : List Nat) (nx : Nat) : Nat → List (Option AObj) → List (Nat × Option AObj)
  | _, [] => []
  | i, o :: r => (nm μ nx i, o) :: qS μ nx (i + 1) r
def callMU (d : Option Nat) (r : AVal) (μ : List Nat) (nx : Nat) (outs : List (Option AObj)) : Upd := ⟨match d with | some t => [(t, reV μ nx r)] | none => [], qS μ nx 0 outs, outs.length - μ.length⟩
def outsOk : List (Option AObj) → Prop
  | [] => True
  | none :: r => outsOk r
  | some o :: r => AllSc o.els ∧ outsOk r
theorem outsOk.all : ∀ {l : List (Option AObj)}, outsOk l → ∀ obj, some obj ∈ l → AllSc obj.els
  | [], _, o, ho => by simp at ho
  | none :: r, h, o, ho => by
    rcases List.mem_cons.1 ho with e | ho
    · cases e
    · exact outsOk.all (l := r) h o ho
  | some x :: r, h, o, ho => by
    rcases List.mem_cons.1 ho with e | ho
    · cases e; exact h.1
    · exact outsOk.all (l := r) h.2 o ho
end Go.Proofs.YtjeffognhcbiaaaGreatDoor

namespace Go.Proofs.YtjeffognhcbiaaaGreatDoor
open Go Go.RowKit

theorem lk_outsU (μ : List Nat) (nx : Nat) (hμ : nodupB μ = true) (hlt : ∀ q ∈ μ, q < nx) : ∀ (outs : List (Option AObj)) (i q : Nat),
    (∀ o, lk q (qS μ nx i outs) = some o → ∃ j, i ≤ j ∧ nm μ nx j = q ∧ outs[j - i]? = some o) ∧ (∀ j o, i ≤ j → nm μ nx j = q → outs[j - i]? = some o → lk q (qS μ nx i outs) = some o)
  | [], i, q => ⟨fun o h => by simp [qS, lk] at h, fun j o _ _ h => by simp at h⟩
  | x :: r, i, q => by
    obtain ⟨h1, h2⟩ := lk_outsU μ nx hμ hlt r (i + 1) q
    have hinj : ∀ j, nm μ nx j = nm μ nx i → j = i := by
      intro j hj
      have hidx : ∀ {μ : List Nat}, nodupB μ = true → ∀ {i j q : Nat}, μ[i]? = some q → μ[j]? = some q → i = j := by
        intro μ
        induction μ with
        | nil => intro _ i j q h; simp at h
        | cons y ys ih =>
          intro h i j q hi hj
          simp only [nodupB, Bool.and_eq_true, Bool.not_eq_true'] at h
          have hno : ∀ k, ys[k]? = some y → False := fun k hk => by
            have := memB_iff.2 (List.mem_of_getElem? hk)
            rw [h.1] at this
            cases this
          cases i with
          | zero =>
            simp at hi
            subst hi
            cases j with
            | zero => rfl
            | succ j => exact (hno j (by simpa using hj)).elim
          | succ i =>
            cases j with
            | zero =>
              simp at hj
              subst hj
              exact (hno i (by simpa using hi)).elim
            | succ j => exact congrArg (· + 1) (ih h.2 (i := i) (j := j) (q := q) (by simpa using hi) (by simpa using hj))
      unfold nm at hj
      cases hi' : μ[i]? with
      | some a =>
        cases hj' : μ[j]? with
        | some b =>
          rw [hi', hj'] at hj
          simp only at hj
          subst hj
          exact hidx hμ hj' hi'
        | none =>
          rw [hi', hj'] at hj
          simp only at hj
          have := hlt a (List.mem_of_getElem? hi')
          have := List.getElem?_eq_none_iff.1 hj'
          omega
      | none =>
        cases hj' : μ[j]? with
        | some b =>
          rw [hi', hj'] at hj
          simp only at hj
          have := hlt b (List.mem_of_getElem? hj')
          have := List.getElem?_eq_none_iff.1 hi'
          omega
        | none =>
          rw [hi', hj'] at hj
          simp only at hj
          have := List.getElem?_eq_none_iff.1 hi'
          have := List.getElem?_eq_none_iff.1 hj'
          omega
    rw [qS]
    constructor
    · intro o h
      rw [lk_cons] at h
      by_cases e : q = nm μ nx i
      · rw [if_pos e] at h
        exact ⟨i, Nat.le_refl _, e.symm, by simpa using h⟩
      · rw [if_neg e] at h
        obtain ⟨j, k1, k2, k3⟩ := h1 o h
        refine ⟨j, by omega, k2, ?_⟩
        rw [show j - i = (j - (i + 1)) + 1 by omega]
        simpa using k3
    · intro j o hij hq ho
      rw [lk_cons]
      by_cases e : q = nm μ nx i
      · rw [if_pos e]
        have : j = i := hinj j (by rw [hq, e])
        subst this
        simpa using ho
      · rw [if_neg e]
        have hne : j ≠ i := fun h => e (by rw [← hq, h])
        refine h2 j o (by omega) hq ?_
        rw [show j - i = (j - (i + 1)) + 1 by omega] at ho
        simpa using ho

section
variable {P : Program} {E : Env} {ops : Array Oper} {o : Oper} {s : AS}
theorem Rel.calledM {N I In : Nat → Prop} {s' : AS} {β β' : Nat → Option BI} {a : Act} {w w' : World} {nx : Nat} {μ : List Nat} {r : AVal} {outs : List (Option AObj)} {v : Value} {d : Option Nat} (hr : Rel E N I s' β a w)
    (hnx : ∀ i, i < outs.length - μ.length → ¬ N (nx + i)) (hm : E.m ≤ nx) (hd : xR d E.n = true) (hlen : μ.length ≤ outs.length) (hμ : nodupB μ = true) (hlive : ∀ q ∈ μ, ∃ obj, s'.obj q = some obj) (hlt : ∀ q ∈ μ, q < nx)
    (hIn : ∀ b, I b → In b) (hIold : ∀ b, b < w.heap.size → (In b ↔ I b)) (hIlt : ∀ b, In b → b < w'.heap.size)
    (hk : Keeps (fun b => ∃ q B, q ∈ μ ∧ β q = some B ∧ B.blk = some b) w w') (hdom : ∀ o B, β' o = some B → o < outs.length) (hin : ∀ i q, μ[i]? = some q → β' i = β q)
    (hobs : ∀ (o : Nat) obj, outs[o]? = some (some obj) → ObjAt In β' w' (fun b => (∃ q B, q ∈ μ ∧ β q = some B ∧ B.blk = some b) ∨ w.heap.size ≤ b) o obj) (himm : ∀ obj, some obj ∈ outs → ∀ x ∈ obj.els, ∀ c ∈ x, Imm c) (hinj : InjO β' outs) (hv : RepV In β' w' r v) :
    ∃ β2, Rel E (fun o => N o ∨ (nx ≤ o ∧ o < nx + (outs.length - μ.length))) In (s'.upd (callMU d r μ nx outs)) β2 (a.put d v) w' := by
  have hβn : ∀ i, i < outs.length - μ.length → β (nx + i) = none := fun i hi => by
    cases h : β (nx + i) with
    | none => rfl
    | some B => exact absurd (hr.nam _ B h) (hnx i hi)
  let β2 : Nat → Option BI := fun o => match β o with | some B => some B | none => if nx ≤ o then β' (o - nx + μ.length) else none
  have hext : Ext β β2 := fun q B h => by simp [β2, h]
  have hnm : ∀ i q, μ[i]? = some q → nm μ nx i = q := fun i q h => by simp [nm, h]
  have hnm2 : ∀ i, μ.length ≤ i → nm μ nx i = nx + (i - μ.length) := fun i h => by
    have : μ[i]? = none := List.getElem?_eq_none_iff.2 h
    simp [nm, this]
  have hsh : ∀ i B, β' i = some B → β2 (nm μ nx i) = some B := fun i B h => by
    cases hi : μ[i]? with
    | some q =>
      rw [hnm i q hi]
      have := hin i q hi
      rw [h] at this
      exact hext q B this.symm
    | none =>
      have hle := List.getElem?_eq_none_iff.1 hi
      rw [hnm2 i hle]
      have h1 := hβn (i - μ.length) (by have := hdom i B h; omega)
      simp only [β2, h1]
      rw [if_pos (by omega), show nx + (i - μ.length) - nx + μ.length = i by omega]
      exact h
  have hback : ∀ q B, β2 q = some B → β q = some B ∨ (β q = none ∧ nx ≤ q ∧ β' (q - nx + μ.length) = some B) := fun q B h => by
    simp only [β2] at h
    cases hq : β q with
    | some B' => rw [hq] at h; exact .inl h
    | none =>
      rw [hq] at h
      simp only at h
      split at h
      · rename_i hle
        exact .inr ⟨rfl, hle, h⟩
      · cases h
  have hμI : ∀ b, (∃ q B, q ∈ μ ∧ β q = some B ∧ B.blk = some b) → E.may b ∧ ¬ I b ∧ b < w.heap.size := fun b ⟨q, B, hq, hB, hb⟩ => by
    obtain ⟨obj, ho⟩ := hlive q hq
    obtain ⟨k1, k2, k3⟩ := (hr.obs q obj ho).lt hB hb
    exact ⟨k2, k3, k1⟩
  have hwI : ∀ b, I b → w'.heap[b]? = w.heap[b]? := fun b hb => hk.block b (hr.imm b hb) (fun h => (hμI b h).2.1 hb)
  let u0 : Upd := ⟨[], qS μ nx 0 outs, outs.length - μ.length⟩
  have hlko := fun q => lk_outsU μ nx hμ hlt outs 0 q
  have hsome : ∀ q obj, (s'.upd u0).obj q = some obj → (∃ i, nm μ nx i = q ∧ outs[i]? = some (some obj)) ∨ ((∀ i, i < outs.length → nm μ nx i ≠ q) ∧ s'.obj q = some obj) := fun q obj h => by
    cases hq : lk q (qS μ nx 0 outs) with
    | some x =>
      rw [AS.obj_some (x := x) hq] at h
      subst h
      obtain ⟨j, _, k2, k3⟩ := (hlko q).1 _ hq
      exact .inl ⟨j, k2, by simpa using k3⟩
    | none =>
      rw [AS.obj_none hq] at h
      refine .inr ⟨fun i hi e => ?_, h⟩
      have := (hlko q).2 i (outs[i]) (Nat.zero_le _) e (by simp)
      rw [hq] at this
      cases this
  have hnmβ : ∀ i obj B, outs[i]? = some (some obj) → β2 (nm μ nx i) = some B → β' i = some B := fun i obj B ho h => by
    have hil : i < outs.length := (List.getElem?_eq_some_iff.1 ho).1
    obtain ⟨B', hB', _⟩ := hobs i obj ho
    have := hsh i B' hB'
    rw [h] at this
    rw [hB', this]
  have holdβ : ∀ q obj B, s'.obj q = some obj → (∀ i, i < outs.length → nm μ nx i ≠ q) → β2 q = some B → β q = some B := fun q obj B ho hq h => by
    rcases hback q B h with h1 | ⟨_, h2, h1⟩
    · exact h1
    · have h3 := hdom _ B h1
      exact absurd (by rw [hnm2 _ (by omega)]; omega) (hq (q - nx + μ.length) h3)
  have hout : ∀ q, q ∉ μ → ∀ obj B b, s'.obj q = some obj → β q = some B → B.blk = some b → ¬ ∃ q' B', q' ∈ μ ∧ β q' = some B' ∧ B'.blk = some b := fun q hq obj B b ho hB hb ⟨q', B', h1, h2, h3⟩ => by
    obtain ⟨obj', ho'⟩ := hlive q' h1
    exact hr.inj q q' obj obj' B B' b ho ho' (fun e => hq (e ▸ h1)) hB h2 hb h3
  have hnotin : ∀ q, (∀ i, i < outs.length → nm μ nx i ≠ q) → q ∉ μ := fun q h hq => by
    obtain ⟨i, hi⟩ := List.mem_iff_getElem?.1 hq
    have hil := (List.getElem?_eq_some_iff.1 hi).1
    exact h i (by omega) (hnm i q hi)
  have h1 : Rel E (fun o => N o ∨ (nx ≤ o ∧ o < nx + (outs.length - μ.length))) In (s'.upd u0) β2 a w' := by
    refine hr.change hext (fun q B h => ?_) hIn hwI (fun t => zG rfl) (fun q obj h => ?_) (fun q q' obj1 obj2 B1 B2 b g1 g2 hne e1 e2 hb hb' => ?_)
      (hr.old.trans hk (fun b hb h => ?_)) hIlt (fun b hb => ?_) (fun q hq => ?_)
    · rcases hback q B h with h1 | ⟨_, h2, h1⟩
      · exact .inl (hr.nam q B h1)
      · have := hdom _ B h1
        exact .inr (by omega)
    · rcases hsome q obj h with ⟨i, rfl, hf⟩ | ⟨hq, ho⟩
      · right
        obtain ⟨B, hB, g2, g3, g4⟩ := hobs _ obj hf
        refine ⟨B, hsh i B hB, g2, g3, fun b hb => ?_⟩
        obtain ⟨k0, k1, k2, arr, k3, k4, k5, k6, k7⟩ := g4 b hb
        refine ⟨k0, k1.elim (fun h => (hμI b h).1) (fun h => .inr (Nat.le_trans hr.old.size h)), k2, arr, k3, k4, k5, k6, fun i' j x c hx hj => ?_⟩
        obtain ⟨u, hu, hru⟩ := k7 i' j x c hx hj
        exact ⟨u, hu, .imm (himm obj (List.mem_of_getElem? hf) x (List.mem_of_getElem? hx) c (List.mem_of_getElem? hj) _ _ _ _ hru)⟩
      · exact .inl ⟨ho, fun B b hB hb => by
          obtain ⟨k1, _, k3⟩ := (hr.obs q obj ho).lt hB hb
          exact ⟨fun h => k3 ((hIold b k1).1 h), hk.block b k1 (hout q (hnotin q hq) obj B b ho hB hb)⟩⟩
    · rcases hsome q obj1 g1 with ⟨i, rfl, f1⟩ | ⟨n1, f1⟩
      · have e1' := hnmβ i obj1 B1 f1 e1
        rcases hsome q' obj2 g2 with ⟨i', rfl, f2⟩ | ⟨n2, f2⟩
        · have e2' := hnmβ i' obj2 B2 f2 e2
          exact hinj i i' obj1 obj2 B1 B2 b f1 f2 (fun e => hne (by rw [e])) e1' e2' hb hb'
        · have e2' := holdβ q' obj2 B2 f2 n2 e2
          have l1 := ((hobs i obj1 f1).lt e1' hb).2.1
          rcases l1 with l1 | l1
          · exact hout q' (hnotin q' n2) obj2 B2 b f2 e2' hb' l1
          · have := ((hr.obs q' obj2 f2).lt e2' hb').1
            omega
      · have e1' := holdβ q obj1 B1 f1 n1 e1
        rcases hsome q' obj2 g2 with ⟨i', rfl, f2⟩ | ⟨n2, f2⟩
        · have e2' := hnmβ i' obj2 B2 f2 e2
          have l1 := ((hobs i' obj2 f2).lt e2' hb').2.1
          rcases l1 with l1 | l1
          · exact hout q (hnotin q n1) obj1 B1 b f1 e1' hb l1
          · have := ((hr.obs q obj1 f1).lt e1' hb).1
            omega
        · have e2' := holdβ q' obj2 B2 f2 n2 e2
          exact hr.inj q q' obj1 obj2 B1 B2 b f1 f2 hne e1' e2' hb hb'
    · exact (hμI b h).1.elim id (fun h' => absurd h' (by omega))
    · rw [hIold b (Nat.lt_of_lt_of_le hb hr.old.size)]
      exact hr.gro b hb
    · rw [← hr.ext q hq]
      simp only [β2]
      cases β q with
      | some B => rfl
      | none => simp only; rw [if_neg (by omega)]
  have h2 := h1.put (reV_rep hsh hv) (u := xX d (reV μ nx r)) (d := d) rfl rfl (kL hd)
  refine ⟨β2, h2.congr (fun t => ?_) (fun q => ?_)⟩
  · cases d <;> rfl
  · rfl

def disjB (V μ : List Nat) : Bool := V.all fun q => !kO q μ
def keepI (z : Bool) (I I' : Nat → Prop) : Nat → Prop := if z then I' else I
theorem MAs.len {V μ : List Nat} {xs ys : List AVal} (h : MAs s V μ xs ys) : ys.length = xs.length := by
  induction h with
  | nil => rfl
  | cons _ _ ih => simp [ih]
theorem StepOk.callM {fo : Operand} {args : Array Operand} {ats : Array TypeId} {g : Nat} {caps caps' : List Cell} {as' : List AVal} {ins : List AObj} {outs : List (Option AObj)} {r : AVal} (z : Bool) (V μ : List Nat) (ho : o.op = .call { callee := .value fo, args := args, argTypes := ats })
    (hw : Want E ops o s) (hd : xR o.dst E.n = true) (hop : (opB fo && args.toList.all opB) = true) (hm : Nat.ble E.m s.nx = true) (hV : V.all (fun q => (s.obj q).isSome) = true) (hz : z = true → V = [])
    (hμ : nodupB μ = true) (hdis : disjB V μ = true) (hltB : μ.all (fun q => Nat.blt q s.nx) = true) (hins : All2 (fun q obj => s.obj q = some obj) μ ins) (hlen : ins.length ≤ outs.length)
    (hf : opA s fo = .c (.fn g caps)) (hargs : MAs s V μ (args.toList.map (opA s)) as') (hcaps : MCs s V μ caps caps') (h : PFM P g ins (as' ++ caps'.map AVal.c) outs r)
    (hrf : z = false → kV r) (hfr : z = false → outsOk outs) (himm : ∀ obj, some obj ∈ outs → ∀ x ∈ obj.els, ∀ c ∈ x, Imm c) (hinimm : ∀ obj ∈ ins, ∀ x ∈ obj.els, ∀ c ∈ x, Imm c) :
    StepOk P E ops o s (callMU o.dst r μ s.nx outs) ⟨o.looksAt ops, V ++ μ⟩ := by
  intro N I s' β a w hag hnm' hr Q
  simp only [Bool.and_eq_true, List.all_eq_true] at hop
  rw [hw.wanted hr hag, if_pos rfl]
  have hagV : ∀ q ∈ V, s'.obj q = s.obj q := fun q hq => hag.2 q (by simp [hq])
  have hagμ : ∀ q ∈ μ, s'.obj q = s.obj q := fun q hq => hag.2 q (by simp [hq])
  have hmem : ∀ x ∈ args.toList, x ∈ o.op.operands.toList := fun x hx => by simp [ho, Op.operands, Call.operands, Array.mem_toList_iff.1 hx]
  have h1 := vA hr fo hop.1
  rw [wO hag (by simp [ho, Op.operands, Call.operands]), hf] at h1
  obtain ⟨cv, hcv, hcr⟩ := rep_fn (show Rep I β w _ _ from h1)
  have hav := MAs.rep hr hagV hargs fun x hx => by
    have := vA hr x (hop.2 x hx)
    rwa [wO hag (hmem x hx)] at this
  have hmapc : ∀ {cs : List Cell} {vs : List Value}, All2 (Rep (lent I β V) (inβ β μ) w) cs vs → All2 (RepF (lent I β V) (inβ β μ) w) (cs.map AVal.c) vs := by
    intro cs vs h
    induction h with
    | nil => exact .nil
    | cons h _ ih => exact .cons h ih
  have hall := hav.append (hmapc (MCs.rep hr hagV hcaps hcr))
  have hVl : ∀ q ∈ V, ∃ obj, s'.obj q = some obj := fun q hq => by
    have hl := List.all_eq_true.1 hV q hq
    rw [← hagV q hq] at hl
    cases ho' : s'.obj q with
    | some obj => exact ⟨obj, rfl⟩
    | none => rw [ho'] at hl; cases hl
  have hI : ∀ b, lent I β V b → b < w.heap.size := fun b hb => by
    rcases hb with hb | ⟨q, B, hq, hB, hb⟩
    · exact hr.imm b hb
    · obtain ⟨obj, ho'⟩ := hVl q hq
      exact ((hr.obs q obj ho').lt hB hb).1
  have hil := hins.length
  have hlive : ∀ q ∈ μ, ∃ obj, s'.obj q = some obj := fun q hq => by
    obtain ⟨i, hi⟩ := List.mem_iff_getElem?.1 hq
    obtain ⟨obj, _, hob⟩ := hins.at hi
    exact ⟨obj, (hagμ q hq).trans hob⟩
  have hinsat : ∀ (i : Nat) obj, ins[i]? = some obj → ∃ q, μ[i]? = some q ∧ s'.obj q = some obj := fun i obj hi => by
    have hlt : i < μ.length := by have := (List.getElem?_eq_some_iff.1 hi).1; omega
    obtain ⟨obj', ho1, ho2⟩ := hins.at (List.getElem?_eq_getElem hlt)
    rw [hi] at ho1
    cases ho1
    exact ⟨_, List.getElem?_eq_getElem hlt, (hagμ _ (List.getElem_mem hlt)).trans ho2⟩
  have hVμ : ∀ q ∈ μ, ∀ obj B b, s'.obj q = some obj → β q = some B → B.blk = some b → ¬ lent I β V b := fun q hq obj B b ho' hB hb hl => by
    rcases hl with hl | ⟨q', B', hq', hB', hb'⟩
    · exact ((hr.obs q obj ho').lt hB hb).2.2 hl
    · obtain ⟨obj', ho''⟩ := hVl q' hq'
      have hne : q ≠ q' := fun e => by
        have := List.all_eq_true.1 hdis q' hq'
        rw [← e, memB_iff.2 hq] at this
        cases this
      exact hr.inj q q' obj obj' B B' b ho' ho'' hne hB hB' hb hb'
  have hblk : ∀ b, vR (inβ β μ) ins.length b ↔ ∃ q B, q ∈ μ ∧ β q = some B ∧ B.blk = some b := fun b => by
    constructor
    · rintro ⟨i, B, h1, h2, h3⟩
      unfold inβ at h2
      split at h2
      · rename_i q hq
        exact ⟨q, B, List.mem_of_getElem? hq, h2, h3⟩
      · cases h2
    · rintro ⟨q, B, h1, h2, h3⟩
      obtain ⟨i, hi⟩ := List.mem_iff_getElem?.1 h1
      exact ⟨i, B, by have := (List.getElem?_eq_some_iff.1 hi).1; omega, by simp only [inβ, hi]; exact h2, h3⟩
  have hc := h.run (lent I β V) (inβ β μ) w _ hI (hr.gi.mono (fun _ _ h => .inl h) fun _ _ _ => rfl) (fun i B e => by
      unfold inβ at e
      split at e
      · rename_i q hq; have := (List.getElem?_eq_some_iff.1 hq).1; omega
      · cases e)
    (fun i obj hi => by
      obtain ⟨q, hq, hob⟩ := hinsat i obj hi
      obtain ⟨B, hB, g2, g3, g4⟩ := hr.obs q obj hob
      refine ⟨B, by simp only [inβ, hq]; exact hB, g2, g3, fun b hb => ?_⟩
      obtain ⟨k0, k1, k2, arr, k3, k4, k5, k6, k7⟩ := g4 b hb
      refine ⟨k0, (hblk b).2 ⟨q, B, List.mem_of_getElem? hq, hB, hb⟩, hVμ q (List.mem_of_getElem? hq) obj B b hob hB hb, arr, k3, k4, k5, k6, fun i' j x c hx hj => ?_⟩
      obtain ⟨u, hu, hru⟩ := k7 i' j x c hx hj
      exact ⟨u, hu, .imm (hinimm obj (List.mem_of_getElem? hi) x (List.mem_of_getElem? hx) c (List.mem_of_getElem? hj) _ _ _ _ hru).lent⟩)
    (fun i i' obj obj' B B' b e e' hne hB hB' hb => by
      have e1 : ins[i]? = some obj := by rw [List.getElem?_map] at e; cases hx : ins[i]? <;> simp [hx] at e ⊢; exact e
      have e2 : ins[i']? = some obj' := by rw [List.getElem?_map] at e'; cases hx : ins[i']? <;> simp [hx] at e' ⊢; exact e'
      obtain ⟨q, hq, hob⟩ := hinsat i obj e1
      obtain ⟨q', hq', hob'⟩ := hinsat i' obj' e2
      have hB1 : β q = some B := by simp only [inβ, hq] at hB; exact hB
      have hB2 : β q' = some B' := by simp only [inβ, hq'] at hB'; exact hB'
      have hne' : q ≠ q' := fun e => by
        have hidx : ∀ {μ : List Nat}, nodupB μ = true → ∀ {i j q : Nat}, μ[i]? = some q → μ[j]? = some q → i = j := by
          intro μ
          induction μ with
          | nil => intro _ i j q h; simp at h
          | cons y ys ih =>
            intro h i j q hi hj
            simp only [nodupB, Bool.and_eq_true, Bool.not_eq_true'] at h
            have hno : ∀ k, ys[k]? = some y → False := fun k hk => by
              have := memB_iff.2 (List.mem_of_getElem? hk)
              rw [h.1] at this
              cases this
            cases i with
            | zero =>
              simp at hi
              subst hi
              cases j with
              | zero => rfl
              | succ j => exact (hno j (by simpa using hj)).elim
            | succ i =>
              cases j with
              | zero =>
                simp at hj
                subst hj
                exact (hno i (by simpa using hi)).elim
              | succ j => exact congrArg (· + 1) (ih h.2 (i := i) (j := j) (q := q) (by simpa using hi) (by simpa using hj))
        rw [← e] at hq'
        exact hne (hidx hμ hq hq')
      exact hr.inj q q' obj obj' B B' b hob hob' hne' hB1 hB2 hb) hall
  unfold Oper.wp
  rw [run_call ho hcv h.ok, Oper.upon_enter]
  refine hc.mono fun e w' ⟨v, I', β', he, hv, hk, hI', hgr, hdom, hin, hobs, hinj⟩ => ?_
  subst he
  have hIV : ∀ b, I b → I' b := fun b hb => (hgr b (hr.imm b hb)).2 (.inl hb)
  have hnotI : ∀ (i : Nat) obj B b, outs[i]? = some (some obj) → β' i = some B → B.blk = some b → ¬ I b := fun i obj B b ho' hB hb hIb => by
    exact ((hobs i obj ho').lt hB hb).2.2 (hIV b hIb)
  have hV0 : z = true → ∀ b, b < w.heap.size → (I' b ↔ I b) := fun hz' b hb => by
    rw [hgr b hb]
    constructor
    · rintro (h | ⟨q, B, hq, _⟩)
      · exact h
      · rw [hz hz'] at hq; cases hq
    · exact .inl
  obtain ⟨β2, hr2⟩ := hr.calledM (In := keepI z I I') (μ := μ) (nx := s.nx) (r := r) (outs := outs) (β' := β') (w' := w') (v := v) (d := o.dst) (fun i hi => hnm' i hi) (Nat.le_of_ble_eq_true hm) hd (by omega) hμ hlive
    (fun q hq => by have := List.all_eq_true.1 hltB q hq; simpa using this)
    (fun b hb => by unfold keepI; split; exact hIV b hb; exact hb)
    (fun b hb => by unfold keepI; split; exact hV0 (by assumption) b hb; exact Iff.rfl)
    (fun b hb => by unfold keepI at hb; split at hb; exact hI' b hb; exact Nat.lt_of_lt_of_le (hr.imm b hb) hk.size)
    ⟨hk.os, hk.tape, hk.output, hk.size, fun k hk1 hk2 => hk.block k hk1 (fun h => hk2 ((hblk k).1 h))⟩ hdom
    (fun i q hq => by rw [hin i (by have := (List.getElem?_eq_some_iff.1 hq).1; omega)]; simp only [inβ, hq])
    (fun i obj ho' => by
      have h2 := (hobs i obj ho').mayMono (M' := fun b => (∃ q B, q ∈ μ ∧ β q = some B ∧ B.blk = some b) ∨ w.heap.size ≤ b) (fun b hb => hb.imp (hblk b).1 id)
      cases z with
      | true => exact h2
      | false =>
        obtain ⟨B, hB, g2, g3, g4⟩ := h2
        refine ⟨B, hB, g2, g3, fun b hb => ?_⟩
        obtain ⟨k0, k1, k2, arr, k3, k4, k5, k6, k7⟩ := g4 b hb
        refine ⟨k0, k1, hnotI i obj B b ho' hB hb, arr, k3, k4, k5, k6, fun i' j x c hx hj => ?_⟩
        obtain ⟨u, hu, hru⟩ := k7 i' j x c hx hj
        exact ⟨u, hu, ((hfr rfl).all obj (List.mem_of_getElem? ho') x (List.mem_of_getElem? hx) c (List.mem_of_getElem? hj)).2 _ _ _ _ _ hru⟩)
    himm hinj (by
      cases z with
      | true => exact hv
      | false => exact flatV_rep (hrf rfl) hv)
  refine ⟨keepI z I I', β2, hr2⟩
end
end Go.Proofs.YtjeffognhcbiaaaGreatDoor

namespace Go.Proofs.YtjeffognhcbiaaaGreatDoor
open Go Go.RowKit

structure TyI where
  agg : Bool
  size : Nat
  zero : List Value
  elem : Option (Nat × Nat × Nat)            -- of a slice: the element's type, its cells, its bytes
  isStr : Bool
  isBool : Bool
  kind : Option IntKind
  fields : List (Option (Nat × Nat × Bool))  -- of a struct: offset, cells, is it a struct itself
  places : List (Nat × Nat)

def elemB (P : Program) (t : Nat) : Option (Nat × Nat × Nat) :=
  match P.underlying t with
  | some (.slice e) => match P.info? e with
    | some i => match i.zero with
      | some z => bif Nat.beq z.cells.size i.size && Nat.ble 1 i.size then some (e, i.size, i.bytes) else none
      | none => none
    | none => none
  | _ => none
def isStrB (P : Program) (t : Nat) : Bool :=
  match P.underlying t with
  | some .string => true
  | _ => false
def isBoolB (P : Program) (t : Nat) : Bool :=
  match P.underlying t with
  | some .bool => true
  | _ => false
def kindB (P : Program) (t : Nat) : Option IntKind :=
  match P.underlying t with
  | some (.int k) => some k
  | _ => none
def fieldsB (P : Program) (t : Nat) : List (Option (Nat × Nat × Bool)) :=
  match P.underlying t with
  | some (.struct fields) => fields.toList.map fun f => match P.info? f.type, P.underlying f.type with
    | some i, some d => some (f.offset, i.size, isAggD d)
    | _, _ => none
  | _ => []
def tyinfo (P : Program) (t : Nat) : Option TyI :=
  match P.underlying t, P.info? t with
  | some d, some i => match i.zero with
    | some z => some ⟨isAggD d, i.size, z.cells.toList, elemB P t, isStrB P t, isBoolB P t, kindB P t, fieldsB P t, (qJ P t).getD []⟩
    | none => none
  | _, _ => none
structure TabOk (P : Program) (T : List (Nat × TyI)) : Prop where
  h : T.map (fun p => tyinfo P p.1) = T.map fun p => some p.2
theorem TabOk.at {P : Program} {T : List (Nat × TyI)} (h : TabOk P T) {t : Nat} {i : TyI} (hl : lk t T = some i) : tyinfo P t = some i := by
  have hm := lk_mem hl
  replace h := h.h
  rw [List.map_inj_left] at h
  exact h _ hm

section
variable {P : Program} {T : List (Nat × TyI)} {t : Nat} {i : TyI}
theorem wF (h : tyinfo P t = some i) : ∃ d ti z, P.underlying t = some d ∧ P.info? t = some ti ∧ ti.zero = some z ∧ isAggD d = i.agg ∧ ti.size = i.size ∧ z.cells.toList = i.zero ∧ elemB P t = i.elem ∧ isStrB P t = i.isStr ∧ isBoolB P t = i.isBool ∧ kindB P t = i.kind ∧ fieldsB P t = i.fields ∧ (qJ P t).getD [] = i.places := by
  unfold tyinfo at h
  split at h
  · rename_i d ti h1 h2
    split at h
    · rename_i z h3
      simp only [Option.some.injEq] at h
      subst h
      exact ⟨d, ti, z, h1, h2, h3, rfl, rfl, rfl, rfl, rfl, rfl, rfl, rfl, rfl⟩
    · cases h
  · cases h
theorem TabOk.agg (h : TabOk P T) (hl : lk t T = some i) : qU P t i.agg := by
  obtain ⟨d, ti, z, h1, h2, h3, h4, _⟩ := wF (h.at hl)
  exact ⟨d, h1, h4⟩
theorem TabOk.size (h : TabOk P T) (hl : lk t T = some i) : vJ P t i.size := by
  obtain ⟨d, ti, z, h1, h2, h3, h4, h5, _⟩ := wF (h.at hl)
  exact ⟨ti, h2, h5⟩
theorem TabOk.zero (h : TabOk P T) (hl : lk t T = some i) : tyZero P t i.zero := by
  obtain ⟨d, ti, z, h1, h2, h3, h4, h5, h6, _⟩ := wF (h.at hl)
  exact ⟨ti, z, h2, h3, h6⟩
theorem TabOk.elem {e sz bytes : Nat} (h : TabOk P T) (hl : lk t T = some i) (he : i.elem = some (e, sz, bytes)) : tyElem P t e sz bytes := by
  obtain ⟨d, ti, z, h1, h2, h3, h4, h5, h6, h7, _⟩ := wF (h.at hl)
  rw [he] at h7
  unfold elemB at h7
  split at h7
  · rename_i e' hu
    split at h7
    · rename_i j hj
      split at h7
      · rename_i z' hz
        rcases hb : (Nat.beq z'.cells.size j.size && Nat.ble 1 j.size) with _ | _
        · rw [hb] at h7; cases h7
        · rw [hb] at h7
          simp only [cond_true, Option.some.injEq, Prod.mk.injEq] at h7
          obtain ⟨rfl, rfl, rfl⟩ := h7
          simp only [Bool.and_eq_true] at hb
          exact ⟨j, z', hu, hj, hz, rfl, rfl, Nat.eq_of_beq_eq_true hb.1, Nat.le_of_ble_eq_true hb.2⟩
      · cases h7
    · cases h7
  · cases h7
theorem tyElem.under {e sz bytes : Nat} (h : tyElem P t e sz bytes) : P.underlying t = some (.slice e) := by obtain ⟨i, z, h1, _⟩ := h; exact h1
theorem tyElem.size {e sz bytes : Nat} (h : tyElem P t e sz bytes) : vJ P e sz := by obtain ⟨i, z, h1, h2, h3, h4, _⟩ := h; exact ⟨i, h2, h4⟩
theorem TabOk.str (h : TabOk P T) (hl : lk t T = some i) (hs : i.isStr = true) : P.underlying t = some .string := by
  obtain ⟨d, ti, z, h1, h2, h3, h4, h5, h6, h7, h8, _⟩ := wF (h.at hl)
  rw [hs] at h8
  unfold isStrB at h8
  split at h8
  · assumption
  · cases h8
theorem TabOk.bool (h : TabOk P T) (hl : lk t T = some i) (hs : i.isBool = true) : P.underlying t = some .bool := by
  obtain ⟨d, ti, z, h1, h2, h3, h4, h5, h6, h7, h8, h8b, _⟩ := wF (h.at hl)
  rw [hs] at h8b
  unfold isBoolB at h8b
  split at h8b
  · assumption
  · cases h8b
theorem TabOk.int {k : IntKind} (h : TabOk P T) (hl : lk t T = some i) (hs : i.kind = some k) : P.underlying t = some (.int k) := by
  obtain ⟨d, ti, z, h1, h2, h3, h4, h5, h6, h7, h8, h8b, h9, _⟩ := wF (h.at hl)
  rw [hs] at h9
  unfold kindB at h9
  split at h9
  · rename_i k' hu
    cases h9
    exact hu
  · cases h9
theorem TabOk.field {f off sz : Nat} {agg : Bool} (h : TabOk P T) (hl : lk t T = some i) (hf : i.fields[f]? = some (some (off, sz, agg))) : tyField P t f off sz agg := by
  obtain ⟨d, ti, z, h1, h2, h3, h4, h5, h6, h7, h8, h8b, h9, h10, h11⟩ := wF (h.at hl)
  unfold fieldsB at h10
  split at h10
  · rename_i fields hu'
    rw [← h10, List.getElem?_map] at hf
    cases hfd : fields.toList[f]? with
    | none => rw [hfd] at hf; cases hf
    | some fd =>
      rw [hfd] at hf
      simp only [Option.map_some, Option.some.injEq] at hf
      split at hf
      · rename_i j d' hj hd
        simp only [Option.some.injEq, Prod.mk.injEq] at hf
        obtain ⟨rfl, rfl, rfl⟩ := hf
        exact ⟨fields, fd, hu', by simpa using hfd, rfl, ⟨j, hj, rfl⟩, ⟨d', hd, rfl⟩⟩
      · cases hf
  · rw [← h10] at hf; simp at hf
theorem TabOk.places (h : TabOk P T) (hl : lk t T = some i) (hn : i.places ≠ []) : qJ P t = some i.places := by
  obtain ⟨d, ti, z, h1, h2, h3, h4, h5, h6, h7, h8, h8b, h9, h10, h11⟩ := wF (h.at hl)
  cases hp : qJ P t with
  | none => rw [hp] at h11; exact absurd h11.symm hn
  | some pl => rw [hp] at h11; rw [← h11]; rfl
end
end Go.Proofs.YtjeffognhcbiaaaGreatDoor
