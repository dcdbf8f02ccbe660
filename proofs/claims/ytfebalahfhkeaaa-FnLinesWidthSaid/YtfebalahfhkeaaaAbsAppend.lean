/- The abstract machine, part 9: append, make, slices of slices. No conditions but those stated. -/
import Derived.Test.YtfebalahfhkeaaaAbsMem2
namespace Go.Proofs.Ytfebalahfhkeaaa
open Go Go.RowKit

def killL : Option Nat → List (Nat × Option AObj)
  | some q => [(q, none)]
  | none => []
def appU (d : Option Nat) (x : AVal) (qo : Option Nat) (nx : Nat) (obj : AObj) : Upd :=
  ⟨match d with | some t => [(t, x)] | none => [], (nx, some obj) :: killL qo, 1⟩

section
variable {P : Program} {E : Env} {ops : Array Oper} {o : Oper} {s : AS}
/-- an object takes another's place -/
theorem Rel.app {N I : Nat → Prop} {s' : AS} {β : Nat → Option BI} {a : Act} {w w' : World} {nx : Nat} {obj : AObj} {qo row : Option Nat} {B : BI} {x : AVal} {v : Value} {d : Option Nat} (hr : Rel E N I s' β a w) (hnx : ¬ N nx)
    (hm : E.m ≤ nx) (hd : dstB d E.n = true) (hg : w.grownBy w' row) (hrow : ∀ b, row = some b → ∃ q obj0 sz C, qo = some q ∧ s'.obj q = some obj0 ∧ β q = some ⟨some b, sz, C⟩)
    (hlen : ∀ x ∈ obj.els, x.length = obj.sz) (hnil : B.blk = none → obj.els = [])
    (hblk : ∀ b, B.blk = some b → B.sz = obj.sz ∧ (row = some b ∨ b = w.heap.size) ∧ ∃ arr, w'.heap[b]? = some (.cells arr obj.ty (0, 0)) ∧ arr.size = B.cap * obj.sz ∧ obj.els.length ≤ B.cap ∧ B.cap ≤ maxLen ∧
      ∀ (i j : Nat) x c, obj.els[i]? = some x → x[j]? = some c → ∃ u, arr[i * obj.sz + j]? = some u ∧ Rep I β w c u)
    (hx : ∀ β' w', β' nx = some B → RepV I β' w' x v) :
    ∃ β', Rel E (fun o => N o ∨ (nx ≤ o ∧ o < nx + 1)) I (s'.upd (appU d x qo nx obj)) β' (a.put d v) w' := by
  have hβn : β nx = none := by
    cases h : β nx with
    | none => rfl
    | some B => exact absurd (hr.nam nx B h) hnx
  let β' : Nat → Option BI := fun o => if o = nx then some B else β o
  have hβ'n : β' nx = some B := by simp [β']
  have hext : Ext β β' := fun q B' h => by
    have : q ≠ nx := fun e => by rw [e, hβn] at h; cases h
    simp [β', this, h]
  have hrowI : ∀ b, row = some b → E.may b ∧ ¬ I b ∧ b < w.heap.size := fun b e => by
    obtain ⟨q, obj0, sz, C, _, h1, h2⟩ := hrow b e
    obtain ⟨k1, k2, k3⟩ := (hr.obs q obj0 h1).lt h2 rfl
    exact ⟨k2, k3, k1⟩
  have hwI : ∀ b, I b → w'.heap[b]? = w.heap[b]? := fun b hb => hg.block b (hr.imm b hb) (fun e => (hrowI b e.symm).2.1 hb)
  let u0 : Upd := ⟨[], (nx, some obj) :: killL qo, 1⟩
  have hsome : ∀ q obj', (s'.upd u0).obj q = some obj' → (q = nx ∧ obj' = obj) ∨ (q ≠ nx ∧ qo ≠ some q ∧ s'.obj q = some obj') := fun q obj' h => by
    by_cases e : q = nx
    · subst e
      rw [AS.obj_some (x := some obj) (by simp [u0, lk_cons])] at h
      exact .inl ⟨rfl, by simpa using h.symm⟩
    · by_cases e2 : qo = some q
      · rw [AS.obj_some (x := none) (by
          show lk q ((nx, some obj) :: killL qo) = _
          rw [lk_cons, if_neg e, e2]
          simp [killL, lk_cons])] at h
        cases h
      · rw [AS.obj_none (by
          show lk q ((nx, some obj) :: killL qo) = _
          rw [lk_cons, if_neg e]
          cases qo with
          | none => rfl
          | some q' => rw [killL, lk_cons, if_neg (fun h => e2 (by rw [h]))]; rfl)] at h
        exact .inr ⟨e, e2, h⟩
  have hfar : ∀ q obj' B' b, qo ≠ some q → s'.obj q = some obj' → β q = some B' → B'.blk = some b → row ≠ some b := fun q obj' B' b hne ho hB hb e => by
    obtain ⟨q', obj0, sz, C, h0, h1, h2⟩ := hrow b e
    have : q ≠ q' := fun h => hne (by rw [h, h0])
    exact hr.inj q q' obj' obj0 B' _ b ho h1 this hB h2 hb rfl
  have hold : Keeps E.mu E.w0 w' := hr.old.trans (M' := fun x => row = some x) ⟨hg.os, hg.tape, hg.output, hg.size, fun k hk hn => hg.block k hk (fun e => hn e.symm)⟩
    (fun b hb e => (hrowI b e).1.elim id (fun h => absurd h (by omega)))
  have hnew : ObjAt I β' w' E.may nx obj := by
    refine ⟨_, hβ'n, hlen, hnil, fun b hb => ?_⟩
    obtain ⟨k0, k1, arr, k2, k3, k4, k5, k6⟩ := hblk b hb
    refine ⟨k0, ?_, ?_, arr, k2, k3, k4, k5, fun i j x c h1 h2 => ?_⟩
    · rcases k1 with k1 | k1
      · exact (hrowI b k1).1
      · exact .inr (by rw [k1]; exact hr.old.size)
    · rcases k1 with k1 | k1
      · exact (hrowI b k1).2.1
      · intro h
        have := hr.imm b h
        omega
    · obtain ⟨u, hu, hru⟩ := k6 i j x c h1 h2
      exact ⟨u, hu, hru.mono hext (fun _ h => h) hwI⟩
  have h1 : Rel E (fun o => N o ∨ (nx ≤ o ∧ o < nx + 1)) I (s'.upd u0) β' a w' := by
    refine hr.change hext (fun q B' h => ?_) (fun _ h => h) hwI (fun t => AS.get_none rfl) (fun q obj' h => ?_) (fun q q' obj1 obj2 B1 B2 b h1 h2 hne e1 e2 hb hb' => ?_) hold (fun b hb => Nat.lt_of_lt_of_le (hr.imm b hb) hg.size) hr.gro (fun q hq => ?_)
    · by_cases e : q = nx
      · exact .inr (by omega)
      · simp only [β', e, if_false] at h
        exact .inl (hr.nam q B' h)
    · rcases hsome q obj' h with ⟨rfl, rfl⟩ | ⟨e, e2, h⟩
      · exact .inr hnew
      · exact .inl ⟨h, fun B' b hB hb => by
          obtain ⟨k1, _, k3⟩ := (hr.obs q obj' h).lt hB hb
          exact ⟨k3, hg.block b k1 (fun e' => hfar q obj' B' b e2 h hB hb e'.symm)⟩⟩
    · have hnb : ∀ q obj1 B1 b, qo ≠ some q → s'.obj q = some obj1 → β q = some B1 → B1.blk = some b → B.blk ≠ some b := fun q obj1 B1 b n g e hb h => by
        obtain ⟨_, k1, _⟩ := hblk b h
        rcases k1 with k1 | k1
        · exact hfar q obj1 B1 b n g e hb k1
        · have := ((hr.obs q obj1 g).lt e hb).1; omega
      rcases hsome q obj1 h1 with ⟨rfl, rfl⟩ | ⟨n1, m1, g1⟩
      · rcases hsome q' obj2 h2 with ⟨rfl, rfl⟩ | ⟨n2, m2, g2⟩
        · exact hne rfl
        · rw [hβ'n] at e1
          cases e1
          simp only [β', n2, if_false] at e2
          exact hnb q' obj2 B2 b m2 g2 e2 hb' hb
      · simp only [β', n1, if_false] at e1
        rcases hsome q' obj2 h2 with ⟨rfl, rfl⟩ | ⟨n2, m2, g2⟩
        · rw [hβ'n] at e2
          cases e2
          exact hnb q obj1 B1 b m1 g1 e1 hb hb'
        · simp only [β', n2, if_false] at e2
          exact hr.inj q q' obj1 obj2 B1 B2 b g1 g2 hne e1 e2 hb hb'
    · simp only [β', show q ≠ nx by omega, if_false]
      exact hr.ext q hq
  have h2 := h1.put (hx β' _ hβ'n) (u := setU d x) (d := d) rfl rfl (dst_lt hd)
  refine ⟨β', h2.congr (fun t => ?_) (fun q => ?_)⟩
  · cases d <;> rfl
  · rfl

/-- the elements that an operand of append holds -/
def newsOf (s : AS) : Cell → Option (List Nat × List (List Cell))
  | .nil => some ([], [])
  | .sl xs => some ([], xs)
  | .ref q off n => match s.obj q with
    | some obj => if off + n ≤ obj.els.length then some ([q], (obj.els.drop off).take n) else none
    | none => none
  | _ => none
/-- what is appended lies in memory -/
theorem news_mem {N I : Nat → Prop} {s' : AS} {β : Nat → Option BI} {a : Act} {w : World} {c : Cell} {v : Value} {obs : List Nat} {news : List (List Cell)} {sz : Nat} (hr : Rel E N I s' β a w) (hv : Rep I β w c v)
    (hc : newsOf s c = some (obs, news)) (hag : ∀ q ∈ obs, s'.obj q = s.obj q) (hn : news ≠ []) (hsz : ∀ x ∈ news, x.length = sz) :
    ∃ ad cap, v = .slice (some ad) news.length cap ∧ ad.spot = none ∧ ∀ (i j : Nat) x c, news[i]? = some x → x[j]? = some c → ∃ u, w.cell? (ad.add (i * sz + j)) = some u ∧ Rep I β w c u := by
  cases c with
  | nil => simp only [newsOf, Option.some.injEq, Prod.mk.injEq] at hc; exact absurd hc.2.symm hn
  | sl xs =>
    simp only [newsOf, Option.some.injEq, Prod.mk.injEq] at hc
    obtain ⟨_, rfl⟩ := hc
    cases hv with
    | imm h =>
      cases h with
      | sl0 => exact absurd rfl hn
      | sl _ b p z n cap u g1 g2 g3 g4 g5 g6 =>
        refine ⟨⟨b, p, none⟩, cap, by rw [g1], rfl, fun i j x c hx hj => ⟨u i j, ?_, .imm (g6 i j x c hx hj)⟩⟩
        have : z = sz := (g3 x (List.mem_of_getElem? hx)).symm.trans (hsz x (List.mem_of_getElem? hx))
        subst this
        rw [add_addr, ← Nat.add_assoc]
        exact g5 i j x c hx hj
  | ref q off n =>
    simp only [newsOf] at hc
    split at hc
    · rename_i obj hob
      split at hc
      · simp only [Option.some.injEq, Prod.mk.injEq] at hc
        obtain ⟨rfl, rfl⟩ := hc
        obtain ⟨B, hB, g2, g3, g4⟩ := hr.obs q obj ((hag q (by simp)).trans hob)
        cases hv with
        | imm h => cases h
        | refE => simp at hn
        | ref0 => simp at hn
        | ref _ _ _ b z cap C k1 k2 k3 =>
          rw [hB] at k1
          cases k1
          obtain ⟨l0, _, _, arr, l1, l2, l3, l4, l5⟩ := g4 b rfl
          simp only at l0
          subst l0
          refine ⟨⟨b, off * obj.sz, none⟩, cap, by simp only [List.length_take, List.length_drop]; congr 1; omega, rfl, fun i j x c hx hj => ?_⟩
          rw [List.getElem?_take] at hx
          split at hx
          · rw [List.getElem?_drop] at hx
            obtain ⟨u, hu, hru⟩ := l5 (off + i) j x c hx hj
            have : obj.sz = sz := (g2 x (List.mem_of_getElem? hx)).symm.trans (hsz x (by
              refine List.mem_of_getElem? (i := i) ?_
              rw [List.getElem?_take, if_pos (by assumption), List.getElem?_drop]
              exact hx))
            subst this
            refine ⟨u, ?_, hru⟩
            rw [add_addr, cell_of_row w b _ arr _ _ l1, ← hu, Nat.add_mul]
            congr 1
            omega
          · cases hx
      · cases hc
    · cases hc
  | _ => simp [newsOf] at hc

theorem flat_at : ∀ (xs : List (List Cell)) (sz : Nat), (∀ x ∈ xs, x.length = sz) → xs.flatten.length = xs.length * sz ∧ ∀ (i j : Nat) x, xs[i]? = some x → j < sz → xs.flatten[i * sz + j]? = x[j]?
  | [], sz, _ => ⟨by simp, fun i j x h => by simp at h⟩
  | y :: ys, sz, h => by
    obtain ⟨h1, h2⟩ := flat_at ys sz fun x hx => h x (by simp [hx])
    have hy : y.length = sz := h y (by simp)
    refine ⟨by rw [List.flatten_cons, List.length_append, h1, hy, List.length_cons, Nat.add_mul]; omega, fun i j x hi hj => ?_⟩
    cases i with
    | zero =>
      simp only [List.getElem?_cons_zero, Option.some.injEq] at hi
      subst hi
      rw [List.flatten_cons, Nat.zero_mul, Nat.zero_add, List.getElem?_append_left (by omega)]
    | succ i =>
      rw [List.flatten_cons, List.getElem?_append_right (by rw [hy, Nat.add_mul]; omega), hy, ← h2 i j x (by simpa using hi) hj]
      congr 1
      rw [Nat.add_mul]
      omega
/-- values for cells, chosen all at once -/
theorem vals_of {I : Nat → Prop} {β : Nat → Option BI} {w : World} {Q : Nat → Value → Prop} : ∀ (cs : List Cell) (k : Nat), (∀ (j : Nat) c, cs[j]? = some c → ∃ u, Q (k + j) u ∧ Rep I β w c u) → ∃ vals : List Value, All2 (Rep I β w) cs vals ∧ ∀ (j : Nat) v, vals[j]? = some v → Q (k + j) v
  | [], k, _ => ⟨[], .nil, fun j v h => by simp at h⟩
  | c :: cs, k, h => by
    obtain ⟨u, hu, hr⟩ := h 0 c rfl
    obtain ⟨vals, h1, h2⟩ := vals_of (Q := Q) cs (k + 1) fun j c hj => by
      have := h (j + 1) c (by simpa using hj)
      rwa [show k + (j + 1) = k + 1 + j by omega] at this
    refine ⟨u :: vals, .cons hr h1, fun j v hj => ?_⟩
    cases j with
    | zero => simp at hj; subst hj; exact hu
    | succ j =>
      have := h2 j v (by simpa using hj)
      rwa [show k + 1 + j = k + (j + 1) by omega] at this

/-- an element type: its size in cells, its bytes -/
def tyElem (P : Program) (t e sz bytes : Nat) : Prop := ∃ i z, P.underlying t = some (.slice e) ∧ P.info? e = some i ∧ i.zero = some z ∧ i.size = sz ∧ i.bytes = bytes ∧ z.cells.size = sz ∧ 0 < sz

theorem run_append_zero {t ty e : Nat} {sz bytes : Nat} (ht : tyElem P t e sz bytes) (w : World) (A : Option Addr) (n cap : Nat) (hn : n ≤ cap) (v : Value) (hv : ∃ A' c', v = .slice A' 0 c') :
    (Builtin.append_ #[t, t] ty #[.slice A n cap, v]).run P w = .ok (.slice A n cap) w := by
  obtain ⟨i, z, h1, h2, h3, h4, h5, _⟩ := ht
  obtain ⟨A', c', rfl⟩ := hv
  cases A <;> cases A' <;> simp [Builtin.append_, run_underlying h1, sizeOf, typeInfo, h2, Builtin.lenOf, hn, Builtin.firstCells, loadCells, loadCellsFrom, storeCells]

theorem newsOf_len {c : Cell} {obs : List Nat} {news : List (List Cell)} (h : newsOf s c = some (obs, news)) : lenA c = some (news.length : Int) ∧ ∀ x, c ≠ .v x := by
  cases c with
  | nil => simp only [newsOf, Option.some.injEq, Prod.mk.injEq] at h; rw [← h.2]; exact ⟨rfl, fun _ e => by cases e⟩
  | sl xs => simp only [newsOf, Option.some.injEq, Prod.mk.injEq] at h; rw [← h.2]; exact ⟨rfl, fun _ e => by cases e⟩
  | ref q off n =>
    simp only [newsOf] at h
    split at h
    · split at h
      · simp only [Option.some.injEq, Prod.mk.injEq] at h
        rw [← h.2]
        refine ⟨?_, fun _ e => by cases e⟩
        simp only [lenA, List.length_take, List.length_drop]
        congr 2
        omega
      · cases h
    · cases h
  | _ => simp [newsOf] at h
/-- what is appended to: nothing, or an object of one's own, to its end -/
def baseOk (s : AS) (e sz : Nat) (qo : Option Nat) (els : List (List Cell)) : Cell → Prop
  | .nil => qo = none ∧ els = []
  | .ref q off n => qo = some q ∧ off = 0 ∧ s.obj q = some ⟨e, sz, els⟩ ∧ n = els.length
  | _ => False

theorem StepOk.append {x y : Operand} {t e sz bytes : Nat} {cx cy : Cell} {qo : Option Nat} {obs : List Nat} {els news : List (List Cell)} (ho : o.op = .call { callee := .builtin .append, args := #[x, y], argTypes := #[t, t] })
    (hw : Want E ops o s) (hd : dstB o.dst E.n = true) (hxb : (opB x && opB y) = true) (hm : Nat.ble E.m s.nx = true) (ht : tyElem P t e sz bytes)
    (hx : opA s x = .c cx) (hb : baseOk s e sz qo els cx) (hy : opA s y = .c cy) (hn : newsOf s cy = some (obs, news)) (hsz : ∀ x ∈ news, x.length = sz)
    (hbytes : (els.length + news.length) * bytes ≤ 140737488355328) (hmax : els.length + news.length ≤ maxLen) :
    StepOk P E ops o s (appU o.dst (.c (.ref s.nx 0 (els.length + news.length))) qo s.nx ⟨e, sz, els ++ news⟩) ⟨o.looksAt ops, qo.toList ++ obs⟩ := by
  intro N I s' β a w hag hnm hr Q
  simp only [Bool.and_eq_true] at hxb
  rw [hw.wanted hr hag, if_pos rfl]
  have hnx : ¬ N s.nx := hnm 0 (by simp [appU])
  have h1 := opA_rep hr x hxb.1
  have h2 := opA_rep hr y hxb.2
  rw [agree_op hag (by simp [ho, Op.operands, Call.operands]), hx] at h1
  rw [agree_op hag (by simp [ho, Op.operands, Call.operands]), hy] at h2
  have hagn : ∀ q ∈ obs, s'.obj q = s.obj q := fun q hq => hag.2 q (by simp [hq])
  have hm' := Nat.le_of_ble_eq_true hm
  -- how a run ends a step
  have fin : ∀ (v' : Value) (w' : World) (row : Option Nat) (B : BI), (Builtin.append_ #[t, t] o.type #[a.eval x, a.eval y]).run P w = .ok v' w' → w.grownBy w' row →
      (∀ b, row = some b → ∃ q obj0 sz C, qo = some q ∧ s'.obj q = some obj0 ∧ β q = some ⟨some b, sz, C⟩) → (B.blk = none → els ++ news = []) →
      (∀ b, B.blk = some b → B.sz = sz ∧ (row = some b ∨ b = w.heap.size) ∧ ∃ arr, w'.heap[b]? = some (.cells arr e (0, 0)) ∧ arr.size = B.cap * sz ∧ (els ++ news).length ≤ B.cap ∧ B.cap ≤ maxLen ∧
        ∀ (i j : Nat) x c, (els ++ news)[i]? = some x → x[j]? = some c → ∃ u, arr[i * sz + j]? = some u ∧ Rep I β w c u) →
      (∀ β' w', β' s.nx = some B → RepV I β' w' (.c (.ref s.nx 0 (els.length + news.length))) v') → (∀ x ∈ els, x.length = sz) →
      o.wp P a w (fun a' w' => ∃ I' β', Rel E (fun o => N o ∨ (s.nx ≤ o ∧ o < s.nx + 1)) I' (s'.upd (appU o.dst (.c (.ref s.nx 0 (els.length + news.length))) qo s.nx ⟨e, sz, els ++ news⟩)) β' a' w') Q := by
    intro v' w' row B hrun hg hrow hnil hblk hxv hels
    obtain ⟨β', hr'⟩ := hr.app (obj := ⟨e, sz, els ++ news⟩) (qo := qo) (B := B) (d := o.dst) (v := v') hnx hm' hd hg hrow (by
      intro x hx
      rcases List.mem_append.1 hx with h | h
      · exact hels x h
      · exact hsz x h) hnil hblk hxv
    unfold Oper.wp
    have : (execOp a.eval o).run P w = .ok (.value v') w' := by
      simp only [execOp, ho, resolve, invoke, builtin, Sem.run_bind, Sem.run_pure, Result.andThen, List.map_toArray, List.map_cons, List.map_nil, hrun]
    rw [this]
    exact ⟨I, β', hr'⟩
  obtain ⟨hlen, hne⟩ := newsOf_len hn
  obtain ⟨ti, z, t1, t2, t3, t4, t5, t6, t7⟩ := ht
  -- the base
  have hbase : (els = [] ∧ a.eval x = .slice none 0 0 ∧ (qo = none ∨ ∃ q, qo = some q)) ∨
      (∃ q b C arr, qo = some q ∧ s'.obj q = some ⟨e, sz, els⟩ ∧ β q = some ⟨some b, sz, C⟩ ∧ a.eval x = .slice (some ⟨b, 0, none⟩) els.length C ∧ w.heap[b]? = some (.cells arr e (0, 0)) ∧ arr.size = C * sz ∧ els.length ≤ C ∧ C ≤ maxLen ∧
        (∀ x ∈ els, x.length = sz) ∧ ∀ (i j : Nat) x c, els[i]? = some x → x[j]? = some c → ∃ u, arr[i * sz + j]? = some u ∧ Rep I β w c u) := by
    generalize a.eval x = v at h1
    cases cx with
    | nil =>
      obtain ⟨rfl, rfl⟩ := hb
      cases (show Rep I β w .nil v from h1) with
      | imm h => cases h; exact .inl ⟨rfl, rfl, .inl rfl⟩
    | ref q off n =>
      obtain ⟨rfl, rfl, hob, hnl⟩ := hb
      have hob' : s'.obj q = some ⟨e, sz, els⟩ := (hag.2 q (by simp)).trans hob
      obtain ⟨B, hB, g2, g3, g4⟩ := hr.obs q _ hob'
      cases (show Rep I β w (.ref q 0 n) v from h1) with
      | imm h => cases h
      | ref _ _ _ b z' cap C k1 k2 k3 =>
        rw [hB] at k1
        cases k1
        obtain ⟨l0, _, _, arr, l1, l2, l3, l4, l5⟩ := g4 b rfl
        simp only at l0 l2 l3 l4
        subst l0
        rw [k3 rfl, Nat.zero_mul, hnl]
        exact .inr ⟨q, b, C, arr, rfl, hob', hB, rfl, l1, l2, l3, l4, g2, l5⟩
      | refE _ _ _ _ h => exact absurd rfl h
      | ref0 _ z' C k1 =>
        rw [hB] at k1
        cases k1
        exact .inl ⟨g3 rfl, rfl, .inr ⟨q, rfl⟩⟩
    | _ => exact hb.elim
  have hrefl : w.grownBy w none := ⟨rfl, rfl, rfl, Nat.le_refl _, fun _ _ _ => rfl⟩
  by_cases hnews : news = []
  · subst hnews
    obtain ⟨A', k', c', hy2, hk'⟩ := rep_slice (show Rep I β w cy _ from h2) hne hlen
    have hk0 : k' = 0 := by simpa using hk'
    subst hk0
    rcases hbase with ⟨rfl, hxe, _⟩ | ⟨q, b, C, arr, rfl, hob', hβ, hxe, l1, l2, l3, l4, l5, l6⟩
    · refine fin (.slice none 0 0) w none ⟨none, 1, 0⟩ ?_ hrefl (fun b h => by cases h) (fun _ => rfl) (fun b h => by cases h) (fun β' w' h => Rep.ref0 s.nx 1 0 h) (by simp)
      rw [hxe]
      exact run_append_zero ⟨ti, z, t1, t2, t3, t4, t5, t6, t7⟩ w none 0 0 (Nat.le_refl _) _ ⟨A', c', hy2⟩
    · refine fin (.slice (some ⟨b, 0, none⟩) els.length C) w (some b) ⟨some b, sz, C⟩ ?_ ⟨rfl, rfl, rfl, Nat.le_refl _, fun _ _ _ => rfl⟩ (fun b' h => by cases h; exact ⟨q, _, sz, C, rfl, hob', hβ⟩) (fun h => by cases h)
        (fun b' h => by cases h; exact ⟨rfl, .inl rfl, arr, l1, l2, by simpa using l3, l4, by simpa using l6⟩) (fun β' w' h => ?_) l5
      · rw [hxe]
        exact run_append_zero ⟨ti, z, t1, t2, t3, t4, t5, t6, t7⟩ w _ _ _ l3 _ ⟨A', c', hy2⟩
      · have := Rep.ref (I := I) (w := w') (β := β') s.nx 0 (els.length + 0) b sz C C h (by simpa using l3) (fun _ => rfl)
        show Rep I β' w' _ _
        simpa using this
  · obtain ⟨ad, cap, hy2, hspot, hcell⟩ := news_mem hr (show Rep I β w cy _ from h2) hn hagn hnews hsz
    obtain ⟨f1, f2⟩ := flat_at news sz hsz
    obtain ⟨nv, v1, v2⟩ := vals_of (I := I) (β := β) (w := w) (Q := fun j u => w.cell? (ad.add j) = some u) news.flatten 0 fun j c hj => by
      have hjl : j < news.length * sz := by rw [← f1]; exact (List.getElem?_eq_some_iff.1 hj).1
      have hd' : j / sz < news.length := (Nat.div_lt_iff_lt_mul t7).2 hjl
      have hm2 : j % sz < sz := Nat.mod_lt _ t7
      have e1 : j / sz * sz + j % sz = j := by rw [Nat.mul_comm]; exact Nat.div_add_mod j sz
      obtain ⟨u, hu, hru⟩ := hcell (j / sz) (j % sz) _ c (List.getElem?_eq_getElem hd') (by rw [← f2 (j / sz) (j % sz) _ (List.getElem?_eq_getElem hd') hm2, e1]; exact hj)
      rw [e1] at hu
      exact ⟨u, by rw [Nat.zero_add]; exact hu, hru⟩
    have hnl : nv.length = news.length * sz := by rw [v1.length, f1]
    have hone : ∀ u ∈ nv, u.oneCell' = true := by
      intro u hu
      obtain ⟨j, hj⟩ := List.mem_iff_getElem?.1 hu
      have hlt : j < news.flatten.length := by rw [← v1.length]; exact (List.getElem?_eq_some_iff.1 hj).1
      obtain ⟨v', hv', hrv⟩ := v1.at (List.getElem?_eq_getElem hlt)
      rw [hj] at hv'
      cases hv'
      exact hrv.one
    have hnvat : ∀ (i j : Nat) x c, news[i]? = some x → x[j]? = some c → ∃ u, nv[i * sz + j]? = some u ∧ Rep I β w c u := by
      intro i j x c hx hj
      have hjl : j < sz := by have := hsz x (List.mem_of_getElem? hx); have := (List.getElem?_eq_some_iff.1 hj).1; omega
      exact v1.at (by rw [f2 i j x hx hjl]; exact hj)
    have hpos : 0 < news.length := List.length_pos_iff.2 hnews
    rcases hbase with ⟨rfl, hxe, _⟩ | ⟨q, b, C, arr, rfl, hob', hβ, hxe, l1, l2, l3, l4, l5, l6⟩
    · obtain ⟨g, cap', w', r1, r2, r3, r4, r5⟩ := run_append_lies w t o.type 0 e ti z sz bytes t1 t2 t3 t4 t5 t6 t7 (.slice none 0 0) 0 [] (World.ownsRow_nil w 0 e sz) ad news.length cap nv hnl (fun j u hj => by simpa using v2 j u hj) hone hpos
        (by simpa using hmax) (by simpa using hbytes) (Nat.zero_le _) w.heap.size rfl
      have hrow2 := r2.2
      simp only [Nat.zero_add] at r1 hrow2
      rcases hrow2 with ⟨h0, _⟩ | ⟨g', cp, cur, hv, _, hh, c1, c2, c3, c4⟩
      · cases h0
      · simp only [Value.slice.injEq, Option.some.injEq, Addr.mk.injEq, and_true, true_and] at hv
        obtain ⟨rfl, rfl⟩ := hv
        have hgH : g = w.heap.size := r4.resolve_left (fun h => by simp [Value.ownBlock] at h)
        refine fin _ w' none ⟨some g, sz, cap'⟩ (by rw [hxe, hy2]; exact r1) r3 (fun b h => by cases h) (fun h => by cases h) (fun b' h => ?_) (fun β' w' h => ?_) (by simp)
        · cases h
          refine ⟨rfl, .inr hgH, cur, hh, c3, by simpa using c1, c2, fun i j x c hx hj => ?_⟩
          obtain ⟨u, hu, hru⟩ := hnvat i j x c (by simpa using hx) hj
          refine ⟨u, ?_, hru⟩
          simp only [List.nil_append] at c4
          rw [← c4, List.getElem?_take] at hu
          split at hu
          · simpa using hu
          · cases hu
        · have := Rep.ref (I := I) (w := w') (β := β') s.nx 0 news.length g sz cap' cap' h c1 (fun _ => rfl)
          show Rep I β' w' _ _
          simpa using this
    · have hown : w.ownsRow 0 e sz (.slice (some ⟨b, 0, none⟩) els.length C) els.length (arr.toList.take (els.length * sz)) := by
        refine ⟨?_, .inr ⟨b, C, arr, rfl, Nat.zero_le _, l1, l3, l4, l2, rfl⟩⟩
        have hal : arr.toList.length = C * sz := by simpa using l2
        rw [List.length_take, hal]
        exact Nat.min_eq_left (Nat.mul_le_mul_right _ l3)
      obtain ⟨g, cap', w', r1, r2, r3, r4, r5⟩ := run_append_lies w t o.type 0 e ti z sz bytes t1 t2 t3 t4 t5 t6 t7 _ _ _ hown ad news.length cap nv hnl (fun j u hj => by simpa using v2 j u hj) hone hpos hmax hbytes (Nat.zero_le _) w.heap.size rfl
      have hrow2 := r2.2
      rcases hrow2 with ⟨h0, _⟩ | ⟨g', cp, cur, hv, _, hh, c1, c2, c3, c4⟩
      · cases h0
      · simp only [Value.slice.injEq, Option.some.injEq, Addr.mk.injEq, and_true, true_and] at hv
        obtain ⟨rfl, rfl⟩ := hv
        have hold : (arr.toList.take (els.length * sz)).length = els.length * sz := hown.1
        refine fin _ w' (some b) ⟨some g, sz, cap'⟩ (by rw [hxe, hy2]; exact r1) r3 (fun b' h => by cases h; exact ⟨q, _, sz, C, rfl, hob', hβ⟩) (fun h => by cases h) (fun b' h => ?_) (fun β' w' h => ?_) l5
        · cases h
          refine ⟨rfl, r4.imp (fun h => by simpa [Value.ownBlock] using h) id, cur, hh, c3, by rw [List.length_append]; exact c1, c2, fun i j x c hx hj => ?_⟩
          have hcur : ∀ (k : Nat) (u : Value), (arr.toList.take (els.length * sz) ++ nv)[k]? = some u → cur[k]? = some u := by
            intro k u hk
            rw [← c4, List.getElem?_take] at hk
            split at hk
            · simpa using hk
            · cases hk
          by_cases hi : i < els.length
          · rw [List.getElem?_append_left hi] at hx
            obtain ⟨u, hu, hru⟩ := l6 i j x c hx hj
            have hjl : j < sz := by have := l5 x (List.mem_of_getElem? hx); have := (List.getElem?_eq_some_iff.1 hj).1; omega
            have hlt : i * sz + j < els.length * sz := by
              have : (i + 1) * sz ≤ els.length * sz := Nat.mul_le_mul_right _ hi
              rw [Nat.add_mul, Nat.one_mul] at this
              omega
            refine ⟨u, hcur _ _ ?_, hru⟩
            rw [List.getElem?_append_left (by omega), List.getElem?_take, if_pos hlt]
            simpa using hu
          · rw [List.getElem?_append_right (by omega)] at hx
            obtain ⟨u, hu, hru⟩ := hnvat (i - els.length) j x c hx hj
            refine ⟨u, hcur _ _ ?_, hru⟩
            have hmul : els.length * sz ≤ i * sz := Nat.mul_le_mul_right _ (by omega)
            rw [List.getElem?_append_right (by omega), hold, ← hu, Nat.sub_mul]
            congr 1
            omega
        · have := Rep.ref (I := I) (w := w') (β := β') s.nx 0 (els.length + news.length) g sz cap' cap' h c1 (fun _ => rfl)
          show Rep I β' w' _ _
          simpa using this
end
end Go.Proofs.Ytfebalahfhkeaaa
