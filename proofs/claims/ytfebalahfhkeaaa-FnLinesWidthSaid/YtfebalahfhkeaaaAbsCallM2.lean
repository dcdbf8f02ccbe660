/- The abstract machine, part 17: the step of a call that hands objects over. No conditions but those stated. -/
import Derived.Test.YtfebalahfhkeaaaAbsCallM
namespace Go.Proofs.Ytfebalahfhkeaaa
open Go Go.RowKit

theorem lk_outsU (μ : List Nat) (nx : Nat) (hμ : nodupB μ = true) (hlt : ∀ q ∈ μ, q < nx) : ∀ (outs : List (Option AObj)) (i q : Nat),
    (∀ o, lk q (outsU μ nx i outs) = some o → ∃ j, i ≤ j ∧ nm μ nx j = q ∧ outs[j - i]? = some o) ∧ (∀ j o, i ≤ j → nm μ nx j = q → outs[j - i]? = some o → lk q (outsU μ nx i outs) = some o)
  | [], i, q => ⟨fun o h => by simp [outsU, lk] at h, fun j o _ _ h => by simp at h⟩
  | x :: r, i, q => by
    obtain ⟨h1, h2⟩ := lk_outsU μ nx hμ hlt r (i + 1) q
    have hinj : ∀ j, nm μ nx j = nm μ nx i → j = i := by
      intro j hj
      have hidx : ∀ {μ : List Nat}, nodupB μ = true → ∀ {i j q : Nat}, μ[i]? = some q → μ[j]? = some q → i = j := by
        intro μ
        induction μ with
        | nil => intro _ i j q h; simp at h
        | cons y ys ih =>
          intro h i j q hi hj
          simp only [nodupB, Bool.and_eq_true, Bool.not_eq_true'] at h
          have hno : ∀ k, ys[k]? = some y → False := fun k hk => by
            have := memB_iff.2 (List.mem_of_getElem? hk)
            rw [h.1] at this
            cases this
          cases i with
          | zero =>
            simp at hi
            subst hi
            cases j with
            | zero => rfl
            | succ j => exact (hno j (by simpa using hj)).elim
          | succ i =>
            cases j with
            | zero =>
              simp at hj
              subst hj
              exact (hno i (by simpa using hi)).elim
            | succ j => exact congrArg (· + 1) (ih h.2 (i := i) (j := j) (q := q) (by simpa using hi) (by simpa using hj))
      unfold nm at hj
      cases hi' : μ[i]? with
      | some a =>
        cases hj' : μ[j]? with
        | some b =>
          rw [hi', hj'] at hj
          simp only at hj
          subst hj
          exact hidx hμ hj' hi'
        | none =>
          rw [hi', hj'] at hj
          simp only at hj
          have := hlt a (List.mem_of_getElem? hi')
          have := List.getElem?_eq_none_iff.1 hj'
          omega
      | none =>
        cases hj' : μ[j]? with
        | some b =>
          rw [hi', hj'] at hj
          simp only at hj
          have := hlt b (List.mem_of_getElem? hj')
          have := List.getElem?_eq_none_iff.1 hi'
          omega
        | none =>
          rw [hi', hj'] at hj
          simp only at hj
          have := List.getElem?_eq_none_iff.1 hi'
          have := List.getElem?_eq_none_iff.1 hj'
          omega
    rw [outsU]
    constructor
    · intro o h
      rw [lk_cons] at h
      by_cases e : q = nm μ nx i
      · rw [if_pos e] at h
        exact ⟨i, Nat.le_refl _, e.symm, by simpa using h⟩
      · rw [if_neg e] at h
        obtain ⟨j, k1, k2, k3⟩ := h1 o h
        refine ⟨j, by omega, k2, ?_⟩
        rw [show j - i = (j - (i + 1)) + 1 by omega]
        simpa using k3
    · intro j o hij hq ho
      rw [lk_cons]
      by_cases e : q = nm μ nx i
      · rw [if_pos e]
        have : j = i := hinj j (by rw [hq, e])
        subst this
        simpa using ho
      · rw [if_neg e]
        have hne : j ≠ i := fun h => e (by rw [← hq, h])
        refine h2 j o (by omega) hq ?_
        rw [show j - i = (j - (i + 1)) + 1 by omega] at ho
        simpa using ho

section
variable {P : Program} {E : Env} {ops : Array Oper} {o : Oper} {s : AS}
theorem Rel.calledM {N I In : Nat → Prop} {s' : AS} {β β' : Nat → Option BI} {a : Act} {w w' : World} {nx : Nat} {μ : List Nat} {r : AVal} {outs : List (Option AObj)} {v : Value} {d : Option Nat} (hr : Rel E N I s' β a w)
    (hnx : ∀ i, i < outs.length - μ.length → ¬ N (nx + i)) (hm : E.m ≤ nx) (hd : dstB d E.n = true) (hlen : μ.length ≤ outs.length) (hμ : nodupB μ = true) (hlive : ∀ q ∈ μ, ∃ obj, s'.obj q = some obj) (hlt : ∀ q ∈ μ, q < nx)
    (hIn : ∀ b, I b → In b) (hIold : ∀ b, b < w.heap.size → (In b ↔ I b)) (hIlt : ∀ b, In b → b < w'.heap.size)
    (hk : Keeps (fun b => ∃ q B, q ∈ μ ∧ β q = some B ∧ B.blk = some b) w w') (hdom : ∀ o B, β' o = some B → o < outs.length) (hin : ∀ i q, μ[i]? = some q → β' i = β q)
    (hobs : ∀ (o : Nat) obj, outs[o]? = some (some obj) → ObjAt In β' w' (fun b => (∃ q B, q ∈ μ ∧ β q = some B ∧ B.blk = some b) ∨ w.heap.size ≤ b) o obj) (himm : ∀ obj, some obj ∈ outs → ∀ x ∈ obj.els, ∀ c ∈ x, Imm c) (hinj : InjO β' outs) (hv : RepV In β' w' r v) :
    ∃ β2, Rel E (fun o => N o ∨ (nx ≤ o ∧ o < nx + (outs.length - μ.length))) In (s'.upd (callMU d r μ nx outs)) β2 (a.put d v) w' := by
  have hβn : ∀ i, i < outs.length - μ.length → β (nx + i) = none := fun i hi => by
    cases h : β (nx + i) with
    | none => rfl
    | some B => exact absurd (hr.nam _ B h) (hnx i hi)
  let β2 : Nat → Option BI := fun o => match β o with | some B => some B | none => if nx ≤ o then β' (o - nx + μ.length) else none
  have hext : Ext β β2 := fun q B h => by simp [β2, h]
  have hnm : ∀ i q, μ[i]? = some q → nm μ nx i = q := fun i q h => by simp [nm, h]
  have hnm2 : ∀ i, μ.length ≤ i → nm μ nx i = nx + (i - μ.length) := fun i h => by
    have : μ[i]? = none := List.getElem?_eq_none_iff.2 h
    simp [nm, this]
  have hsh : ∀ i B, β' i = some B → β2 (nm μ nx i) = some B := fun i B h => by
    cases hi : μ[i]? with
    | some q =>
      rw [hnm i q hi]
      have := hin i q hi
      rw [h] at this
      exact hext q B this.symm
    | none =>
      have hle := List.getElem?_eq_none_iff.1 hi
      rw [hnm2 i hle]
      have h1 := hβn (i - μ.length) (by have := hdom i B h; omega)
      simp only [β2, h1]
      rw [if_pos (by omega), show nx + (i - μ.length) - nx + μ.length = i by omega]
      exact h
  have hback : ∀ q B, β2 q = some B → β q = some B ∨ (β q = none ∧ nx ≤ q ∧ β' (q - nx + μ.length) = some B) := fun q B h => by
    simp only [β2] at h
    cases hq : β q with
    | some B' => rw [hq] at h; exact .inl h
    | none =>
      rw [hq] at h
      simp only at h
      split at h
      · rename_i hle
        exact .inr ⟨rfl, hle, h⟩
      · cases h
  have hμI : ∀ b, (∃ q B, q ∈ μ ∧ β q = some B ∧ B.blk = some b) → E.may b ∧ ¬ I b ∧ b < w.heap.size := fun b ⟨q, B, hq, hB, hb⟩ => by
    obtain ⟨obj, ho⟩ := hlive q hq
    obtain ⟨k1, k2, k3⟩ := (hr.obs q obj ho).lt hB hb
    exact ⟨k2, k3, k1⟩
  have hwI : ∀ b, I b → w'.heap[b]? = w.heap[b]? := fun b hb => hk.block b (hr.imm b hb) (fun h => (hμI b h).2.1 hb)
  let u0 : Upd := ⟨[], outsU μ nx 0 outs, outs.length - μ.length⟩
  have hlko := fun q => lk_outsU μ nx hμ hlt outs 0 q
  have hsome : ∀ q obj, (s'.upd u0).obj q = some obj → (∃ i, nm μ nx i = q ∧ outs[i]? = some (some obj)) ∨ ((∀ i, i < outs.length → nm μ nx i ≠ q) ∧ s'.obj q = some obj) := fun q obj h => by
    cases hq : lk q (outsU μ nx 0 outs) with
    | some x =>
      rw [AS.obj_some (x := x) hq] at h
      subst h
      obtain ⟨j, _, k2, k3⟩ := (hlko q).1 _ hq
      exact .inl ⟨j, k2, by simpa using k3⟩
    | none =>
      rw [AS.obj_none hq] at h
      refine .inr ⟨fun i hi e => ?_, h⟩
      have := (hlko q).2 i (outs[i]) (Nat.zero_le _) e (by simp)
      rw [hq] at this
      cases this
  have hnmβ : ∀ i obj B, outs[i]? = some (some obj) → β2 (nm μ nx i) = some B → β' i = some B := fun i obj B ho h => by
    have hil : i < outs.length := (List.getElem?_eq_some_iff.1 ho).1
    obtain ⟨B', hB', _⟩ := hobs i obj ho
    have := hsh i B' hB'
    rw [h] at this
    rw [hB', this]
  have holdβ : ∀ q obj B, s'.obj q = some obj → (∀ i, i < outs.length → nm μ nx i ≠ q) → β2 q = some B → β q = some B := fun q obj B ho hq h => by
    rcases hback q B h with h1 | ⟨_, h2, h1⟩
    · exact h1
    · have h3 := hdom _ B h1
      exact absurd (by rw [hnm2 _ (by omega)]; omega) (hq (q - nx + μ.length) h3)
  have hout : ∀ q, q ∉ μ → ∀ obj B b, s'.obj q = some obj → β q = some B → B.blk = some b → ¬ ∃ q' B', q' ∈ μ ∧ β q' = some B' ∧ B'.blk = some b := fun q hq obj B b ho hB hb ⟨q', B', h1, h2, h3⟩ => by
    obtain ⟨obj', ho'⟩ := hlive q' h1
    exact hr.inj q q' obj obj' B B' b ho ho' (fun e => hq (e ▸ h1)) hB h2 hb h3
  have hnotin : ∀ q, (∀ i, i < outs.length → nm μ nx i ≠ q) → q ∉ μ := fun q h hq => by
    obtain ⟨i, hi⟩ := List.mem_iff_getElem?.1 hq
    have hil := (List.getElem?_eq_some_iff.1 hi).1
    exact h i (by omega) (hnm i q hi)
  have h1 : Rel E (fun o => N o ∨ (nx ≤ o ∧ o < nx + (outs.length - μ.length))) In (s'.upd u0) β2 a w' := by
    refine hr.change hext (fun q B h => ?_) hIn hwI (fun t => AS.get_none rfl) (fun q obj h => ?_) (fun q q' obj1 obj2 B1 B2 b g1 g2 hne e1 e2 hb hb' => ?_)
      (hr.old.trans hk (fun b hb h => ?_)) hIlt (fun b hb => ?_) (fun q hq => ?_)
    · rcases hback q B h with h1 | ⟨_, h2, h1⟩
      · exact .inl (hr.nam q B h1)
      · have := hdom _ B h1
        exact .inr (by omega)
    · rcases hsome q obj h with ⟨i, rfl, hf⟩ | ⟨hq, ho⟩
      · right
        obtain ⟨B, hB, g2, g3, g4⟩ := hobs _ obj hf
        refine ⟨B, hsh i B hB, g2, g3, fun b hb => ?_⟩
        obtain ⟨k0, k1, k2, arr, k3, k4, k5, k6, k7⟩ := g4 b hb
        refine ⟨k0, k1.elim (fun h => (hμI b h).1) (fun h => .inr (Nat.le_trans hr.old.size h)), k2, arr, k3, k4, k5, k6, fun i' j x c hx hj => ?_⟩
        obtain ⟨u, hu, hru⟩ := k7 i' j x c hx hj
        exact ⟨u, hu, .imm (himm obj (List.mem_of_getElem? hf) x (List.mem_of_getElem? hx) c (List.mem_of_getElem? hj) _ _ _ _ hru)⟩
      · exact .inl ⟨ho, fun B b hB hb => by
          obtain ⟨k1, _, k3⟩ := (hr.obs q obj ho).lt hB hb
          exact ⟨fun h => k3 ((hIold b k1).1 h), hk.block b k1 (hout q (hnotin q hq) obj B b ho hB hb)⟩⟩
    · rcases hsome q obj1 g1 with ⟨i, rfl, f1⟩ | ⟨n1, f1⟩
      · have e1' := hnmβ i obj1 B1 f1 e1
        rcases hsome q' obj2 g2 with ⟨i', rfl, f2⟩ | ⟨n2, f2⟩
        · have e2' := hnmβ i' obj2 B2 f2 e2
          exact hinj i i' obj1 obj2 B1 B2 b f1 f2 (fun e => hne (by rw [e])) e1' e2' hb hb'
        · have e2' := holdβ q' obj2 B2 f2 n2 e2
          have l1 := ((hobs i obj1 f1).lt e1' hb).2.1
          rcases l1 with l1 | l1
          · exact hout q' (hnotin q' n2) obj2 B2 b f2 e2' hb' l1
          · have := ((hr.obs q' obj2 f2).lt e2' hb').1
            omega
      · have e1' := holdβ q obj1 B1 f1 n1 e1
        rcases hsome q' obj2 g2 with ⟨i', rfl, f2⟩ | ⟨n2, f2⟩
        · have e2' := hnmβ i' obj2 B2 f2 e2
          have l1 := ((hobs i' obj2 f2).lt e2' hb').2.1
          rcases l1 with l1 | l1
          · exact hout q (hnotin q n1) obj1 B1 b f1 e1' hb l1
          · have := ((hr.obs q obj1 f1).lt e1' hb).1
            omega
        · have e2' := holdβ q' obj2 B2 f2 n2 e2
          exact hr.inj q q' obj1 obj2 B1 B2 b f1 f2 hne e1' e2' hb hb'
    · exact (hμI b h).1.elim id (fun h' => absurd h' (by omega))
    · rw [hIold b (Nat.lt_of_lt_of_le hb hr.old.size)]
      exact hr.gro b hb
    · rw [← hr.ext q hq]
      simp only [β2]
      cases β q with
      | some B => rfl
      | none => simp only; rw [if_neg (by omega)]
  have h2 := h1.put (reV_rep hsh hv) (u := setU d (reV μ nx r)) (d := d) rfl rfl (dst_lt hd)
  refine ⟨β2, h2.congr (fun t => ?_) (fun q => ?_)⟩
  · cases d <;> rfl
  · rfl

def disjB (V μ : List Nat) : Bool := V.all fun q => !memB q μ
/-- what the caller keeps of what the callee holds to be immutable -/
def keepI (z : Bool) (I I' : Nat → Prop) : Nat → Prop := if z then I' else I
theorem MAs.len {V μ : List Nat} {xs ys : List AVal} (h : MAs s V μ xs ys) : ys.length = xs.length := by
  induction h with
  | nil => rfl
  | cons _ _ ih => simp [ih]
/-- z: nothing is lent, so that what comes back may speak of what the callee left to be read -/
theorem StepOk.callM {fo : Operand} {args : Array Operand} {ats : Array TypeId} {g : Nat} {caps caps' : List Cell} {as' : List AVal} {ins : List AObj} {outs : List (Option AObj)} {r : AVal} (z : Bool) (V μ : List Nat) (ho : o.op = .call { callee := .value fo, args := args, argTypes := ats })
    (hw : Want E ops o s) (hd : dstB o.dst E.n = true) (hop : (opB fo && args.toList.all opB) = true) (hm : Nat.ble E.m s.nx = true) (hV : V.all (fun q => (s.obj q).isSome) = true) (hz : z = true → V = [])
    (hμ : nodupB μ = true) (hdis : disjB V μ = true) (hltB : μ.all (fun q => Nat.blt q s.nx) = true) (hins : All2 (fun q obj => s.obj q = some obj) μ ins) (hlen : ins.length ≤ outs.length)
    (hf : opA s fo = .c (.fn g caps)) (hargs : MAs s V μ (args.toList.map (opA s)) as') (hcaps : MCs s V μ caps caps') (h : PFM P g ins (as' ++ caps'.map AVal.c) outs r)
    (hrf : z = false → FlatV r) (hfr : z = false → outsOk outs) (himm : ∀ obj, some obj ∈ outs → ∀ x ∈ obj.els, ∀ c ∈ x, Imm c) (hinimm : ∀ obj ∈ ins, ∀ x ∈ obj.els, ∀ c ∈ x, Imm c) :
    StepOk P E ops o s (callMU o.dst r μ s.nx outs) ⟨o.looksAt ops, V ++ μ⟩ := by
  intro N I s' β a w hag hnm' hr Q
  simp only [Bool.and_eq_true, List.all_eq_true] at hop
  rw [hw.wanted hr hag, if_pos rfl]
  have hagV : ∀ q ∈ V, s'.obj q = s.obj q := fun q hq => hag.2 q (by simp [hq])
  have hagμ : ∀ q ∈ μ, s'.obj q = s.obj q := fun q hq => hag.2 q (by simp [hq])
  have hmem : ∀ x ∈ args.toList, x ∈ o.op.operands.toList := fun x hx => by simp [ho, Op.operands, Call.operands, Array.mem_toList_iff.1 hx]
  have h1 := opA_rep hr fo hop.1
  rw [agree_op hag (by simp [ho, Op.operands, Call.operands]), hf] at h1
  obtain ⟨cv, hcv, hcr⟩ := rep_fn (show Rep I β w _ _ from h1)
  have hav := MAs.rep hr hagV hargs fun x hx => by
    have := opA_rep hr x (hop.2 x hx)
    rwa [agree_op hag (hmem x hx)] at this
  have hmapc : ∀ {cs : List Cell} {vs : List Value}, All2 (Rep (lent I β V) (inβ β μ) w) cs vs → All2 (RepF (lent I β V) (inβ β μ) w) (cs.map AVal.c) vs := by
    intro cs vs h
    induction h with
    | nil => exact .nil
    | cons h _ ih => exact .cons h ih
  have hall := hav.append (hmapc (MCs.rep hr hagV hcaps hcr))
  have hVl : ∀ q ∈ V, ∃ obj, s'.obj q = some obj := fun q hq => by
    have hl := List.all_eq_true.1 hV q hq
    rw [← hagV q hq] at hl
    cases ho' : s'.obj q with
    | some obj => exact ⟨obj, rfl⟩
    | none => rw [ho'] at hl; cases hl
  have hI : ∀ b, lent I β V b → b < w.heap.size := fun b hb => by
    rcases hb with hb | ⟨q, B, hq, hB, hb⟩
    · exact hr.imm b hb
    · obtain ⟨obj, ho'⟩ := hVl q hq
      exact ((hr.obs q obj ho').lt hB hb).1
  have hil := hins.length
  have hlive : ∀ q ∈ μ, ∃ obj, s'.obj q = some obj := fun q hq => by
    obtain ⟨i, hi⟩ := List.mem_iff_getElem?.1 hq
    obtain ⟨obj, _, hob⟩ := hins.at hi
    exact ⟨obj, (hagμ q hq).trans hob⟩
  have hinsat : ∀ (i : Nat) obj, ins[i]? = some obj → ∃ q, μ[i]? = some q ∧ s'.obj q = some obj := fun i obj hi => by
    have hlt : i < μ.length := by have := (List.getElem?_eq_some_iff.1 hi).1; omega
    obtain ⟨obj', ho1, ho2⟩ := hins.at (List.getElem?_eq_getElem hlt)
    rw [hi] at ho1
    cases ho1
    exact ⟨_, List.getElem?_eq_getElem hlt, (hagμ _ (List.getElem_mem hlt)).trans ho2⟩
  have hVμ : ∀ q ∈ μ, ∀ obj B b, s'.obj q = some obj → β q = some B → B.blk = some b → ¬ lent I β V b := fun q hq obj B b ho' hB hb hl => by
    rcases hl with hl | ⟨q', B', hq', hB', hb'⟩
    · exact ((hr.obs q obj ho').lt hB hb).2.2 hl
    · obtain ⟨obj', ho''⟩ := hVl q' hq'
      have hne : q ≠ q' := fun e => by
        have := List.all_eq_true.1 hdis q' hq'
        rw [← e, memB_iff.2 hq] at this
        cases this
      exact hr.inj q q' obj obj' B B' b ho' ho'' hne hB hB' hb hb'
  have hblk : ∀ b, blocksOf (inβ β μ) ins.length b ↔ ∃ q B, q ∈ μ ∧ β q = some B ∧ B.blk = some b := fun b => by
    constructor
    · rintro ⟨i, B, h1, h2, h3⟩
      unfold inβ at h2
      split at h2
      · rename_i q hq
        exact ⟨q, B, List.mem_of_getElem? hq, h2, h3⟩
      · cases h2
    · rintro ⟨q, B, h1, h2, h3⟩
      obtain ⟨i, hi⟩ := List.mem_iff_getElem?.1 h1
      exact ⟨i, B, by have := (List.getElem?_eq_some_iff.1 hi).1; omega, by simp only [inβ, hi]; exact h2, h3⟩
  have hc := h.run (lent I β V) (inβ β μ) w _ hI (fun i B e => by
      unfold inβ at e
      split at e
      · rename_i q hq; have := (List.getElem?_eq_some_iff.1 hq).1; omega
      · cases e)
    (fun i obj hi => by
      obtain ⟨q, hq, hob⟩ := hinsat i obj hi
      obtain ⟨B, hB, g2, g3, g4⟩ := hr.obs q obj hob
      refine ⟨B, by simp only [inβ, hq]; exact hB, g2, g3, fun b hb => ?_⟩
      obtain ⟨k0, k1, k2, arr, k3, k4, k5, k6, k7⟩ := g4 b hb
      refine ⟨k0, (hblk b).2 ⟨q, B, List.mem_of_getElem? hq, hB, hb⟩, hVμ q (List.mem_of_getElem? hq) obj B b hob hB hb, arr, k3, k4, k5, k6, fun i' j x c hx hj => ?_⟩
      obtain ⟨u, hu, hru⟩ := k7 i' j x c hx hj
      exact ⟨u, hu, .imm (hinimm obj (List.mem_of_getElem? hi) x (List.mem_of_getElem? hx) c (List.mem_of_getElem? hj) _ _ _ _ hru).lent⟩)
    (fun i i' obj obj' B B' b e e' hne hB hB' hb => by
      have e1 : ins[i]? = some obj := by rw [List.getElem?_map] at e; cases hx : ins[i]? <;> simp [hx] at e ⊢; exact e
      have e2 : ins[i']? = some obj' := by rw [List.getElem?_map] at e'; cases hx : ins[i']? <;> simp [hx] at e' ⊢; exact e'
      obtain ⟨q, hq, hob⟩ := hinsat i obj e1
      obtain ⟨q', hq', hob'⟩ := hinsat i' obj' e2
      have hB1 : β q = some B := by simp only [inβ, hq] at hB; exact hB
      have hB2 : β q' = some B' := by simp only [inβ, hq'] at hB'; exact hB'
      have hne' : q ≠ q' := fun e => by
        have hidx : ∀ {μ : List Nat}, nodupB μ = true → ∀ {i j q : Nat}, μ[i]? = some q → μ[j]? = some q → i = j := by
          intro μ
          induction μ with
          | nil => intro _ i j q h; simp at h
          | cons y ys ih =>
            intro h i j q hi hj
            simp only [nodupB, Bool.and_eq_true, Bool.not_eq_true'] at h
            have hno : ∀ k, ys[k]? = some y → False := fun k hk => by
              have := memB_iff.2 (List.mem_of_getElem? hk)
              rw [h.1] at this
              cases this
            cases i with
            | zero =>
              simp at hi
              subst hi
              cases j with
              | zero => rfl
              | succ j => exact (hno j (by simpa using hj)).elim
            | succ i =>
              cases j with
              | zero =>
                simp at hj
                subst hj
                exact (hno i (by simpa using hi)).elim
              | succ j => exact congrArg (· + 1) (ih h.2 (i := i) (j := j) (q := q) (by simpa using hi) (by simpa using hj))
        rw [← e] at hq'
        exact hne (hidx hμ hq hq')
      exact hr.inj q q' obj obj' B B' b hob hob' hne' hB1 hB2 hb) hall
  unfold Oper.wp
  rw [run_call ho hcv h.ok, Oper.upon_enter]
  refine hc.mono fun e w' ⟨v, I', β', he, hv, hk, hI', hgr, hdom, hin, hobs, hinj⟩ => ?_
  subst he
  have hIV : ∀ b, I b → I' b := fun b hb => (hgr b (hr.imm b hb)).2 (.inl hb)
  have hnotI : ∀ (i : Nat) obj B b, outs[i]? = some (some obj) → β' i = some B → B.blk = some b → ¬ I b := fun i obj B b ho' hB hb hIb => by
    exact ((hobs i obj ho').lt hB hb).2.2 (hIV b hIb)
  have hV0 : z = true → ∀ b, b < w.heap.size → (I' b ↔ I b) := fun hz' b hb => by
    rw [hgr b hb]
    constructor
    · rintro (h | ⟨q, B, hq, _⟩)
      · exact h
      · rw [hz hz'] at hq; cases hq
    · exact .inl
  obtain ⟨β2, hr2⟩ := hr.calledM (In := keepI z I I') (μ := μ) (nx := s.nx) (r := r) (outs := outs) (β' := β') (w' := w') (v := v) (d := o.dst) (fun i hi => hnm' i hi) (Nat.le_of_ble_eq_true hm) hd (by omega) hμ hlive
    (fun q hq => by have := List.all_eq_true.1 hltB q hq; simpa using this)
    (fun b hb => by unfold keepI; split; exact hIV b hb; exact hb)
    (fun b hb => by unfold keepI; split; exact hV0 (by assumption) b hb; exact Iff.rfl)
    (fun b hb => by unfold keepI at hb; split at hb; exact hI' b hb; exact Nat.lt_of_lt_of_le (hr.imm b hb) hk.size)
    ⟨hk.os, hk.tape, hk.output, hk.size, fun k hk1 hk2 => hk.block k hk1 (fun h => hk2 ((hblk k).1 h))⟩ hdom
    (fun i q hq => by rw [hin i (by have := (List.getElem?_eq_some_iff.1 hq).1; omega)]; simp only [inβ, hq])
    (fun i obj ho' => by
      have h2 := (hobs i obj ho').mayMono (M' := fun b => (∃ q B, q ∈ μ ∧ β q = some B ∧ B.blk = some b) ∨ w.heap.size ≤ b) (fun b hb => hb.imp (hblk b).1 id)
      cases z with
      | true => exact h2
      | false =>
        obtain ⟨B, hB, g2, g3, g4⟩ := h2
        refine ⟨B, hB, g2, g3, fun b hb => ?_⟩
        obtain ⟨k0, k1, k2, arr, k3, k4, k5, k6, k7⟩ := g4 b hb
        refine ⟨k0, k1, hnotI i obj B b ho' hB hb, arr, k3, k4, k5, k6, fun i' j x c hx hj => ?_⟩
        obtain ⟨u, hu, hru⟩ := k7 i' j x c hx hj
        exact ⟨u, hu, ((hfr rfl).all obj (List.mem_of_getElem? ho') x (List.mem_of_getElem? hx) c (List.mem_of_getElem? hj)).2 _ _ _ _ _ hru⟩)
    himm hinj (by
      cases z with
      | true => exact hv
      | false => exact flatV_rep (hrf rfl) hv)
  refine ⟨keepI z I I', β2, hr2⟩
end
end Go.Proofs.Ytfebalahfhkeaaa
