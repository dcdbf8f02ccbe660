/- The abstract machine, part 2: one operation, and a region of operations in the text's order or in every order that its edges allow. No conditions but those stated. -/
import Derived.Test.YtfebalahfhkeaaaAbsCore
import Derived.Tactics
import Derived.OrdersHeld
namespace Go.Proofs.Ytfebalahfhkeaaa
open Go Go.RowKit

def opRun (P : Program) (ops : Array Oper) (o : Oper) (a : Act) (w : World) (K : Act → World → Prop) : Prop :=
  ∀ Q, if Region.wanted o (yielded ops a.tmps) then o.wp P a w K Q else K (a.put o.dst undef) w
theorem opRun.mono {P : Program} {ops : Array Oper} {o : Oper} {a : Act} {w : World} {K K' : Act → World → Prop} (h : opRun P ops o a w K) (hK : ∀ a w, K a w → K' a w) : opRun P ops o a w K' := by
  intro Q
  have := h Q
  split
  · rw [if_pos ‹_›] at this; exact Oper.wp_mono hK this
  · rw [if_neg ‹_›] at this; exact hK _ _ this

/-- what a step looks at, beside what it changes -/
structure Foot where
  tm : List Nat
  ob : List Nat
def Agree (F : Foot) (s s' : AS) : Prop := (∀ t ∈ F.tm, s'.get t = s.get t) ∧ (∀ o ∈ F.ob, s'.obj o = s.obj o)
theorem Agree.refl (F : Foot) (s : AS) : Agree F s s := ⟨fun _ _ => rfl, fun _ _ => rfl⟩

def StepOk (P : Program) (E : Env) (ops : Array Oper) (o : Oper) (s : AS) (u : Upd) (F : Foot) : Prop :=
  ∀ N I s' β a w, Agree F s s' → (∀ i, i < u.k → ¬ N (s.nx + i)) → Rel E N I s' β a w →
    opRun P ops o a w (fun a' w' => ∃ I' β', Rel E (fun o => N o ∨ (s.nx ≤ o ∧ o < s.nx + u.k)) I' (s'.upd u) β' a' w')

def Below' (s : AS) (o : Nat) : Prop := o < s.nx

/-- a region in the order of its text -/
def regA (P : Program) (E : Env) (ops : Array Oper) (K : AS → Prop) : List Oper → AS → Prop
  | [], s => K s
  | o :: r, s => ∃ u F, StepOk P E ops o s u F ∧ regA P E ops K r (s.upd u)

theorem regA_sound {P : Program} {E : Env} {ops : Array Oper} {K : AS → Prop} {Q : Exit → Act → World → Prop} (hQ : ∀ s I β a w, K s → Rel E (Below' s) I s β a w → Q .normal a w) :
    ∀ (l : List Oper) (s : AS), regA P E ops K l s → ∀ I β a w, Rel E (Below' s) I s β a w → wpList P ops Q l a w
  | [], s, h, I, β, a, w, hr => hQ s I β a w h hr
  | o :: r, s, ⟨u, F, hs, h⟩, I, β, a, w, hr => by
    have h1 := hs (Below' s) I s β a w (Agree.refl F s) (fun i _ => by simp [Below']) hr
    have h2 : opRun P ops o a w (wpList P ops Q r) := h1.mono fun a' w' ⟨I', β', hr'⟩ =>
      regA_sound hQ r (s.upd u) h I' β' a' w' (hr'.names fun o ho => by rcases ho with h | h <;> simp only [Below', AS.upd] at * <;> omega)
    have h3 := h2 Q
    unfold wpList
    split
    · rw [if_pos ‹_›] at h3; exact .inl h3
    · rw [if_neg ‹_›] at h3; exact h3

/-! ## A region that draws its order -/
/-- the numbers of the operations that must come before number j -/
def anc (ops : Array Oper) : Nat → Nat → List Nat
  | 0, _ => []
  | f + 1, j => match ops[j]? with
    | none => []
    | some o => (o.after.toList.filter (Region.binds .any)).flatMap fun e => e.on :: anc ops f e.on
def memB (n : Nat) : List Nat → Bool
  | [] => false
  | k :: r => Nat.beq n k || memB n r
theorem memB_iff {n : Nat} : ∀ {l : List Nat}, memB n l = true ↔ n ∈ l
  | [] => by simp [memB]
  | k :: r => by simp [memB, memB_iff (l := r)]
def touches (u : Upd) (F : Foot) : Bool := u.tm.any (fun p => memB p.1 F.tm) || u.ob.any (fun p => memB p.1 F.ob)
def domF (u : Upd) : Foot := ⟨u.tm.map (·.1), u.ob.map (·.1)⟩
/-- do two steps meddle with one another? -/
def meddles (x y : Upd × Foot) : Bool := touches x.1 y.2 || touches x.1 (domF y.1)
def okPair (ops : Array Oper) (n : Nat) (us : List (Upd × Foot)) (i j : Nat) : Bool :=
  match us[i]?, us[j]? with
  | some x, some y => Nat.beq i j || !meddles x y || memB i (anc ops n j) || memB j (anc ops n i)
  | _, _ => true
def depsB (ops : Array Oper) : Bool := (List.range ops.size).all fun j => match ops[j]? with | some o => o.after.toList.all (fun e => !Region.binds .any e || Nat.blt e.on j) | none => true
def okB (ops : Array Oper) (us : List (Upd × Foot)) : Bool :=
  depsB ops && Nat.beq us.length ops.size && (List.range ops.size).all fun i => (List.range ops.size).all fun j => okPair ops ops.size us i j

def regD (P : Program) (E : Env) (ops : Array Oper) (K : AS → Prop) : List Oper → List (Upd × Foot) → AS → Prop
  | [], acc, s => okB ops acc.reverse = true ∧ K s
  | o :: r, acc, s => ∃ u F, StepOk P E ops o s u F ∧ regD P E ops K r ((u, F) :: acc) (s.upd u)

/-- what the last step among those in T says -/
def lastT {V : Type} (p : Upd → Option V) (T : Nat → Bool) : Nat → List (Upd × Foot) → Option V → Option V
  | _, [], acc => acc
  | i, u :: r, acc => lastT p T (i + 1) r (if T i then (p u.1).or acc else acc)
theorem lastT_congr {V : Type} {p : Upd → Option V} {T T' : Nat → Bool} : ∀ (us : List (Upd × Foot)) (k : Nat) (acc : Option V),
    (∀ (i : Nat) x, us[i]? = some x → p x.1 ≠ none → T (k + i) = T' (k + i)) → lastT p T k us acc = lastT p T' k us acc
  | [], _, _, _ => rfl
  | u :: r, k, acc, h => by
    rw [lastT, lastT]
    have e : (if T k then (p u.1).or acc else acc) = (if T' k then (p u.1).or acc else acc) := by
      by_cases hp : p u.1 = none
      · simp [hp]
      · have := h 0 u rfl hp
        simp only [Nat.add_zero] at this
        rw [this]
    rw [e]
    exact lastT_congr r (k + 1) _ fun i x hx hp => by
      have := h (i + 1) x (by simpa using hx) hp
      rwa [show k + (i + 1) = k + 1 + i by omega] at this
theorem lastT_top {V : Type} {p : Upd → Option V} {T : Nat → Bool} : ∀ (us : List (Upd × Foot)) (k : Nat) (acc : Option V) (j : Nat) (x : Upd × Foot) (v : V),
    us[j]? = some x → p x.1 = some v → T (k + j) = true → (∀ (i : Nat) y, us[i]? = some y → j < i → T (k + i) = true → p y.1 = none) → lastT p T k us acc = some v
  | [], _, _, j, x, v, h, _, _, _ => by simp at h
  | u :: r, k, acc, 0, x, v, h, hp, hT, hn => by
    simp only [List.getElem?_cons_zero, Option.some.injEq] at h
    subst h
    rw [lastT, if_pos (by simpa using hT), hp, Option.some_or]
    have : ∀ (us : List (Upd × Foot)) (k' : Nat), (∀ (i : Nat) y, us[i]? = some y → T (k' + i) = true → p y.1 = none) → lastT p T k' us (some v) = some v := by
      intro us
      induction us with
      | nil => intro k' _; rfl
      | cons y us ih =>
        intro k' hn'
        rw [lastT]
        have e : (if T k' then (p y.1).or (some v) else some v) = some v := by
          by_cases hk : T k' = true
          · rw [if_pos hk, hn' 0 y rfl (by simpa using hk)]; rfl
          · rw [if_neg hk]
        rw [e]
        exact ih (k' + 1) fun i z hz hTz => hn' (i + 1) z (by simpa using hz) (by rwa [show k' + (i + 1) = k' + 1 + i by omega])
    exact this r (k + 1) fun i y hy hTy => hn (i + 1) y (by simpa using hy) (by omega) (by rwa [show k + (i + 1) = k + 1 + i by omega])
  | u :: r, k, acc, j + 1, x, v, h, hp, hT, hn => by
    rw [lastT]
    exact lastT_top r (k + 1) _ j x v (by simpa using h) hp (by rwa [show k + 1 + j = k + (j + 1) by omega]) fun i y hy hj hTy =>
      hn (i + 1) y (by simpa using hy) (by omega) (by rwa [show k + (i + 1) = k + 1 + i by omega])
/-- one step more -/
theorem lastT_insert {V : Type} {p : Upd → Option V} {T : Nat → Bool} {us : List (Upd × Foot)} {acc : Option V} {j : Nat} {x : Upd × Foot} (hx : us[j]? = some x)
    (hn : ∀ (i : Nat) y, us[i]? = some y → i ≠ j → T i = true → p x.1 ≠ none → j < i → p y.1 = none) :
    lastT p (fun i => i == j || T i) 0 us acc = (p x.1).or (lastT p T 0 us acc) := by
  cases hp : p x.1 with
  | none =>
    rw [Option.none_or]
    refine lastT_congr us 0 acc fun i y hy hpy => ?_
    by_cases e : i = j
    · subst e; rw [hx] at hy; cases hy; exact absurd hp hpy
    · simp [e]
  | some v =>
    rw [Option.some_or]
    exact lastT_top us 0 acc j x v hx hp (by simp) fun i y hy hj hT => hn i y hy (by omega) (by
      have hij : i ≠ j := by omega
      simpa [hij] using hT) (by simp [hp]) hj

/-- the names that the steps ahead of number i made -/
def baseOf (nx : Nat) : List (Upd × Foot) → Nat → Nat
  | _, 0 => nx
  | [], _ + 1 => nx
  | u :: r, i + 1 => baseOf (nx + u.1.k) r i
def stT (s : AS) (us : List (Upd × Foot)) (T : Nat → Bool) (r : AS) : Prop :=
  (∀ t, r.get t = (lastT (fun u => lk t u.tm) T 0 us (lk t s.tm)).getD .any) ∧ (∀ o, r.obj o = (lastT (fun u => lk o u.ob) T 0 us (lk o s.ob)).getD none)
/-- the state ahead of number i, in the text's order -/
def stAt (s : AS) : List (Upd × Foot) → Nat → AS
  | _, 0 => s
  | [], _ + 1 => s
  | u :: r, i + 1 => stAt (s.upd u.1) r i
theorem stAt_nx : ∀ (us : List (Upd × Foot)) (s : AS) (i : Nat), (stAt s us i).nx = baseOf s.nx us i
  | _, s, 0 => by simp [stAt, baseOf]
  | [], s, i + 1 => rfl
  | u :: r, s, i + 1 => by rw [stAt, baseOf, stAt_nx r]; rfl
theorem stAt_tm : ∀ (us : List (Upd × Foot)) (s : AS) (i k t : Nat), lk t (stAt s us i).tm = lastT (fun u => lk t u.tm) (fun j => decide (j < k + i)) k us (lk t s.tm)
  | us, s, 0, k, t => by
    have : ∀ (us : List (Upd × Foot)) (k' : Nat) (acc : Option AVal), k ≤ k' → lastT (fun u => lk t u.tm) (fun j => decide (j < k + 0)) k' us acc = acc := by
      intro us
      induction us with
      | nil => intros; rfl
      | cons u us ih => intro k' acc hk; rw [lastT, if_neg (by simp; omega)]; exact ih _ _ (by omega)
    rw [this us k _ (Nat.le_refl _)]
    cases us <;> rfl
  | [], s, i + 1, k, t => rfl
  | u :: r, s, i + 1, k, t => by
    rw [stAt, lastT, if_pos (by simp), stAt_tm r (s.upd u.1) i (k + 1) t, show k + 1 + i = k + (i + 1) by omega]
    simp only [AS.upd, lk_append]
theorem stAt_ob : ∀ (us : List (Upd × Foot)) (s : AS) (i k t : Nat), lk t (stAt s us i).ob = lastT (fun u => lk t u.ob) (fun j => decide (j < k + i)) k us (lk t s.ob)
  | us, s, 0, k, t => by
    have : ∀ (us : List (Upd × Foot)) (k' : Nat) (acc : Option (Option AObj)), k ≤ k' → lastT (fun u => lk t u.ob) (fun j => decide (j < k + 0)) k' us acc = acc := by
      intro us
      induction us with
      | nil => intros; rfl
      | cons u us ih => intro k' acc hk; rw [lastT, if_neg (by simp; omega)]; exact ih _ _ (by omega)
    rw [this us k _ (Nat.le_refl _)]
    cases us <;> rfl
  | [], s, i + 1, k, t => rfl
  | u :: r, s, i + 1, k, t => by
    rw [stAt, lastT, if_pos (by simp), stAt_ob r (s.upd u.1) i (k + 1) t, show k + 1 + i = k + (i + 1) by omega]
    simp only [AS.upd, lk_append]
theorem baseOf_le : ∀ (us : List (Upd × Foot)) (nx i : Nat), nx ≤ baseOf nx us i
  | _, nx, 0 => by simp [baseOf]
  | [], nx, i + 1 => Nat.le_refl _
  | u :: r, nx, i + 1 => Nat.le_trans (Nat.le_add_right _ _) (baseOf_le r (nx + u.1.k) i)
theorem baseOf_step : ∀ (us : List (Upd × Foot)) (nx i j : Nat) (x : Upd × Foot), us[i]? = some x → i < j → baseOf nx us i + x.1.k ≤ baseOf nx us j
  | [], nx, i, j, x, h, _ => by simp at h
  | u :: r, nx, 0, j + 1, x, h, _ => by
    simp only [List.getElem?_cons_zero, Option.some.injEq] at h
    subst h
    simp only [baseOf]
    exact baseOf_le r _ j
  | u :: r, nx, i + 1, j + 1, x, h, hj => by
    simp only [baseOf]
    exact baseOf_step r _ i j x (by simpa using h) (by omega)

/-- all that regD says, at once -/
theorem regD_all {P : Program} {E : Env} {ops : Array Oper} {K : AS → Prop} : ∀ (l : List Oper) (acc : List (Upd × Foot)) (s : AS), regD P E ops K l acc s →
    ∃ us : List (Upd × Foot), us.length = l.length ∧ (∀ (i : Nat) x o, us[i]? = some x → l[i]? = some o → StepOk P E ops o (stAt s us i) x.1 x.2) ∧ okB ops (acc.reverse ++ us) = true ∧ K (stAt s us us.length)
  | [], acc, s, h => ⟨[], rfl, fun i x o h => by simp at h, by simpa using h.1, h.2⟩
  | o :: r, acc, s, ⟨u, F, hs, h⟩ => by
    obtain ⟨us, h1, h2, h3, h4⟩ := regD_all r _ _ h
    refine ⟨(u, F) :: us, by simp [h1], fun i x o' hx ho => ?_, by simpa using h3, h4⟩
    cases i with
    | zero =>
      simp only [List.getElem?_cons_zero, Option.some.injEq] at hx ho
      subst hx; subst ho
      exact hs
    | succ i => exact h2 i x o' (by simpa using hx) (by simpa using ho)

theorem anc_lt {ops : Array Oper} (hd : depsB ops = true) : ∀ (f j i : Nat), i ∈ anc ops f j → i < j
  | 0, j, i, h => by simp [anc] at h
  | f + 1, j, i, h => by
    unfold anc at h
    cases ho : ops[j]? with
    | none => simp [ho] at h
    | some o =>
      simp only [ho, List.mem_flatMap, List.mem_filter, List.mem_cons] at h
      obtain ⟨e, ⟨he, hb⟩, h⟩ := h
      have hj : j < ops.size := (Array.getElem?_eq_some_iff.1 ho).1
      have h1 : e.on < j := by
        have := (List.all_eq_true.1 hd) j (List.mem_range.2 hj)
        simp only [ho] at this
        have := (List.all_eq_true.1 this) e he
        simpa [hb] using this
      rcases h with rfl | h
      · exact h1
      · exact Nat.lt_trans (anc_lt hd f e.on i h) h1
/-- what must come before is there -/
theorem anc_in {ops : Array Oper} {T : Nat → Bool} (hT : ∀ (j : Nat) o, ops[j]? = some o → T j = true → ∀ e ∈ o.after, Region.binds .any e = true → T e.on = true) :
    ∀ (f j i : Nat), (∀ o, ops[j]? = some o → ∀ e ∈ o.after, Region.binds .any e = true → T e.on = true) → i ∈ anc ops f j → T i = true
  | 0, j, i, _, h => by simp [anc] at h
  | f + 1, j, i, hj, h => by
    unfold anc at h
    cases ho : ops[j]? with
    | none => simp [ho] at h
    | some o =>
      simp only [ho, List.mem_flatMap, List.mem_filter, List.mem_cons] at h
      obtain ⟨e, ⟨he, hb⟩, h⟩ := h
      have h1 := hj o ho e (Array.mem_toList_iff.1 he) hb
      rcases h with rfl | h
      · exact h1
      · exact anc_in hT f e.on i (fun o' ho' => hT e.on o' ho' h1) h

def cnt (l : List Bool) : Nat := (l.filter (!·)).length
theorem cnt_set : ∀ (l : List Bool) (i : Nat), l[i]? = some false → cnt (l.set i true) + 1 = cnt l
  | [], i, h => by simp at h
  | b :: l, 0, h => by
    simp only [List.getElem?_cons_zero, Option.some.injEq] at h
    subst h
    simp [cnt]
  | b :: l, i + 1, h => by
    have := cnt_set l i (by simpa using h)
    cases b <;> simp [cnt] at * <;> omega

theorem regD_sound {P : Program} {E : Env} {ops : Array Oper} {K : AS → Prop} {Q : Exit → Act → World → Prop} {s0 : AS} {us : List (Upd × Foot)}
    (hQ : ∀ s I β a w, K s → Rel E (Below' s) I s β a w → Q .normal a w) (hlen : us.length = ops.size)
    (hst : ∀ (i : Nat) x o, us[i]? = some x → ops[i]? = some o → StepOk P E ops o (stAt s0 us i) x.1 x.2) (hB : okB ops us = true) (hK : K (stAt s0 us us.length)) :
    ∀ (f : Nat) (listed : Array Bool) (r : AS) (I : Nat → Prop) (β : Nat → Option BI) (a : Act) (w : World), listed.size = ops.size → cnt listed.toList = f →
      (∀ (j : Nat) o, ops[j]? = some o → listed.getD j false = true → ∀ e ∈ o.after, Region.binds .any e = true → listed.getD e.on false = true) →
      stT s0 us (fun i => listed.getD i false) r →
      Rel E (fun o => o < s0.nx ∨ ∃ i x, us[i]? = some x ∧ listed.getD i false = true ∧ baseOf s0.nx us i ≤ o ∧ o < baseOf s0.nx us i + x.1.k) I r β a w →
      wpAny P .any ops Q f listed a w := by
  simp only [okB, Bool.and_eq_true] at hB
  obtain ⟨⟨hdeps, _⟩, hpairs⟩ := hB
  have hall : ∀ (listed : Array Bool) (r : AS) (I : Nat → Prop) (β : Nat → Option BI) (a : Act) (w : World), listed.size = ops.size → (∀ j, j < ops.size → listed.getD j false = true) → stT s0 us (fun i => listed.getD i false) r →
      Rel E (fun o => o < s0.nx ∨ ∃ i x, us[i]? = some x ∧ listed.getD i false = true ∧ baseOf s0.nx us i ≤ o ∧ o < baseOf s0.nx us i + x.1.k) I r β a w → Q .normal a w := by
    intro listed r I β a w hsz hl hT hr
    refine hQ _ I β a w hK ((hr.congr (s' := stAt s0 us us.length) ?_ ?_).names ?_)
    · intro t
      rw [hT.1, AS.get, stAt_tm us s0 us.length 0 t]
      congr 1
      exact lastT_congr us 0 _ fun i x hx _ => by
        have : i < us.length := (List.getElem?_eq_some_iff.1 hx).1
        rw [hl (0 + i) (by omega)]
        simpa using this
    · intro o
      rw [hT.2, AS.obj, stAt_ob us s0 us.length 0 o]
      congr 1
      exact lastT_congr us 0 _ fun i x hx _ => by
        have : i < us.length := (List.getElem?_eq_some_iff.1 hx).1
        rw [hl (0 + i) (by omega)]
        simpa using this
    · intro o ho
      simp only [Below', stAt_nx]
      rcases ho with h | ⟨i, x, hx, _, _, h⟩
      · exact Nat.lt_of_lt_of_le h (baseOf_le us _ _)
      · exact Nat.lt_of_lt_of_le h (baseOf_step us _ i us.length x hx (List.getElem?_eq_some_iff.1 hx).1)
  have hready : ∀ listed : Array Bool, listed.size = ops.size → Region.ready .any ops listed = [] → ∀ j, j < ops.size → listed.getD j false = true := by
    intro listed hsz hr0 j
    induction j using Nat.strongRecOn with
    | _ j ih =>
      intro hj
      rcases hb : listed.getD j false with _ | _
      · exfalso
        have : j ∈ Region.ready .any ops listed := by
          rw [mem_ready]
          refine ⟨?_, ops[j], Array.getElem?_eq_getElem hj, fun e he hbe => ?_⟩
          · simp only [Array.getD_eq_getD_getElem?] at hb ⊢
            rw [Array.getElem?_eq_getElem (by omega)] at hb ⊢
            simpa using hb
          · have h1 : e.on < j := by
              have := (List.all_eq_true.1 hdeps) j (List.mem_range.2 hj)
              rw [Array.getElem?_eq_getElem hj] at this
              have := (List.all_eq_true.1 this) e (Array.mem_toList_iff.2 he)
              simpa [hbe] using this
            exact ih e.on h1 (by omega)
        rw [hr0] at this
        cases this
      · rfl
  intro f
  induction f with
  | zero =>
    intro listed r I β a w hsz hc hdc hT hr
    have hl : ∀ j, j < ops.size → listed.getD j false = true := by
      intro j hj
      have h0 : listed.toList.filter (!·) = [] := List.eq_nil_of_length_eq_zero hc
      rw [List.filter_eq_nil_iff] at h0
      have := h0 (listed[j]'(by omega)) (by simp)
      simp only [Array.getD_eq_getD_getElem?]
      rw [Array.getElem?_eq_getElem (by omega)]
      simpa using this
    refine ⟨?_, hall listed r I β a w hsz hl hT hr⟩
    rw [List.eq_nil_iff_forall_not_mem]
    intro j hj
    obtain ⟨h1, o, ho, _⟩ := mem_ready.1 hj
    have hj' : j < ops.size := (Array.getElem?_eq_some_iff.1 ho).1
    have h2 := hl j hj'
    simp only [Array.getD_eq_getD_getElem?] at h1 h2
    rw [Array.getElem?_eq_getElem (by omega)] at h1 h2
    simp at h1 h2
    rw [h1] at h2
    cases h2
  | succ f ih =>
    intro listed r I β a w hsz hc hdc hT hr
    refine ⟨fun h0 => hall listed r I β a w hsz (hready listed hsz h0) hT hr, fun j hj => ?_⟩
    obtain ⟨hun, o, ho, hdep⟩ := mem_ready.1 hj
    have hjs : j < ops.size := (Array.getElem?_eq_some_iff.1 ho).1
    have hjT : listed.getD j false = false := by
      simp only [Array.getD_eq_getD_getElem?] at hun ⊢
      rw [Array.getElem?_eq_getElem (by omega)] at hun ⊢
      simpa using hun
    have hgetj : listed.toList[j]? = some false := by
      simp only [Array.getD_eq_getD_getElem?] at hjT
      rw [Array.getElem?_eq_getElem (by omega)] at hjT
      rw [Array.getElem?_toList, Array.getElem?_eq_getElem (by omega)]
      simpa using hjT
    obtain ⟨x, hx⟩ : ∃ x, us[j]? = some x := ⟨us[j]'(by omega), List.getElem?_eq_getElem (by omega)⟩
    -- the steps that meddle with number j
    have hmed : ∀ (i : Nat) y, us[i]? = some y → i ≠ j → (meddles y x = true ∨ meddles x y = true) → (listed.getD i false = true ↔ i < j) := by
      intro i y hy hij hm
      have his : i < ops.size := by have := (List.getElem?_eq_some_iff.1 hy).1; omega
      have hor : i ∈ anc ops ops.size j ∨ j ∈ anc ops ops.size i := by
        rcases hm with hm | hm
        · have := (List.all_eq_true.1 ((List.all_eq_true.1 hpairs) i (List.mem_range.2 his))) j (List.mem_range.2 hjs)
          simp only [okPair, hy, hx, hm, Bool.or_eq_true, Bool.not_true, Bool.false_eq_true, or_false, memB_iff] at this
          rcases this with (h | h) | h
          · exact absurd (Nat.eq_of_beq_eq_true h) hij
          · exact .inl h
          · exact .inr h
        · have := (List.all_eq_true.1 ((List.all_eq_true.1 hpairs) j (List.mem_range.2 hjs))) i (List.mem_range.2 his)
          simp only [okPair, hy, hx, hm, Bool.or_eq_true, Bool.not_true, Bool.false_eq_true, or_false, memB_iff] at this
          rcases this with (h | h) | h
          · exact absurd (Nat.eq_of_beq_eq_true h).symm hij
          · exact .inr h
          · exact .inl h
      rcases hor with h | h
      · have h1 := anc_in (T := fun i => listed.getD i false) hdc ops.size j i (fun o' ho' e he hb => by rw [ho] at ho'; cases ho'; exact hdep e he hb) h
        exact ⟨fun _ => anc_lt hdeps _ _ _ h, fun _ => h1⟩
      · constructor
        · intro hi
          have hi' : ∀ o', ops[i]? = some o' → ∀ e ∈ o'.after, Region.binds .any e = true → listed.getD e.on false = true := fun o' ho' => hdc i o' ho' hi
          have := anc_in (T := fun i => listed.getD i false) hdc ops.size i j hi' h
          rw [hjT] at this
          cases this
        · intro hlt
          have := anc_lt hdeps _ _ _ h
          omega
    have hag : Agree x.2 (stAt s0 us j) r := by
      refine ⟨fun t ht => ?_, fun q hq => ?_⟩
      · rw [hT.1, AS.get, stAt_tm us s0 j 0 t]
        congr 1
        refine lastT_congr us 0 _ fun i y hy hp => ?_
        simp only [Nat.zero_add]
        by_cases hij : i = j
        · subst hij; rw [hjT]; simp
        · have := hmed i y hy hij (.inl (by
            simp only [meddles, touches, Bool.or_eq_true, List.any_eq_true]
            refine .inl (.inl ?_)
            have : ∀ (l : List (Nat × AVal)), lk t l ≠ none → ∃ q ∈ l, q.1 = t := by
              intro l
              induction l with
              | nil => intro h; exact absurd rfl h
              | cons p l ih =>
                intro h
                obtain ⟨pk, pv⟩ := p
                rw [lk_cons] at h
                by_cases e : t = pk
                · exact ⟨(pk, pv), by simp, e.symm⟩
                · rw [if_neg e] at h
                  obtain ⟨q, hq, e'⟩ := ih h
                  exact ⟨q, by simp [hq], e'⟩
            obtain ⟨q, hq, rfl⟩ := this _ hp
            exact ⟨q, hq, memB_iff.2 ht⟩))
          by_cases hi : i < j
          · rw [this.2 hi]; simp [hi]
          · have : listed.getD i false = false := by
              rcases hb : listed.getD i false with _ | _
              · rfl
              · exact absurd (this.1 hb) hi
            rw [this]; simp [hi]
      · rw [hT.2, AS.obj, stAt_ob us s0 j 0 q]
        congr 1
        refine lastT_congr us 0 _ fun i y hy hp => ?_
        simp only [Nat.zero_add]
        by_cases hij : i = j
        · subst hij; rw [hjT]; simp
        · have := hmed i y hy hij (.inl (by
            simp only [meddles, touches, Bool.or_eq_true, List.any_eq_true]
            refine .inl (.inr ?_)
            have : ∀ (l : List (Nat × Option AObj)), lk q l ≠ none → ∃ z ∈ l, z.1 = q := by
              intro l
              induction l with
              | nil => intro h; exact absurd rfl h
              | cons p l ih =>
                intro h
                obtain ⟨pk, pv⟩ := p
                rw [lk_cons] at h
                by_cases e : q = pk
                · exact ⟨(pk, pv), by simp, e.symm⟩
                · rw [if_neg e] at h
                  obtain ⟨z, hz, e'⟩ := ih h
                  exact ⟨z, by simp [hz], e'⟩
            obtain ⟨z, hz, rfl⟩ := this _ hp
            exact ⟨z, hz, memB_iff.2 hq⟩))
          by_cases hi : i < j
          · rw [this.2 hi]; simp [hi]
          · have : listed.getD i false = false := by
              rcases hb : listed.getD i false with _ | _
              · rfl
              · exact absurd (this.1 hb) hi
            rw [this]; simp [hi]
    have hnames : ∀ i, i < x.1.k → ¬ ((stAt s0 us j).nx + i < s0.nx ∨ ∃ i' y, us[i']? = some y ∧ listed.getD i' false = true ∧ baseOf s0.nx us i' ≤ (stAt s0 us j).nx + i ∧ (stAt s0 us j).nx + i < baseOf s0.nx us i' + y.1.k) := by
      intro i hi hcon
      rw [stAt_nx] at hcon
      rcases hcon with h | ⟨i', y, hy, hl, h1, h2⟩
      · have := baseOf_le us s0.nx j; omega
      · by_cases e : i' = j
        · subst e; rw [hjT] at hl; cases hl
        · rcases Nat.lt_or_ge i' j with h | h
          · have := baseOf_step us s0.nx i' j y hy h; omega
          · have := baseOf_step us s0.nx j i' x hx (by omega); omega
    have hrun := hst j x o hx ho _ I r β a w hag hnames hr
    have hgd : ∀ i, (listed.setIfInBounds j true).getD i false = (i == j || listed.getD i false) := by
      intro i
      simp only [Array.getD_eq_getD_getElem?, Array.getElem?_setIfInBounds]
      by_cases e : j = i
      · subst e; simp [show j < listed.size by omega]
      · rw [if_neg e]
        have : (i == j) = false := by simp; omega
        simp [this]
    have hmain : opRun P ops o a w (wpAny P .any ops Q f (listed.setIfInBounds j true)) := by
      refine hrun.mono fun a' w' ⟨I', β', hr'⟩ => ih (listed.setIfInBounds j true) (r.upd x.1) I' β' a' w' (by simp [hsz]) ?_ ?_ ?_ ?_
      · have := cnt_set listed.toList j hgetj
        simp only [Array.toList_setIfInBounds]
        omega
      · intro i oi hoi hi e he hb
        rw [hgd] at hi ⊢
        by_cases hij : i = j
        · subst hij
          rw [ho] at hoi; cases hoi
          rw [hdep e he hb]; simp
        · have : (i == j) = false := by simpa using hij
          rw [this, Bool.false_or] at hi
          rw [hdc i oi hoi hi e he hb]; simp
      · have hfun : (fun i => (listed.setIfInBounds j true).getD i false) = (fun i => i == j || listed.getD i false) := funext hgd
        rw [hfun]
        refine ⟨fun t => ?_, fun q => ?_⟩
        · rw [lastT_insert hx, AS.get_upd]
          · have := hT.1 t
            rw [AS.get] at this
            cases lk t x.1.tm with
            | some v => rfl
            | none => simpa using this
          · intro i y hy hij hl hp hji
            by_cases hy0 : lk t y.1.tm = none
            · exact hy0
            · exfalso
              have hm : meddles y x = true := by
                simp only [meddles, touches, Bool.or_eq_true, List.any_eq_true]
                refine .inr (.inl ?_)
                have key : ∀ (l : List (Nat × AVal)), lk t l ≠ none → ∃ q ∈ l, q.1 = t := by
                  intro l
                  induction l with
                  | nil => intro h; exact absurd rfl h
                  | cons p l ih =>
                    intro h
                    obtain ⟨pk, pv⟩ := p
                    rw [lk_cons] at h
                    by_cases e : t = pk
                    · exact ⟨(pk, pv), by simp, e.symm⟩
                    · rw [if_neg e] at h
                      obtain ⟨q, hq, e'⟩ := ih h
                      exact ⟨q, by simp [hq], e'⟩
                obtain ⟨q, hq, hqe⟩ := key _ hy0
                obtain ⟨q', hq', hqe'⟩ := key _ hp
                refine ⟨q, hq, memB_iff.2 ?_⟩
                simp only [domF, List.mem_map]
                exact ⟨q', hq', by rw [hqe', hqe]⟩
              have := (hmed i y hy hij (.inl hm)).1 hl
              omega
        · rw [lastT_insert hx, AS.obj_upd]
          · have := hT.2 q
            rw [AS.obj] at this
            cases lk q x.1.ob with
            | some v => rfl
            | none => simpa using this
          · intro i y hy hij hl hp hji
            by_cases hy0 : lk q y.1.ob = none
            · exact hy0
            · exfalso
              have hm : meddles y x = true := by
                simp only [meddles, touches, Bool.or_eq_true, List.any_eq_true]
                refine .inr (.inr ?_)
                have key : ∀ (l : List (Nat × Option AObj)), lk q l ≠ none → ∃ z ∈ l, z.1 = q := by
                  intro l
                  induction l with
                  | nil => intro h; exact absurd rfl h
                  | cons p l ih =>
                    intro h
                    obtain ⟨pk, pv⟩ := p
                    rw [lk_cons] at h
                    by_cases e : q = pk
                    · exact ⟨(pk, pv), by simp, e.symm⟩
                    · rw [if_neg e] at h
                      obtain ⟨z, hz, e'⟩ := ih h
                      exact ⟨z, by simp [hz], e'⟩
                obtain ⟨z, hz, hze⟩ := key _ hy0
                obtain ⟨z', hz', hze'⟩ := key _ hp
                refine ⟨z, hz, memB_iff.2 ?_⟩
                simp only [domF, List.mem_map]
                exact ⟨z', hz', by rw [hze', hze]⟩
              have := (hmed i y hy hij (.inl hm)).1 hl
              omega
      · refine hr'.names fun q hq => ?_
        rcases hq with (h | ⟨i, y, hy, hl, h1, h2⟩) | ⟨h1, h2⟩
        · exact .inl h
        · exact .inr ⟨i, y, hy, by rw [hgd, hl]; simp, h1, h2⟩
        · rw [stAt_nx] at h1 h2
          exact .inr ⟨j, x, hx, by rw [hgd]; simp, h1, h2⟩
    have h3 := hmain Q
    unfold wpOp
    simp only [ho]
    split
    · rw [if_pos ‹_›] at h3; exact .inl h3
    · rw [if_neg ‹_›] at h3; exact h3
end Go.Proofs.Ytfebalahfhkeaaa
