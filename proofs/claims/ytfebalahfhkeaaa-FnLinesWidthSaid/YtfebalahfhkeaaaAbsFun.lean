/- The abstract machine, part 4: a function's contract, how it is entered and how it is called. No conditions but those stated. -/
import Derived.Test.YtfebalahfhkeaaaAbsWalk
import Derived.Laws.Rows
namespace Go.Proofs.Ytfebalahfhkeaaa
open Go Go.RowKit

def enum {α : Type} : Nat → List α → List (Nat × α)
  | _, [] => []
  | k, x :: r => (k, x) :: enum (k + 1) r
theorem lk_enum {α : Type} : ∀ (l : List α) (k n : Nat), lk n (enum k l) = if k ≤ n then l[n - k]? else none
  | [], k, n => by simp [enum, lk]
  | x :: r, k, n => by
    rw [enum, lk_cons, lk_enum r (k + 1) n]
    by_cases h : n = k
    · subst h; simp
    · rw [if_neg h]
      by_cases h1 : k ≤ n
      · rw [if_pos h1, if_pos (by omega), show n - k = (n - (k + 1)) + 1 by omega]; simp
      · rw [if_neg h1, if_neg (by omega)]

/-- the blocks of the first n names -/
def blocksOf (β : Nat → Option BI) (n b : Nat) : Prop := ∃ o B, o < n ∧ β o = some B ∧ B.blk = some b
def InjO (β : Nat → Option BI) (obs : List (Option AObj)) : Prop :=
  ∀ (o o' : Nat) obj obj' B B' b, obs[o]? = some (some obj) → obs[o']? = some (some obj') → o ≠ o' → β o = some B → β o' = some B' → B.blk = some b → B'.blk ≠ some b

def FnOk (P : Program) (f : Nat) : Prop := ∃ fn, P.funcs[f]? = some fn ∧ (fn.name == "runtime.NumGoroutine") = false ∧ fn.body.isNone = false

/-- what a call of f does: 'ins' are the objects that the arguments 'as' speak of, 'outs' what they are behind it and those that it makes, r its result -/
structure PFM (P : Program) (f : Nat) (ins : List AObj) (as : List AVal) (outs : List (Option AObj)) (r : AVal) : Prop where
  ok : FnOk P f
  run : ∀ (I : Nat → Prop) (β : Nat → Option BI) (w : World) (vals : List Value),
    (∀ b, I b → b < w.heap.size) → (∀ o B, β o = some B → o < ins.length) →
    (∀ (o : Nat) obj, ins[o]? = some obj → ObjAt I β w (fun b => blocksOf β ins.length b) o obj) → InjO β (ins.map some) → All2 (RepF I β w) as vals →
    Calls P f vals.toArray w fun e w' => ∃ v I' β', e = .returned v ∧ RepV I' β' w' r v ∧ Keeps (blocksOf β ins.length) w w' ∧ (∀ b, I' b → b < w'.heap.size) ∧ (∀ b, b < w.heap.size → (I' b ↔ I b)) ∧
      (∀ o B, β' o = some B → o < outs.length) ∧ (∀ o, o < ins.length → β' o = β o) ∧
      (∀ (o : Nat) obj, outs[o]? = some (some obj) → ObjAt I' β' w' (fun b => blocksOf β ins.length b ∨ w.heap.size ≤ b) o obj) ∧ InjO β' outs
/-- the pure case: nothing comes in that may be written to -/
def PF (P : Program) (f : Nat) (as : List AVal) (fr : List AObj) (r : AVal) : Prop := PFM P f [] as (fr.map some) r

def isAggD : TypeDesc → Bool
  | .struct _ | .array _ _ => true
  | _ => false
def tyAgg (P : Program) (t : Nat) (b : Bool) : Prop := ∃ d, P.underlying t = some d ∧ isAggD d = b
def tySize (P : Program) (t n : Nat) : Prop := ∃ i, P.info? t = some i ∧ i.size = n

/-- what a result variable holds -/
inductive resVal (P : Program) (s : AS) : ResultVar → AVal → Prop
  | tmp {t : Nat} {x : AVal} : s.get t = x → resVal P s (.tmp t) x
  | agg {a ty o : Nat} {obj : AObj} {cs : List Cell} : s.get a = .c (.ptr o 0 0) → s.obj o = some obj → obj.els = [cs] → tyAgg P ty true → tySize P ty cs.length → resVal P s (.cell a ty) (.agg cs)
  | cell {a ty o : Nat} {obj : AObj} {c : Cell} {r : List Cell} : s.get a = .c (.ptr o 0 0) → s.obj o = some obj → obj.els = [c :: r] → tyAgg P ty false → resVal P s (.cell a ty) (.c c)
inductive resAll (P : Program) (s : AS) : List ResultVar → List AVal → Prop
  | nil : resAll P s [] []
  | cons {v : ResultVar} {x : AVal} {vs : List ResultVar} {xs : List AVal} : resVal P s v x → resAll P s vs xs → resAll P s (v :: vs) (x :: xs)
def mkRes : List AVal → AVal
  | [x] => x
  | xs => .tup xs
/-- the end of a function -/
structure retK (P : Program) (res : List ResultVar) (outs : List (Option AObj)) (r : AVal) (m : Nat) (e : Exit) (s : AS) : Prop where
  he : e = .normal ∨ e = .ret
  hs : ∃ xs ρ, resAll P s res xs ∧ VW ρ (mkRes xs) r ∧ renB ρ m outs.length = true ∧ obW ρ s (enum 0 outs)
def st0 (ins : List AObj) (as : List AVal) : AS := ⟨enum 0 as, enum 0 (ins.map some), ins.length⟩

theorem run_loadCells_obj {P : Program} {I : Nat → Prop} {β : Nat → Option BI} {w : World} {b o : Nat} {arr : Array Value} {ty : Nat} {fz : Nat × Nat} (hb : w.heap[b]? = some (.cells arr ty fz)) (cs : List Cell)
    (h : ∀ (j : Nat) c, cs[j]? = some c → ∃ u, arr[o + j]? = some u ∧ Rep I β w c u) :
    ∃ vals : List Value, All2 (Rep I β w) cs vals ∧ (loadCells ⟨b, o, none⟩ cs.length).run P w = .ok vals.toArray w := by
  have hv : ∀ (cs : List Cell) (o : Nat), (∀ (j : Nat) c, cs[j]? = some c → ∃ u, arr[o + j]? = some u ∧ Rep I β w c u) → ∃ vals : List Value, All2 (Rep I β w) cs vals ∧ ∀ (j : Nat) v, vals[j]? = some v → arr[o + j]? = some v := by
    intro cs
    induction cs with
    | nil => intro o _; exact ⟨[], .nil, fun j v h => by simp at h⟩
    | cons c cs ih =>
      intro o h
      obtain ⟨u, hu, hr⟩ := h 0 c rfl
      obtain ⟨vals, h1, h2⟩ := ih (o + 1) fun j c hj => by
        have := h (j + 1) c (by simpa using hj)
        rwa [show o + (j + 1) = o + 1 + j by omega] at this
      refine ⟨u :: vals, .cons hr h1, fun j v hj => ?_⟩
      cases j with
      | zero => simp at hj; subst hj; exact hu
      | succ j =>
        have := h2 j v (by simpa using hj)
        rwa [show o + 1 + j = o + (j + 1) by omega] at this
  obtain ⟨vals, h1, h2⟩ := hv cs o h
  refine ⟨vals, h1, ?_⟩
  rw [← h1.length]
  refine run_loadCells_list w ⟨b, o, none⟩ vals fun j v hj => ?_
  have : (⟨b, o, none⟩ : Addr).add j = ⟨b, o + j, none⟩ := by unfold Addr.add; split <;> simp_all
  rw [this, cell_of_row w b _ arr ty fz hb]
  exact h2 j v hj
theorem run_isAgg {P : Program} {t : Nat} {b : Bool} (h : tyAgg P t b) (w : World) : (isAgg t).run P w = .ok b w := by
  obtain ⟨d, h1, h2⟩ := h
  cases d <;> simp_all [isAgg, run_underlying h1, isAggD]
theorem run_sizeOf {P : Program} {t n : Nat} (h : tySize P t n) (w : World) : (sizeOf t).run P w = .ok n w := by
  obtain ⟨i, h1, h2⟩ := h
  simp [sizeOf, typeInfo, h1, h2]
/-- a variable of one's own is read -/
theorem run_loadVar_obj {P : Program} {I : Nat → Prop} {β : Nat → Option BI} {w : World} {M : Nat → Prop} {o i f : Nat} {obj : AObj} {x : List Cell} {ty : Nat} {v : Value} (ho : ObjAt I β w M o obj) (hv : Rep I β w (.ptr o i f) v) (hx : obj.els[i]? = some x) :
    (∀ n, tyAgg P ty true → tySize P ty n → f + n ≤ x.length → ∃ vals : List Value, All2 (Rep I β w) ((x.drop f).take n) vals ∧ (Instr.loadAt ty v).run P w = .ok (.agg vals.toArray) w) ∧
    (∀ c, tyAgg P ty false → x[f]? = some c → ∃ u, Rep I β w c u ∧ (Instr.loadAt ty v).run P w = .ok u w) := by
  cases hv with
  | imm h => cases h
  | ptr _ _ _ b sz C hβ =>
    obtain ⟨B, hB, h2, h3, h4⟩ := ho
    rw [hβ] at hB
    cases hB
    obtain ⟨h1, _, _, arr, h5, h6, h7, h8, h9⟩ := h4 b rfl
    simp only at h1
    subst h1
    have hadd : ∀ j, arr[i * obj.sz + f + j]? = arr[i * obj.sz + (f + j)]? := fun j => by rw [Nat.add_assoc]
    refine ⟨fun n ha hs hn => ?_, fun c ha hc => ?_⟩
    · obtain ⟨vals, k1, k2⟩ := run_loadCells_obj (P := P) (I := I) (β := β) (o := i * obj.sz + f) h5 ((x.drop f).take n) fun j c hj => by
        rw [List.getElem?_take] at hj
        split at hj
        · rw [List.getElem?_drop] at hj
          obtain ⟨u, hu, hr⟩ := h9 i (f + j) x c hx hj
          exact ⟨u, by rw [hadd]; exact hu, hr⟩
        · cases hj
      refine ⟨vals, k1, ?_⟩
      rw [show ((x.drop f).take n).length = n by simp; omega] at k2
      simp [Instr.loadAt, Instr.sureAddr, loadVar, run_isAgg ha, run_sizeOf hs, k2]
    · obtain ⟨u, hu, hr⟩ := h9 i f x c hx hc
      refine ⟨u, hr, ?_⟩
      have hcell : w.cell? ⟨b, i * obj.sz + f, none⟩ = some u := by rw [cell_of_row w b _ arr _ _ h5]; exact hu
      simp [Instr.loadAt, Instr.sureAddr, loadVar, run_isAgg ha, load, Sem.run, hcell]

section
variable {I : Nat → Prop} {β : Nat → Option BI} {w : World}
theorem RepF.toV {x : AVal} {v : Value} (h : RepF I β w x v) : RepV I β w x v := by
  cases x with
  | tup vs => exact h.elim
  | c x => exact h
  | agg cs => exact h
  | any => trivial
theorem FW_repV {ρ : Ren} {x y : AVal} {v : Value} (h : RepV I β w x v) (hc : FW ρ x y) : RepF I (renβ ρ β) w y v := by
  cases y with
  | any => trivial
  | c y => cases x <;> simp only [FW] at hc; exact CW_rep h y hc
  | agg ys => cases x <;> simp only [FW] at hc; obtain ⟨vals, rfl, h⟩ := h; exact ⟨vals, rfl, CWs_rep h hc⟩
  | tup ys => cases x <;> simp only [FW] at hc
theorem FWs_repV {ρ : Ren} : ∀ {xs ys : List AVal} {vs : List Value}, All2 (RepV I β w) xs vs → FWs ρ xs ys → All2 (RepF I (renβ ρ β) w) ys vs
  | _, [], _, .nil, _ => .nil
  | _, _ :: _, _, .nil, h => by simp [FWs] at h
  | _, [], _, .cons _ _, h => by simp [FWs] at h
  | _, y :: ys, _, .cons h1 h2, h => by
    simp only [FWs] at h
    exact .cons (FW_repV h1 h.1) (FWs_repV h2 h.2)
theorem ObjAt.mayMono {M M' : Nat → Prop} {o : Nat} {obj : AObj} (h : ObjAt I β w M o obj) (hM : ∀ b, M b → M' b) : ObjAt I β w M' o obj := by
  obtain ⟨B, hB, h2, h3, h4⟩ := h
  exact ⟨B, hB, h2, h3, fun b hb => let ⟨k0, k1, k2⟩ := h4 b hb; ⟨k0, hM b k1, k2⟩⟩
end

def resOne (g : Nat → Value) : ResultVar → Sem Value
  | .tmp t => pure (g t)
  | .cell p t => do loadVar t (← asAddr (g p))
theorem rep_ptr {I : Nat → Prop} {β : Nat → Option BI} {w : World} {o i f : Nat} {v : Value} (h : Rep I β w (.ptr o i f) v) : ∃ b sz C, β o = some ⟨some b, sz, C⟩ ∧ v = .pointer (some ⟨b, i * sz + f, none⟩) := by
  cases h with
  | imm h => cases h
  | ptr _ _ _ b sz C hβ => exact ⟨b, sz, C, hβ, rfl⟩
theorem resAll_run {P : Program} {E : Env} {N I : Nat → Prop} {s : AS} {β : Nat → Option BI} {a : Act} {w : World} (hr : Rel E N I s β a w) :
    ∀ (res : List ResultVar) (xs : List AVal), resAll P s res xs → ∃ vals : List Value, All2 (RepV I β w) xs vals ∧
      (res.mapM (resOne fun t => a.tmps.getD t undef)).run P w = .ok vals w := by
  intro res xs h
  induction h with
  | nil => exact ⟨[], .nil, by simp⟩
  | cons hv _ ih =>
    obtain ⟨vals, h1, h2⟩ := ih
    cases hv with
    | @tmp t x hx =>
      refine ⟨a.tmps.getD t undef :: vals, .cons (by rw [← hx]; exact hr.tms t) h1, ?_⟩
      simp only [List.mapM_cons, resOne, Sem.run_bind, Sem.run_pure, Result.andThen, h2]
    | @agg p ty o obj cs k1 k2 k3 g1 g2 =>
      have hp := hr.tms p
      rw [k1] at hp
      have hob := hr.obs o obj k2
      obtain ⟨l1, _⟩ := run_loadVar_obj (P := P) (ty := ty) hob hp (x := cs) (by rw [k3]; rfl)
      obtain ⟨b, sz, C, _, had⟩ := rep_ptr hp
      obtain ⟨vs', m1, m2⟩ := l1 cs.length g1 g2 (by simp)
      simp only [List.drop_zero, List.take_length] at m1
      refine ⟨.agg vs'.toArray :: vals, .cons ⟨vs', rfl, m1⟩ h1, ?_⟩
      rw [had] at m2
      simp only [Instr.loadAt, Instr.sureAddr, pure_bind] at m2
      have m3 : resOne (fun t => a.tmps.getD t undef) (.cell p ty) = loadVar ty { block := b, off := 0 * sz + 0 } := by
        simp only [resOne, had, asAddr, pure_bind]
      simp only [List.mapM_cons, Sem.run_bind, Sem.run_pure, Result.andThen, m3, m2, h2]
    | @cell p ty o obj c r k1 k2 k3 g1 =>
      have hp := hr.tms p
      rw [k1] at hp
      have hob := hr.obs o obj k2
      obtain ⟨_, l2⟩ := run_loadVar_obj (P := P) (ty := ty) hob hp (x := c :: r) (by rw [k3]; rfl)
      obtain ⟨b, sz, C, _, had⟩ := rep_ptr hp
      obtain ⟨u, m1, m2⟩ := l2 c g1 rfl
      refine ⟨u :: vals, .cons m1 h1, ?_⟩
      rw [had] at m2
      simp only [Instr.loadAt, Instr.sureAddr, pure_bind] at m2
      have m3 : resOne (fun t => a.tmps.getD t undef) (.cell p ty) = loadVar ty { block := b, off := 0 * sz + 0 } := by
        simp only [resOne, had, asAddr, pure_bind]
      simp only [List.mapM_cons, Sem.run_bind, Sem.run_pure, Result.andThen, m3, m2, h2]
theorem mkRes_rep {ρ : Ren} {I : Nat → Prop} {β : Nat → Option BI} {w : World} {xs : List AVal} {r : AVal} {vals : List Value} (h : All2 (RepV I β w) xs vals) (hc : VW ρ (mkRes xs) r) :
    RepV I (renβ ρ β) w r (if h : vals.toArray.size = 1 then vals.toArray[0] else .tuple vals.toArray) := by
  have htup : vals.length ≠ 1 → mkRes xs = .tup xs := by
    intro hl
    rw [h.length] at hl
    cases xs with
    | nil => rfl
    | cons x xs => cases xs with
      | nil => simp at hl
      | cons y ys => rfl
  by_cases hl : vals.length = 1
  · rw [dif_pos (by simpa using hl)]
    cases h with
    | nil => simp at hl
    | cons h0 h1 =>
      cases h1 with
      | nil => exact VW_rep h0 hc
      | cons _ _ => simp at hl
  · rw [dif_neg (by simpa using hl)]
    rw [htup hl] at hc
    cases r with
    | tup ys => exact ⟨vals, rfl, FWs_repV h hc⟩
    | any => trivial
    | c y => simp [VW, FW] at hc
    | agg y => simp [VW, FW] at hc

/-- how a function is entered -/
theorem PFM.enter {P : Program} {f : Nat} {fn : Func} {c : Code} {ins : List AObj} {as : List AVal} {outs : List (Option AObj)} {r : AVal} (hf : P.funcs[f]? = some fn) (hb : fn.body = some c) (hnm : (fn.name == "runtime.NumGoroutine") = false)
    (n : Nat) (res : List ResultVar) (hn : fn.ntmps = n) (hl : Nat.ble as.length n = true) (hres : fn.results = res.toArray)
    (h : ∀ w0 mu I0 β0, AWp P ⟨w0, mu, I0, n, β0, ins.length⟩ c (retK P res outs r ins.length) (st0 ins as)) : PFM P f ins as outs r := by
  refine ⟨⟨fn, hf, hnm, by rw [hb]; rfl⟩, fun I β w vals hI hβ hobs hinj hargs => ?_⟩
  have hl' : as.length ≤ n := Nat.le_of_ble_eq_true hl
  have hvl := hargs.length
  refine calls_of_wp hf hb ?_
  have hget : ∀ t, (st0 ins as).get t = (as[t]?).getD .any := fun t => by simp [AS.get, st0, lk_enum]
  have hobj : ∀ o, (st0 ins as).obj o = ins[o]? := fun o => by
    simp only [AS.obj, st0, lk_enum]
    cases h : ins[o]? <;> simp [h]
  have hrel : Rel ⟨w, blocksOf β ins.length, I, n, β, ins.length⟩ (Below' (st0 ins as)) I (st0 ins as) β { tmps := vals.toArray ++ Array.replicate (fn.ntmps - vals.toArray.size) undef, defers := [] } w := by
    refine ⟨fun t => ?_, ?_, rfl, fun o obj ho => ?_, fun o o' obj obj' B B' b ho ho' => ?_, fun o B h => hβ o B h, Keeps.refl _ _, hI, fun _ _ => Iff.rfl, fun _ _ => rfl⟩
    · rw [hget]
      cases ht : as[t]? with
      | none => trivial
      | some x =>
        obtain ⟨v, hv, hx⟩ := hargs.at ht
        have htl : t < vals.length := (List.getElem?_eq_some_iff.1 hv).1
        simp only [Option.getD_some, Array.getD_eq_getD_getElem?]
        rw [Array.getElem?_append_left (by simpa using htl)]
        simp only [List.getElem?_toArray, hv, Option.getD_some]
        exact hx.toV
    · simp only [Array.size_append, List.size_toArray, Array.size_replicate, hn, hvl]
      omega
    · rw [hobj] at ho
      exact (hobs o obj ho).mayMono fun b h => .inl h
    · rw [hobj] at ho ho'
      exact hinj o o' obj obj' B B' b (by simp [ho]) (by simp [ho'])
  refine wp_mono ((h w (blocksOf β ins.length) I β).run I β _ w hrel) fun e a' w' ⟨I', β', s', ⟨he, xs, ρ, hxs, hvw, hB, hob⟩, hr'⟩ => ?_
  obtain ⟨vs, hv1, hv2⟩ := resAll_run hr' res xs hxs
  have hR := Rel.ren ρ (s' := ⟨[], enum 0 outs, outs.length⟩) hB trivial hob hr'
  have hres' : (results fn a'.tmps).run P w' = .ok (if h : vs.toArray.size = 1 then vs.toArray[0] else .tuple vs.toArray) w' := by
    unfold results
    have e : (fn.results.mapM (resOne fun t => a'.tmps.getD t undef)).run P w' = .ok vs.toArray w' := by
      rw [hres, Array.mapM_eq_mapM_toList]
      simp only [Sem.run_map, hv2]
      rfl
    show (fn.results.mapM (resOne fun t => a'.tmps.getD t undef) >>= _).run P w' = _
    rw [Sem.run_bind, e]
    rfl
  have hout : ∀ o obj, outs[o]? = some (some obj) → (AS.mk [] (enum 0 outs) outs.length).obj o = some obj := fun o obj h => by
    simp [AS.obj, lk_enum, h]
  rcases he with rfl | rfl
  all_goals exact ⟨hr'.dfr, _, hres', _, I', renβ ρ β', rfl, mkRes_rep hv1 hvw, hr'.old, hr'.imm, hr'.gro, fun o B h => hR.nam o B h, fun o ho => hR.ext o ho,
    fun o obj ho => hR.obs o obj (hout o obj ho), fun o o' obj obj' B B' b ho ho' => hR.inj o o' obj obj' B B' b (hout _ _ ho) (hout _ _ ho')⟩
end Go.Proofs.Ytfebalahfhkeaaa
