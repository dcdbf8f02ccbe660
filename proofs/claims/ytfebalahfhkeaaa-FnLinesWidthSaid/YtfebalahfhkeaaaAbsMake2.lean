/- The abstract machine, part 11: literals of slices, make, slices of slices, function values, conversions. No conditions but those stated. -/
import Derived.Test.YtfebalahfhkeaaaAbsMake
namespace Go.Proofs.Ytfebalahfhkeaaa
open Go Go.RowKit

/-- a slice's literal: element i of each part -/
def partsE (s : AS) (sz : Nat) : List (Nat × Operand) → List (List Cell) → Option (List (List Cell))
  | [], els => some els
  | (i, x) :: r, els => match cellsOf (opA s x) with
    | some cs => if cs.length = sz ∧ i < els.length then partsE s sz r (els.set i cs) else none
    | none => none
theorem set_flatten : ∀ (els : List (List Cell)) (i sz : Nat) (cs : List Cell), (∀ x ∈ els, x.length = sz) → i < els.length → cs.length = sz →
    els.flatten.take (i * sz) ++ cs ++ els.flatten.drop (i * sz + cs.length) = (els.set i cs).flatten
  | [], i, sz, cs, _, h, _ => by simp at h
  | y :: ys, 0, sz, cs, h, _, hc => by
    have hy : y.length = sz := h y (by simp)
    simp only [Nat.zero_mul, List.take_zero, List.nil_append, Nat.zero_add, List.set_cons_zero, List.flatten_cons]
    rw [List.drop_append_of_le_length (by omega), List.drop_of_length_le (by omega), List.nil_append]
  | y :: ys, i + 1, sz, cs, h, hi, hc => by
    have hy : y.length = sz := h y (by simp)
    have ih := set_flatten ys i sz cs (fun x hx => h x (by simp [hx])) (by simpa using hi) hc
    simp only [List.set_cons_succ, List.flatten_cons]
    rw [← ih, Nat.add_mul, Nat.one_mul, List.take_append, List.drop_append, List.take_of_length_le (by omega), List.drop_of_length_le (by omega),
      show i * sz + sz - y.length = i * sz by omega, show i * sz + sz + cs.length - y.length = i * sz + cs.length by omega]
    simp [List.append_assoc]

section
variable {P : Program} {E : Env} {ops : Array Oper} {o : Oper} {s : AS}
theorem partsE_rep {I : Nat → Prop} {β : Nat → Option BI} {a : Act} {w : World} {sz n : Nat} (hszp : 0 < sz) : ∀ {parts : List (Nat × Operand)} {els els' : List (List Cell)}, partsE s sz parts els = some els' → els.length = n → (∀ x ∈ els, x.length = sz) →
    (∀ x ∈ parts.map (·.2), RepV I β w (opA s x) (a.eval x)) →
    els'.length = n ∧ (∀ x ∈ els', x.length = sz) ∧ ∃ (ps : List (Nat × List Cell)) (vs : List (Nat × List Value)), All2 (fun p v => p.1 = v.1 ∧ All2 (Rep I β w) p.2 v.2) ps vs ∧ els'.flatten = fillL els.flatten ps ∧
      ∀ (cells : Array Value), cells.size = n * sz → All2 (fun (p : Nat × Value) (q : Nat × List Value) => ∃ z, some (p.1 * sz, sz) = some (q.1, z) ∧ p.2.cells.toList = q.2 ∧ q.2.length = z ∧ q.1 + z ≤ cells.size) (parts.map fun p => (p.1, a.eval p.2)) vs
  | [], els, els', h, hl, he, _ => by
    simp only [partsE, Option.some.injEq] at h
    subst h
    exact ⟨hl, he, [], [], .nil, rfl, fun _ _ => .nil⟩
  | (i, x) :: r, els, els', h, hl, he, hv => by
    simp only [partsE] at h
    split at h
    · rename_i cs hcs
      split at h
      · rename_i hc
        have k3 := cellsOf_rep (hv x (by simp)) hcs
        have he' : ∀ y ∈ els.set i cs, y.length = sz := by
          intro y hy
          rcases List.mem_or_eq_of_mem_set hy with h | h
          · exact he y h
          · rw [h]; exact hc.1
        obtain ⟨g1, g2, ps, vs, g3, g4, g5⟩ := partsE_rep (a := a) (n := n) hszp h (by rw [List.length_set]; exact hl) he' (fun y hy => hv y (by simp at hy ⊢; exact .inr hy))
        refine ⟨g1, g2, (i * sz, cs) :: ps, (i * sz, (a.eval x).cells.toList) :: vs, .cons ⟨rfl, k3⟩ g3, ?_, fun cells hn => .cons ⟨sz, rfl, rfl, by rw [k3.length, hc.1], ?_⟩ (g5 cells hn)⟩
        · rw [g4, fillL, set_flatten els i sz cs he hc.2 hc.1]
        · have : (i + 1) * sz ≤ n * sz := Nat.mul_le_mul_right _ (by omega)
          rw [Nat.add_mul, Nat.one_mul] at this
          simp only
          omega
      · cases h
    · cases h
theorem made_all2 {I : Nat → Prop} {β : Nat → Option BI} {w : World} {z : Value} {sz n : Nat} (hsz : z.cells.size = sz) (hp : 0 < sz) (h1 : z.cells.toList.all (·.oneCell') = true) :
    All2 (Rep I β w) (List.replicate n (z.cells.toList.map constC)).flatten ((Array.range (n * sz)).map (z.cells[· % z.cells.size]!)).toList := by
  have hlen : ∀ x ∈ List.replicate n (z.cells.toList.map constC), x.length = sz := by
    intro x hx
    rw [(List.mem_replicate.1 hx).2]
    simp [hsz]
  obtain ⟨f1, f2⟩ := flat_at _ sz hlen
  have hz := constL_rep (I := I) (β := β) (w := w) h1
  refine All2.of_at ?_ fun j c v hj hv => ?_
  · rw [f1]; simp
  · have hjl : j < n * sz := by
      have := (List.getElem?_eq_some_iff.1 hj).1
      rw [f1] at this
      simpa using this
    have hd' : j / sz < n := (Nat.div_lt_iff_lt_mul hp).2 hjl
    have hm2 : j % sz < sz := Nat.mod_lt _ hp
    have e1 : j / sz * sz + j % sz = j := by rw [Nat.mul_comm]; exact Nat.div_add_mod j sz
    have h2 := f2 (j / sz) (j % sz) (z.cells.toList.map constC) (by simp [hd']) hm2
    rw [e1, hj] at h2
    obtain ⟨u, hu, hru⟩ := hz.at h2.symm
    have hv' : v = z.cells[j % z.cells.size]! := by
      have h3 : ((Array.range (n * sz)).map (z.cells[· % z.cells.size]!)).toList[j]? = some (z.cells[j % z.cells.size]!) := by
        simp [hjl]
      rw [h3] at hv
      simpa using hv.symm
    have hu' : u = z.cells[j % z.cells.size]! := by
      rw [hsz]
      have h3 : j % sz < z.cells.size := by omega
      rw [Array.getElem?_toList, Array.getElem?_eq_getElem h3] at hu
      rw [getElem!_pos z.cells _ h3]
      simpa using hu.symm
    rw [hv', ← hu']
    exact hru
theorem at_of_flat {I : Nat → Prop} {β : Nat → Option BI} {w : World} {els : List (List Cell)} {sz : Nat} {arr : Array Value} (he : ∀ x ∈ els, x.length = sz) (h : All2 (Rep I β w) els.flatten arr.toList) :
    ∀ (i j : Nat) x c, els[i]? = some x → x[j]? = some c → ∃ u, arr[i * sz + j]? = some u ∧ Rep I β w c u := by
  intro i j x c hi hj
  have hjl : j < sz := by have := he x (List.mem_of_getElem? hi); have := (List.getElem?_eq_some_iff.1 hj).1; omega
  obtain ⟨u, hu, hru⟩ := h.at (by rw [(flat_at els sz he).2 i j x hi hjl]; exact hj)
  exact ⟨u, by simpa using hu, hru⟩

theorem StepOk.buildSlice {t e sz bytes n : Nat} {parts : Array (Nat × Operand)} {zs : List Value} {els : List (List Cell)} (ho : o.op = .buildSlice t n parts) (hw : Want E ops o s) (hd : dstB o.dst E.n = true) (hop : parts.toList.all (fun p => opB p.2) = true)
    (hm : Nat.ble E.m s.nx = true) (ht : tyElem P t e sz bytes) (hz : tyZero P e zs) (h1 : zs.all (·.oneCell') = true) (hn : Nat.ble (n * sz) 16777216 = true) (hps : partsE s sz parts.toList (List.replicate n (zs.map constC)) = some els) :
    StepOk P E ops o s (newU o.dst (.c (.ref s.nx 0 n)) s.nx ⟨e, sz, els⟩) ⟨o.looksAt ops, []⟩ := by
  obtain ⟨ti, z, t1, t2, t3, t4, t5, t6, t7⟩ := ht
  obtain ⟨ti', z', k1, k2, rfl⟩ := hz
  rw [t2] at k1
  cases k1
  rw [t3] at k2
  cases k2
  have hn' : n * sz ≤ 16777216 := Nat.le_of_ble_eq_true hn
  have hzl : ∀ x ∈ List.replicate n (z.cells.toList.map constC), x.length = sz := by
    intro x hx
    rw [(List.mem_replicate.1 hx).2]
    simp [t6]
  have hall : ∀ {I : Nat → Prop} {β : Nat → Option BI} {a : Act} {w : World}, (∀ y ∈ o.op.operands.toList, RepV I β w (opA s y) (a.eval y)) → (∀ x ∈ parts.toList.map (·.2), RepV I β w (opA s x) (a.eval x)) := fun h x hx => h x (by simpa [ho, Op.operands] using hx)
  have hstat : els.length = n ∧ ∀ x ∈ els, x.length = sz := by
    have : ∀ {parts : List (Nat × Operand)} {e0 els : List (List Cell)}, partsE s sz parts e0 = some els → e0.length = n → (∀ x ∈ e0, x.length = sz) → els.length = n ∧ ∀ x ∈ els, x.length = sz := by
      intro parts
      induction parts with
      | nil => intro e0 els h h2 h3; simp only [partsE, Option.some.injEq] at h; subst h; exact ⟨h2, h3⟩
      | cons p r ih =>
        obtain ⟨i, x⟩ := p
        intro e0 els h h2 h3
        simp only [partsE] at h
        split at h
        · split at h
          · rename_i hc
            refine ih h (by rw [List.length_set]; exact h2) fun y hy => ?_
            rcases List.mem_or_eq_of_mem_set hy with h | h
            · exact h3 y h
            · rw [h]; exact hc.1
          · cases h
        · cases h
    exact this hps (by simp) hzl
  refine StepOk.fresh hw hd ?_ hm hstat.2 fun N I s' β a w hopr _ _ => ?_
  · simp only [ho, Op.operands, List.all_eq_true, List.mem_map] at hop ⊢
    rintro x ⟨p, hp, rfl⟩
    exact hop p hp
  · obtain ⟨g1, g2, ps, vs, g3, g4, g5⟩ := partsE_rep (I := I) (β := β) (a := a) (w := w) (n := n) t7 hps (by simp) hzl (hall hopr)
    have hmade := made_all2 (I := I) (β := β) (w := w) (n := n) t6 t7 h1
    obtain ⟨arr, f1, f2⟩ := run_fill (fun i => some (i * sz, sz)) _ vs ((Array.range (n * sz)).map (z.cells[· % z.cells.size]!)) (g5 _ (by simp))
    have hflat : All2 (Rep I β w) els.flatten arr.toList := by
      rw [g4, f2]
      exact fillL_all2 ps vs _ _ hmade g3
    have harr : arr.size = n * sz := by
      have := hflat.length
      rw [(flat_at els sz g2).1, g1] at this
      simpa using this
    refine ⟨arr, n, .slice (some ⟨w.heap.size, 0, none⟩) n n, ?_, harr, by simp only; omega, ?_, at_of_flat g2 hflat, fun β' w' h => ?_⟩
    · have hmap : (parts.map fun (i, x) => (i, a.eval x)).toList = parts.toList.map fun p => (p.1, a.eval p.2) := by simp
      have hbig : ¬ n * sz > 2 ^ 24 := by omega
      by_cases h0 : n * sz = 0
      · have hcells : (Array.range (n * sz)).map (fun x => (#[] : Array Value)[x % (#[] : Array Value).size]!) = (Array.range (n * sz)).map (z.cells[· % z.cells.size]!) := by
          apply Array.ext'
          rw [h0]
          simp
        simp only [execOp, ho, Instr.buildSlice, Sem.run_bind, run_underlying t1, Result.andThen, run_sizeOf ⟨ti, t2, t4⟩, if_neg hbig, if_pos h0, Sem.run_pure, hcells, hmap, f1]
        rfl
      · simp only [execOp, ho, Instr.buildSlice, Sem.run_bind, run_underlying t1, Result.andThen, run_sizeOf ⟨ti, t2, t4⟩, if_neg hbig, if_neg h0, Sem.run_pure, run_zero t2 t3, hmap, f1]
        rfl
    · have : n ≤ n * sz := Nat.le_mul_of_pos_right n t7
      simp only [maxLen]
      omega
    · have := Rep.ref (I := I) (w := w') (β := β') s.nx 0 n _ _ _ _ h (Nat.le_refl n) (fun _ => rfl)
      show Rep I β' w' _ _
      simpa using this
theorem StepOk.makeSlice {x y : Operand} {t e sz bytes : Nat} {k k' : IntKind} {zx zy : Int} {n : Nat} {zs : List Value} (ho : o.op = .makeSlice t x y) (hw : Want E ops o s) (hd : dstB o.dst E.n = true) (hxb : (opB x && opB y) = true)
    (hm : Nat.ble E.m s.nx = true) (ht : tyElem P t e sz bytes) (hz : tyZero P e zs) (h1 : zs.all (·.oneCell') = true) (hx : opA s x = .c (.v (.int k zx))) (hy : opA s y = .c (.v (.int k' zy))) (hnx : zx = (n : Int)) (hny : zy = (n : Int))
    (hb : bytes * n ≤ 281474976710656) (hl : n ≤ maxLen) :
    StepOk P E ops o s (newU o.dst (.c (.ref s.nx 0 n)) s.nx ⟨e, sz, List.replicate n (zs.map constC)⟩) ⟨o.looksAt ops, []⟩ := by
  obtain ⟨ti, z, t1, t2, t3, t4, t5, t6, t7⟩ := ht
  obtain ⟨ti', z', k1, k2, rfl⟩ := hz
  rw [t2] at k1
  cases k1
  rw [t3] at k2
  cases k2
  subst hnx
  subst hny
  simp only [Bool.and_eq_true] at hxb
  have hzl : ∀ x ∈ List.replicate n (z.cells.toList.map constC), x.length = sz := by
    intro x hx
    rw [(List.mem_replicate.1 hx).2]
    simp [t6]
  refine StepOk.fresh hw hd (by simp [ho, Op.operands, hxb]) hm hzl fun N I s' β a w hopr _ _ => ?_
  have h2 := hopr x (by simp [ho, Op.operands])
  have h3 := hopr y (by simp [ho, Op.operands])
  rw [hx] at h2
  rw [hy] at h3
  have hmade := made_all2 (I := I) (β := β) (w := w) (n := n) t6 t7 h1
  refine ⟨madeCells z.cells (n * sz), n, .slice (some ⟨w.heap.size, 0, none⟩) n n, ?_, by simp [size_madeCells], by simp, hl, at_of_flat hzl (by unfold madeCells; exact hmade), fun β' w' h => ?_⟩
  · have hrun := run_make (P := P) w t e ti z t1 t2 t3 k k' n n (by omega) (by omega) (by rw [t5, ← Int.natCast_mul]; have h := hb; generalize bytes * n = q at h ⊢; omega) (by simp only [maxLen] at hl; omega)
    simp only [Int.toNat_natCast, t4] at hrun
    simp only [execOp, ho, rep_v h2, rep_v h3, Sem.run_bind, hrun]
    rfl
  · have := Rep.ref (I := I) (w := w') (β := β') s.nx 0 n _ _ _ _ h (Nat.le_refl n) (fun _ => rfl)
    show Rep I β' w' _ _
    simpa using this

theorem StepOk.sliceSl {x : Operand} {low high : Option Operand} {t e sz lo hi : Nat} {xs : List (List Cell)} (ho : o.op = .slice t x low high none) (hw : Want E ops o s) (hd : dstB o.dst E.n = true) (hxb : opB x = true)
    (ht : P.underlying t = some (.slice e)) (hsz : tySize P e sz) (hxs : ∀ x ∈ xs, x.length = sz) (hx : opA s x = .c (.sl xs)) (hl : optI s 0 low lo) (hh : optI s xs.length high hi) (h1 : lo ≤ hi) (h2 : hi ≤ xs.length) :
    StepOk P E ops o s (setU o.dst (.c (.sl ((xs.drop lo).take (hi - lo))))) ⟨o.looksAt ops, []⟩ := by
  refine StepOk.val hw hd (by have := opts_all (s := s) hxb hl hh; rw [ho]; exact this) fun N I s' β a w hop _ _ => ?_
  have h3 := hop x (by simp [ho, Op.operands])
  rw [hx] at h3
  have key : ∀ v, Rep I β w (.sl xs) v → ∃ A cap, v = .slice A xs.length cap ∧ xs.length ≤ cap ∧ RepI I w (.sl ((xs.drop lo).take (hi - lo))) (.slice (if cap = lo then A else A.map (·.add (lo * sz))) (hi - lo) (cap - lo)) := by
    intro v hv
    cases hv with
    | imm h =>
      cases h with
      | sl0 A cap =>
        refine ⟨A, cap, rfl, Nat.zero_le _, ?_⟩
        simp only [List.length_nil] at h2
        have : hi - lo = 0 := by omega
        rw [this]
        exact .sl0 _ _
      | sl _ b p z n cap u g1 g2 g3 g4 g5 g6 =>
        refine ⟨_, cap, by rw [g1], by omega, ?_⟩
        by_cases he : hi - lo = 0
        · rw [he, List.take_zero]; exact .sl0 _ _
        · have hz : z = sz := by
            have h0 : 0 < xs.length := by omega
            have := g3 xs[0] (List.getElem_mem h0)
            rw [← this]
            exact hxs _ (List.getElem_mem h0)
          subst hz
          have hne : cap ≠ lo := by omega
          rw [if_neg hne]
          simp only [Option.map_some, add_addr]
          have hat : ∀ (i : Nat) (x : List Cell), ((xs.drop lo).take (hi - lo))[i]? = some x → xs[lo + i]? = some x := by
            intro i x hx
            rw [List.getElem?_take] at hx
            split at hx
            · rwa [List.getElem?_drop] at hx
            · cases hx
          refine .sl _ b (p + lo * z) z (hi - lo) (cap - lo) (fun i j => u (lo + i) j) (by simp; omega) (by omega) (fun x hx => ?_) g4 (fun i j x c hx hj => ?_) (fun i j x c hx hj => g6 _ j x c (hat i x hx) hj)
          · exact g3 x (List.mem_of_mem_drop (List.mem_of_mem_take hx))
          · have := g5 (lo + i) j x c (hat i x hx) hj
            rw [← this]
            congr 2
            rw [Nat.add_mul]
            omega
  obtain ⟨A, cap, hv, hc, hrep⟩ := key _ h3
  have hsb := run_sliceBounds (P := P) (s := s) (I := I) (β := β) (w := w) (a := a) rfl true xs.length cap lo hi low high hl hh (fun y hy => hop y (by rw [ho]; exact opts_mem.1 hy)) (fun y hy => hop y (by rw [ho]; exact opts_mem.2 hy)) h1 (by omega)
  refine ⟨_, ?_, Rep.imm hrep⟩
  simp only [execOp, ho, Instr.sliceAt, Instr.slice, hv, Sem.run_bind, run_underlying ht, Result.andThen, hsb, run_sizeOf hsz, Option.map_none, Sem.run_pure]
theorem StepOk.sliceRef {x : Operand} {low high : Option Operand} {t e lo hi q off n : Nat} {obj : AObj} (ho : o.op = .slice t x low high none) (hw : Want E ops o s) (hd : dstB o.dst E.n = true) (hxb : opB x = true)
    (ht : P.underlying t = some (.slice e)) (hx : opA s x = .c (.ref q off n)) (hob : s.obj q = some obj) (hsz : tySize P e obj.sz) (hl : optI s 0 low lo) (hh : optI s n high hi) (h1 : lo ≤ hi) (h2 : hi ≤ n) :
    StepOk P E ops o s (setU o.dst (.c (.ref q (off + lo) (hi - lo)))) ⟨o.looksAt ops, [q]⟩ := by
  refine StepOk.val hw hd (by have := opts_all (s := s) hxb hl hh; rw [ho]; exact this) fun N I s' β a w hop hobs hr => ?_
  have h3 := hop x (by simp [ho, Op.operands])
  rw [hx] at h3
  obtain ⟨B, hB, g2, g3, g4⟩ := hr.obs q obj ((hobs q (by simp)).trans hob)
  have key : ∀ v, Rep I β w (.ref q off n) v → ∃ A cap, v = .slice A n cap ∧ n ≤ cap ∧ Rep I β w (.ref q (off + lo) (hi - lo)) (.slice (if cap = lo then A else A.map (·.add (lo * obj.sz))) (hi - lo) (cap - lo)) := by
    intro v hv
    cases hv with
    | imm h => cases h
    | ref _ _ _ b z cap C k1 k2 k3 =>
      refine ⟨_, cap, rfl, k2, ?_⟩
      rw [hB] at k1
      cases k1
      have l0 := (g4 b rfl).1
      simp only at l0
      subst l0
      by_cases hc : cap = lo
      · rw [if_pos hc]
        have hz : hi - lo = 0 := by omega
        rw [hz]
        by_cases h0 : off + lo = 0
        · have e1 : off = 0 := by omega
          have e2 : lo = 0 := by omega
          subst e1; subst e2
          have := Rep.ref (I := I) (w := w) (β := β) q 0 0 b obj.sz cap C hB (Nat.zero_le _) (fun _ => k3 rfl)
          simpa using this
        · exact .refE q (off + lo) _ _ h0
      · rw [if_neg hc]
        simp only [Option.map_some, add_addr]
        have hcap : off + lo = 0 → cap - lo = C := by
          intro h
          have e1 : off = 0 := by omega
          have := k3 e1
          omega
        have := Rep.ref (I := I) (w := w) (β := β) q (off + lo) (hi - lo) b obj.sz (cap - lo) C hB (by omega) hcap
        rwa [Nat.add_mul] at this
    | refE _ _ A cap k1 =>
      refine ⟨A, cap, rfl, Nat.zero_le _, ?_⟩
      have hz : hi - lo = 0 := by omega
      rw [hz]
      exact .refE q (off + lo) _ _ (by omega)
    | ref0 _ z C k1 =>
      refine ⟨none, 0, rfl, Nat.le_refl _, ?_⟩
      have e1 : lo = 0 := by omega
      have e2 : hi = 0 := by omega
      subst e1; subst e2
      exact .ref0 q z C k1
  obtain ⟨A, cap, hv, hc, hrep⟩ := key _ h3
  have hsb := run_sliceBounds (P := P) (s := s) (I := I) (β := β) (w := w) (a := a) rfl true n cap lo hi low high hl hh (fun y hy => hop y (by rw [ho]; exact opts_mem.1 hy)) (fun y hy => hop y (by rw [ho]; exact opts_mem.2 hy)) h1 (by omega)
  refine ⟨_, ?_, hrep⟩
  simp only [execOp, ho, Instr.sliceAt, Instr.slice, hv, Sem.run_bind, run_underlying ht, Result.andThen, hsb, run_sizeOf hsz, Option.map_none, Sem.run_pure]
theorem StepOk.makeFunc {f : Nat} {captured : Array Operand} {caps : List Cell} (ho : o.op = .makeFunc (.func f) #[] captured) (hw : Want E ops o s) (hd : dstB o.dst E.n = true) (hcb : captured.toList.all opB = true)
    (hc : captured.toList.map (opA s) = caps.map AVal.c) : StepOk P E ops o s (setU o.dst (.c (.fn f caps))) ⟨o.looksAt ops, []⟩ := by
  refine StepOk.val hw hd (by simpa [ho, Op.operands] using hcb) fun N I s' β a w hop _ _ => ?_
  have hlen : captured.toList.length = caps.length := by have := congrArg List.length hc; simpa using this
  have hlen' : captured.size = caps.length := by simpa using hlen
  refine ⟨.func (.func f) #[] (captured.toList.map a.eval).toArray, ?_, Rep.fn f caps _ (fun j => (captured.toList.map a.eval).getD j undef) (by simpa using hlen) (fun j c hj => ?_) (fun j c hj => ?_)⟩
  · have : captured.map a.eval = (captured.toList.map a.eval).toArray := by apply Array.ext'; simp
    have h0 : (#[] : Array Operand).map a.eval = #[] := by simp
    simp only [execOp, ho, Instr.makeFunc, this, h0, Sem.run_bind, Sem.run_pure, Result.andThen]
  · have hjl : j < caps.length := (List.getElem?_eq_some_iff.1 hj).1
    rw [List.getElem?_eq_getElem (by simp; omega), List.getD_eq_getElem?_getD, List.getElem?_eq_getElem (by simp; omega)]
    rfl
  · have hjl : j < caps.length := (List.getElem?_eq_some_iff.1 hj).1
    have hjc : j < captured.toList.length := by omega
    have h1 : (captured.toList.map (opA s))[j]? = (caps.map AVal.c)[j]? := by rw [hc]
    rw [List.getElem?_map, List.getElem?_map, hj, List.getElem?_eq_getElem hjc] at h1
    simp only [Option.map_some, Option.some.injEq] at h1
    have h2 := hop captured.toList[j] (by simp [ho, Op.operands])
    rw [h1] at h2
    rw [List.getD_eq_getElem?_getD, List.getElem?_map, List.getElem?_eq_getElem hjc]
    exact h2
theorem StepOk.conv {src dst : Nat} {x : Operand} {p v : Value} (ho : o.op = .convert src dst x) (hw : Want E ops o s) (hd : dstB o.dst E.n = true) (hxb : opB x = true)
    (hx : opA s x = .c (.v p)) (hv : v.oneCell' = true) (h : ∀ w : World, (convert src dst p).run P w = .ok v w) : StepOk P E ops o s (setU o.dst (.c (.v v))) ⟨o.looksAt ops, []⟩ := by
  refine StepOk.val hw hd (by simp [ho, Op.operands, hxb]) fun N I s' β a w hop _ _ => ?_
  have h1 := hop x (by simp [ho, Op.operands])
  rw [hx] at h1
  refine ⟨v, ?_, Rep.imm (.v v hv)⟩
  simp only [execOp, ho, rep_v h1]
  rw [Sem.run_bind, h w]
  rfl
end
end Go.Proofs.Ytfebalahfhkeaaa
