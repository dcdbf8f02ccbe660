/- The abstract machine, part 3: code, loops, weakening of a state, a function's contract. No conditions but those stated. -/
import Derived.Test.YtfebalahfhkeaaaAbsRegion
namespace Go.Proofs.Ytfebalahfhkeaaa
open Go Go.RowKit

/-- a piece of code, walked from a state -/
structure AWp (P : Program) (E : Env) (c : Code) (K : Exit → AS → Prop) (s : AS) : Prop where
  run : ∀ I β a w, Rel E (Below' s) I s β a w → c.wp P (fun e a' w' => ∃ I' β' s', K e s' ∧ Rel E (Below' s') I' s' β' a' w') a w

/-- what holds behind a piece of code that another one follows -/
inductive thenK (next : AS → Prop) (K : Exit → AS → Prop) : Exit → AS → Prop
  | normal {s : AS} : next s → thenK next K .normal s
  | other {e : Exit} {s : AS} : e ≠ .normal → K e s → thenK next K e s
inductive blockK (id : Nat) (K : Exit → AS → Prop) : Exit → AS → Prop
  | here {s : AS} : K .normal s → blockK id K (.exit id) s
  | other {e : Exit} {s : AS} : e ≠ .exit id → K e s → blockK id K e s

/-- one may forget, and give other names -/
def Weak (m : Nat) (s s' : AS) : Prop := ∀ E I β a w, E.m = m → Rel E (Below' s) I s β a w → ∃ I' β', Rel E (Below' s') I' s' β' a w
theorem Weak.refl (m : Nat) (s : AS) : Weak m s s := fun _ I β _ _ _ h => ⟨I, β, h⟩

section
variable {P : Program} {E : Env} {K : Exit → AS → Prop} {s : AS}
theorem AWp.mono {c : Code} {K' : Exit → AS → Prop} (h : AWp P E c K s) (hK : ∀ e s, K e s → K' e s) : AWp P E c K' s :=
  ⟨fun I β a w hr => wp_mono (h.run I β a w hr) fun _ _ _ ⟨I', β', s', hk, hr'⟩ => ⟨I', β', s', hK _ _ hk, hr'⟩⟩
theorem AWp.weaken {c : Code} {s' : AS} (hw : Weak E.m s s') (h : AWp P E c K s') : AWp P E c K s := ⟨fun I β a w hr =>
  let ⟨I', β', hr'⟩ := hw E I β a w rfl hr
  h.run I' β' a w hr'⟩
theorem AWp.skip (h : K .normal s) : AWp P E .skip K s := ⟨fun I β _ _ hr => wp_skip ⟨I, β, s, h, hr⟩⟩
theorem AWp.label {l : Nat} (h : K .normal s) : AWp P E (.label l) K s := ⟨fun I β _ _ hr => wp_label ⟨I, β, s, h, hr⟩⟩
theorem AWp.exit {id : Nat} (h : K (.exit id) s) : AWp P E (.exit id) K s := ⟨fun I β _ _ hr => wp_exit ⟨I, β, s, h, hr⟩⟩
theorem AWp.ret (h : K .ret s) : AWp P E .ret K s := ⟨fun I β _ _ hr => wp_ret ⟨I, β, s, h, hr⟩⟩
theorem AWp.seq {x y : Code} (h : AWp P E x (thenK (AWp P E y K) K) s) : AWp P E (.seq x y) K s := ⟨fun I β a w hr =>
  wp_seq (wp_mono (h.run I β a w hr) fun e a' w' ⟨I', β', s', hk, hr'⟩ => by
    cases hk with
    | normal hk => exact hk.run I' β' a' w' hr'
    | other hne hk =>
      cases e with
      | normal => exact absurd rfl hne
      | exit id => exact ⟨I', β', s', hk, hr'⟩
      | goto l => exact ⟨I', β', s', hk, hr'⟩
      | ret => exact ⟨I', β', s', hk, hr'⟩
      | panic c => exact ⟨I', β', s', hk, hr'⟩
      | outgrown => exact ⟨I', β', s', hk, hr'⟩)⟩
theorem AWp.block {id : Nat} {c : Code} (h : AWp P E c (blockK id K) s) : AWp P E (.block id c) K s := ⟨fun I β a w hr =>
  wp_block (wp_mono (h.run I β a w hr) fun e a' w' ⟨I', β', s', hk, hr'⟩ => by
    cases hk with
    | here hk =>
      simp only [Exit.inBlock, if_true]
      exact ⟨I', β', s', hk, hr'⟩
    | other hne hk =>
      cases e with
      | normal => exact ⟨I', β', s', hk, hr'⟩
      | exit id' =>
        have hid : ¬ id' = id := fun e => hne (by rw [e])
        simp only [Exit.inBlock, hid, if_false]
        exact ⟨I', β', s', hk, hr'⟩
      | goto l => exact ⟨I', β', s', hk, hr'⟩
      | ret => exact ⟨I', β', s', hk, hr'⟩
      | panic c => exact ⟨I', β', s', hk, hr'⟩
      | outgrown => exact ⟨I', β', s', hk, hr'⟩)⟩
theorem rep_bool {I : Nat → Prop} {β : Nat → Option BI} {w : World} {x v : Value} (h : Rep I β w (.v x) v) : v = x := by
  cases h with
  | imm h => cases h; rfl
theorem AWp.cond {t : Nat} {x y : Code} (b : Bool) (hc : s.get t = .c (.v (.bool b))) (ht : b = true → AWp P E x K s) (hf : b = false → AWp P E y K s) : AWp P E (.cond (.tmp t) x y) K s := ⟨fun I β a w hr => by
  have h1 := hr.tms t
  rw [hc] at h1
  exact wp_cond_split (t := b) (rep_bool h1) (fun e => (ht e).run I β a w hr) (fun e => (hf e).run I β a w hr)⟩
theorem AWp.loop {c : Code} {σ : Type} (S : σ → AS) (J : σ → Prop) (μ : σ → Nat) (x : σ) (hx : J x) (hw : Weak E.m s (S x))
    (h : ∀ x, J x → AWp P E c (thenK (fun s' => ∃ y, J y ∧ μ y < μ x ∧ Weak E.m s' (S y)) K) (S x)) : AWp P E (.loop c) K s := by
  refine ⟨?_⟩
  intro I0 β0 a0 w0 hr0 b k cs
  have key : ∀ n x I β a w, μ x = n → J x → Rel E (Below' (S x)) I (S x) β a w →
      ∃ e a' w', (∃ I' β' s', K e s' ∧ Rel E (Below' s') I' s' β' a' w') ∧ Arrives P (lone (b.at a (.code c :: .inLoop c :: k)) cs w) b k cs e a' w' := by
    intro n
    induction n using Nat.strongRecOn with
    | _ n ih =>
      intro x I β a w hn hJ hr
      obtain ⟨e, a₁, w₁, ⟨I', β', s', hq, hr'⟩, harr⟩ := (h x hJ).run I β a w hr b (.inLoop c :: k) cs
      cases hq with
      | normal hq =>
        obtain ⟨y, hy, hlt, hwk⟩ := hq
        obtain ⟨I2, β2, hr2⟩ := hwk E I' β' a₁ w₁ rfl hr'
        obtain ⟨e₂, a₂, w₂, hq₂, harr₂⟩ := ih (μ y) (hn ▸ hlt) y I2 β2 a₁ w₁ rfl hy hr2
        exact ⟨e₂, a₂, w₂, hq₂, .of_steps (Steps.trans harr (.one step_inLoop)) harr₂⟩
      | other hne hq =>
        cases e with
        | normal => exact absurd rfl hne
        | exit id => exact ⟨_, a₁, w₁, ⟨I', β', s', hq, hr'⟩, .pass (x := .inLoop c) rfl (fun _ _ => .inl (by simp)) harr⟩
        | goto l => exact ⟨_, a₁, w₁, ⟨I', β', s', hq, hr'⟩, .pass (x := .inLoop c) rfl (fun _ _ => .inl (by simp)) harr⟩
        | ret => exact ⟨_, a₁, w₁, ⟨I', β', s', hq, hr'⟩, .pass (x := .inLoop c) rfl (fun _ _ => .inl (by simp)) harr⟩
        | panic ch => exact ⟨_, a₁, w₁, ⟨I', β', s', hq, hr'⟩, .pass (x := .inLoop c) rfl (fun _ _ => .inl (by simp)) harr⟩
        | outgrown => exact ⟨_, a₁, w₁, ⟨I', β', s', hq, hr'⟩, .pass (x := .inLoop c) rfl (fun _ _ => .inl (by simp)) harr⟩
  obtain ⟨I1, β1, hr1⟩ := hw E I0 β0 a0 w0 rfl hr0
  obtain ⟨e, a', w', hq, harr⟩ := key _ x I1 β1 a0 w0 rfl hx hr1
  exact ⟨e, a', w', hq, .of_steps (.one step_loop) harr⟩
theorem Rel.drew {N I : Nat → Prop} {β : Nat → Option BI} {a : Act} {w : World} (h : Rel E N I s β a w) : Rel E N I s β a w.drew :=
  h.change (Ext.refl β) h.nam (fun _ h => h) (fun _ _ => rfl) (fun _ => rfl) (fun o obj e => .inl ⟨e, fun B b hB hb => ⟨((h.obs o obj e).lt hB hb).2.2, rfl⟩⟩) h.inj
    ⟨h.old.os, h.old.tape, h.old.output, h.old.size, h.old.block⟩ h.imm h.gro h.ext
theorem AWp.region {id : Nat} {l : List Oper} (h : regA P E l.toArray (K .normal) l s) : AWp P E (.region id l.toArray false) K s := ⟨fun I β a w hr =>
  wp_region_lit (regA_sound (fun s' I' β' a' w' hk hr' => ⟨I', β', s', hk, hr'⟩) l s h I β a w hr)⟩
theorem AWp.draw {id : Nat} {l : List Oper} (hm : P.follows .mixedOrders = true) (h : regD P E l.toArray (K .normal) l [] s) : AWp P E (.region id l.toArray true) K s := by
  refine ⟨fun I β a w hr => ?_⟩
  obtain ⟨us, h1, h2, h3, h4⟩ := regD_all l [] s h
  refine wp_region_any hm ?_
  have hsz : (Array.replicate l.toArray.size false).size = l.toArray.size := by simp
  have hg : ∀ i, (Array.replicate l.toArray.size false).getD i false = false := fun i => by
    simp only [Array.getD_eq_getD_getElem?, Array.getElem?_replicate]
    split <;> rfl
  have hc : ∀ n, cnt (List.replicate n false) = n := by
    intro n
    induction n with
    | zero => rfl
    | succ n ih => rw [List.replicate_succ]; simp [cnt, ih]
  refine regD_sound (s0 := s) (us := us) (fun s' I' β' a' w' hk hr' => ⟨I', β', s', hk, hr'⟩) (by simpa using h1) (fun i x o hx ho => h2 i x o hx (by simpa using ho)) (by simpa using h3) h4
    l.toArray.size _ s I β a w.drew hsz (by rw [Array.toList_replicate]; exact hc _) (fun j o _ hl => by rw [hg] at hl; cases hl) ?_ ?_
  · have hf : (fun i => (Array.replicate l.toArray.size false).getD i false) = fun _ => false := funext hg
    rw [hf]
    have hno : ∀ {V : Type} (p : Upd → Option V) (us : List (Upd × Foot)) (k : Nat) (acc : Option V), lastT p (fun _ => false) k us acc = acc := by
      intro V p us
      induction us with
      | nil => intros; rfl
      | cons u us ih => intro k acc; rw [lastT, if_neg (by simp)]; exact ih _ _
    exact ⟨fun t => by rw [hno]; rfl, fun o => by rw [hno]; rfl⟩
  · exact hr.drew.names fun o ho => .inl ho
end

/-! ## Weakening -/
/-- a cell that stands for the same under all names -/
def Imm (c : Cell) : Prop := ∀ I β w v, Rep I β w c v → RepI I w c v
theorem Imm.v (x : Value) : Imm (.v x) := fun _ _ _ _ h => by cases h; assumption
theorem Imm.nil : Imm .nil := fun _ _ _ _ h => by cases h; assumption
theorem Imm.sl (xs : List (List Cell)) : Imm (.sl xs) := fun _ _ _ _ h => by cases h; assumption
theorem Imm.ip (xs : List Cell) : Imm (.ip xs) := fun _ _ _ _ h => by cases h; assumption
theorem Imm.fn (f : Nat) (caps : List Cell) (h : ∀ c ∈ caps, Imm c) : Imm (.fn f caps) := fun _ _ _ _ hr => by
  cases hr with
  | imm h => exact h
  | fn f caps vals u h1 h2 h3 => exact .fn f caps vals u h1 h2 fun j c hj => h c (List.mem_of_getElem? hj) _ _ _ _ (h3 j c hj)

abbrev Ren := List (Nat × Option Nat)
mutual
def CW (ρ : Ren) : Cell → Cell → Prop
  | .ref o off n, .ref o' off' n' => lk o' ρ = some (some o) ∧ off = off' ∧ n = n'
  | .ptr o i f, .ptr o' i' f' => lk o' ρ = some (some o) ∧ i = i' ∧ f = f'
  | .nil, .ref o' off n => lk o' ρ = some none ∧ off = 0 ∧ n = 0
  | .fn f caps, .fn f' caps' => f = f' ∧ CWs ρ caps caps' ∨ Cell.fn f caps = .fn f' caps' ∧ ∀ c ∈ caps', Imm c
  | _, .dead => True
  | .v x, .v y => x = y
  | .nil, .nil => True
  | .sl x, .sl y => x = y
  | .ip x, .ip y => x = y
  | _, _ => False
def CWs (ρ : Ren) : List Cell → List Cell → Prop
  | [], [] => True
  | x :: xs, y :: ys => CW ρ x y ∧ CWs ρ xs ys
  | _, _ => False
end
/-- where the new names lie -/
def renβ (ρ : Ren) (β : Nat → Option BI) (o' : Nat) : Option BI :=
  match lk o' ρ with
  | some (some o) => β o
  | some none => some ⟨none, 1, 0⟩
  | none => none
theorem CWs_at {ρ : Ren} : ∀ {xs ys : List Cell}, CWs ρ xs ys → ys.length = xs.length ∧ ∀ (j : Nat) y, ys[j]? = some y → ∃ x, xs[j]? = some x ∧ CW ρ x y
  | [], [], _ => ⟨rfl, fun j y h => by simp at h⟩
  | [], _ :: _, h => by simp [CWs] at h
  | _ :: _, [], h => by simp [CWs] at h
  | x :: xs, y :: ys, h => by
    simp only [CWs] at h
    obtain ⟨h1, h2⟩ := CWs_at h.2
    refine ⟨by simp [h1], fun j z hz => ?_⟩
    cases j with
    | zero => simp at hz; subst hz; exact ⟨x, rfl, h.1⟩
    | succ j => simpa using h2 j z (by simpa using hz)
theorem CW_repI {ρ : Ren} {I : Nat → Prop} {β : Nat → Option BI} {w : World} {c : Cell} {v : Value} (h : RepI I w c v) : ∀ c', CW ρ c c' → Rep I (renβ ρ β) w c' v := by
  induction h with
  | v x hx =>
    intro c' hc
    cases c' <;> simp only [CW] at hc <;> first | exact .dead _ hx | (subst hc; exact .imm (.v _ hx)) | exact hc.elim
  | nil =>
    intro c' hc
    cases c' <;> simp only [CW] at hc <;> first
      | exact .dead _ rfl
      | exact .imm .nil
      | (obtain ⟨h2, rfl, rfl⟩ := hc; exact .ref0 _ 1 0 (by simp [renβ, h2]))
      | exact hc.elim
  | sl0 A cap =>
    intro c' hc
    cases c' <;> simp only [CW] at hc <;> first | exact .dead _ rfl | (subst hc; exact .imm (.sl0 A cap)) | exact hc.elim
  | sl xs b o sz n cap u h1 h2 h3 h4 h5 h6 ih =>
    intro c' hc
    cases c' <;> simp only [CW] at hc <;> first | exact .dead _ rfl | (subst hc; exact .imm (.sl xs b o sz n cap u h1 h2 h3 h4 h5 h6)) | exact hc.elim
  | ip cs b o u h1 h2 h3 ih =>
    intro c' hc
    cases c' <;> simp only [CW] at hc <;> first | exact .dead _ rfl | (subst hc; exact .imm (.ip cs b o u h1 h2 h3)) | exact hc.elim
  | fn f caps vals u h1 h2 h3 ih =>
    intro c' hc
    cases c' <;> simp only [CW] at hc <;> try exact hc.elim
    case dead => exact .dead _ rfl
    case fn f' caps' =>
      rcases hc with ⟨rfl, hc⟩ | ⟨hc, _⟩
      · obtain ⟨k1, k2⟩ := CWs_at hc
        refine .fn f caps' vals u (by rw [h1, k1]) (fun j c' hj => ?_) (fun j c' hj => ?_)
        · obtain ⟨c, e, _⟩ := k2 j c' hj; exact h2 j c e
        · obtain ⟨c, e, hcw⟩ := k2 j c' hj; exact ih j c e c' hcw
      · rw [← hc]; exact .imm (.fn f caps vals u h1 h2 h3)
theorem CW_rep {ρ : Ren} {I : Nat → Prop} {β : Nat → Option BI} {w : World} {c : Cell} {v : Value} (h : Rep I β w c v) : ∀ c', CW ρ c c' → Rep I (renβ ρ β) w c' v := by
  induction h with
  | imm h => exact CW_repI h
  | ref o off n b sz cap C h1 h2 h3 =>
    intro c' hc
    cases c' <;> simp only [CW] at hc <;> try exact hc.elim
    case ref o' off' n' => obtain ⟨h4, rfl, rfl⟩ := hc; exact .ref o' off n b sz cap C (by simp [renβ, h4, h1]) h2 h3
    case dead => exact .dead _ rfl
  | refE o off A cap h =>
    intro c' hc
    cases c' <;> simp only [CW] at hc <;> try exact hc.elim
    case ref o' off' n' => obtain ⟨h4, rfl, rfl⟩ := hc; exact .refE o' off A cap h
    case dead => exact .dead _ rfl
  | ref0 o sz C h =>
    intro c' hc
    cases c' <;> simp only [CW] at hc <;> try exact hc.elim
    case ref o' off' n' => obtain ⟨h4, rfl, rfl⟩ := hc; exact .ref0 o' sz C (by simp [renβ, h4, h])
    case dead => exact .dead _ rfl
  | ptr o i f b sz C h =>
    intro c' hc
    cases c' <;> simp only [CW] at hc <;> try exact hc.elim
    case ptr o' i' f' => obtain ⟨h4, rfl, rfl⟩ := hc; exact .ptr o' i f b sz C (by simp [renβ, h4, h])
    case dead => exact .dead _ rfl
  | fn f caps vals u h1 h2 h3 ih =>
    intro c' hc
    cases c' <;> simp only [CW] at hc <;> try exact hc.elim
    case dead => exact .dead _ rfl
    case fn f' caps' =>
      rcases hc with ⟨rfl, hc⟩ | ⟨hc, hi⟩
      · obtain ⟨k1, k2⟩ := CWs_at hc
        refine .fn f caps' vals u (by rw [h1, k1]) (fun j c' hj => ?_) (fun j c' hj => ?_)
        · obtain ⟨c, e, _⟩ := k2 j c' hj; exact h2 j c e
        · obtain ⟨c, e, hcw⟩ := k2 j c' hj; exact ih j c e c' hcw
      · rw [← hc]
        refine .imm (Imm.fn f caps (fun c hcm => hi c ?_) I β w _ (.fn f caps vals u h1 h2 h3))
        cases hc; exact hcm
  | dead x h =>
    intro c' hc
    cases c' <;> simp only [CW] at hc <;> try exact hc.elim
    case dead => exact .dead _ h

def FW (ρ : Ren) : AVal → AVal → Prop
  | _, .any => True
  | .c x, .c y => CW ρ x y
  | .agg xs, .agg ys => CWs ρ xs ys
  | _, _ => False
def FWs (ρ : Ren) : List AVal → List AVal → Prop
  | [], [] => True
  | x :: xs, y :: ys => FW ρ x y ∧ FWs ρ xs ys
  | _, _ => False
def VW (ρ : Ren) : AVal → AVal → Prop
  | .tup xs, .tup ys => FWs ρ xs ys
  | x, y => FW ρ x y
section
variable {ρ : Ren} {I : Nat → Prop} {β : Nat → Option BI} {w : World}
theorem CWs_rep : ∀ {xs ys : List Cell} {vs : List Value}, All2 (Rep I β w) xs vs → CWs ρ xs ys → All2 (Rep I (renβ ρ β) w) ys vs
  | _, [], _, .nil, _ => .nil
  | _, _ :: _, _, .nil, h => by simp [CWs] at h
  | _, [], _, .cons _ _, h => by simp [CWs] at h
  | _, y :: ys, _, .cons h1 h2, h => by
    simp only [CWs] at h
    exact .cons (CW_rep h1 y h.1) (CWs_rep h2 h.2)
theorem FW_rep {x y : AVal} {v : Value} (h : RepF I β w x v) (hc : FW ρ x y) : RepF I (renβ ρ β) w y v := by
  cases y with
  | any => trivial
  | c y => cases x <;> simp only [FW] at hc; exact CW_rep h y hc
  | agg ys => cases x <;> simp only [FW] at hc; obtain ⟨vals, rfl, h⟩ := h; exact ⟨vals, rfl, CWs_rep h hc⟩
  | tup ys => cases x <;> simp only [FW] at hc
theorem FWs_rep : ∀ {xs ys : List AVal} {vs : List Value}, All2 (RepF I β w) xs vs → FWs ρ xs ys → All2 (RepF I (renβ ρ β) w) ys vs
  | _, [], _, .nil, _ => .nil
  | _, _ :: _, _, .nil, h => by simp [FWs] at h
  | _, [], _, .cons _ _, h => by simp [FWs] at h
  | _, y :: ys, _, .cons h1 h2, h => by
    simp only [FWs] at h
    exact .cons (FW_rep h1 h.1) (FWs_rep h2 h.2)
theorem VW_rep {x y : AVal} {v : Value} (h : RepV I β w x v) (hc : VW ρ x y) : RepV I (renβ ρ β) w y v := by
  cases y with
  | any => trivial
  | c y => cases x <;> simp only [VW, FW] at hc; exact CW_rep h y hc
  | agg ys => cases x <;> simp only [VW, FW] at hc; obtain ⟨vals, rfl, h⟩ := h; exact ⟨vals, rfl, CWs_rep h hc⟩
  | tup ys => cases x <;> simp only [VW, FW] at hc; obtain ⟨vals, rfl, h⟩ := h; exact ⟨vals, rfl, FWs_rep h hc⟩
end

/-- the elements under new names: the same where all is immutable -/
inductive OW (ρ : Ren) : List (List Cell) → List (List Cell) → Prop
  | same {els els' : List (List Cell)} : els = els' → (∀ x ∈ els', ∀ c ∈ x, Imm c) → OW ρ els els'
  | one {x y : List Cell} : CWs ρ x y → OW ρ [x] [y]
theorem OW.parts {ρ : Ren} {a b : List (List Cell)} (h : OW ρ a b) : (a = b ∧ ∀ x ∈ b, ∀ c ∈ x, Imm c) ∨ ∃ x y, a = [x] ∧ b = [y] ∧ CWs ρ x y := by
  cases h with
  | same e h => exact .inl ⟨e, h⟩
  | one h => exact .inr ⟨_, _, rfl, rfl, h⟩
def obW (ρ : Ren) (s : AS) : List (Nat × Option AObj) → Prop
  | [] => True
  | (_, none) :: r => obW ρ s r
  | (o', some obj') :: r => (match lk o' ρ with
      | some (some o) => ∃ obj, s.obj o = some obj ∧ obj.ty = obj'.ty ∧ obj.sz = obj'.sz ∧ OW ρ obj.els obj'.els
      | some none => obj'.els = []
      | none => False) ∧ obW ρ s r
def tmW (ρ : Ren) (s : AS) : List (Nat × AVal) → Prop
  | [] => True
  | (t, x) :: r => VW ρ (s.get t) x ∧ tmW ρ s r
def srcs : Ren → List Nat
  | [] => []
  | (_, some o) :: r => o :: srcs r
  | (_, none) :: r => srcs r
def nodupB : List Nat → Bool
  | [] => true
  | x :: r => !memB x r && nodupB r
/-- all that is static of new names: below nx', the old ones apart, what came in keeps its own -/
def renB (ρ : Ren) (m nx' : Nat) : Bool := ρ.all (fun p => Nat.blt p.1 nx') && nodupB (srcs ρ) && (List.range m).all fun o => match lk o ρ with | some (some o') => Nat.beq o o' | _ => false
theorem lk_mem {α : Type} {n : Nat} {v : α} : ∀ {l : List (Nat × α)}, lk n l = some v → (n, v) ∈ l
  | [], h => by simp [lk] at h
  | (k, x) :: r, h => by
    rw [lk_cons] at h
    by_cases e : n = k
    · subst e; rw [if_pos rfl] at h; cases h; simp
    · rw [if_neg e] at h; simp [lk_mem h]
theorem src_inj {ρ : Ren} (h : nodupB (srcs ρ) = true) : ∀ {o1 o2 o : Nat}, lk o1 ρ = some (some o) → lk o2 ρ = some (some o) → o1 = o2 := by
  have hin : ∀ {ρ : Ren} {o1 o : Nat}, lk o1 ρ = some (some o) → o ∈ srcs ρ := by
    intro ρ
    induction ρ with
    | nil => intro o1 o h; simp [lk] at h
    | cons p r ih =>
      intro o1 o h
      obtain ⟨k, x⟩ := p
      rw [lk_cons] at h
      by_cases e : o1 = k
      · rw [if_pos e] at h; cases h; simp [srcs]
      · rw [if_neg e] at h
        have := ih h
        cases x <;> simp [srcs, this]
  induction ρ with
  | nil => intro o1 o2 o h1; simp [lk] at h1
  | cons p r ih =>
    intro o1 o2 o h1 h2
    obtain ⟨k, x⟩ := p
    rw [lk_cons] at h1 h2
    by_cases e1 : o1 = k <;> by_cases e2 : o2 = k
    · rw [e1, e2]
    · rw [if_pos e1] at h1; rw [if_neg e2] at h2
      cases h1
      simp only [srcs, nodupB, Bool.and_eq_true, Bool.not_eq_true'] at h
      have := hin h2
      rw [← memB_iff, h.1] at this
      cases this
    · rw [if_neg e1] at h1; rw [if_pos e2] at h2
      cases h2
      simp only [srcs, nodupB, Bool.and_eq_true, Bool.not_eq_true'] at h
      have := hin h1
      rw [← memB_iff, h.1] at this
      cases this
    · rw [if_neg e1] at h1; rw [if_neg e2] at h2
      refine ih ?_ h1 h2
      cases x <;> simp [srcs, nodupB] at h ⊢ <;> simp [h]

theorem Rel.ren (ρ : Ren) {s s' : AS} {E : Env} {I : Nat → Prop} {β : Nat → Option BI} {a : Act} {w : World} (hB : renB ρ E.m s'.nx = true) (ht : tmW ρ s s'.tm) (ho : obW ρ s s'.ob)
    (hr : Rel E (Below' s) I s β a w) : Rel E (Below' s') I s' (renβ ρ β) a w := by
  simp only [renB, Bool.and_eq_true] at hB
  obtain ⟨⟨hnx, hnd⟩, hrg⟩ := hB
  have htm : ∀ (l : List (Nat × AVal)) (t : Nat) (x : AVal), tmW ρ s l → lk t l = some x → VW ρ (s.get t) x := by
    intro l
    induction l with
    | nil => intro t x _ h; simp [lk] at h
    | cons p r ih =>
      intro t x h hl
      obtain ⟨k, y⟩ := p
      simp only [tmW] at h
      rw [lk_cons] at hl
      by_cases e : t = k
      · subst e; rw [if_pos rfl] at hl; cases hl; exact h.1
      · rw [if_neg e] at hl; exact ih t x h.2 hl
  have hob : ∀ (l : List (Nat × Option AObj)) (o' : Nat) (obj' : AObj), obW ρ s l → lk o' l = some (some obj') →
      (∃ o obj, lk o' ρ = some (some o) ∧ s.obj o = some obj ∧ obj.ty = obj'.ty ∧ obj.sz = obj'.sz ∧ OW ρ obj.els obj'.els) ∨ (lk o' ρ = some none ∧ obj'.els = []) := by
    intro l
    induction l with
    | nil => intro o' obj' _ h; simp [lk] at h
    | cons p r ih =>
      intro o' obj' h hl
      obtain ⟨k, y⟩ := p
      rw [lk_cons] at hl
      by_cases e : o' = k
      · subst e
        rw [if_pos rfl] at hl
        cases hl
        simp only [obW] at h
        have h1 := h.1
        split at h1
        · rename_i o hlo
          obtain ⟨obj, k1, k2, k3, k4⟩ := h1
          exact .inl ⟨o, obj, hlo, k1, k2, k3, k4⟩
        · rename_i hlo
          exact .inr ⟨hlo, h1⟩
        · exact h1.elim
      · rw [if_neg e] at hl
        refine ih o' obj' ?_ hl
        cases y with
        | none => simpa [obW] using h
        | some y => simp only [obW] at h; exact h.2
  have hgo : ∀ o obj, s'.obj o = some obj → lk o s'.ob = some (some obj) := by
    intro o obj h
    unfold AS.obj at h
    cases hl : lk o s'.ob with
    | none => simp [hl] at h
    | some x => simp [hl] at h; rw [h]
  refine ⟨fun t => ?_, hr.siz, hr.dfr, fun o' obj' h => ?_, fun o1 o2 obj1 obj2 B1 B2 b h1 h2 hne e1 e2 hb1 hb2 => ?_, fun o B h => ?_, hr.old, hr.imm, hr.gro, fun o ho' => ?_⟩
  · cases hl : lk t s'.tm with
    | none =>
      have : s'.get t = .any := by unfold AS.get; rw [hl]; rfl
      rw [this]; trivial
    | some x =>
      have : s'.get t = x := by unfold AS.get; rw [hl]; rfl
      rw [this]
      exact VW_rep (hr.tms t) (htm _ t x ht hl)
  · rcases hob _ o' obj' ho (hgo _ _ h) with ⟨o, obj, hlo, k1, k2, k3, k4⟩ | ⟨hlo, k1⟩
    · obtain ⟨B, hB, p2, p3, p4⟩ := hr.obs o obj k1
      have k5 := k4.parts
      refine ⟨B, by simp [renβ, hlo, hB], ?_, ?_, ?_⟩
      · rcases k5 with ⟨e, _⟩ | ⟨x0, y0, e1, e2, hc⟩
        · rw [← e, ← k3]; exact p2
        · intro x hx
          rw [e2, List.mem_singleton] at hx
          subst hx
          rw [(CWs_at hc).1, ← k3]
          exact p2 _ (by rw [e1]; simp)
      · intro hb
        have h0 := p3 hb
        rcases k5 with ⟨e, _⟩ | ⟨x0, y0, e1, e2, hc⟩
        · rw [← e]; exact h0
        · rw [e1] at h0; cases h0
      · intro b hb
        obtain ⟨q0, q1, q2, arr, q3, q4, q5, q6, q7⟩ := p4 b hb
        refine ⟨q0.trans k3, q1, q2, arr, by rw [← k2]; exact q3, by rw [← k3]; exact q4, ?_, q6, ?_⟩
        · rcases k5 with ⟨e, _⟩ | ⟨x0, y0, e1, e2, hc⟩
          · rw [← e]; exact q5
          · rw [e1] at q5; rw [e2]; exact q5
        · intro i j x c hx hj
          rcases k5 with ⟨e, hi⟩ | ⟨x0, y0, e1, e2, hc⟩
          · rw [← e] at hx
            obtain ⟨u, hu, hru⟩ := q7 i j x c hx hj
            rw [← k3]
            exact ⟨u, hu, .imm (hi x (by rw [← e]; exact List.mem_of_getElem? hx) c (List.mem_of_getElem? hj) _ _ _ _ hru)⟩
          · cases i with
            | succ i => rw [e2] at hx; simp at hx
            | zero =>
              rw [e2] at hx
              simp only [List.getElem?_cons_zero, Option.some.injEq] at hx
              subst hx
              obtain ⟨c0, hc0, hcw⟩ := (CWs_at hc).2 j c hj
              obtain ⟨u, hu, hru⟩ := q7 0 j x0 c0 (by rw [e1]; rfl) hc0
              rw [← k3]
              exact ⟨u, hu, CW_rep hru c hcw⟩
    · refine ⟨⟨none, 1, 0⟩, by simp [renβ, hlo], by rw [k1]; simp, fun _ => k1, fun b hb => by cases hb⟩
  · rcases hob _ o1 obj1 ho (hgo _ _ h1) with ⟨o, obj, hlo, k1, _⟩ | ⟨hlo, _⟩
    · rcases hob _ o2 obj2 ho (hgo _ _ h2) with ⟨o', obj', hlo', k1', _⟩ | ⟨hlo', _⟩
      · simp only [renβ, hlo] at e1
        simp only [renβ, hlo'] at e2
        by_cases e : o = o'
        · subst e
          exact hne (src_inj hnd hlo hlo')
        · exact hr.inj o o' obj obj' B1 B2 b k1 k1' e e1 e2 hb1 hb2
      · simp only [renβ, hlo'] at e2
        cases e2; cases hb2
    · simp only [renβ, hlo] at e1
      cases e1; cases hb1
  · have : ∃ x, lk o ρ = some x := by
      unfold renβ at h
      split at h
      · exact ⟨_, by assumption⟩
      · exact ⟨_, by assumption⟩
      · cases h
    obtain ⟨x, hx⟩ := this
    have := (List.all_eq_true.1 hnx) _ (lk_mem hx)
    simpa [Below'] using this
  · have := (List.all_eq_true.1 hrg) o (List.mem_range.2 ho')
    split at this
    · rename_i o' hlo
      have : o = o' := by simpa using this
      subst this
      simp only [renβ, hlo]
      exact hr.ext o ho'
    · cases this
theorem Weak.of (ρ : Ren) {m : Nat} {s s' : AS} (hB : renB ρ m s'.nx = true) (ht : tmW ρ s s'.tm) (ho : obW ρ s s'.ob) : Weak m s s' :=
  fun _ I β _ _ hm hr => ⟨I, renβ ρ β, Rel.ren ρ (by rw [hm]; exact hB) ht ho hr⟩
end Go.Proofs.Ytfebalahfhkeaaa
