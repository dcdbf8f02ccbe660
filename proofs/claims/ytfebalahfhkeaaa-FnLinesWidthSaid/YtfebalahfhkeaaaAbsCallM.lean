/- The abstract machine, part 16: calls of functions that write to objects handed to them. No conditions but those stated. -/
import Derived.Test.YtfebalahfhkeaaaAbsCall2
namespace Go.Proofs.Ytfebalahfhkeaaa
open Go Go.RowKit

/-- the caller's name for the callee's name i -/
def nm (μ : List Nat) (nx i : Nat) : Nat := match μ[i]? with | some q => q | none => nx + (i - μ.length)
mutual
def reC (μ : List Nat) (nx : Nat) : Cell → Cell
  | .ref q off n => .ref (nm μ nx q) off n
  | .ptr q i f => .ptr (nm μ nx q) i f
  | .fn f caps => .fn f (reL μ nx caps)
  | c => c
def reL (μ : List Nat) (nx : Nat) : List Cell → List Cell
  | [] => []
  | c :: cs => reC μ nx c :: reL μ nx cs
end
def reF (μ : List Nat) (nx : Nat) : AVal → AVal
  | .c x => .c (reC μ nx x)
  | .agg xs => .agg (reL μ nx xs)
  | x => x
def reV (μ : List Nat) (nx : Nat) : AVal → AVal
  | .tup xs => .tup (xs.map (reF μ nx))
  | x => reF μ nx x
theorem reL_at (μ : List Nat) (nx : Nat) : ∀ (cs : List Cell), (reL μ nx cs).length = cs.length ∧ ∀ (j : Nat) c', (reL μ nx cs)[j]? = some c' → ∃ c, cs[j]? = some c ∧ c' = reC μ nx c
  | [] => ⟨rfl, fun j c' h => by simp [reL] at h⟩
  | c :: cs => by
    obtain ⟨h1, h2⟩ := reL_at μ nx cs
    refine ⟨by simp [reL, h1], fun j c' hj => ?_⟩
    rw [reL] at hj
    cases j with
    | zero => simp at hj; subst hj; exact ⟨c, rfl, rfl⟩
    | succ j => simpa using h2 j c' (by simpa using hj)
section
variable {E : Env} {N I : Nat → Prop} {s s' : AS} {β β' : Nat → Option BI} {a : Act} {w : World} {V μ : List Nat} {nx : Nat}
theorem re_rep (hβ : ∀ o B, β o = some B → β' (nm μ nx o) = some B) {c : Cell} {v : Value} (h : Rep I β w c v) : Rep I β' w (reC μ nx c) v := by
  have himm : ∀ {c : Cell} {v : Value}, RepI I w c v → Rep I β' w (reC μ nx c) v := by
    intro c v h
    induction h with
    | v x h => exact .imm (.v x h)
    | nil => exact .imm .nil
    | sl0 A cap => exact .imm (.sl0 A cap)
    | sl xs b o sz n cap u h1 h2 h3 h4 h5 h6 _ => exact .imm (.sl xs b o sz n cap u h1 h2 h3 h4 h5 h6)
    | ip cs b o u h1 h2 h3 _ => exact .imm (.ip cs b o u h1 h2 h3)
    | fn f caps vals u h1 h2 _ ih =>
      obtain ⟨k1, k2⟩ := reL_at μ nx caps
      refine .fn f (reL μ nx caps) vals u (by rw [h1, k1]) (fun j c' hj => ?_) (fun j c' hj => ?_)
      · obtain ⟨c, e, _⟩ := k2 j c' hj; exact h2 j c e
      · obtain ⟨c, e, rfl⟩ := k2 j c' hj; exact ih j c e
  induction h with
  | imm h => exact himm h
  | ref o off n b sz cap C h1 h2 h3 => exact .ref _ off n b sz cap C (hβ _ _ h1) h2 h3
  | refE o off A cap h => exact .refE _ off A cap h
  | ref0 o sz C h => exact .ref0 _ sz C (hβ _ _ h)
  | ptr o i f b sz C h => exact .ptr _ i f b sz C (hβ _ _ h)
  | fn f caps vals u h1 h2 _ ih =>
    obtain ⟨k1, k2⟩ := reL_at μ nx caps
    refine .fn f (reL μ nx caps) vals u (by rw [h1, k1]) (fun j c' hj => ?_) (fun j c' hj => ?_)
    · obtain ⟨c, e, _⟩ := k2 j c' hj; exact h2 j c e
    · obtain ⟨c, e, rfl⟩ := k2 j c' hj; exact ih j c e
  | dead x h => exact .dead x h
theorem reL_rep (hβ : ∀ o B, β o = some B → β' (nm μ nx o) = some B) : ∀ {cs : List Cell} {vs : List Value}, All2 (Rep I β w) cs vs → All2 (Rep I β' w) (reL μ nx cs) vs
  | _, _, .nil => .nil
  | _, _, .cons h hs => .cons (re_rep hβ h) (reL_rep hβ hs)
theorem reF_rep (hβ : ∀ o B, β o = some B → β' (nm μ nx o) = some B) {x : AVal} {v : Value} (h : RepF I β w x v) : RepF I β' w (reF μ nx x) v := by
  cases x with
  | c x => exact re_rep hβ h
  | agg xs => obtain ⟨vals, rfl, h⟩ := h; exact ⟨vals, rfl, reL_rep hβ h⟩
  | tup xs => exact h
  | any => trivial
theorem reV_rep (hβ : ∀ o B, β o = some B → β' (nm μ nx o) = some B) {x : AVal} {v : Value} (h : RepV I β w x v) : RepV I β' w (reV μ nx x) v := by
  cases x with
  | tup xs =>
    obtain ⟨vals, rfl, g⟩ := RepV.tup.1 h
    refine RepV.tup.2 ⟨vals, rfl, ?_⟩
    clear h
    induction g with
    | nil => exact .nil
    | cons h _ ih => exact .cons (reF_rep hβ h) ih
  | c x => exact re_rep hβ h
  | agg xs => obtain ⟨vals, rfl, g⟩ := RepV.agg.1 h; exact RepV.agg.2 ⟨vals, rfl, reL_rep hβ g⟩
  | any => trivial

mutual
/-- a cell as a callee sees it: the objects in V are lent, those in μ are handed over by name -/
inductive MC (s : AS) (V μ : List Nat) : Cell → Cell → Prop
  | vc {c c' : Cell} : VC s V c c' → MC s V μ c c'
  | ref {q i off n : Nat} : μ[i]? = some q → MC s V μ (.ref q off n) (.ref i off n)
  | ptr {q k i f : Nat} : μ[k]? = some q → MC s V μ (.ptr q i f) (.ptr k i f)
  | fn {f : Nat} {caps caps' : List Cell} : MCs s V μ caps caps' → MC s V μ (.fn f caps) (.fn f caps')
inductive MCs (s : AS) (V μ : List Nat) : List Cell → List Cell → Prop
  | nil : MCs s V μ [] []
  | cons {c c' : Cell} {cs cs' : List Cell} : MC s V μ c c' → MCs s V μ cs cs' → MCs s V μ (c :: cs) (c' :: cs')
end
inductive MA (s : AS) (V μ : List Nat) : AVal → AVal → Prop
  | c {x y : Cell} : MC s V μ x y → MA s V μ (.c x) (.c y)
  | agg {xs ys : List Cell} : MCs s V μ xs ys → MA s V μ (.agg xs) (.agg ys)
inductive MAs (s : AS) (V μ : List Nat) : List AVal → List AVal → Prop
  | nil : MAs s V μ [] []
  | cons {c c' : AVal} {cs cs' : List AVal} : MA s V μ c c' → MAs s V μ cs cs' → MAs s V μ (c :: cs) (c' :: cs')

/-- the callee's names -/
def inβ (β : Nat → Option BI) (μ : List Nat) (i : Nat) : Option BI := match μ[i]? with | some q => β q | none => none
theorem MC.rep (hr : Rel E N I s' β a w) (hag : ∀ q ∈ V, s'.obj q = s.obj q) {c c' : Cell} (h : MC s V μ c c') : ∀ v, Rep I β w c v → Rep (lent I β V) (inβ β μ) w c' v := by
  have hl : ∀ {c v}, RepI I w c v → RepI (lent I β V) w c v := fun h => h.lent
  refine MC.rec (motive_1 := fun c c' _ => ∀ v, Rep I β w c v → Rep (Go.Proofs.Ytfebalahfhkeaaa.lent I β V) (inβ β μ) w c' v)
    (motive_2 := fun cs cs' _ => cs'.length = cs.length ∧ ∀ (j : Nat) c', cs'[j]? = some c' → ∃ c, cs[j]? = some c ∧ ∀ v, Rep I β w c v → Rep (Go.Proofs.Ytfebalahfhkeaaa.lent I β V) (inβ β μ) w c' v) ?_ ?_ ?_ ?_ ?_ ?_ h
  · intro c c' h v hv
    exact .imm (h.rep hr hag v hv)
  · intro q i off n hq v hv
    cases hv with
    | imm h => cases h
    | ref _ _ _ b sz cap C h1 h2 h3 => exact .ref i off n b sz cap C (by simp only [inβ, hq]; exact h1) h2 h3
    | refE _ _ A cap h => exact .refE i off A cap h
    | ref0 _ sz C h => exact .ref0 i sz C (by simp only [inβ, hq]; exact h)
  · intro q k i f hq v hv
    cases hv with
    | imm h => cases h
    | ptr _ _ _ b sz C h => exact .ptr k i f b sz C (by simp only [inβ, hq]; exact h)
  · intro f caps caps' _ ih v hv
    obtain ⟨k1, k2⟩ := ih
    cases hv with
    | imm h =>
      cases h with
      | fn _ _ vals u h1 h2 h3 =>
        refine .fn f caps' vals u (by rw [h1, k1]) (fun j c' hj => ?_) (fun j c' hj => ?_)
        · obtain ⟨c, e, _⟩ := k2 j c' hj; exact h2 j c e
        · obtain ⟨c, e, hc⟩ := k2 j c' hj; exact hc _ (.imm (h3 j c e))
    | fn _ _ vals u h1 h2 h3 =>
      refine .fn f caps' vals u (by rw [h1, k1]) (fun j c' hj => ?_) (fun j c' hj => ?_)
      · obtain ⟨c, e, _⟩ := k2 j c' hj; exact h2 j c e
      · obtain ⟨c, e, hc⟩ := k2 j c' hj; exact hc _ (h3 j c e)
  · exact ⟨rfl, fun j c' h => by simp at h⟩
  · intro c c' cs cs' _ _ ih1 ih2
    refine ⟨by simp [ih2.1], fun j x hj => ?_⟩
    cases j with
    | zero => simp at hj; subst hj; exact ⟨c, rfl, ih1⟩
    | succ j => simpa using ih2.2 j x (by simpa using hj)
theorem MCs.rep (hr : Rel E N I s' β a w) (hag : ∀ q ∈ V, s'.obj q = s.obj q) : ∀ {cs cs' : List Cell} {vs : List Value}, MCs s V μ cs cs' → All2 (Rep I β w) cs vs → All2 (Rep (lent I β V) (inβ β μ) w) cs' vs
  | _, _, _, .nil, .nil => .nil
  | _, _, _, .cons h hs, .cons k ks => .cons (h.rep hr hag _ k) (MCs.rep hr hag hs ks)
theorem MA.rep (hr : Rel E N I s' β a w) (hag : ∀ q ∈ V, s'.obj q = s.obj q) {x y : AVal} (h : MA s V μ x y) {v : Value} (hv : RepV I β w x v) : RepF (lent I β V) (inβ β μ) w y v := by
  cases h with
  | c h => exact h.rep hr hag _ hv
  | agg h =>
    obtain ⟨vals, rfl, h2⟩ := RepV.agg.1 hv
    exact ⟨vals, rfl, h.rep hr hag h2⟩
theorem MAs.rep (hr : Rel E N I s' β a w) (hag : ∀ q ∈ V, s'.obj q = s.obj q) : ∀ {xs : List Operand} {ys : List AVal}, MAs s V μ (xs.map (opA s)) ys → (∀ x ∈ xs, RepV I β w (opA s x) (a.eval x)) →
    All2 (RepF (lent I β V) (inβ β μ) w) ys (xs.map a.eval)
  | [], _, .nil, _ => .nil
  | x :: xs, _, .cons h hs, hv => .cons (h.rep hr hag (hv x (by simp))) (MAs.rep hr hag hs fun y hy => hv y (by simp [hy]))
end

/-- the objects behind the call, under the caller's names -/
def outsU (μ : List Nat) (nx : Nat) : Nat → List (Option AObj) → List (Nat × Option AObj)
  | _, [] => []
  | i, o :: r => (nm μ nx i, o) :: outsU μ nx (i + 1) r
def callMU (d : Option Nat) (r : AVal) (μ : List Nat) (nx : Nat) (outs : List (Option AObj)) : Upd := ⟨match d with | some t => [(t, reV μ nx r)] | none => [], outsU μ nx 0 outs, outs.length - μ.length⟩
def outsOk : List (Option AObj) → Prop
  | [] => True
  | none :: r => outsOk r
  | some o :: r => AllSc o.els ∧ outsOk r
theorem outsOk.all : ∀ {l : List (Option AObj)}, outsOk l → ∀ obj, some obj ∈ l → AllSc obj.els
  | [], _, o, ho => by simp at ho
  | none :: r, h, o, ho => by
    rcases List.mem_cons.1 ho with e | ho
    · cases e
    · exact outsOk.all (l := r) h o ho
  | some x :: r, h, o, ho => by
    rcases List.mem_cons.1 ho with e | ho
    · cases e; exact h.1
    · exact outsOk.all (l := r) h.2 o ho
end Go.Proofs.Ytfebalahfhkeaaa
