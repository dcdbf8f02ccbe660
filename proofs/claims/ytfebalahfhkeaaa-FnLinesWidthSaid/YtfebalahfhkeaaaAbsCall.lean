/- The abstract machine, part 12: calls of functions that write to nothing that was there. No conditions but those stated. -/
import Derived.Test.YtfebalahfhkeaaaAbsMake2
namespace Go.Proofs.Ytfebalahfhkeaaa
open Go Go.RowKit

mutual
/-- a cell as a callee sees it: the objects in V are lent to it, to be read -/
inductive VC (s : AS) (V : List Nat) : Cell → Cell → Prop
  | imm {c : Cell} : Imm c → VC s V c c
  | nil : VC s V .nil (.sl [])
  | ref {q off n : Nat} {obj : AObj} {xs : List (List Cell)} : q ∈ V → s.obj q = some obj → off + n ≤ obj.els.length → (obj.els.drop off).take n = xs → (∀ x ∈ obj.els, ∀ c ∈ x, Imm c) → VC s V (.ref q off n) (.sl xs)
  | ptr {q i f : Nat} {obj : AObj} {el cs : List Cell} : q ∈ V → s.obj q = some obj → obj.els[i]? = some el → el.drop f = cs → (∀ c ∈ el, Imm c) → VC s V (.ptr q i f) (.ip cs)
  | fn {f : Nat} {caps caps' : List Cell} : VCs s V caps caps' → VC s V (.fn f caps) (.fn f caps')
inductive VCs (s : AS) (V : List Nat) : List Cell → List Cell → Prop
  | nil : VCs s V [] []
  | cons {c c' : Cell} {cs cs' : List Cell} : VC s V c c' → VCs s V cs cs' → VCs s V (c :: cs) (c' :: cs')
end
inductive VA (s : AS) (V : List Nat) : AVal → AVal → Prop
  | c {x y : Cell} : VC s V x y → VA s V (.c x) (.c y)
  | agg {xs ys : List Cell} : VCs s V xs ys → VA s V (.agg xs) (.agg ys)
inductive VAs (s : AS) (V : List Nat) : List AVal → List AVal → Prop
  | nil : VAs s V [] []
  | cons {c c' : AVal} {cs cs' : List AVal} : VA s V c c' → VAs s V cs cs' → VAs s V (c :: cs) (c' :: cs')

/-- the blocks that are lent -/
def lent (I : Nat → Prop) (β : Nat → Option BI) (V : List Nat) (b : Nat) : Prop := I b ∨ ∃ q B, q ∈ V ∧ β q = some B ∧ B.blk = some b
section
variable {E : Env} {N I : Nat → Prop} {s s' : AS} {β : Nat → Option BI} {a : Act} {w : World} {V : List Nat}
theorem RepI.lent {c : Cell} {v : Value} (h : RepI I w c v) : RepI (lent I β V) w c v := h.mono (fun _ h => .inl h) (fun _ _ => rfl)
theorem VC.rep (hr : Rel E N I s' β a w) (hag : ∀ q ∈ V, s'.obj q = s.obj q) {c c' : Cell} (h : VC s V c c') : ∀ v, Rep I β w c v → RepI (lent I β V) w c' v := by
  refine VC.rec (motive_1 := fun c c' _ => ∀ v, Rep I β w c v → RepI (Go.Proofs.Ytfebalahfhkeaaa.lent I β V) w c' v)
    (motive_2 := fun cs cs' _ => cs'.length = cs.length ∧ ∀ (j : Nat) c', cs'[j]? = some c' → ∃ c, cs[j]? = some c ∧ ∀ v, Rep I β w c v → RepI (Go.Proofs.Ytfebalahfhkeaaa.lent I β V) w c' v) ?_ ?_ ?_ ?_ ?_ ?_ ?_ h
  · intro c hi v hv
    exact (hi I β w v hv).lent
  · intro v hv
    cases hv with
    | imm h => cases h; exact .sl0 _ _
  · intro q off n obj xs hq ho hl hxs hi v hv
    obtain ⟨B, hB, g2, g3, g4⟩ := hr.obs q obj ((hag q hq).trans ho)
    have hempty : n = 0 → xs = [] := fun h => by rw [← hxs, h, List.take_zero]
    cases hv with
    | imm h => cases h
    | refE _ _ A cap _ => rw [hempty rfl]; exact .sl0 _ _
    | ref0 _ z C _ => rw [hempty rfl]; exact .sl0 _ _
    | ref _ _ _ b z cap C k1 k2 k3 =>
      rw [hB] at k1
      cases k1
      obtain ⟨l0, _, _, arr, l1, l2, l3, l4, l5⟩ := g4 b rfl
      simp only at l0
      subst l0
      have hat : ∀ (i : Nat) x, xs[i]? = some x → obj.els[off + i]? = some x := by
        intro i x hx
        rw [← hxs, List.getElem?_take] at hx
        split at hx
        · rwa [List.getElem?_drop] at hx
        · cases hx
      have key : ∀ (i j : Nat) x c, xs[i]? = some x → x[j]? = some c → w.cell? ⟨b, off * obj.sz + i * obj.sz + j, none⟩ = some (arr.getD ((off + i) * obj.sz + j) undef) ∧ RepI (Go.Proofs.Ytfebalahfhkeaaa.lent I β V) w c (arr.getD ((off + i) * obj.sz + j) undef) := by
        intro i j x c hx hj
        obtain ⟨u, hu, hru⟩ := l5 (off + i) j x c (hat i x hx) hj
        have hd : arr.getD ((off + i) * obj.sz + j) undef = u := by rw [Array.getD_eq_getD_getElem?, hu]; rfl
        rw [hd]
        refine ⟨?_, (hi x (List.mem_of_getElem? (hat i x hx)) c (List.mem_of_getElem? hj) _ _ _ _ hru).lent⟩
        rw [cell_of_row w b _ arr _ _ l1, ← hu, Nat.add_mul]
      refine .sl xs b (off * obj.sz) obj.sz n cap (fun i j => arr.getD ((off + i) * obj.sz + j) undef) ?_ k2 (fun x hx => ?_) (.inr ⟨q, _, hq, hB, rfl⟩) (fun i j x c hx hj => (key i j x c hx hj).1) (fun i j x c hx hj => (key i j x c hx hj).2)
      · rw [← hxs]; simp only [List.length_take, List.length_drop]; omega
      · rw [← hxs] at hx
        exact g2 x (List.mem_of_mem_drop (List.mem_of_mem_take hx))
  · intro q i f obj el cs hq ho hel hcs hi v hv
    obtain ⟨B, hB, g2, g3, g4⟩ := hr.obs q obj ((hag q hq).trans ho)
    obtain ⟨b, z, C, k1, rfl⟩ := rep_ptr hv
    rw [hB] at k1
    cases k1
    obtain ⟨l0, _, _, arr, l1, l2, l3, l4, l5⟩ := g4 b rfl
    simp only at l0
    subst l0
    have key : ∀ (j : Nat) c, cs[j]? = some c → w.cell? ⟨b, i * obj.sz + f + j, none⟩ = some (arr.getD (i * obj.sz + (f + j)) undef) ∧ RepI (Go.Proofs.Ytfebalahfhkeaaa.lent I β V) w c (arr.getD (i * obj.sz + (f + j)) undef) := by
      intro j c hj
      rw [← hcs, List.getElem?_drop] at hj
      obtain ⟨u, hu, hru⟩ := l5 i (f + j) el c hel hj
      have hd : arr.getD (i * obj.sz + (f + j)) undef = u := by rw [Array.getD_eq_getD_getElem?, hu]; rfl
      rw [hd]
      refine ⟨?_, (hi c (List.mem_of_getElem? hj) _ _ _ _ hru).lent⟩
      rw [cell_of_row w b _ arr _ _ l1, ← hu, Nat.add_assoc]
    exact .ip cs b _ (fun j => arr.getD (i * obj.sz + (f + j)) undef) (.inr ⟨q, _, hq, hB, rfl⟩) (fun j c hj => (key j c hj).1) (fun j c hj => (key j c hj).2)
  · intro f caps caps' _ ih v hv
    obtain ⟨k1, k2⟩ := ih
    cases hv with
    | imm h =>
      cases h with
      | fn _ _ vals u h1 h2 h3 =>
        refine .fn f caps' vals u (by rw [h1, k1]) (fun j c' hj => ?_) (fun j c' hj => ?_)
        · obtain ⟨c, e, _⟩ := k2 j c' hj; exact h2 j c e
        · obtain ⟨c, e, hc⟩ := k2 j c' hj; exact hc _ (.imm (h3 j c e))
    | fn _ _ vals u h1 h2 h3 =>
      refine .fn f caps' vals u (by rw [h1, k1]) (fun j c' hj => ?_) (fun j c' hj => ?_)
      · obtain ⟨c, e, _⟩ := k2 j c' hj; exact h2 j c e
      · obtain ⟨c, e, hc⟩ := k2 j c' hj; exact hc _ (h3 j c e)
  · exact ⟨rfl, fun j c' h => by simp at h⟩
  · intro c c' cs cs' _ _ ih1 ih2
    refine ⟨by simp [ih2.1], fun j x hj => ?_⟩
    cases j with
    | zero => simp at hj; subst hj; exact ⟨c, rfl, ih1⟩
    | succ j => simpa using ih2.2 j x (by simpa using hj)
theorem VCs.rep (hr : Rel E N I s' β a w) (hag : ∀ q ∈ V, s'.obj q = s.obj q) : ∀ {cs cs' : List Cell} {vs : List Value}, VCs s V cs cs' → All2 (Rep I β w) cs vs → All2 (RepI (lent I β V) w) cs' vs
  | _, _, _, .nil, .nil => .nil
  | _, _, _, .cons h hs, .cons k ks => .cons (h.rep hr hag _ k) (VCs.rep hr hag hs ks)
theorem VA.rep (hr : Rel E N I s' β a w) (hag : ∀ q ∈ V, s'.obj q = s.obj q) {x y : AVal} (h : VA s V x y) {v : Value} (hv : RepV I β w x v) : RepF (lent I β V) (fun _ => none) w y v := by
  cases h with
  | c h => exact Rep.imm (h.rep hr hag _ hv)
  | agg h =>
    obtain ⟨vals, rfl, h2⟩ := RepV.agg.1 hv
    exact ⟨vals, rfl, (h.rep hr hag h2).mono fun _ _ h => .imm h⟩

/-! ## What comes back -/
mutual
def shC (k : Nat) : Cell → Cell
  | .ref q off n => .ref (k + q) off n
  | .ptr q i f => .ptr (k + q) i f
  | .fn f caps => .fn f (shL k caps)
  | c => c
def shL (k : Nat) : List Cell → List Cell
  | [] => []
  | c :: cs => shC k c :: shL k cs
end
def shF (k : Nat) : AVal → AVal
  | .c x => .c (shC k x)
  | .agg xs => .agg (shL k xs)
  | x => x
def shV (k : Nat) : AVal → AVal
  | .tup xs => .tup (xs.map (shF k))
  | x => shF k x
theorem shL_at (k : Nat) : ∀ (cs : List Cell), (shL k cs).length = cs.length ∧ ∀ (j : Nat) c', (shL k cs)[j]? = some c' → ∃ c, cs[j]? = some c ∧ c' = shC k c
  | [] => ⟨rfl, fun j c' h => by simp [shL] at h⟩
  | c :: cs => by
    obtain ⟨h1, h2⟩ := shL_at k cs
    refine ⟨by simp [shL, h1], fun j c' hj => ?_⟩
    rw [shL] at hj
    cases j with
    | zero => simp at hj; subst hj; exact ⟨c, rfl, rfl⟩
    | succ j => simpa using h2 j c' (by simpa using hj)
theorem sh_rep {β' : Nat → Option BI} {k : Nat} (hβ : ∀ o B, β o = some B → β' (k + o) = some B) {c : Cell} {v : Value} (h : Rep I β w c v) : Rep I β' w (shC k c) v := by
  have himm : ∀ {c : Cell} {v : Value}, RepI I w c v → Rep I β' w (shC k c) v := by
    intro c v h
    induction h with
    | v x h => exact .imm (.v x h)
    | nil => exact .imm .nil
    | sl0 A cap => exact .imm (.sl0 A cap)
    | sl xs b o sz n cap u h1 h2 h3 h4 h5 h6 _ => exact .imm (.sl xs b o sz n cap u h1 h2 h3 h4 h5 h6)
    | ip cs b o u h1 h2 h3 _ => exact .imm (.ip cs b o u h1 h2 h3)
    | fn f caps vals u h1 h2 _ ih =>
      obtain ⟨k1, k2⟩ := shL_at k caps
      refine .fn f (shL k caps) vals u (by rw [h1, k1]) (fun j c' hj => ?_) (fun j c' hj => ?_)
      · obtain ⟨c, e, _⟩ := k2 j c' hj; exact h2 j c e
      · obtain ⟨c, e, rfl⟩ := k2 j c' hj; exact ih j c e
  induction h with
  | imm h => exact himm h
  | ref o off n b sz cap C h1 h2 h3 => exact .ref _ off n b sz cap C (hβ _ _ h1) h2 h3
  | refE o off A cap h => exact .refE _ off A cap h
  | ref0 o sz C h => exact .ref0 _ sz C (hβ _ _ h)
  | ptr o i f b sz C h => exact .ptr _ i f b sz C (hβ _ _ h)
  | fn f caps vals u h1 h2 _ ih =>
    obtain ⟨k1, k2⟩ := shL_at k caps
    refine .fn f (shL k caps) vals u (by rw [h1, k1]) (fun j c' hj => ?_) (fun j c' hj => ?_)
    · obtain ⟨c, e, _⟩ := k2 j c' hj; exact h2 j c e
    · obtain ⟨c, e, rfl⟩ := k2 j c' hj; exact ih j c e
  | dead x h => exact .dead x h
theorem shL_rep {β' : Nat → Option BI} {k : Nat} (hβ : ∀ o B, β o = some B → β' (k + o) = some B) : ∀ {cs : List Cell} {vs : List Value}, All2 (Rep I β w) cs vs → All2 (Rep I β' w) (shL k cs) vs
  | _, _, .nil => .nil
  | _, _, .cons h hs => .cons (sh_rep hβ h) (shL_rep hβ hs)
theorem shF_rep {β' : Nat → Option BI} {k : Nat} (hβ : ∀ o B, β o = some B → β' (k + o) = some B) {x : AVal} {v : Value} (h : RepF I β w x v) : RepF I β' w (shF k x) v := by
  cases x with
  | c x => exact sh_rep hβ h
  | agg xs => obtain ⟨vals, rfl, h⟩ := h; exact ⟨vals, rfl, shL_rep hβ h⟩
  | tup xs => exact h
  | any => trivial
theorem shV_rep {β' : Nat → Option BI} {k : Nat} (hβ : ∀ o B, β o = some B → β' (k + o) = some B) {x : AVal} {v : Value} (h : RepV I β w x v) : RepV I β' w (shV k x) v := by
  cases x with
  | tup xs =>
    obtain ⟨vals, rfl, g⟩ := RepV.tup.1 h
    refine RepV.tup.2 ⟨vals, rfl, ?_⟩
    clear h
    induction g with
    | nil => exact .nil
    | cons h _ ih => exact .cons (shF_rep hβ h) ih
  | c x => exact sh_rep hβ h
  | agg xs => obtain ⟨vals, rfl, g⟩ := RepV.agg.1 h; exact RepV.agg.2 ⟨vals, rfl, shL_rep hβ g⟩
  | any => trivial

/-- a cell that speaks of no lent memory -/
def Flat (c : Cell) : Prop := ∀ I I' β w v, Rep I β w c v → Rep I' β w c v
theorem Flat.v (x : Value) : Flat (.v x) := fun _ _ _ _ _ h => by cases h with | imm h => cases h with | v _ h => exact .imm (.v _ h)
theorem Flat.nil : Flat .nil := fun _ _ _ _ _ h => by cases h with | imm h => cases h; exact .imm .nil
theorem Flat.ref (q off n : Nat) : Flat (.ref q off n) := fun _ _ _ _ _ h => by
  cases h with
  | imm h => cases h
  | ref _ _ _ b sz cap C h1 h2 h3 => exact .ref _ off n b sz cap C h1 h2 h3
  | refE _ _ A cap h => exact .refE _ off A cap h
  | ref0 _ sz C h => exact .ref0 _ sz C h
def FlatCs : List Cell → Prop
  | [] => True
  | c :: cs => Flat c ∧ FlatCs cs
theorem FlatCs.all : ∀ {cs : List Cell}, FlatCs cs → ∀ c ∈ cs, Flat c
  | [], _, c, hc => by simp at hc
  | x :: xs, h, c, hc => by
    rcases List.mem_cons.1 hc with rfl | hc
    · exact h.1
    · exact FlatCs.all h.2 c hc
def FlatF : AVal → Prop
  | .c x => Flat x
  | .agg xs => FlatCs xs
  | .any => True
  | .tup _ => False
def FlatFs : List AVal → Prop
  | [] => True
  | x :: xs => FlatF x ∧ FlatFs xs
def FlatV : AVal → Prop
  | .tup xs => FlatFs xs
  | x => FlatF x
/-- elements that speak of no memory at all -/
def AllSc (els : List (List Cell)) : Prop := ∀ x ∈ els, ∀ c ∈ x, Imm c ∧ Flat c
def frOk : List AObj → Prop
  | [] => True
  | o :: r => AllSc o.els ∧ frOk r
theorem frOk.all : ∀ {fr : List AObj}, frOk fr → ∀ obj ∈ fr, ∀ x ∈ obj.els, ∀ c ∈ x, Imm c ∧ Flat c
  | [], _, o, ho => by simp at ho
  | x :: xs, h, o, ho => by
    rcases List.mem_cons.1 ho with rfl | ho
    · exact h.1
    · exact frOk.all h.2 o ho
theorem AllSc.map {α : Type} {f : α → List Cell} (h : ∀ a, ∀ c ∈ f a, Imm c ∧ Flat c) (xs : List α) : AllSc (xs.map f) := by
  intro x hx
  obtain ⟨a, _, rfl⟩ := List.mem_map.1 hx
  exact h a
theorem AllSc.nil : AllSc [] := fun x hx => by simp at hx
theorem AllSc.append {a b : List (List Cell)} (h : AllSc a) (k : AllSc b) : AllSc (a ++ b) := fun x hx => (List.mem_append.1 hx).elim (h x) (k x)
theorem AllSc.imm {els : List (List Cell)} (h : AllSc els) : ∀ x ∈ els, ∀ c ∈ x, Imm c := fun x hx c hc => (h x hx c hc).1
theorem VC.refAll {q n : Nat} {obj : AObj} (hq : q ∈ V) (ho : s.obj q = some obj) (hn : n = obj.els.length) (hi : ∀ x ∈ obj.els, ∀ c ∈ x, Imm c) : VC s V (.ref q 0 n) (.sl obj.els) :=
  .ref hq ho (by omega) (by rw [List.drop_zero, hn, List.take_length]) hi
theorem flatL_rep {I' : Nat → Prop} : ∀ {cs : List Cell} {vs : List Value}, (∀ x ∈ cs, Flat x) → All2 (Rep I β w) cs vs → All2 (Rep I' β w) cs vs
  | _, _, _, .nil => .nil
  | _, _, h, .cons k ks => .cons (h _ (by simp) _ _ _ _ _ k) (flatL_rep (fun x hx => h x (by simp [hx])) ks)
theorem flatF_rep {I' : Nat → Prop} {x : AVal} {v : Value} (hf : FlatF x) (h : RepF I β w x v) : RepF I' β w x v := by
  cases x with
  | c x => exact hf _ _ _ _ _ h
  | agg xs => obtain ⟨vals, rfl, g⟩ := h; exact ⟨vals, rfl, flatL_rep hf.all g⟩
  | any => trivial
  | tup _ => exact hf.elim
theorem flatV_rep {I' : Nat → Prop} {x : AVal} {v : Value} (hf : FlatV x) (h : RepV I β w x v) : RepV I' β w x v := by
  cases x with
  | c x => exact flatF_rep (x := .c x) hf h
  | agg xs => exact flatF_rep (x := .agg xs) hf h
  | any => trivial
  | tup xs =>
    obtain ⟨vals, rfl, g⟩ := RepV.tup.1 h
    refine RepV.tup.2 ⟨vals, rfl, ?_⟩
    simp only [FlatV] at hf
    clear h
    induction g with
    | nil => exact .nil
    | cons h _ ih =>
      simp only [FlatFs] at hf
      exact .cons (flatF_rep hf.1 h) (ih hf.2)
end
end Go.Proofs.Ytfebalahfhkeaaa
