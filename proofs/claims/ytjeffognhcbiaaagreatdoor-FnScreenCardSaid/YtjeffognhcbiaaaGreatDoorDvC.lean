/- Drawn dictionaries that may be invalid; outlines drawn for a dictionary. -/
import Derived.Test.YtjeffognhcbiaaaGreatDoorDcH
namespace Go.Proofs.YtjeffognhcbiaaaGreatDoor
open Go Go.RowKit
def EO8 (e : Ent) : Prop := e.o.length ≤ 8 ∧ DS e.o ∧ e.t.length ≤ 100
theorem EO.to8 {e : Ent} (h : EO e) : EO8 e := ⟨Nat.le_trans h.1 (by omega), h.2.1, h.2.2⟩
theorem ent_snoc (l : List Ent) (y : Ent) : (l ++ [y]).map xS = l.map xS ++ [xS y] := by rw [List.map_append]; rfl
theorem encE_two (l : List Ent) : ∀ x ∈ l.map xS, x.length = 2 := by
  intro x hx
  obtain ⟨i, _, rfl⟩ := List.mem_map.1 hx
  rfl
def tx3 : List (List UInt8) := [[], [123], [97, 32, 32, 98]]
def manyE (n : Nat) : List Ent := (List.range n).map fun j => ⟨[((j + 1 : Nat) : Int)], [97]⟩
theorem manyE_len (n : Nat) : (manyE n).length = n := by simp [manyE]
theorem manyE_succ (n : Nat) : manyE (n + 1) = manyE n ++ [⟨[((n + 1 : Nat) : Int)], [97]⟩] := by simp [manyE, List.range_succ]
theorem manyE_mem {n : Nat} (hn : n ≤ 100) : ∀ e ∈ manyE n, EO8 e := by
  intro e he
  obtain ⟨j, hj, rfl⟩ := List.mem_map.1 he
  have := List.mem_range.1 hj
  refine ⟨by simp, fun x hx => ?_, by simp⟩
  obtain rfl : x = ((j + 1 : Nat) : Int) := by simpa using hx
  omega
def kD (code : List UInt8) : Nat → Cur → Nat → Cur × Nat
  | 0, c, n => (pkC code c 2, n)
  | k + 1, c, n => if (n : Int) + 1 ≤ 40 + pkV code c 2 then kD code k (pkC code c 2) (n + 1) else (pkC code c 2, n)
theorem finE_ok (code : List UInt8) : ∀ (k : Nat) (c : Cur) (n : Nat), n ≤ 41 → (kD code k c n).1.a ≤ c.a + k + 1 ∧ (kD code k c n).2 ≤ 41
  | 0, c, n, h => ⟨by have := jB code c 2; rw [kD]; dsimp only; omega, by rw [kD]; exact h⟩
  | k + 1, c, n, h => by
    have ha := jB code c 2
    have hv := kM code c (n := 2) (by omega)
    rw [kD]
    split
    · have ih := finE_ok code k (pkC code c 2) (n + 1) (by omega)
      exact ⟨by omega, ih.2⟩
    · exact ⟨by dsimp only; omega, h⟩
theorem all2_set {α β : Type} {R : α → β → Prop} {x : α} {y : β} (h : R x y) : ∀ {a : List α} {b : List β} {k : Nat}, All2 R a b → All2 R (a.set k x) (b.set k y)
  | _, _, _, .nil => .nil
  | _, _, 0, .cons _ hs => .cons h hs
  | _, _, k + 1, .cons h0 hs => .cons h0 (all2_set h hs)
section
variable (code : List UInt8) (c : Cur) (hl : code.length ≤ 65536) (hc : c.a ≤ 2900000)
include hl hc
set_option maxHeartbeats 4000000 in
theorem anyDictionary_ex : ∃ (c' : Cur) (es : List Ent), c'.a ≤ c.a + 900 ∧ (es.length ≤ 41 ∧ ∀ x ∈ es, EO8 x) ∧ PFM Tryz.prog 70 [xV code c] [.c (.ptr 0 0 0)] [some (xV code c')] (.agg (wG es)) := by
  obtain ⟨c1, es, a1, ⟨hes, hes1, heo⟩, p1⟩ := dictionaryO_ex code c hl (by omega)
  obtain ⟨c2, w, a2, hw, p2⟩ := wZ code c1 hl (by omega) 20 (by omega)
  have i1 := qP (b := ⟨82, 2, es.map xS⟩) (yQ code c1) (wC es)
  have i2 := xK (yQ code c2)
  have j1 := wD (yQ code c)
  have j2 := wD (yQ code c1)
  have j3 := wD (yQ code c2)
  have hLD : (es.map xS).length = es.length := List.length_map _
  have h2D := encE_two es
  obtain ⟨e0, he0⟩ := xT (show 0 < es.length by omega)
  have he0' : (es.map xS)[0]? = some (xS e0) := xY he0
  obtain ⟨c3, ey, a3, hey, p3⟩ := entry_ex code c2 hl (by omega)
  obtain ⟨c4, x, a4, hx, p4⟩ := kW code c2 hl (by omega) tx3 (by decide)
  obtain ⟨c5, o, a5, ho, p5⟩ := anyOutline_ex code c2 hl (by omega)
  have i3 := xK (yQ code c3)
  have i4 := qP (b := ⟨9, 1, tx3.map wE⟩) (yQ code c4) (x3 tx3).imm
  have j4 := k9 (b := ⟨9, 1, tx3.map wE⟩) (yQ code c2) (x3 tx3).imm
  have i5 := qP (b := ⟨3, 1, o.map xE⟩) (yQ code c5) (xM o).imm
  have hx100 : x.length ≤ 100 := by
    have h : ∀ y ∈ tx3, y.length ≤ 100 := by decide
    exact h x hx
  have st1 : ∃ (cm : Cur) (em : List Ent), cm.a ≤ c.a + 800 ∧ (em.length ≤ 41 ∧ ∀ x ∈ em, EO8 x) ∧
      ((w = 0 ∧ cm = c3 ∧ em = es ++ [ey]) ∨ (w = 1 ∧ cm = c4 ∧ em = es.set 0 ⟨e0.o, x⟩) ∨ (w = 2 ∧ cm = c5 ∧ em = es.set 0 ⟨o, e0.t⟩) ∨ (w = 3 ∧ cm = c2 ∧ em = []) ∨ (4 ≤ w ∧ cm = c2 ∧ em = es)) := by
    have h8 : ∀ x ∈ es, EO8 x := fun x hx => (heo x hx).to8
    have he8 := h8 e0 (List.mem_of_getElem? he0)
    have hcases : w = 0 ∨ w = 1 ∨ w = 2 ∨ w = 3 ∨ 4 ≤ w := by omega
    rcases hcases with h | h | h | h | h
    · refine ⟨c3, es ++ [ey], by omega, ⟨by simp; omega, fun y hy => ?_⟩, .inl ⟨h, rfl, rfl⟩⟩
      rcases List.mem_append.1 hy with hy | hy
      · exact h8 y hy
      · rw [List.mem_singleton.1 hy]; exact hey.to8
    · refine ⟨c4, es.set 0 ⟨e0.o, x⟩, by omega, ⟨by rw [List.length_set]; omega, fun y hy => ?_⟩, .inr (.inl ⟨h, rfl, rfl⟩)⟩
      rcases List.mem_or_eq_of_mem_set hy with hy | rfl
      · exact h8 y hy
      · exact ⟨he8.1, he8.2.1, hx100⟩
    · refine ⟨c5, es.set 0 ⟨o, e0.t⟩, by omega, ⟨by rw [List.length_set]; omega, fun y hy => ?_⟩, .inr (.inr (.inl ⟨h, rfl, rfl⟩))⟩
      rcases List.mem_or_eq_of_mem_set hy with hy | rfl
      · exact h8 y hy
      · exact ⟨ho.1, ho.2, he8.2.2⟩
    · exact ⟨c2, [], by omega, ⟨by simp, fun y hy => by cases hy⟩, .inr (.inr (.inr (.inl ⟨h, rfl, rfl⟩)))⟩
    · exact ⟨c2, es, by omega, ⟨by omega, h8⟩, .inr (.inr (.inr (.inr ⟨h, rfl, rfl⟩)))⟩
  obtain ⟨cm, em, am, ⟨hem, hem8⟩, hcase⟩ := st1
  obtain ⟨c6, b, a6, p6⟩ := one_ex code cm hl (by omega) 40 (by omega)
  have i6 := xK (yQ code c6)
  have j6 := wD (yQ code cm)
  have hfo := finE_ok code 42 c6 0 (by omega)
  have hcl : ∀ q : Cur, ∀ x ∈ (xV code q).els, ∀ c ∈ x, Imm c := fun q => yQ code q
  cases b with
  | false =>
    refine ⟨c6, em, by omega, ⟨hem, hem8⟩, ?_⟩
    rcases hcase with ⟨hw, rfl, rfl⟩ | ⟨hw, rfl, rfl⟩ | ⟨hw, rfl, rfl⟩ | ⟨hw, rfl, rfl⟩ | ⟨hw, rfl, rfl⟩
    · refine zD (xJ _) (xQ _) rfl Tryz.func70 rfl (by kernel_rfl) _ _ rfl rfl rfl (fun w0 mu I0 β0 gi dis => ?_)
      (repeat' (first|(apply xW;((exact Want.none_ rfl)))|(apply xF zI;exact rfl;exact rfl)|((first|apply zU|apply yB|(apply yZ;exact rfl;exact rfl)|apply yH)<;>(first|exact zI|exact rfl|refine yG ?_|omega|exact lb rfl|(refine Bd.mk ?_;(simp;omega))|exact xH rfl))|apply zR|(refine yT ?_ ?_;kernel_rfl)|apply AWp.Q|apply zH|apply AWp.G|apply AWp.B|apply AWp.J|apply zJ|(refine AWp.D ?_ ?_;kernel_rfl)|(apply AWp.F;exact rfl;((exact rfl)))|(apply (yP (p1));(iterate 7 exact rfl);(focus (repeat (first|exact All2.nil|refine All2.cons rfl ?_)));exact rfl;(focus (repeat (first|exact MAs.nil|apply MAs.cons|apply MA.c|exact MC.ptr rfl)));((assumption));((assumption));exact rfl;exact rfl)|(apply (yP (p2));(iterate 7 exact rfl);(focus (repeat (first|exact All2.nil|refine All2.cons rfl ?_)));exact rfl;(focus (repeat (first|exact MAs.nil|apply MAs.cons|apply MA.c|exact MC.ptr rfl|exact MC.vc (VC.imm (Imm.v _)))));((assumption));((assumption));exact rfl;exact rfl)|(apply (yP (p3));(iterate 7 exact rfl);(focus (repeat (first|exact All2.nil|refine All2.cons rfl ?_)));exact rfl;(focus (repeat (first|exact MAs.nil|apply MAs.cons|apply MA.c|exact MC.ptr rfl)));((assumption));((assumption));exact rfl;exact rfl)|(apply (yP (p6));(iterate 7 exact rfl);(focus (repeat (first|exact All2.nil|refine All2.cons rfl ?_)));exact rfl;(focus (repeat (first|exact MAs.nil|apply MAs.cons|apply MA.c|exact MC.ptr rfl|exact MC.vc (VC.imm (Imm.v _)))));((assumption));((assumption));exact rfl;exact rfl)|(((refine AWp.C rfl ?_ ?_))<;>intro hp<;>try (exfalso;omega))))
      refine AWp.weaken (Weak.frz 5 1 (out' := ⟨35, 1, [wG (es ++ [ey])]⟩) (vT rfl rfl) rfl rfl rfl ?_ rfl rfl (.cons (.cons ?_ .nil) .nil) (Weak.refl _ _)) ?_
      · show ∀ x ∈ es.map xS ++ [xS ey], _
        rw [← ent_snoc]; exact wC _
      · show FC 5 (es.map xS ++ [xS ey]) (Cell.ref 5 0 ((es.map xS).length + 1)) (.sl ((es ++ [ey]).map xS))
        rw [ent_snoc]; exact .ref _ (by simp)
      apply AWp.R
      repeat (first | apply zK | apply zL)
      (((refine zV _ [(0, some 0)] (.cons (y5 rfl rfl rfl zI rfl rfl rfl) .nil) ?_ rfl ?_)) <;> (repeat' (first|exact trivial|exact rfl|apply And.intro|refine ⟨_,rfl,rfl,rfl,OW.one ?_⟩)))
      all_goals exact hcl _
    · refine zD (xJ _) (xQ _) rfl Tryz.func70 rfl (by kernel_rfl) _ _ rfl rfl rfl (fun w0 mu I0 β0 gi dis => ?_)
      (repeat' (first|(apply xW;((exact Want.none_ rfl)))|(apply xF zI;exact rfl;exact rfl)|((first|apply yD|apply zU|apply yB|apply yH)<;>(first|exact zI|exact Nat.zero_add _|exact rfl|refine yG ?_|assumption|exact lb rfl))|apply zR|(refine yT ?_ ?_;kernel_rfl)|apply AWp.Q|apply zH|apply AWp.G|apply AWp.B|apply AWp.J|apply zJ|(refine AWp.D ?_ ?_;kernel_rfl)|(apply AWp.F;exact rfl;((exact rfl)))|(apply (yP (p1));(iterate 7 exact rfl);(focus (repeat (first|exact All2.nil|refine All2.cons rfl ?_)));exact rfl;(focus (repeat (first|exact MAs.nil|apply MAs.cons|apply MA.c|exact MC.ptr rfl)));((assumption));((assumption));exact rfl;exact rfl)|(apply (yP (p2));(iterate 7 exact rfl);(focus (repeat (first|exact All2.nil|refine All2.cons rfl ?_)));exact rfl;(focus (repeat (first|exact MAs.nil|apply MAs.cons|apply MA.c|exact MC.ptr rfl|exact MC.vc (VC.imm (Imm.v _)))));((assumption));((assumption));exact rfl;exact rfl)|(apply (yP (p4));(iterate 7 exact rfl);(focus (repeat (first|exact All2.nil|refine All2.cons rfl ?_)));exact rfl;(focus (repeat (first|exact MAs.nil|apply MAs.cons|apply MA.c|exact MC.ref rfl|exact MC.ptr rfl)));((assumption));((assumption));exact rfl;exact rfl)|(apply (yP (p6));(iterate 7 exact rfl);(focus (repeat (first|exact All2.nil|refine All2.cons rfl ?_)));exact rfl;(focus (repeat (first|exact MAs.nil|apply MAs.cons|apply MA.c|exact MC.ptr rfl|exact MC.vc (VC.imm (Imm.v _)))));((assumption));((assumption));exact rfl;exact rfl)|(((refine AWp.C rfl ?_ ?_))<;>intro hp<;>try (exfalso;omega))))
      refine AWp.weaken (Weak.frz 2 1 (out' := ⟨35, 1, [wG (es.set 0 ⟨e0.o, x⟩)]⟩) (vT rfl rfl) rfl rfl rfl ?_ rfl rfl (.cons (.cons ?_ .nil) .nil) (Weak.refl _ _)) ?_
      · show ∀ y ∈ (es.map xS).set 0 (xS ⟨e0.o, x⟩), _
        rw [← List.map_set]; exact wC _
      · show FC 2 ((es.map xS).set 0 (xS ⟨e0.o, x⟩)) (Cell.ref 2 0 es.length) (.sl ((es.set 0 ⟨e0.o, x⟩).map xS))
        rw [List.map_set]; exact .ref _ (by simp)
      apply AWp.R
      repeat (first | apply zK | apply zL)
      (((refine zV _ [(0, some 0)] (.cons (y5 rfl rfl rfl zI rfl rfl rfl) .nil) ?_ rfl ?_)) <;> (repeat' (first|exact trivial|exact rfl|apply And.intro|refine ⟨_,rfl,rfl,rfl,OW.one ?_⟩)))
      all_goals exact hcl _
    · have hsy := xM o
      have hLy : (o.map xE).length = o.length := List.length_map _
      refine zD (xJ _) (xQ _) rfl Tryz.func70 rfl (by kernel_rfl) _ _ rfl rfl rfl (fun w0 mu I0 β0 gi dis => ?_)
      (repeat' (first|(apply xW;((exact Want.none_ rfl)))|(apply xF zI;exact rfl;exact rfl)|((first|apply yD|apply yB|apply yH)<;>(first|exact zI|exact Nat.zero_add _|exact rfl|refine yG ?_|assumption|exact lb rfl))|apply zR|(refine yT ?_ ?_;kernel_rfl)|apply AWp.Q|apply zH|apply AWp.G|apply AWp.B|apply AWp.J|apply zJ|(refine AWp.D ?_ ?_;kernel_rfl)|(apply AWp.F;exact rfl;((exact rfl)))|(apply (yP (p1));(iterate 7 exact rfl);(focus (repeat (first|exact All2.nil|refine All2.cons rfl ?_)));exact rfl;(focus (repeat (first|exact MAs.nil|apply MAs.cons|apply MA.c|exact MC.ptr rfl)));((assumption));((assumption));exact rfl;exact rfl)|(apply (yP (p2));(iterate 7 exact rfl);(focus (repeat (first|exact All2.nil|refine All2.cons rfl ?_)));exact rfl;(focus (repeat (first|exact MAs.nil|apply MAs.cons|apply MA.c|exact MC.ptr rfl|exact MC.vc (VC.imm (Imm.v _)))));((assumption));((assumption));exact rfl;exact rfl)|(apply (yP (p5));(iterate 7 exact rfl);(focus (repeat (first|exact All2.nil|refine All2.cons rfl ?_)));exact rfl;(focus (repeat (first|exact MAs.nil|apply MAs.cons|apply MA.c|exact MC.ptr rfl)));((assumption));((assumption));exact rfl;exact rfl)|(apply (yP (p6));(iterate 7 exact rfl);(focus (repeat (first|exact All2.nil|refine All2.cons rfl ?_)));exact rfl;(focus (repeat (first|exact MAs.nil|apply MAs.cons|apply MA.c|exact MC.ptr rfl|exact MC.vc (VC.imm (Imm.v _)))));((assumption));((assumption));exact rfl;exact rfl)|(((refine AWp.C rfl ?_ ?_))<;>intro hp<;>try (exfalso;omega))))
      refine AWp.weaken (Weak.frz 4 2 (out' := ⟨82, 2, (es.map xS).set 0 (xS ⟨o, e0.t⟩)⟩) (vT rfl rfl) rfl rfl rfl hsy.imm rfl rfl ?_ (Weak.refl _ _)) ?_
      · show All2 _ ((es.map xS).set 0 [Cell.ref 4 0 o.length, str e0.t]) ((es.map xS).set 0 [.sl (o.map xE), str e0.t])
        exact all2_set (.cons (.ref _ hLy.symm) (.cons (.same _) .nil)) (fc_refl _ _ _)
      refine AWp.weaken (Weak.frz 2 1 (out' := ⟨35, 1, [wG (es.set 0 ⟨o, e0.t⟩)]⟩) (vT rfl rfl) rfl rfl rfl ?_ rfl rfl (.cons (.cons ?_ .nil) .nil) (Weak.refl _ _)) ?_
      · show ∀ y ∈ (es.map xS).set 0 (xS ⟨o, e0.t⟩), _
        rw [← List.map_set]; exact wC _
      · show FC 2 ((es.map xS).set 0 (xS ⟨o, e0.t⟩)) (Cell.ref 2 0 es.length) (.sl ((es.set 0 ⟨o, e0.t⟩).map xS))
        rw [List.map_set]; exact .ref _ (by simp)
      apply AWp.R
      repeat (first | apply zK | apply zL)
      (((refine zV _ [(0, some 0)] (.cons (y5 rfl rfl rfl zI rfl rfl rfl) .nil) ?_ rfl ?_)) <;> (repeat' (first|exact trivial|exact rfl|apply And.intro|refine ⟨_,rfl,rfl,rfl,OW.one ?_⟩)))
      all_goals exact hcl _
    · refine zD (xJ _) (xQ _) rfl Tryz.func70 rfl (by kernel_rfl) _ _ rfl rfl rfl (fun w0 mu I0 β0 gi dis => ?_)
      (repeat' (first|(apply xW;((exact Want.none_ rfl)))|(apply xF zI;exact rfl;exact rfl)|((first|apply y4|apply yB|apply yH)<;>(first|exact zI|exact rfl|refine yG ?_|exact lb rfl|(refine Bd.mk ?_;(focus (simp;done)))))|apply zR|apply AWp.Q|apply zH|apply AWp.G|apply AWp.B|apply AWp.J|apply zJ|(apply AWp.F;exact rfl;((exact rfl)))|(apply (yP (p1));(iterate 7 exact rfl);(focus (repeat (first|exact All2.nil|refine All2.cons rfl ?_)));exact rfl;(focus (repeat (first|exact MAs.nil|apply MAs.cons|apply MA.c|exact MC.ptr rfl)));((assumption));((assumption));exact rfl;exact rfl)|(apply (yP (p2));(iterate 7 exact rfl);(focus (repeat (first|exact All2.nil|refine All2.cons rfl ?_)));exact rfl;(focus (repeat (first|exact MAs.nil|apply MAs.cons|apply MA.c|exact MC.ptr rfl|exact MC.vc (VC.imm (Imm.v _)))));((assumption));((assumption));exact rfl;exact rfl)|(apply (yP (p6));(iterate 7 exact rfl);(focus (repeat (first|exact All2.nil|refine All2.cons rfl ?_)));exact rfl;(focus (repeat (first|exact MAs.nil|apply MAs.cons|apply MA.c|exact MC.ptr rfl|exact MC.vc (VC.imm (Imm.v _)))));((assumption));((assumption));exact rfl;exact rfl)|(((refine AWp.C rfl ?_ ?_))<;>intro hp<;>try (exfalso;omega))))
      refine AWp.weaken (s' := ⟨[(2, .c (.ptr 1 0 0))], [(0, some (xV code c6)), (1, some ⟨35, 1, [[.ref 2 0 0]]⟩), (2, some ⟨82, 2, []⟩)], 3⟩) ?_ ?_
      · refine Weak.of [(0, some 0), (1, some 1), (2, none)] rfl ?_ ?_ <;> (repeat' (first|exact trivial|exact rfl|apply And.intro|refine ⟨_,rfl,rfl,rfl,OW.one ?_⟩))
        all_goals exact hcl _
      refine AWp.weaken (Weak.frz 2 1 (out' := ⟨35, 1, [wG []]⟩) (vT rfl rfl) rfl rfl rfl (by intro x hx; cases hx) rfl rfl (.cons (.cons (.ref _ rfl) .nil) .nil) (Weak.refl _ _)) ?_
      apply AWp.R
      repeat (first | apply zK | apply zL)
      (((refine zV _ [(0, some 0)] (.cons (y5 rfl rfl rfl zI rfl rfl rfl) .nil) ?_ rfl ?_)) <;> (repeat' (first|exact trivial|exact rfl|apply And.intro|refine ⟨_,rfl,rfl,rfl,OW.one ?_⟩)))
      all_goals exact hcl _
    · refine zD (xJ _) (xQ _) rfl Tryz.func70 rfl (by kernel_rfl) _ _ rfl rfl rfl (fun w0 mu I0 β0 gi dis => ?_)
      (repeat' (first|(apply xW;((exact Want.none_ rfl)))|(apply xF zI;exact rfl;exact rfl)|((first|apply yB|apply yH)<;>(first|exact zI|exact rfl|refine yG ?_|exact lb rfl))|apply zR|apply AWp.Q|apply zH|apply AWp.G|apply AWp.B|apply AWp.J|apply zJ|(apply AWp.F;exact rfl;((exact rfl)))|(apply (yP (p1));(iterate 7 exact rfl);(focus (repeat (first|exact All2.nil|refine All2.cons rfl ?_)));exact rfl;(focus (repeat (first|exact MAs.nil|apply MAs.cons|apply MA.c|exact MC.ptr rfl)));((assumption));((assumption));exact rfl;exact rfl)|(apply (yP (p2));(iterate 7 exact rfl);(focus (repeat (first|exact All2.nil|refine All2.cons rfl ?_)));exact rfl;(focus (repeat (first|exact MAs.nil|apply MAs.cons|apply MA.c|exact MC.ptr rfl|exact MC.vc (VC.imm (Imm.v _)))));((assumption));((assumption));exact rfl;exact rfl)|(apply (yP (p6));(iterate 7 exact rfl);(focus (repeat (first|exact All2.nil|refine All2.cons rfl ?_)));exact rfl;(focus (repeat (first|exact MAs.nil|apply MAs.cons|apply MA.c|exact MC.ptr rfl|exact MC.vc (VC.imm (Imm.v _)))));((assumption));((assumption));exact rfl;exact rfl)|(((refine AWp.C rfl ?_ ?_))<;>intro hp<;>try (exfalso;omega))))
      refine AWp.weaken (Weak.frz 2 1 (out' := ⟨35, 1, [wG em]⟩) (vT rfl rfl) rfl rfl rfl (wC _) rfl rfl (.cons (.cons (.ref _ hLD.symm) .nil) .nil) (Weak.refl _ _)) ?_
      apply AWp.R
      repeat (first | apply zK | apply zL)
      (((refine zV _ [(0, some 0)] (.cons (y5 rfl rfl rfl zI rfl rfl rfl) .nil) ?_ rfl ?_)) <;> (repeat' (first|exact trivial|exact rfl|apply And.intro|refine ⟨_,rfl,rfl,rfl,OW.one ?_⟩)))
      all_goals exact hcl _
  | true =>
    refine ⟨(kD code 42 c6 0).1, manyE (kD code 42 c6 0).2, by omega, ⟨by rw [manyE_len]; omega, manyE_mem (by omega)⟩, ?_⟩
    rcases hcase with ⟨hw, rfl, rfl⟩ | ⟨hw, rfl, rfl⟩ | ⟨hw, rfl, rfl⟩ | ⟨hw, rfl, rfl⟩ | ⟨hw, rfl, rfl⟩
    all_goals
      refine zD (xJ _) (xQ _) rfl Tryz.func70 rfl (by kernel_rfl) _ _ rfl rfl rfl (fun w0 mu I0 β0 gi dis => ?_)
      (repeat' (first|(apply xW;((exact Want.none_ rfl)))|(apply xF zI;exact rfl;exact rfl)|((first|apply yD|apply y4|apply zU|apply yB|(apply yZ;exact rfl;exact rfl)|apply yH)<;>(first|exact zI|exact Nat.zero_add _|exact rfl|refine yG ?_|assumption|omega|exact lb rfl|(refine Bd.mk ?_;first|(focus (simp;done))|(simp;omega))|exact xH rfl))|apply zR|(refine yT ?_ ?_;kernel_rfl)|apply AWp.Q|apply zH|apply AWp.G|apply AWp.B|apply AWp.J|apply zJ|(refine AWp.D ?_ ?_;kernel_rfl)|(apply AWp.T;exact rfl;((exact rfl)))|(apply (yP (p1));(iterate 7 exact rfl);(focus (repeat (first|exact All2.nil|refine All2.cons rfl ?_)));exact rfl;(focus (repeat (first|exact MAs.nil|apply MAs.cons|apply MA.c|exact MC.ptr rfl)));((assumption));((assumption));exact rfl;exact rfl)|(apply (yP (p2));(iterate 7 exact rfl);(focus (repeat (first|exact All2.nil|refine All2.cons rfl ?_)));exact rfl;(focus (repeat (first|exact MAs.nil|apply MAs.cons|apply MA.c|exact MC.ptr rfl|exact MC.vc (VC.imm (Imm.v _)))));((assumption));((assumption));exact rfl;exact rfl)|(apply (yP (p3));(iterate 7 exact rfl);(focus (repeat (first|exact All2.nil|refine All2.cons rfl ?_)));exact rfl;(focus (repeat (first|exact MAs.nil|apply MAs.cons|apply MA.c|exact MC.ptr rfl)));((assumption));((assumption));exact rfl;exact rfl)|(apply (yP (p4));(iterate 7 exact rfl);(focus (repeat (first|exact All2.nil|refine All2.cons rfl ?_)));exact rfl;(focus (repeat (first|exact MAs.nil|apply MAs.cons|apply MA.c|exact MC.ref rfl|exact MC.ptr rfl)));((assumption));((assumption));exact rfl;exact rfl)|(apply (yP (p5));(iterate 7 exact rfl);(focus (repeat (first|exact All2.nil|refine All2.cons rfl ?_)));exact rfl;(focus (repeat (first|exact MAs.nil|apply MAs.cons|apply MA.c|exact MC.ptr rfl)));((assumption));((assumption));exact rfl;exact rfl)|(apply (yP (p6));(iterate 7 exact rfl);(focus (repeat (first|exact All2.nil|refine All2.cons rfl ?_)));exact rfl;(focus (repeat (first|exact MAs.nil|apply MAs.cons|apply MA.c|exact MC.ptr rfl|exact MC.vc (VC.imm (Imm.v _)))));((assumption));((assumption));exact rfl;exact rfl)|(((refine AWp.C rfl ?_ ?_))<;>intro hp<;>try (exfalso;omega))))
      refine AWp.U (σ := Nat × Cur × Nat) (fun s => ⟨[(0, .c (.ptr 0 0 0)), (2, .c (.ptr 1 0 0)), (3, .c (.ptr 2 0 0)), (4, .c (int ((s.2.2 + 1 : Nat) : Int)))], [(0, some (xV code s.2.1)), (1, some ⟨35, 1, [[.nil]]⟩), (2, some ⟨35, 1, [[.ref 3 0 s.2.2]]⟩), (3, some ⟨82, 2, (manyE s.2.2).map xS⟩)], 4⟩)
        (fun s => kD code 42 c6 0 = kD code s.1 s.2.1 s.2.2 ∧ 42 ≤ s.2.2 + s.1 ∧ s.2.2 ≤ 41 ∧ s.2.1.a + s.1 ≤ c6.a + 42) (fun s => s.1) (42, c6, 0) ⟨rfl, by dsimp only; omega, by dsimp only; omega, Nat.le_refl _⟩ ?_ ?_
      · refine Weak.of [(0, some 0), (1, some 1), (2, some 3), (3, none)] rfl ?_ ?_ <;> (repeat' (first|exact trivial|exact rfl|apply And.intro|refine ⟨_,rfl,rfl,rfl,OW.one ?_⟩))
        all_goals exact hcl _
      · rintro ⟨k, e, n⟩ ⟨hfin, g1, g2, g3⟩
        dsimp only at hfin g1 g2 g3 ⊢
        rw [hfin]
        have vv := kM code e (n := 2) (by omega)
        have pe := pick_pfm code e hl (by omega) 2 (by omega)
        have k5 := xK (yQ code (pkC code e 2))
        have m5 := wD (yQ code e)
        have him := wC (manyE n)
        have hLM : ((manyE n).map xS).length = n := by rw [List.length_map, manyE_len]
        have hML := manyE_len n
        have hM2 := encE_two (manyE n)
        by_cases hcn : (n : Int) + 1 ≤ 40 + pkV code e 2
        · obtain ⟨k, rfl⟩ : ∃ q, k = q + 1 := ⟨k - 1, by omega⟩
          have hstep : kD code (k + 1) e n = kD code k (pkC code e 2) (n + 1) := by rw [kD, if_pos hcn]
          have hcn' : ((n + 1 : Nat) : Int) ≤ 40 + pkV code e 2 := by omega
          have ae := jB code e 2
          generalize pkV code e 2 = pv at vv pe hcn hcn'
          rw [hstep]
          have hms := manyE_succ n
          generalize manyE n = M at him hLM hM2 hms hML
          (repeat' (first|(apply xW;((exact Want.none_ rfl)))|(apply xF zI;exact rfl;exact rfl)|((first|apply zZ|apply y4|apply zU|(apply yZ;exact rfl;exact rfl)|apply yH)<;>(first|exact zI|exact rfl|refine yG ?_|omega|exact lb rfl|(refine Bd.mk ?_;first|(focus (simp;done))|(simp;omega))|exact xH rfl))|apply zR|apply AWp.Q|apply zH|apply AWp.G|apply AWp.B|apply AWp.J|apply zJ|(apply AWp.T;exact rfl;((exact dT ‹_›)))|(apply (yP (pe));(iterate 7 exact rfl);(focus (repeat (first|exact All2.nil|refine All2.cons rfl ?_)));exact rfl;(focus (repeat (first|exact MAs.nil|apply MAs.cons|apply MA.c|exact MC.ptr rfl|exact MC.vc (VC.imm (Imm.v _)))));((assumption));((assumption));exact rfl;exact rfl)))
          refine ⟨(k, pkC code e 2, n + 1), ⟨rfl, by dsimp only; omega, by dsimp only; omega, by dsimp only; omega⟩, by dsimp only; omega, ?_⟩
          dsimp only
          rw [hms]
          refine Weak.frz 4 6 (out' := ⟨82, 2, M.map xS ++ [xS ⟨[((n + 1 : Nat) : Int)], [97]⟩]⟩) (vT rfl rfl) rfl rfl rfl (xM [((n + 1 : Nat) : Int)]).imm rfl rfl ?_ ?_
          · exact All2.appE (.cons (.cons (.ref _ rfl) (.cons (.same _) .nil)) .nil) (fc_refl _ _ _)
          · refine Weak.of [(0, some 0), (1, some 1), (2, some 2), (3, some 6)] rfl ?_ ?_ <;> (repeat' (first|exact trivial|exact rfl|apply And.intro|refine ⟨_,rfl,rfl,rfl,OW.one ?_⟩|refine oWs rfl rfl rfl ?_ ?_))
            all_goals first | exact hcl _ | exact (ent_snoc _ _).symm | exact wC _ | (rw [hLM]; rfl) | skip
        · have hstep : kD code k e n = (pkC code e 2, n) := by
            cases k with
            | zero => rw [kD]
            | succ k => rw [kD, if_neg hcn]
          have hcn' : ¬ ((n + 1 : Nat) : Int) ≤ 40 + pkV code e 2 := by omega
          generalize pkV code e 2 = pv at vv pe hcn hcn'
          rw [hstep]
          (repeat' (first|(apply xW;((exact Want.none_ rfl)))|(apply xF zI;exact rfl;exact rfl)|((first|apply zZ|apply yH)<;>(first|exact zI|exact rfl|refine yG ?_|omega|exact lb rfl))|apply zR|apply AWp.Q|apply zH|apply AWp.G|apply AWp.X|apply zQ|apply zO|(apply AWp.F;exact rfl;((exact dF ‹_›)))|(apply (yP (pe));(iterate 7 exact rfl);(focus (repeat (first|exact All2.nil|refine All2.cons rfl ?_)));exact rfl;(focus (repeat (first|exact MAs.nil|apply MAs.cons|apply MA.c|exact MC.ptr rfl|exact MC.vc (VC.imm (Imm.v _)))));((assumption));((assumption));exact rfl;exact rfl)))
          refine AWp.weaken (Weak.frz 3 1 (out' := ⟨35, 1, [wG (manyE n)]⟩) (vT rfl rfl) rfl rfl rfl him rfl rfl (.cons (.cons (.ref _ hLM.symm) .nil) .nil) (Weak.refl _ _)) ?_
          apply AWp.R
          repeat (first | apply zK | apply zL)
          (((refine zV _ [(0, some 0)] (.cons (y5 rfl rfl rfl zI rfl rfl rfl) .nil) ?_ rfl ?_)) <;> (repeat' (first|exact trivial|exact rfl|apply And.intro|refine ⟨_,rfl,rfl,rfl,OW.one ?_⟩)))
          all_goals exact hcl _
end
end Go.Proofs.YtjeffognhcbiaaaGreatDoor
