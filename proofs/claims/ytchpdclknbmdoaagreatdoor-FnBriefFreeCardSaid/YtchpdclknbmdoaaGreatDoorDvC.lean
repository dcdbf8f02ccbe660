/- Drawn dictionaries that may be invalid; outlines drawn for a dictionary. -/
import Derived.Test.YtchpdclknbmdoaaGreatDoorDcH
namespace Go.Proofs.YtchpdclknbmdoaaGreatDoor
open Go Go.RowKit
def EO8 (e : Ent) : Prop := e.o.length ≤ 8 ∧ DS e.o ∧ e.t.length ≤ 100
theorem EO.to8 {e : Ent} (h : EO e) : EO8 e := ⟨Nat.le_trans h.1 (by omega), h.2.1, h.2.2⟩
theorem ent_snoc (l : List Ent) (y : Ent) : (l ++ [y]).map xR = l.map xR ++ [xR y] := by rw [List.map_append]; rfl
theorem encE_two (l : List Ent) : ∀ x ∈ l.map xR, x.length = 2 := by
  intro x hx
  obtain ⟨i, _, rfl⟩ := List.mem_map.1 hx
  rfl
def tx3 : List (List UInt8) := [[], [123], [97, 32, 32, 98]]
def manyE (n : Nat) : List Ent := (List.range n).map fun j => ⟨[((j + 1 : Nat) : Int)], [97]⟩
theorem manyE_len (n : Nat) : (manyE n).length = n := by simp [manyE]
theorem manyE_succ (n : Nat) : manyE (n + 1) = manyE n ++ [⟨[((n + 1 : Nat) : Int)], [97]⟩] := by simp [manyE, List.range_succ]
theorem manyE_mem {n : Nat} (hn : n ≤ 100) : ∀ e ∈ manyE n, EO8 e := by
  intro e he
  obtain ⟨j, hj, rfl⟩ := List.mem_map.1 he
  have := List.mem_range.1 hj
  refine ⟨by simp, fun x hx => ?_, by simp⟩
  obtain rfl : x = ((j + 1 : Nat) : Int) := by simpa using hx
  omega
def kF (code : List UInt8) : Nat → Cur → Nat → Cur × Nat
  | 0, c, n => (pkC code c 2, n)
  | k + 1, c, n => if (n : Int) + 1 ≤ 40 + pkV code c 2 then kF code k (pkC code c 2) (n + 1) else (pkC code c 2, n)
theorem finE_ok (code : List UInt8) : ∀ (k : Nat) (c : Cur) (n : Nat), n ≤ 41 → (kF code k c n).1.a ≤ c.a + k + 1 ∧ (kF code k c n).2 ≤ 41
  | 0, c, n, h => ⟨by have := jF code c 2; rw [kF]; dsimp only; omega, by rw [kF]; exact h⟩
  | k + 1, c, n, h => by
    have ha := jF code c 2
    have hv := kM code c (n := 2) (by omega)
    rw [kF]
    split
    · have ih := finE_ok code k (pkC code c 2) (n + 1) (by omega)
      exact ⟨by omega, ih.2⟩
    · exact ⟨by dsimp only; omega, h⟩
theorem all2_set {α β : Type} {R : α → β → Prop} {x : α} {y : β} (h : R x y) : ∀ {a : List α} {b : List β} {k : Nat}, All2 R a b → All2 R (a.set k x) (b.set k y)
  | _, _, _, .nil => .nil
  | _, _, 0, .cons _ hs => .cons h hs
  | _, _, k + 1, .cons h0 hs => .cons h0 (all2_set h hs)
section
variable (code : List UInt8) (c : Cur) (hl : code.length ≤ 65536) (hc : c.a ≤ 2900000)
include hl hc
set_option maxHeartbeats 4000000 in
theorem anyDictionary_ex : ∃ (c' : Cur) (es : List Ent), c'.a ≤ c.a + 900 ∧ (es.length ≤ 41 ∧ ∀ x ∈ es, EO8 x) ∧ PFM Tryz.prog 87 [xT code c] [.c (.ptr 0 0 0)] [some (xT code c')] (.agg (wI es)) := by
  obtain ⟨c1, es, a1, ⟨hes, hes1, heo⟩, p1⟩ := dictionaryO_ex code c hl (by omega)
  obtain ⟨c2, w, a2, hw, p2⟩ := vB code c1 hl (by omega) 20 (by omega)
  have i1 := qF (b := ⟨98, 2, es.map xR⟩) (yL code c1) (x8 es)
  have i2 := y5 (yL code c2)
  have j1 := wE (yL code c)
  have j2 := wE (yL code c1)
  have j3 := wE (yL code c2)
  have hLD : (es.map xR).length = es.length := List.length_map _
  have h2D := encE_two es
  obtain ⟨e0, he0⟩ := xX (show 0 < es.length by omega)
  have he0' : (es.map xR)[0]? = some (xR e0) := xZ he0
  obtain ⟨c3, ey, a3, hey, p3⟩ := entry_ex code c2 hl (by omega)
  obtain ⟨c4, x, a4, hx, p4⟩ := kP code c2 hl (by omega) tx3 (by decide)
  obtain ⟨c5, o, a5, ho, p5⟩ := anyOutline_ex code c2 hl (by omega)
  have i3 := y5 (yL code c3)
  have i4 := qF (b := ⟨9, 1, tx3.map wF⟩) (yL code c4) (x4 tx3).imm
  have j4 := kQ (b := ⟨9, 1, tx3.map wF⟩) (yL code c2) (x4 tx3).imm
  have i5 := qF (b := ⟨3, 1, o.map y4⟩) (yL code c5) (xJ o).imm
  have hx100 : x.length ≤ 100 := by
    have h : ∀ y ∈ tx3, y.length ≤ 100 := by decide
    exact h x hx
  have st1 : ∃ (cm : Cur) (em : List Ent), cm.a ≤ c.a + 800 ∧ (em.length ≤ 41 ∧ ∀ x ∈ em, EO8 x) ∧
      ((w = 0 ∧ cm = c3 ∧ em = es ++ [ey]) ∨ (w = 1 ∧ cm = c4 ∧ em = es.set 0 ⟨e0.o, x⟩) ∨ (w = 2 ∧ cm = c5 ∧ em = es.set 0 ⟨o, e0.t⟩) ∨ (w = 3 ∧ cm = c2 ∧ em = []) ∨ (4 ≤ w ∧ cm = c2 ∧ em = es)) := by
    have h8 : ∀ x ∈ es, EO8 x := fun x hx => (heo x hx).to8
    have he8 := h8 e0 (List.mem_of_getElem? he0)
    have hcases : w = 0 ∨ w = 1 ∨ w = 2 ∨ w = 3 ∨ 4 ≤ w := by omega
    rcases hcases with h | h | h | h | h
    · refine ⟨c3, es ++ [ey], by omega, ⟨by simp; omega, fun y hy => ?_⟩, .inl ⟨h, rfl, rfl⟩⟩
      rcases List.mem_append.1 hy with hy | hy
      · exact h8 y hy
      · rw [List.mem_singleton.1 hy]; exact hey.to8
    · refine ⟨c4, es.set 0 ⟨e0.o, x⟩, by omega, ⟨by rw [List.length_set]; omega, fun y hy => ?_⟩, .inr (.inl ⟨h, rfl, rfl⟩)⟩
      rcases List.mem_or_eq_of_mem_set hy with hy | rfl
      · exact h8 y hy
      · exact ⟨he8.1, he8.2.1, hx100⟩
    · refine ⟨c5, es.set 0 ⟨o, e0.t⟩, by omega, ⟨by rw [List.length_set]; omega, fun y hy => ?_⟩, .inr (.inr (.inl ⟨h, rfl, rfl⟩))⟩
      rcases List.mem_or_eq_of_mem_set hy with hy | rfl
      · exact h8 y hy
      · exact ⟨ho.1, ho.2, he8.2.2⟩
    · exact ⟨c2, [], by omega, ⟨by simp, fun y hy => by cases hy⟩, .inr (.inr (.inr (.inl ⟨h, rfl, rfl⟩)))⟩
    · exact ⟨c2, es, by omega, ⟨by omega, h8⟩, .inr (.inr (.inr (.inr ⟨h, rfl, rfl⟩)))⟩
  obtain ⟨cm, em, am, ⟨hem, hem8⟩, hcase⟩ := st1
  obtain ⟨c6, b, a6, p6⟩ := kN code cm hl (by omega) 40 (by omega)
  have i6 := y5 (yL code c6)
  have j6 := wE (yL code cm)
  have hfo := finE_ok code 42 c6 0 (by omega)
  have hcl : ∀ q : Cur, ∀ x ∈ (xT code q).els, ∀ c ∈ x, Imm c := fun q => yL code q
  cases b with
  | false =>
    refine ⟨c6, em, by omega, ⟨hem, hem8⟩, ?_⟩
    rcases hcase with ⟨hw, rfl, rfl⟩ | ⟨hw, rfl, rfl⟩ | ⟨hw, rfl, rfl⟩ | ⟨hw, rfl, rfl⟩ | ⟨hw, rfl, rfl⟩
    · refine zD (xI _) (xV _) rfl Tryz.func87 rfl (by kernel_rfl) _ _ rfl rfl rfl (fun w0 mu I0 β0 gi dis => ?_)
      (repeat' (first|(apply xW;((exact Want.none_ rfl)))|(apply xF zK;exact rfl;exact rfl)|((first|apply zQ|apply zX|(apply yB;exact rfl;exact rfl)|apply yD)<;>(first|exact zK|exact rfl|refine yO ?_|omega|exact lb rfl|(refine Bd.mk ?_;(simp;omega))|exact yU rfl))|apply zV|(refine yN ?_ ?_;kernel_rfl)|apply AWp.Q|apply zJ|apply AWp.G|apply AWp.B|apply AWp.J|apply zL|(refine AWp.D ?_ ?_;kernel_rfl)|(apply AWp.F;exact rfl;((exact rfl)))|(apply (zY (p1));(iterate 7 exact rfl);(focus (repeat (first|exact All2.nil|refine All2.cons rfl ?_)));exact rfl;(focus (repeat (first|exact MAs.nil|apply MAs.cons|apply MA.c|exact MC.ptr rfl)));((assumption));((assumption));exact rfl;exact rfl)|(apply (zY (p2));(iterate 7 exact rfl);(focus (repeat (first|exact All2.nil|refine All2.cons rfl ?_)));exact rfl;(focus (repeat (first|exact MAs.nil|apply MAs.cons|apply MA.c|exact MC.ptr rfl|exact MC.vc (VC.imm (Imm.v _)))));((assumption));((assumption));exact rfl;exact rfl)|(apply (zY (p3));(iterate 7 exact rfl);(focus (repeat (first|exact All2.nil|refine All2.cons rfl ?_)));exact rfl;(focus (repeat (first|exact MAs.nil|apply MAs.cons|apply MA.c|exact MC.ptr rfl)));((assumption));((assumption));exact rfl;exact rfl)|(apply (zY (p6));(iterate 7 exact rfl);(focus (repeat (first|exact All2.nil|refine All2.cons rfl ?_)));exact rfl;(focus (repeat (first|exact MAs.nil|apply MAs.cons|apply MA.c|exact MC.ptr rfl|exact MC.vc (VC.imm (Imm.v _)))));((assumption));((assumption));exact rfl;exact rfl)|(((refine AWp.C rfl ?_ ?_))<;>intro hp<;>try (exfalso;omega))))
      refine AWp.weaken (Weak.frz 5 1 (out' := ⟨26, 1, [wI (es ++ [ey])]⟩) (vX rfl rfl) rfl rfl rfl ?_ rfl rfl (.cons (.cons ?_ .nil) .nil) (Weak.refl _ _)) ?_
      · show ∀ x ∈ es.map xR ++ [xR ey], _
        rw [← ent_snoc]; exact x8 _
      · show FC 5 (es.map xR ++ [xR ey]) (Cell.ref 5 0 ((es.map xR).length + 1)) (.sl ((es ++ [ey]).map xR))
        rw [ent_snoc]; exact .ref _ (by simp)
      apply AWp.R
      repeat (first | apply zM | apply zN)
      (((refine z6 _ [(0, some 0)] (.cons (xC rfl rfl rfl zK rfl rfl rfl) .nil) ?_ rfl ?_)) <;> (repeat' (first|exact trivial|exact rfl|apply And.intro|refine ⟨_,rfl,rfl,rfl,OW.one ?_⟩)))
      all_goals exact hcl _
    · refine zD (xI _) (xV _) rfl Tryz.func87 rfl (by kernel_rfl) _ _ rfl rfl rfl (fun w0 mu I0 β0 gi dis => ?_)
      (repeat' (first|(apply xW;((exact Want.none_ rfl)))|(apply xF zK;exact rfl;exact rfl)|((first|apply z8|apply zQ|apply zX|apply yD)<;>(first|exact zK|exact Nat.zero_add _|exact rfl|refine yO ?_|assumption|exact lb rfl))|apply zV|(refine yN ?_ ?_;kernel_rfl)|apply AWp.Q|apply zJ|apply AWp.G|apply AWp.B|apply AWp.J|apply zL|(refine AWp.D ?_ ?_;kernel_rfl)|(apply AWp.F;exact rfl;((exact rfl)))|(apply (zY (p1));(iterate 7 exact rfl);(focus (repeat (first|exact All2.nil|refine All2.cons rfl ?_)));exact rfl;(focus (repeat (first|exact MAs.nil|apply MAs.cons|apply MA.c|exact MC.ptr rfl)));((assumption));((assumption));exact rfl;exact rfl)|(apply (zY (p2));(iterate 7 exact rfl);(focus (repeat (first|exact All2.nil|refine All2.cons rfl ?_)));exact rfl;(focus (repeat (first|exact MAs.nil|apply MAs.cons|apply MA.c|exact MC.ptr rfl|exact MC.vc (VC.imm (Imm.v _)))));((assumption));((assumption));exact rfl;exact rfl)|(apply (zY (p4));(iterate 7 exact rfl);(focus (repeat (first|exact All2.nil|refine All2.cons rfl ?_)));exact rfl;(focus (repeat (first|exact MAs.nil|apply MAs.cons|apply MA.c|exact MC.ref rfl|exact MC.ptr rfl)));((assumption));((assumption));exact rfl;exact rfl)|(apply (zY (p6));(iterate 7 exact rfl);(focus (repeat (first|exact All2.nil|refine All2.cons rfl ?_)));exact rfl;(focus (repeat (first|exact MAs.nil|apply MAs.cons|apply MA.c|exact MC.ptr rfl|exact MC.vc (VC.imm (Imm.v _)))));((assumption));((assumption));exact rfl;exact rfl)|(((refine AWp.C rfl ?_ ?_))<;>intro hp<;>try (exfalso;omega))))
      refine AWp.weaken (Weak.frz 2 1 (out' := ⟨26, 1, [wI (es.set 0 ⟨e0.o, x⟩)]⟩) (vX rfl rfl) rfl rfl rfl ?_ rfl rfl (.cons (.cons ?_ .nil) .nil) (Weak.refl _ _)) ?_
      · show ∀ y ∈ (es.map xR).set 0 (xR ⟨e0.o, x⟩), _
        rw [← List.map_set]; exact x8 _
      · show FC 2 ((es.map xR).set 0 (xR ⟨e0.o, x⟩)) (Cell.ref 2 0 es.length) (.sl ((es.set 0 ⟨e0.o, x⟩).map xR))
        rw [List.map_set]; exact .ref _ (by simp)
      apply AWp.R
      repeat (first | apply zM | apply zN)
      (((refine z6 _ [(0, some 0)] (.cons (xC rfl rfl rfl zK rfl rfl rfl) .nil) ?_ rfl ?_)) <;> (repeat' (first|exact trivial|exact rfl|apply And.intro|refine ⟨_,rfl,rfl,rfl,OW.one ?_⟩)))
      all_goals exact hcl _
    · have hsy := xJ o
      have hLy : (o.map y4).length = o.length := List.length_map _
      refine zD (xI _) (xV _) rfl Tryz.func87 rfl (by kernel_rfl) _ _ rfl rfl rfl (fun w0 mu I0 β0 gi dis => ?_)
      (repeat' (first|(apply xW;((exact Want.none_ rfl)))|(apply xF zK;exact rfl;exact rfl)|((first|apply z8|apply zX|apply yD)<;>(first|exact zK|exact Nat.zero_add _|exact rfl|refine yO ?_|assumption|exact lb rfl))|apply zV|(refine yN ?_ ?_;kernel_rfl)|apply AWp.Q|apply zJ|apply AWp.G|apply AWp.B|apply AWp.J|apply zL|(refine AWp.D ?_ ?_;kernel_rfl)|(apply AWp.F;exact rfl;((exact rfl)))|(apply (zY (p1));(iterate 7 exact rfl);(focus (repeat (first|exact All2.nil|refine All2.cons rfl ?_)));exact rfl;(focus (repeat (first|exact MAs.nil|apply MAs.cons|apply MA.c|exact MC.ptr rfl)));((assumption));((assumption));exact rfl;exact rfl)|(apply (zY (p2));(iterate 7 exact rfl);(focus (repeat (first|exact All2.nil|refine All2.cons rfl ?_)));exact rfl;(focus (repeat (first|exact MAs.nil|apply MAs.cons|apply MA.c|exact MC.ptr rfl|exact MC.vc (VC.imm (Imm.v _)))));((assumption));((assumption));exact rfl;exact rfl)|(apply (zY (p5));(iterate 7 exact rfl);(focus (repeat (first|exact All2.nil|refine All2.cons rfl ?_)));exact rfl;(focus (repeat (first|exact MAs.nil|apply MAs.cons|apply MA.c|exact MC.ptr rfl)));((assumption));((assumption));exact rfl;exact rfl)|(apply (zY (p6));(iterate 7 exact rfl);(focus (repeat (first|exact All2.nil|refine All2.cons rfl ?_)));exact rfl;(focus (repeat (first|exact MAs.nil|apply MAs.cons|apply MA.c|exact MC.ptr rfl|exact MC.vc (VC.imm (Imm.v _)))));((assumption));((assumption));exact rfl;exact rfl)|(((refine AWp.C rfl ?_ ?_))<;>intro hp<;>try (exfalso;omega))))
      refine AWp.weaken (Weak.frz 4 2 (out' := ⟨98, 2, (es.map xR).set 0 (xR ⟨o, e0.t⟩)⟩) (vX rfl rfl) rfl rfl rfl hsy.imm rfl rfl ?_ (Weak.refl _ _)) ?_
      · show All2 _ ((es.map xR).set 0 [Cell.ref 4 0 o.length, str e0.t]) ((es.map xR).set 0 [.sl (o.map y4), str e0.t])
        exact all2_set (.cons (.ref _ hLy.symm) (.cons (.same _) .nil)) (fc_refl _ _ _)
      refine AWp.weaken (Weak.frz 2 1 (out' := ⟨26, 1, [wI (es.set 0 ⟨o, e0.t⟩)]⟩) (vX rfl rfl) rfl rfl rfl ?_ rfl rfl (.cons (.cons ?_ .nil) .nil) (Weak.refl _ _)) ?_
      · show ∀ y ∈ (es.map xR).set 0 (xR ⟨o, e0.t⟩), _
        rw [← List.map_set]; exact x8 _
      · show FC 2 ((es.map xR).set 0 (xR ⟨o, e0.t⟩)) (Cell.ref 2 0 es.length) (.sl ((es.set 0 ⟨o, e0.t⟩).map xR))
        rw [List.map_set]; exact .ref _ (by simp)
      apply AWp.R
      repeat (first | apply zM | apply zN)
      (((refine z6 _ [(0, some 0)] (.cons (xC rfl rfl rfl zK rfl rfl rfl) .nil) ?_ rfl ?_)) <;> (repeat' (first|exact trivial|exact rfl|apply And.intro|refine ⟨_,rfl,rfl,rfl,OW.one ?_⟩)))
      all_goals exact hcl _
    · refine zD (xI _) (xV _) rfl Tryz.func87 rfl (by kernel_rfl) _ _ rfl rfl rfl (fun w0 mu I0 β0 gi dis => ?_)
      (repeat' (first|(apply xW;((exact Want.none_ rfl)))|(apply xF zK;exact rfl;exact rfl)|((first|apply yS|apply zX|apply yD)<;>(first|exact zK|exact rfl|refine yO ?_|exact lb rfl|(refine Bd.mk ?_;(focus (simp;done)))))|apply zV|apply AWp.Q|apply zJ|apply AWp.G|apply AWp.B|apply AWp.J|apply zL|(apply AWp.F;exact rfl;((exact rfl)))|(apply (zY (p1));(iterate 7 exact rfl);(focus (repeat (first|exact All2.nil|refine All2.cons rfl ?_)));exact rfl;(focus (repeat (first|exact MAs.nil|apply MAs.cons|apply MA.c|exact MC.ptr rfl)));((assumption));((assumption));exact rfl;exact rfl)|(apply (zY (p2));(iterate 7 exact rfl);(focus (repeat (first|exact All2.nil|refine All2.cons rfl ?_)));exact rfl;(focus (repeat (first|exact MAs.nil|apply MAs.cons|apply MA.c|exact MC.ptr rfl|exact MC.vc (VC.imm (Imm.v _)))));((assumption));((assumption));exact rfl;exact rfl)|(apply (zY (p6));(iterate 7 exact rfl);(focus (repeat (first|exact All2.nil|refine All2.cons rfl ?_)));exact rfl;(focus (repeat (first|exact MAs.nil|apply MAs.cons|apply MA.c|exact MC.ptr rfl|exact MC.vc (VC.imm (Imm.v _)))));((assumption));((assumption));exact rfl;exact rfl)|(((refine AWp.C rfl ?_ ?_))<;>intro hp<;>try (exfalso;omega))))
      refine AWp.weaken (s' := ⟨[(2, .c (.ptr 1 0 0))], [(0, some (xT code c6)), (1, some ⟨26, 1, [[.ref 2 0 0]]⟩), (2, some ⟨98, 2, []⟩)], 3⟩) ?_ ?_
      · refine Weak.of [(0, some 0), (1, some 1), (2, none)] rfl ?_ ?_ <;> (repeat' (first|exact trivial|exact rfl|apply And.intro|refine ⟨_,rfl,rfl,rfl,OW.one ?_⟩))
        all_goals exact hcl _
      refine AWp.weaken (Weak.frz 2 1 (out' := ⟨26, 1, [wI []]⟩) (vX rfl rfl) rfl rfl rfl (by intro x hx; cases hx) rfl rfl (.cons (.cons (.ref _ rfl) .nil) .nil) (Weak.refl _ _)) ?_
      apply AWp.R
      repeat (first | apply zM | apply zN)
      (((refine z6 _ [(0, some 0)] (.cons (xC rfl rfl rfl zK rfl rfl rfl) .nil) ?_ rfl ?_)) <;> (repeat' (first|exact trivial|exact rfl|apply And.intro|refine ⟨_,rfl,rfl,rfl,OW.one ?_⟩)))
      all_goals exact hcl _
    · refine zD (xI _) (xV _) rfl Tryz.func87 rfl (by kernel_rfl) _ _ rfl rfl rfl (fun w0 mu I0 β0 gi dis => ?_)
      (repeat' (first|(apply xW;((exact Want.none_ rfl)))|(apply xF zK;exact rfl;exact rfl)|((first|apply zX|apply yD)<;>(first|exact zK|exact rfl|refine yO ?_|exact lb rfl))|apply zV|apply AWp.Q|apply zJ|apply AWp.G|apply AWp.B|apply AWp.J|apply zL|(apply AWp.F;exact rfl;((exact rfl)))|(apply (zY (p1));(iterate 7 exact rfl);(focus (repeat (first|exact All2.nil|refine All2.cons rfl ?_)));exact rfl;(focus (repeat (first|exact MAs.nil|apply MAs.cons|apply MA.c|exact MC.ptr rfl)));((assumption));((assumption));exact rfl;exact rfl)|(apply (zY (p2));(iterate 7 exact rfl);(focus (repeat (first|exact All2.nil|refine All2.cons rfl ?_)));exact rfl;(focus (repeat (first|exact MAs.nil|apply MAs.cons|apply MA.c|exact MC.ptr rfl|exact MC.vc (VC.imm (Imm.v _)))));((assumption));((assumption));exact rfl;exact rfl)|(apply (zY (p6));(iterate 7 exact rfl);(focus (repeat (first|exact All2.nil|refine All2.cons rfl ?_)));exact rfl;(focus (repeat (first|exact MAs.nil|apply MAs.cons|apply MA.c|exact MC.ptr rfl|exact MC.vc (VC.imm (Imm.v _)))));((assumption));((assumption));exact rfl;exact rfl)|(((refine AWp.C rfl ?_ ?_))<;>intro hp<;>try (exfalso;omega))))
      refine AWp.weaken (Weak.frz 2 1 (out' := ⟨26, 1, [wI em]⟩) (vX rfl rfl) rfl rfl rfl (x8 _) rfl rfl (.cons (.cons (.ref _ hLD.symm) .nil) .nil) (Weak.refl _ _)) ?_
      apply AWp.R
      repeat (first | apply zM | apply zN)
      (((refine z6 _ [(0, some 0)] (.cons (xC rfl rfl rfl zK rfl rfl rfl) .nil) ?_ rfl ?_)) <;> (repeat' (first|exact trivial|exact rfl|apply And.intro|refine ⟨_,rfl,rfl,rfl,OW.one ?_⟩)))
      all_goals exact hcl _
  | true =>
    refine ⟨(kF code 42 c6 0).1, manyE (kF code 42 c6 0).2, by omega, ⟨by rw [manyE_len]; omega, manyE_mem (by omega)⟩, ?_⟩
    rcases hcase with ⟨hw, rfl, rfl⟩ | ⟨hw, rfl, rfl⟩ | ⟨hw, rfl, rfl⟩ | ⟨hw, rfl, rfl⟩ | ⟨hw, rfl, rfl⟩
    all_goals
      refine zD (xI _) (xV _) rfl Tryz.func87 rfl (by kernel_rfl) _ _ rfl rfl rfl (fun w0 mu I0 β0 gi dis => ?_)
      (repeat' (first|(apply xW;((exact Want.none_ rfl)))|(apply xF zK;exact rfl;exact rfl)|((first|apply z8|apply yS|apply zQ|apply zX|(apply yB;exact rfl;exact rfl)|apply yD)<;>(first|exact zK|exact Nat.zero_add _|exact rfl|refine yO ?_|assumption|omega|exact lb rfl|(refine Bd.mk ?_;first|(focus (simp;done))|(simp;omega))|exact yU rfl))|apply zV|(refine yN ?_ ?_;kernel_rfl)|apply AWp.Q|apply zJ|apply AWp.G|apply AWp.B|apply AWp.J|apply zL|(refine AWp.D ?_ ?_;kernel_rfl)|(apply AWp.T;exact rfl;((exact rfl)))|(apply (zY (p1));(iterate 7 exact rfl);(focus (repeat (first|exact All2.nil|refine All2.cons rfl ?_)));exact rfl;(focus (repeat (first|exact MAs.nil|apply MAs.cons|apply MA.c|exact MC.ptr rfl)));((assumption));((assumption));exact rfl;exact rfl)|(apply (zY (p2));(iterate 7 exact rfl);(focus (repeat (first|exact All2.nil|refine All2.cons rfl ?_)));exact rfl;(focus (repeat (first|exact MAs.nil|apply MAs.cons|apply MA.c|exact MC.ptr rfl|exact MC.vc (VC.imm (Imm.v _)))));((assumption));((assumption));exact rfl;exact rfl)|(apply (zY (p3));(iterate 7 exact rfl);(focus (repeat (first|exact All2.nil|refine All2.cons rfl ?_)));exact rfl;(focus (repeat (first|exact MAs.nil|apply MAs.cons|apply MA.c|exact MC.ptr rfl)));((assumption));((assumption));exact rfl;exact rfl)|(apply (zY (p4));(iterate 7 exact rfl);(focus (repeat (first|exact All2.nil|refine All2.cons rfl ?_)));exact rfl;(focus (repeat (first|exact MAs.nil|apply MAs.cons|apply MA.c|exact MC.ref rfl|exact MC.ptr rfl)));((assumption));((assumption));exact rfl;exact rfl)|(apply (zY (p5));(iterate 7 exact rfl);(focus (repeat (first|exact All2.nil|refine All2.cons rfl ?_)));exact rfl;(focus (repeat (first|exact MAs.nil|apply MAs.cons|apply MA.c|exact MC.ptr rfl)));((assumption));((assumption));exact rfl;exact rfl)|(apply (zY (p6));(iterate 7 exact rfl);(focus (repeat (first|exact All2.nil|refine All2.cons rfl ?_)));exact rfl;(focus (repeat (first|exact MAs.nil|apply MAs.cons|apply MA.c|exact MC.ptr rfl|exact MC.vc (VC.imm (Imm.v _)))));((assumption));((assumption));exact rfl;exact rfl)|(((refine AWp.C rfl ?_ ?_))<;>intro hp<;>try (exfalso;omega))))
      refine AWp.U (σ := Nat × Cur × Nat) (fun s => ⟨[(0, .c (.ptr 0 0 0)), (2, .c (.ptr 1 0 0)), (3, .c (.ptr 2 0 0)), (4, .c (int ((s.2.2 + 1 : Nat) : Int)))], [(0, some (xT code s.2.1)), (1, some ⟨26, 1, [[.nil]]⟩), (2, some ⟨26, 1, [[.ref 3 0 s.2.2]]⟩), (3, some ⟨98, 2, (manyE s.2.2).map xR⟩)], 4⟩)
        (fun s => kF code 42 c6 0 = kF code s.1 s.2.1 s.2.2 ∧ 42 ≤ s.2.2 + s.1 ∧ s.2.2 ≤ 41 ∧ s.2.1.a + s.1 ≤ c6.a + 42) (fun s => s.1) (42, c6, 0) ⟨rfl, by dsimp only; omega, by dsimp only; omega, Nat.le_refl _⟩ ?_ ?_
      · refine Weak.of [(0, some 0), (1, some 1), (2, some 3), (3, none)] rfl ?_ ?_ <;> (repeat' (first|exact trivial|exact rfl|apply And.intro|refine ⟨_,rfl,rfl,rfl,OW.one ?_⟩))
        all_goals exact hcl _
      · rintro ⟨k, e, n⟩ ⟨hfin, g1, g2, g3⟩
        dsimp only at hfin g1 g2 g3 ⊢
        rw [hfin]
        have vv := kM code e (n := 2) (by omega)
        have pe := pick_pfm code e hl (by omega) 2 (by omega)
        have k5 := y5 (yL code (pkC code e 2))
        have m5 := wE (yL code e)
        have him := x8 (manyE n)
        have hLM : ((manyE n).map xR).length = n := by rw [List.length_map, manyE_len]
        have hML := manyE_len n
        have hM2 := encE_two (manyE n)
        by_cases hcn : (n : Int) + 1 ≤ 40 + pkV code e 2
        · obtain ⟨k, rfl⟩ : ∃ q, k = q + 1 := ⟨k - 1, by omega⟩
          have hstep : kF code (k + 1) e n = kF code k (pkC code e 2) (n + 1) := by rw [kF, if_pos hcn]
          have hcn' : ((n + 1 : Nat) : Int) ≤ 40 + pkV code e 2 := by omega
          have ae := jF code e 2
          generalize pkV code e 2 = pv at vv pe hcn hcn'
          rw [hstep]
          have hms := manyE_succ n
          generalize manyE n = M at him hLM hM2 hms hML
          (repeat' (first|(apply xW;((exact Want.none_ rfl)))|(apply xF zK;exact rfl;exact rfl)|((first|apply yF|apply yS|apply zQ|(apply yB;exact rfl;exact rfl)|apply yD)<;>(first|exact zK|exact rfl|refine yO ?_|omega|exact lb rfl|(refine Bd.mk ?_;first|(focus (simp;done))|(simp;omega))|exact yU rfl))|apply zV|apply AWp.Q|apply zJ|apply AWp.G|apply AWp.B|apply AWp.J|apply zL|(apply AWp.T;exact rfl;((exact dT ‹_›)))|(apply (zY (pe));(iterate 7 exact rfl);(focus (repeat (first|exact All2.nil|refine All2.cons rfl ?_)));exact rfl;(focus (repeat (first|exact MAs.nil|apply MAs.cons|apply MA.c|exact MC.ptr rfl|exact MC.vc (VC.imm (Imm.v _)))));((assumption));((assumption));exact rfl;exact rfl)))
          refine ⟨(k, pkC code e 2, n + 1), ⟨rfl, by dsimp only; omega, by dsimp only; omega, by dsimp only; omega⟩, by dsimp only; omega, ?_⟩
          dsimp only
          rw [hms]
          refine Weak.frz 4 6 (out' := ⟨98, 2, M.map xR ++ [xR ⟨[((n + 1 : Nat) : Int)], [97]⟩]⟩) (vX rfl rfl) rfl rfl rfl (xJ [((n + 1 : Nat) : Int)]).imm rfl rfl ?_ ?_
          · exact All2.appE (.cons (.cons (.ref _ rfl) (.cons (.same _) .nil)) .nil) (fc_refl _ _ _)
          · refine Weak.of [(0, some 0), (1, some 1), (2, some 2), (3, some 6)] rfl ?_ ?_ <;> (repeat' (first|exact trivial|exact rfl|apply And.intro|refine ⟨_,rfl,rfl,rfl,OW.one ?_⟩|refine oWs rfl rfl rfl ?_ ?_))
            all_goals first | exact hcl _ | exact (ent_snoc _ _).symm | exact x8 _ | (rw [hLM]; rfl) | skip
        · have hstep : kF code k e n = (pkC code e 2, n) := by
            cases k with
            | zero => rw [kF]
            | succ k => rw [kF, if_neg hcn]
          have hcn' : ¬ ((n + 1 : Nat) : Int) ≤ 40 + pkV code e 2 := by omega
          generalize pkV code e 2 = pv at vv pe hcn hcn'
          rw [hstep]
          (repeat' (first|(apply xW;((exact Want.none_ rfl)))|(apply xF zK;exact rfl;exact rfl)|((first|apply yF|apply yD)<;>(first|exact zK|exact rfl|refine yO ?_|omega|exact lb rfl))|apply zV|apply AWp.Q|apply zJ|apply AWp.G|apply AWp.X|apply zU|apply zR|(apply AWp.F;exact rfl;((exact dF ‹_›)))|(apply (zY (pe));(iterate 7 exact rfl);(focus (repeat (first|exact All2.nil|refine All2.cons rfl ?_)));exact rfl;(focus (repeat (first|exact MAs.nil|apply MAs.cons|apply MA.c|exact MC.ptr rfl|exact MC.vc (VC.imm (Imm.v _)))));((assumption));((assumption));exact rfl;exact rfl)))
          refine AWp.weaken (Weak.frz 3 1 (out' := ⟨26, 1, [wI (manyE n)]⟩) (vX rfl rfl) rfl rfl rfl him rfl rfl (.cons (.cons (.ref _ hLM.symm) .nil) .nil) (Weak.refl _ _)) ?_
          apply AWp.R
          repeat (first | apply zM | apply zN)
          (((refine z6 _ [(0, some 0)] (.cons (xC rfl rfl rfl zK rfl rfl rfl) .nil) ?_ rfl ?_)) <;> (repeat' (first|exact trivial|exact rfl|apply And.intro|refine ⟨_,rfl,rfl,rfl,OW.one ?_⟩)))
          all_goals exact hcl _
end
end Go.Proofs.YtchpdclknbmdoaaGreatDoor
