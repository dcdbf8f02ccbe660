/- Drawn outlines that may be invalid. -/
import Derived.Test.YtchpdclknbmdoaaGreatDoorDcA
namespace Go.Proofs.YtchpdclknbmdoaaGreatDoor
open Go Go.RowKit
theorem DS.snoc {l : List Int} {y : Int} (h : DS l) (hy : -1 ≤ y ∧ y ≤ 1099511627776) : DS (l ++ [y]) := fun x hx => by
  rcases List.mem_append.1 hx with hx | hx
  · exact h x hx
  · rw [List.mem_singleton.1 hx]; exact hy
section
variable (code : List UInt8) (c : Cur) (hl : code.length ≤ 65536) (hc : c.a ≤ 5000000)
include hl hc
theorem anyOutline_ex : ∃ (c' : Cur) (l : List Int), c'.a ≤ c.a + 70 ∧ (l.length ≤ 8 ∧ DS l) ∧ PFM Tryz.prog 135 [xT code c] [.c (.ptr 0 0 0)] [some (xT code c'), some ⟨3, 1, l.map y4⟩] (.c (.ref 1 0 l.length)) := by
  obtain ⟨c1, w, a1, hw, p1⟩ := vB code c hl (by omega) 16 (by omega)
  have i1 := y5 (yL code c1)
  have j1 := wE (yL code c)
  by_cases w0 : w = 0
  · subst w0
    refine ⟨c1, [], by omega, ⟨by simp, fun x hx => by simp at hx⟩, ?_⟩
    refine zD (xI _) (xV _) rfl Tryz.func135 rfl (by kernel_rfl) _ _ rfl rfl rfl (fun w0 mu I0 β0 gi dis => ?_)
    (repeat' (first|(apply xW;((exact Want.none_ rfl)))|(apply xF zK;exact rfl;exact rfl)|(((apply zQ))<;>(first|exact zK|exact rfl|refine yO ?_))|apply zV|apply AWp.Q|apply zJ|apply AWp.G|apply AWp.B|apply AWp.R|apply zM|apply zN|(apply AWp.T;exact rfl;((exact rfl)))|(apply (zY (p1));(iterate 7 exact rfl);(focus (repeat (first|exact All2.nil|refine All2.cons rfl ?_)));exact rfl;(focus (repeat (first|exact MAs.nil|apply MAs.cons|apply MA.c|exact MC.ptr rfl|exact MC.vc (VC.imm (Imm.v _)))));((assumption));((assumption));exact rfl;exact rfl)))
    (((refine z6 _ [(0, some 0), (1, some 1)] (.cons (zT rfl) .nil) ?_ rfl ?_)) <;> (repeat' (first|exact trivial|exact rfl|apply And.intro|refine ⟨_,rfl,rfl,rfl,OW.one ?_⟩|refine oWs rfl rfl rfl ?_ ?_|(refine aIm ?_;(exact AllSc.nil)))))
    all_goals first | exact yL _ _ | exact (xJ []).imm
  by_cases w1 : w = 1
  · subst w1
    obtain ⟨c2, n0, a2, hn0, p2⟩ := vB code c1 hl (by omega) 2 (by omega)
    have i2 := y5 (yL code c2)
    have j2 := wE (yL code c1)
    obtain ⟨cs, xs, hc0, hcs⟩ := seq_ex (X := Int) (fun c c' x => (0 ≤ x ∧ x < 8388608) ∧ PFM Tryz.prog 136 [xT code c] [.c (.ptr 0 0 0)] [some (xT code c')] (.c (int x))) 1 6000000 (fun c hc => few_ex code c hl (by omega)) c2 (6 + n0) (by omega)
    subst hc0
    have aN := (hcs (6 + n0) (Nat.le_refl _)).1
    refine ⟨cs (6 + n0), (List.range (6 + n0)).map xs, by omega, ⟨by rw [rng_len]; omega, ?_⟩, ?_⟩
    · intro x hx
      obtain ⟨j, hj, rfl⟩ := List.mem_map.1 hx
      have := (hcs j (by have := List.mem_range.1 hj; omega)).2.2.1
      omega
    refine zD (xI _) (xV _) rfl Tryz.func135 rfl (by kernel_rfl) _ _ rfl rfl rfl (fun w0 mu I0 β0 gi dis => ?_)
    (repeat' (first|(apply xW;((exact Want.none_ rfl)))|(apply xF zK;exact rfl;exact rfl)|((first|apply yF|apply zQ)<;>(first|exact zK|exact rfl|refine yO ?_|omega))|apply zV|apply AWp.Q|apply zJ|apply AWp.G|apply AWp.B|(apply AWp.T;exact rfl;((exact rfl)))|(apply AWp.F;exact rfl;((exact rfl)))|(apply (zY (p1));(iterate 7 exact rfl);(focus (repeat (first|exact All2.nil|refine All2.cons rfl ?_)));exact rfl;(focus (repeat (first|exact MAs.nil|apply MAs.cons|apply MA.c|exact MC.ptr rfl|exact MC.vc (VC.imm (Imm.v _)))));((assumption));((assumption));exact rfl;exact rfl)|(apply (zY (p2));(iterate 7 exact rfl);(focus (repeat (first|exact All2.nil|refine All2.cons rfl ?_)));exact rfl;(focus (repeat (first|exact MAs.nil|apply MAs.cons|apply MA.c|exact MC.ptr rfl|exact MC.vc (VC.imm (Imm.v _)))));((assumption));((assumption));exact rfl;exact rfl)))
    refine AWp.U (σ := Nat) (fun j => ⟨[(0, .c (.ptr 0 0 0)), (3, .c (.ref 1 0 j)), (4, .c (int (6 + (n0 : Int) - j)))], [(0, some (xT code (cs j))), (1, some ⟨3, 1, ((List.range j).map xs).map y4⟩)], 2⟩) (fun j => j ≤ 6 + n0) (fun j => 6 + n0 - j) 0 (Nat.zero_le _) ?_ ?_
    · refine Weak.of [(0, some 0), (1, some 1)] rfl ?_ ?_ <;> (repeat' (first|exact trivial|exact rfl|apply And.intro|refine ⟨_,rfl,rfl,rfl,OW.one ?_⟩|refine oWs rfl rfl rfl ?_ ?_|(refine aIm ?_;(exact AllSc.nil))))
      all_goals first | exact yL _ _ | exact (xJ _).imm
    · intro j hj
      obtain ⟨ha, hb, hx, q⟩ := hcs j hj
      have hLl : (((List.range j).map xs).map y4).length = j := by simp
      have hsc := xJ ((List.range j).map xs)
      by_cases hlt : j < 6 + n0
      · have hlt' : (0 : Int) < 6 + (n0 : Int) - j := by omega
        have k2 := y5 (yL code (cs (j + 1)))
        have m1 := wE (yL code (cs j))
        (repeat' (first|(apply xW;((exact Want.none_ rfl)))|(apply xF zK;exact rfl;exact rfl)|((first|apply yW|apply zQ|(apply yB;exact rfl;exact rfl))<;>(first|exact zK|exact rfl|refine yO ?_|omega|(refine Bd.mk ?_;first|(focus (simp;done))|(simp;omega))))|apply zV|apply AWp.Q|apply zJ|apply AWp.G|apply AWp.B|apply AWp.J|apply zL|(apply AWp.T;exact rfl;((exact dT ‹_›)))|(apply (zY (q));(iterate 7 exact rfl);(focus (repeat (first|exact All2.nil|refine All2.cons rfl ?_)));exact rfl;(focus (repeat (first|exact MAs.nil|apply MAs.cons|apply MA.c|exact MC.ptr rfl)));((assumption));((assumption));exact rfl;exact rfl)))
        refine ⟨j + 1, by omega, by omega, ?_⟩
        rw [rng_succ, wB]
        refine Weak.of [(0, some 0), (1, some 3)] rfl ?_ ?_ <;> (repeat' (first|exact trivial|exact rfl|apply And.intro|(apply cgI;(omega))|(refine yG ?_;(focus (simp;done)))|refine ⟨_,rfl,rfl,rfl,OW.one ?_⟩|refine oWs rfl rfl rfl ?_ ?_))
        all_goals first | exact yL _ _ | (rw [← wB]; exact (xJ _).imm) | (rw [hLl]; rfl) | skip
      · have hlt' : ¬ (0 : Int) < 6 + (n0 : Int) - j := by omega
        obtain rfl : j = 6 + n0 := by omega
        rw [rng_len]
        (repeat' (first|(apply xW;((exact Want.none_ rfl)))|(apply xF zK;exact rfl;exact rfl)|apply zV|apply AWp.Q|apply zJ|apply AWp.G|apply AWp.X|apply AWp.R|apply zU|apply zM|apply zN|apply zR|(apply AWp.F;exact rfl;((exact dF ‹_›)))))
        (((refine z6 _ [(0, some 0), (1, some 1)] (.cons (zT rfl) .nil) ?_ rfl ?_)) <;> (repeat' (first|exact trivial|exact rfl|apply And.intro|refine ⟨_,rfl,rfl,rfl,OW.one ?_⟩|refine oWs rfl rfl rfl ?_ ?_|(refine aIm ?_;(assumption)))))
        all_goals first | exact yL _ _ | exact (xJ _).imm
  obtain ⟨c2, l, a2, ⟨_, hll, hds⟩, p2⟩ := outline_ex code c1 hl (by omega)
  have i2 := qF (b := ⟨3, 1, l.map y4⟩) (yL code c2) (xJ l).imm
  have j2 := wE (yL code c1)
  by_cases w2 : w = 2
  · subst w2
    obtain ⟨c3, y, a3, hy, p3⟩ := anyStroke_ex code c2 hl (by omega)
    have i3 := y5 (yL code c3)
    have j3 := wE (yL code c2)
    have hsc := xJ l
    have hLl : (l.map y4).length = l.length := List.length_map _
    refine ⟨c3, l ++ [y], by omega, ⟨by simp; omega, hds.snoc hy⟩, ?_⟩
    refine zD (xI _) (xV _) rfl Tryz.func135 rfl (by kernel_rfl) _ _ rfl rfl rfl (fun w0 mu I0 β0 gi dis => ?_)
    (repeat' (first|(apply xW;((exact Want.none_ rfl)))|(apply xF zK;exact rfl;exact rfl)|((first|apply zQ|(apply yB;exact rfl;exact rfl))<;>(first|exact zK|exact rfl|refine yO ?_|omega|(refine Bd.mk ?_;first|(focus (simp;done))|(simp;omega))))|apply zV|apply AWp.Q|apply zJ|apply AWp.G|apply AWp.B|apply AWp.R|apply zM|apply zN|(apply AWp.T;exact rfl;((exact rfl)))|(apply AWp.F;exact rfl;((exact rfl)))|(apply (zY (p1));(iterate 7 exact rfl);(focus (repeat (first|exact All2.nil|refine All2.cons rfl ?_)));exact rfl;(focus (repeat (first|exact MAs.nil|apply MAs.cons|apply MA.c|exact MC.ptr rfl|exact MC.vc (VC.imm (Imm.v _)))));((assumption));((assumption));exact rfl;exact rfl)|(apply (zY (p2));(iterate 7 exact rfl);(focus (repeat (first|exact All2.nil|refine All2.cons rfl ?_)));exact rfl;(focus (repeat (first|exact MAs.nil|apply MAs.cons|apply MA.c|exact MC.ptr rfl)));((assumption));((assumption));exact rfl;exact rfl)|(apply (zY (p3));(iterate 7 exact rfl);(focus (repeat (first|exact All2.nil|refine All2.cons rfl ?_)));exact rfl;(focus (repeat (first|exact MAs.nil|apply MAs.cons|apply MA.c|exact MC.ptr rfl)));((assumption));((assumption));exact rfl;exact rfl)))
    (((refine z6 _ [(0, some 0), (1, some 3)] (.cons (zT rfl) .nil) ?_ rfl ?_)) <;> (repeat' (first|exact trivial|exact rfl|apply And.intro|(refine yG ?_;(focus (simp;done)))|refine ⟨_,rfl,rfl,rfl,OW.one ?_⟩|refine oWs rfl rfl rfl ?_ ?_)))
    all_goals first | exact yL _ _ | exact (xJ _).imm | (rw [wB]; rfl) | skip
  · have w0' : ¬ (w : Int) = 0 := by omega
    have w1' : ¬ (w : Int) = 1 := by omega
    have w2' : ¬ (w : Int) = 2 := by omega
    refine ⟨c2, l, by omega, ⟨by omega, hds⟩, ?_⟩
    refine zD (xI _) (xV _) rfl Tryz.func135 rfl (by kernel_rfl) _ _ rfl rfl rfl (fun w0 mu I0 β0 gi dis => ?_)
    (repeat' (first|(apply xW;((exact Want.none_ rfl)))|(apply xF zK;exact rfl;exact rfl)|apply zV|apply AWp.Q|apply zJ|apply AWp.G|apply AWp.B|apply AWp.J|apply AWp.R|apply zL|(apply AWp.F;exact rfl;((exact dF ‹_›)))|(apply (zY (p1));(iterate 7 exact rfl);(focus (repeat (first|exact All2.nil|refine All2.cons rfl ?_)));exact rfl;(focus (repeat (first|exact MAs.nil|apply MAs.cons|apply MA.c|exact MC.ptr rfl|exact MC.vc (VC.imm (Imm.v _)))));((assumption));((assumption));exact rfl;exact rfl)|(apply (zY (p2));(iterate 7 exact rfl);(focus (repeat (first|exact All2.nil|refine All2.cons rfl ?_)));exact rfl;(focus (repeat (first|exact MAs.nil|apply MAs.cons|apply MA.c|exact MC.ptr rfl)));((assumption));((assumption));exact rfl;exact rfl)))
    (((refine z6 _ [(0, some 0), (1, some 1)] (.cons (zT rfl) .nil) ?_ rfl ?_)) <;> (repeat' (first|exact trivial|exact rfl|apply And.intro|refine ⟨_,rfl,rfl,rfl,OW.one ?_⟩|refine oWs rfl rfl rfl ?_ ?_)))
    all_goals first | exact yL _ _ | exact (xJ _).imm
end
end Go.Proofs.YtchpdclknbmdoaaGreatDoor
