/- Any strokes drawn; what is drawn for Segment. -/
import Derived.Test.YtchpdclknbmdoaaGreatDoorSgE
namespace Go.Proofs.YtchpdclknbmdoaaGreatDoor
open Go Go.RowKit
theorem first_ex (p : Nat → Prop) [DecidablePred p] : ∀ n, p n → ∃ k, k ≤ n ∧ p k ∧ ∀ j, j < k → ¬ p j
  | 0, h => ⟨0, Nat.le_refl _, h, fun _ hj => by omega⟩
  | n + 1, h => by
    by_cases h' : ∃ j, j ≤ n ∧ p j
    · obtain ⟨j, hj, hp⟩ := h'
      clear h
      induction j using Nat.strongRecOn with
      | ind j ih =>
        by_cases h2 : ∃ i, i < j ∧ p i
        · obtain ⟨i, hi, hpi⟩ := h2
          exact ih i hi (by omega) hpi
        · exact ⟨j, by omega, hp, fun i hi hpi => h2 ⟨i, hi, hpi⟩⟩
    · exact ⟨n + 1, Nat.le_refl _, h, fun j hj hp => h' ⟨j, by omega, hp⟩⟩
def snK (l : List Int) (ys : Nat → Int) : Nat → List Int
  | 0 => l
  | j + 1 => snK l ys j ++ [ys j]
theorem snK_len (l : List Int) (ys : Nat → Int) : ∀ j, (snK l ys j).length = l.length + j
  | 0 => rfl
  | j + 1 => by rw [snK, List.length_append, snK_len l ys j]; rfl
section
variable (code : List UInt8) (hl : code.length ≤ 65536) (es : List Ent) (hes : es.length ≤ 41) (he8 : ∀ x ∈ es, EO8 x)
include hl hes he8
theorem anyStrokes_ex (c : Cur) (hc : c.a ≤ 1000000) : ∃ (c' : Cur) (l : List Int), c'.a ≤ c.a + 300 ∧ l.length ≤ 102 ∧ PFM Tryz.prog 107 [xR code c] [.c (.ptr 0 0 0), .agg (x3 es)] [some (xR code c'), some ⟨3, 1, l.map yU⟩] (.c (.ref 1 0 l.length)) := by
  obtain ⟨c1, l, a1, hl40, p1⟩ := strokes_ex code hl es hes he8 c (by omega)
  obtain ⟨c2, w, a2, hw, p2⟩ := wD code c1 hl (by omega) 24 (by omega)
  have i1 := vP (b := ⟨3, 1, l.map yU⟩) (yG code c1) (xI l).imm
  have i2 := y6 (yG code c2)
  have j1 := x6 (yG code c)
  have j2 := x6 (yG code c1)
  have hsc := xI l
  have hLl : (l.map yU).length = l.length := List.length_map _
  by_cases w0 : w = 0
  · subst w0
    obtain ⟨c3, y, a3, hy, p3⟩ := anyStroke_ex code c2 hl (by omega)
    have i3 := y6 (yG code c3)
    have j3 := x6 (yG code c2)
    refine ⟨c3, l ++ [y], by omega, by simp; omega, ?_⟩
    refine zD (xX _ _) (xU _) rfl Tryz.func107 rfl (by kernel_rfl) _ _ rfl rfl rfl (fun w0 mu I0 β0 gi dis => ?_)
    (repeat' (first|(apply xW;((exact Want.none_ rfl)))|(apply xF zI;exact rfl;exact rfl)|((first|apply zT|(apply yQ;exact rfl;exact rfl))<;>(first|exact zI|exact rfl|refine yI ?_|omega|(refine Bd.mk ?_;first|(focus (simp;done))|(simp;omega))))|apply zS|apply AWp.Q|apply zH|apply AWp.G|apply AWp.B|apply AWp.R|apply zJ|(apply AWp.T;exact rfl;((exact rfl)))|(apply (zZ (p1));(iterate 7 exact rfl);(focus (repeat (first|exact All2.nil|refine All2.cons rfl ?_)));exact rfl;(focus (repeat (first|exact MAs.nil|apply MAs.cons|apply MA.c|apply MA.agg|exact MCs.nil|apply MCs.cons|exact MC.ptr rfl|exact MC.vc (VC.imm (Imm.sl _)))));((assumption));((assumption));exact rfl;exact rfl)|(apply (zZ (p2));(iterate 7 exact rfl);(focus (repeat (first|exact All2.nil|refine All2.cons rfl ?_)));exact rfl;(focus (repeat (first|exact MAs.nil|apply MAs.cons|apply MA.c|exact MC.ptr rfl|exact MC.vc (VC.imm (Imm.v _)))));((assumption));((assumption));exact rfl;exact rfl)|(apply (zZ (p3));(iterate 7 exact rfl);(focus (repeat (first|exact All2.nil|refine All2.cons rfl ?_)));exact rfl;(focus (repeat (first|exact MAs.nil|apply MAs.cons|apply MA.c|exact MC.ptr rfl)));((assumption));((assumption));exact rfl;exact rfl)))
    (((refine zX _ [(0, some 0), (1, some 4)] (.cons (zP rfl) .nil) ?_ rfl ?_)) <;> (repeat' (first|exact trivial|exact rfl|apply And.intro|(refine yB ?_;(focus (simp;done)))|refine ⟨_,rfl,rfl,rfl,OW.one ?_⟩|refine oWs rfl rfl rfl ?_ ?_)))
    all_goals first | exact yG _ _ | exact (xI _).imm | (rw [wQ]; rfl) | skip
  · have w0' : ¬ (w : Int) = 0 := by omega
    by_cases w1 : w = 1
    · subst w1
      haveI : Inhabited (Cur × Nat × Int) := ⟨(c00, 0, 0)⟩
      obtain ⟨cs, xs, hc0, hcs⟩ := qU (X := Cur × Nat × Int) (fun c c' x => x.2.1 < 2 ∧ x.1.a ≤ c.a + 2 ∧ PFM Tryz.prog 77 [xR code c] [.c (.ptr 0 0 0), .c (int (2 : Nat))] [some (xR code x.1)] (.c (int (x.2.1 : Nat))) ∧ PFM Tryz.prog 136 [xR code x.1] [.c (.ptr 0 0 0)] [some (xR code c')] (.c (int x.2.2))) 3 2000000 (fun c hc => by
        obtain ⟨ca, v, b1, hv, q1⟩ := wD code c hl (by omega) 2 (by omega)
        obtain ⟨cb, y, b2, hy, q2⟩ := few_ex code ca hl (by omega)
        exact ⟨cb, (ca, v, y), by omega, hv, b1, q1, q2⟩) c2 61 (by omega)
      subst hc0
      obtain ⟨K, hK, hp, hnp⟩ := first_ex (fun k => 60 + (xs k).2.1 ≤ l.length + k) 61 (by have := (hcs 61 (Nat.le_refl _)).2.2.1; omega)
      obtain ⟨aK, _, hvK, aK2, qK, _⟩ := hcs K hK
      refine ⟨(xs K).1, snK l (fun j => (xs j).2.2) K, by omega, by rw [snK_len]; omega, ?_⟩
      refine zD (xX _ _) (xU _) rfl Tryz.func107 rfl (by kernel_rfl) _ _ rfl rfl rfl (fun w0 mu I0 β0 gi dis => ?_)
      (repeat' (first|(apply xW;((exact Want.none_ rfl)))|(apply xF zI;exact rfl;exact rfl)|apply zS|apply AWp.Q|apply zH|apply AWp.G|apply AWp.B|(apply AWp.T;exact rfl;((exact rfl)))|(apply AWp.F;exact rfl;((exact dF ‹_›)))|(apply (zZ (p1));(iterate 7 exact rfl);(focus (repeat (first|exact All2.nil|refine All2.cons rfl ?_)));exact rfl;(focus (repeat (first|exact MAs.nil|apply MAs.cons|apply MA.c|apply MA.agg|exact MCs.nil|apply MCs.cons|exact MC.ptr rfl|exact MC.vc (VC.imm (Imm.sl _)))));((assumption));((assumption));exact rfl;exact rfl)|(apply (zZ (p2));(iterate 7 exact rfl);(focus (repeat (first|exact All2.nil|refine All2.cons rfl ?_)));exact rfl;(focus (repeat (first|exact MAs.nil|apply MAs.cons|apply MA.c|exact MC.ptr rfl|exact MC.vc (VC.imm (Imm.v _)))));((assumption));((assumption));exact rfl;exact rfl)))
      refine AWp.U (σ := Nat) (fun j => ⟨[(0, .c (.ptr 0 0 0)), (5, .c (.ref 1 0 (snK l (fun j => (xs j).2.2) j).length))], [(0, some (xR code (cs j))), (1, some ⟨3, 1, (snK l (fun j => (xs j).2.2) j).map yU⟩)], 2⟩) (fun j => j ≤ K) (fun j => K - j) 0 (Nat.zero_le _) ?_ ?_
      · refine Weak.of [(0, some 0), (1, some 2)] rfl ?_ ?_ <;> (repeat' (first|exact trivial|exact rfl|apply And.intro|refine ⟨_,rfl,rfl,rfl,OW.one ?_⟩|refine oWs rfl rfl rfl ?_ ?_|(refine aIm ?_;(assumption))))
        all_goals first | exact yG _ _ | exact (xI _).imm
      · intro j hj
        obtain ⟨_, _, hv, _, q1, q2⟩ := hcs j (by omega)
        have hlen := snK_len l (fun j => (xs j).2.2) j
        have hsj := xI (snK l (fun j => (xs j).2.2) j)
        have hLj : ((snK l (fun j => (xs j).2.2) j).map yU).length = (snK l (fun j => (xs j).2.2) j).length := List.length_map _
        have m1 := x6 (yG code (cs j))
        have k1 := y6 (yG code (xs j).1)
        have m2 := x6 (yG code (xs j).1)
        have k2 := y6 (yG code (cs (j + 1)))
        by_cases hlt : j < K
        · have hn := hnp j hlt
          have hlt' : ((snK l (fun j => (xs j).2.2) j).length : Int) < 60 + ((xs j).2.1 : Int) := by omega
          have e1 : snK l (fun j => (xs j).2.2) (j + 1) = snK l (fun j => (xs j).2.2) j ++ [(xs j).2.2] := rfl
          generalize (xs j).1 = ca at *
          generalize (xs j).2.1 = v at *
          generalize (xs j).2.2 = y at *
          (repeat' (first|(apply xW;((exact Want.none_ rfl)))|(apply xF zI;exact rfl;exact rfl)|((first|apply z8|apply zT|(apply yQ;exact rfl;exact rfl))<;>(first|exact zI|exact rfl|refine yI ?_|omega|(refine Bd.mk ?_;first|(focus (simp;done))|(simp;omega))))|apply zS|apply AWp.Q|apply zH|apply AWp.G|apply AWp.B|apply AWp.J|apply zJ|(apply AWp.T;exact rfl;((exact dT ‹_›)))|(apply (zZ (q1));(iterate 7 exact rfl);(focus (repeat (first|exact All2.nil|refine All2.cons rfl ?_)));exact rfl;(focus (repeat (first|exact MAs.nil|apply MAs.cons|apply MA.c|exact MC.ptr rfl|exact MC.vc (VC.imm (Imm.v _)))));((assumption));((assumption));exact rfl;exact rfl)|(apply (zZ (q2));(iterate 7 exact rfl);(focus (repeat (first|exact All2.nil|refine All2.cons rfl ?_)));exact rfl;(focus (repeat (first|exact MAs.nil|apply MAs.cons|apply MA.c|exact MC.ptr rfl)));((assumption));((assumption));exact rfl;exact rfl)))
          refine ⟨j + 1, by omega, by omega, ?_⟩
          rw [e1, wQ]
          refine Weak.of [(0, some 0), (1, some 3)] rfl ?_ ?_ <;> (repeat' (first|exact trivial|exact rfl|apply And.intro|(refine yB ?_;(focus (simp;done)))|refine ⟨_,rfl,rfl,rfl,OW.one ?_⟩|refine oWs rfl rfl rfl ?_ ?_))
          all_goals first | exact yG _ _ | (rw [← wQ]; exact (xI _).imm) | (simp; done) | skip
        · obtain rfl : j = K := by omega
          have hlt' : ¬ ((snK l (fun j => (xs j).2.2) j).length : Int) < 60 + ((xs j).2.1 : Int) := by omega
          (repeat' (first|(apply xW;((exact Want.none_ rfl)))|(apply xF zI;exact rfl;exact rfl)|(((apply z8))<;>(first|exact rfl|refine yI ?_|omega))|apply zS|apply AWp.Q|apply zH|apply AWp.G|apply AWp.X|apply AWp.R|apply zR|apply zJ|apply zO|(apply AWp.F;exact rfl;((exact dF ‹_›)))|(apply (zZ (q1));(iterate 7 exact rfl);(focus (repeat (first|exact All2.nil|refine All2.cons rfl ?_)));exact rfl;(focus (repeat (first|exact MAs.nil|apply MAs.cons|apply MA.c|exact MC.ptr rfl|exact MC.vc (VC.imm (Imm.v _)))));((assumption));((assumption));exact rfl;exact rfl)))
          (((refine zX _ [(0, some 0), (1, some 1)] (.cons (zP rfl) .nil) ?_ rfl ?_)) <;> (repeat' (first|exact trivial|exact rfl|apply And.intro|refine ⟨_,rfl,rfl,rfl,OW.one ?_⟩|refine oWs rfl rfl rfl ?_ ?_|(refine aIm ?_;(assumption)))))
          all_goals first | exact yG _ _ | exact (xI _).imm
    · have w1' : ¬ (w : Int) = 1 := by omega
      refine ⟨c2, l, by omega, by omega, ?_⟩
      refine zD (xX _ _) (xU _) rfl Tryz.func107 rfl (by kernel_rfl) _ _ rfl rfl rfl (fun w0 mu I0 β0 gi dis => ?_)
      (repeat' (first|(apply xW;((exact Want.none_ rfl)))|(apply xF zI;exact rfl;exact rfl)|apply zS|apply AWp.Q|apply zH|apply AWp.G|apply AWp.B|apply AWp.J|apply AWp.R|apply zJ|(apply AWp.F;exact rfl;((exact dF ‹_›)))|(apply (zZ (p1));(iterate 7 exact rfl);(focus (repeat (first|exact All2.nil|refine All2.cons rfl ?_)));exact rfl;(focus (repeat (first|exact MAs.nil|apply MAs.cons|apply MA.c|apply MA.agg|exact MCs.nil|apply MCs.cons|exact MC.ptr rfl|exact MC.vc (VC.imm (Imm.sl _)))));((assumption));((assumption));exact rfl;exact rfl)|(apply (zZ (p2));(iterate 7 exact rfl);(focus (repeat (first|exact All2.nil|refine All2.cons rfl ?_)));exact rfl;(focus (repeat (first|exact MAs.nil|apply MAs.cons|apply MA.c|exact MC.ptr rfl|exact MC.vc (VC.imm (Imm.v _)))));((assumption));((assumption));exact rfl;exact rfl)))
      (((refine zX _ [(0, some 0), (1, some 2)] (.cons (zP rfl) .nil) ?_ rfl ?_)) <;> (repeat' (first|exact trivial|exact rfl|apply And.intro|refine ⟨_,rfl,rfl,rfl,OW.one ?_⟩|refine oWs rfl rfl rfl ?_ ?_|(refine aIm ?_;(assumption)))))
      all_goals first | exact yG _ _ | exact (xI _).imm
end
end Go.Proofs.YtchpdclknbmdoaaGreatDoor
