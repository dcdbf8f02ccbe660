/- Longest matches and segmentations, by both programs. No conditions but bounds of lengths. -/
import Derived.Test.YtchpdclknbmdoaaGreatDoorDvB
namespace Go.Proofs.YtchpdclknbmdoaaGreatDoor
open Go Go.RowKit
theorem ints_one (l : List Int) : ∀ x ∈ l.map yX, x.length = 1 := by
  intro x hx
  obtain ⟨i, _, rfl⟩ := List.mem_map.1 hx
  rfl
theorem cut_map (l : List Int) (f n : Nat) : (cut l f n).map yX = ((l.map yX).drop f).take (f + n - f) := by
  rw [cut, List.map_take, List.map_drop, Nat.add_sub_cancel_left]
theorem mtL_hit {es : List Ent} {l : List Int} {f n : Nat} (h : f + (n + 1) ≤ l.length) (h2 : hasE es (cut l f (n + 1)) = true) : mtL es l f (n + 1) = ⟨f, (n + 1 : Nat), kL es (cut l f (n + 1))⟩ := by rw [mtL, if_pos ⟨h, h2⟩]
theorem mtL_no {es : List Ent} {l : List Int} {f n : Nat} (h2 : hasE es (cut l f (n + 1)) = false) : mtL es l f (n + 1) = mtL es l f n := by rw [mtL, if_neg (fun h => by rw [h2] at h; cases h.2)]
theorem l11Match_pf (es : List Ent) (l : List Int) (f : Nat) (hb : qU es) (hl : l.length ≤ 4000000) (hf : f ≤ l.length) : PF Tryz.prog 108 [.agg (wG es), .c (.sl (l.map yX)), .c (int f)] [] (.agg (x7 (mtc es l f))) := by
  have h1l := ints_one l
  have hL : (l.map yX).length = l.length := List.length_map _
  refine PF.enter (enum3 _ _ _) Tryz.func108 rfl (by kernel_rfl) _ _ rfl rfl rfl (fun w0 mu I0 β0 gi dis => ?_)
  (repeat' (first|(apply xW;((exact Want.none_ rfl)))|(apply xF zI;exact rfl;exact rfl)|(((apply zW))<;>(first|exact zI|exact rfl|refine yJ ?_))|apply zT|apply AWp.Q|apply zH|apply AWp.G|apply AWp.B))
  refine AWp.U (σ := Nat) (fun k => ⟨[(1, .c (.sl (l.map yX))), (2, .c (int f)), (3, .c (.ptr 0 0 0)), (6, .c (.ptr 1 0 0)), (7, .c (int k))], [(0, some ⟨26, 1, [wG es]⟩), (1, some ⟨55, 3, [x7 ⟨0, 0, []⟩]⟩)], 2⟩) (fun k => k ≤ 6 ∧ mtc es l f = mtL es l f k) (fun k => k) 6 ⟨Nat.le_refl _, rfl⟩ ?_ ?_
  · refine Weak.of [(0, some 0), (1, some 1)] rfl ?_ ?_ <;> (repeat' (first|exact trivial|exact rfl|apply And.intro|refine ⟨_,rfl,rfl,rfl,OW.one ?_⟩))
  · rintro k ⟨hk, hm⟩
    rcases k with _ | j
    · rw [hm]
      (repeat' (first|(apply xW;((exact Want.none_ rfl)))|(apply xF zI;exact rfl;exact rfl)|((first|apply yT|apply yE)<;>(first|exact zI|exact rfl|refine yJ ?_|exact lb rfl|(refine Bd.mk ?_;(focus (simp;done)))))|apply zT|apply AWp.Q|apply zH|apply AWp.G|apply AWp.X|apply AWp.R|apply zP|apply zN|(apply AWp.F;exact rfl;((exact rfl)))))
      (((refine z7 _ [] (.cons (y4 rfl rfl rfl zI rfl rfl rfl) .nil) ?_ rfl ?_)) <;> (repeat' (first|exact trivial|exact rfl|apply And.intro)))
    · have hpos : (0 : Int) < ((j + 1 : Nat) : Int) := by omega
      have hsum : (f : Int) + ((j + 1 : Nat) : Int) = ((f + (j + 1) : Nat) : Int) := by omega
      by_cases hlong : l.length < f + (j + 1)
      · have hlong' : ((l.map yX).length : Int) < (f : Int) + ((j + 1 : Nat) : Int) := by omega
        (repeat' (first|(apply xW;((exact Want.none_ rfl)))|(apply xF zI;exact rfl;exact rfl)|((first|apply zY|apply y6)<;>(first|exact rfl|refine yJ ?_|omega))|apply zT|apply AWp.Q|apply zH|apply AWp.G|apply AWp.B|apply AWp.J|apply AWp.X|apply zP|apply zN|(apply AWp.T;exact rfl;((exact dT ‹_›)))))
        refine ⟨j, ⟨by omega, by rw [hm, mtL_skip hlong]⟩, by omega, ?_⟩
        refine Weak.of [(0, some 0), (1, some 1)] rfl ?_ ?_ <;> (repeat' (first|exact trivial|exact rfl|apply And.intro|(apply cgI;(omega))|refine ⟨_,rfl,rfl,rfl,OW.one ?_⟩))
      · have hlong' : ¬ ((l.map yX).length : Int) < (f : Int) + ((j + 1 : Nat) : Int) := by omega
        have hg := l6Find_pf es (cut l f (j + 1)) hb (by rw [cut_len (by omega)]; omega)
        rw [cut_map] at hg
        cases hh : hasE es (cut l f (j + 1)) with
        | true =>
          rw [hh] at hg
          rw [hm, mtL_hit (by omega) hh]
          (repeat' (first|(apply xW;((exact Want.none_ rfl)))|(apply xF zI;exact rfl;exact rfl)|((first|apply zY|apply yT|(apply xR;exact rfl;exact rfl)|apply yE)<;>(first|exact zI|exact rfl|refine yJ ?_|omega|exact ⟨rfl,_,_,rfl,rfl⟩|exact lb rfl|(refine Bd.mk ?_;first|assumption|(focus (simp;done)))))|apply zT|(refine yL ?_ ?_;kernel_rfl)|apply AWp.Q|apply zH|apply AWp.G|apply AWp.B|apply AWp.J|apply AWp.R|apply zK|apply zM|(refine AWp.D ?_ ?_;kernel_rfl)|(apply AWp.T;exact rfl;(first|exact dT ‹_›|exact rfl))|(apply AWp.F;exact rfl;((exact dF ‹_›)))|(apply yI;(iterate 6 exact rfl);(iterate 2 (focus (repeat (first|exact VAs.nil|apply VAs.cons|apply VA.c|apply VA.agg|exact VCs.nil|apply VCs.cons|exact VC.imm (Imm.sl _)))));((exact hg));(focus (repeat (first|exact trivial|exact Flat.v _|apply And.intro)));((apply yO));((exact xC _ _ _)))))
          (((refine z7 _ [] (.cons (y4 rfl rfl rfl zI rfl rfl rfl) .nil) ?_ rfl ?_)) <;> (repeat' (first|exact trivial|exact rfl|apply And.intro)))
        | false =>
          rw [hh] at hg
          (repeat' (first|(apply xW;((exact Want.none_ rfl)))|(apply xF zI;exact rfl;exact rfl)|((first|apply zY|apply y6|(apply xR;exact rfl;exact rfl))<;>(first|exact zI|exact rfl|refine yJ ?_|omega|exact ⟨rfl,_,_,rfl,rfl⟩|(refine Bd.mk ?_;(assumption))))|apply zT|(refine yL ?_ ?_;kernel_rfl)|apply AWp.Q|apply zH|apply AWp.G|apply AWp.B|apply AWp.J|apply zJ|(refine AWp.D ?_ ?_;kernel_rfl)|(apply AWp.T;exact rfl;((exact dT ‹_›)))|(apply AWp.F;exact rfl;(first|exact dF ‹_›|exact rfl))|(apply yI;(iterate 6 exact rfl);(iterate 2 (focus (repeat (first|exact VAs.nil|apply VAs.cons|apply VA.c|apply VA.agg|exact VCs.nil|apply VCs.cons|exact VC.imm (Imm.sl _)))));((exact hg));(focus (repeat (first|exact trivial|exact Flat.v _|apply And.intro)));((apply yO));((exact xC _ _ _)))))
          refine ⟨j, ⟨by omega, by rw [hm, mtL_no hh]⟩, by omega, ?_⟩
          refine Weak.of [(0, some 0), (1, some 1)] rfl ?_ ?_ <;> (repeat' (first|exact trivial|exact rfl|apply And.intro|(apply cgI;(omega))|refine ⟨_,rfl,rfl,rfl,OW.one ?_⟩))
theorem matchAt_pf (es : List Ent) (l : List Int) (f : Nat) (hb : qU es) (hl : l.length ≤ 4000000) (hf : f ≤ l.length) : PF Tryz.prog 106 [.agg (wG es), .c (.sl (l.map yX)), .c (int f)] [] (.agg (x7 (mtc es l f))) := by
  have h1l := ints_one l
  have hL : (l.map yX).length = l.length := List.length_map _
  refine PF.enter (enum3 _ _ _) Tryz.func106 rfl (by kernel_rfl) _ _ rfl rfl rfl (fun w0 mu I0 β0 gi dis => ?_)
  (repeat' (first|(apply xW;((exact Want.none_ rfl)))|(apply xF zI;exact rfl;exact rfl)|((first|apply y6|apply zW|apply rx_min)<;>(first|exact zI|exact rfl|refine yJ ?_|omega))|apply zT|apply AWp.Q|apply zH|apply AWp.G|apply AWp.B))
  refine AWp.U (σ := Nat) (fun k => ⟨[(1, .c (.sl (l.map yX))), (2, .c (int f)), (3, .c (.ptr 0 0 0)), (6, .c (.ptr 1 0 0)), (7, .c (int k))], [(0, some ⟨26, 1, [wG es]⟩), (1, some ⟨55, 3, [x7 ⟨0, 0, []⟩]⟩)], 2⟩) (fun k => f + k ≤ l.length ∧ mtc es l f = mtL es l f k) (fun k => k) (min 6 (l.length - f)) ⟨by omega, (mtL_min hf).symm⟩ ?_ ?_
  · refine Weak.of [(0, some 0), (1, some 1)] rfl ?_ ?_ <;> (repeat' (first|exact trivial|exact rfl|apply And.intro|(apply cgI;(omega))|refine ⟨_,rfl,rfl,rfl,OW.one ?_⟩))
  · rintro k ⟨hk, hm⟩
    rcases k with _ | j
    · rw [hm]
      (repeat' (first|(apply xW;((exact Want.none_ rfl)))|(apply xF zI;exact rfl;exact rfl)|((first|apply yT|apply yE)<;>(first|exact zI|exact rfl|refine yJ ?_|exact lb rfl|(refine Bd.mk ?_;(focus (simp;done)))))|apply zT|apply AWp.Q|apply zH|apply AWp.G|apply AWp.X|apply AWp.R|apply zP|apply zN|(apply AWp.F;exact rfl;((exact rfl)))))
      (((refine z7 _ [] (.cons (y4 rfl rfl rfl zI rfl rfl rfl) .nil) ?_ rfl ?_)) <;> (repeat' (first|exact trivial|exact rfl|apply And.intro)))
    · have hpos : (1 : Int) ≤ ((j + 1 : Nat) : Int) := by omega
      have hsum : (f : Int) + ((j + 1 : Nat) : Int) = ((f + (j + 1) : Nat) : Int) := by omega
      have hg := lookup_pf es (cut l f (j + 1)) hb (by rw [cut_len (by omega)]; omega)
      rw [cut_map] at hg
      cases hh : hasE es (cut l f (j + 1)) with
      | true =>
        rw [hh] at hg
        rw [hm, mtL_hit (by omega) hh]
        (repeat' (first|(apply xW;((exact Want.none_ rfl)))|(apply xF zI;exact rfl;exact rfl)|((first|apply zY|apply yT|(apply xR;exact rfl;exact rfl)|apply yE)<;>(first|exact zI|exact rfl|refine yJ ?_|omega|exact ⟨rfl,_,_,rfl,rfl⟩|exact lb rfl|(refine Bd.mk ?_;first|assumption|(focus (simp;done)))))|apply zT|(refine yL ?_ ?_;kernel_rfl)|apply AWp.Q|apply zH|apply AWp.G|apply AWp.B|apply AWp.J|apply AWp.R|apply zK|apply zM|(refine AWp.D ?_ ?_;kernel_rfl)|(apply AWp.T;exact rfl;(first|exact dT ‹_›|exact rfl))|(apply yI;(iterate 6 exact rfl);(iterate 2 (focus (repeat (first|exact VAs.nil|apply VAs.cons|apply VA.c|apply VA.agg|exact VCs.nil|apply VCs.cons|exact VC.imm (Imm.sl _)))));((exact hg));(focus (repeat (first|exact trivial|exact Flat.v _|apply And.intro)));((apply yO));((exact xC _ _ _)))))
        (((refine z7 _ [] (.cons (y4 rfl rfl rfl zI rfl rfl rfl) .nil) ?_ rfl ?_)) <;> (repeat' (first|exact trivial|exact rfl|apply And.intro)))
      | false =>
        rw [hh] at hg
        (repeat' (first|(apply xW;((exact Want.none_ rfl)))|(apply xF zI;exact rfl;exact rfl)|((first|apply zY|apply y6|(apply xR;exact rfl;exact rfl))<;>(first|exact zI|exact rfl|refine yJ ?_|omega|exact ⟨rfl,_,_,rfl,rfl⟩|(refine Bd.mk ?_;(assumption))))|apply zT|(refine yL ?_ ?_;kernel_rfl)|apply AWp.Q|apply zH|apply AWp.G|apply AWp.B|apply AWp.J|apply zJ|(refine AWp.D ?_ ?_;kernel_rfl)|(apply AWp.T;exact rfl;((exact dT ‹_›)))|(apply AWp.F;exact rfl;((exact rfl)))|(apply yI;(iterate 6 exact rfl);(iterate 2 (focus (repeat (first|exact VAs.nil|apply VAs.cons|apply VA.c|apply VA.agg|exact VCs.nil|apply VCs.cons|exact VC.imm (Imm.sl _)))));((exact hg));(focus (repeat (first|exact trivial|exact Flat.v _|apply And.intro)));((apply yO));((exact xC _ _ _)))))
        refine ⟨j, ⟨by omega, by rw [hm, mtL_no hh]⟩, by omega, ?_⟩
        refine Weak.of [(0, some 0), (1, some 1)] rfl ?_ ?_ <;> (repeat' (first|exact trivial|exact rfl|apply And.intro|(apply cgI;(omega))|refine ⟨_,rfl,rfl,rfl,OW.one ?_⟩))
theorem l11Segment_pf (es : List Ent) (l : List Int) (hb : qU es) (hl : l.length ≤ 1000000) : PF Tryz.prog 91 [.agg (wG es), .c (.sl (l.map yX))] [⟨55, 3, (seg es l).map x7⟩] (.c (.ref 0 0 (seg es l).length)) := by
  have hL : (l.map yX).length = l.length := List.length_map _
  refine PF.enter (xY _ _) Tryz.func91 rfl (by kernel_rfl) _ _ rfl rfl rfl (fun w0 mu I0 β0 gi dis => ?_)
  (repeat' (first|(apply xW;((exact Want.none_ rfl)))|(apply xF zI;exact rfl;exact rfl)|(((apply zR))<;>(first|exact zI|exact rfl|refine yJ ?_))|apply zT|apply AWp.Q|apply zH|apply AWp.G|apply AWp.B))
  refine AWp.U (σ := List Pc × Nat) (fun q => ⟨[(1, .c (.sl (l.map yX))), (2, .c (.ptr 0 0 0)), (5, .c (.ref 1 0 q.1.length)), (6, .c (int q.2))], [(0, some ⟨26, 1, [wG es]⟩), (1, some ⟨55, 3, q.1.map x7⟩)], 2⟩) (fun q => q.1 ++ kG es l q.2 = seg es l ∧ q.2 ≤ l.length ∧ q.1.length ≤ q.2) (fun q => l.length - q.2) ([], 0) ⟨rfl, Nat.zero_le _, Nat.le_refl _⟩ ?_ ?_
  · refine Weak.of [(0, some 0), (1, some 1)] rfl ?_ ?_ <;> (repeat' (first|exact trivial|exact rfl|apply And.intro|refine ⟨_,rfl,rfl,rfl,OW.one ?_⟩|refine oWs rfl rfl rfl ?_ ?_|(refine aIm ?_;(exact AllSc.nil))))
  · rintro ⟨out, f⟩ ⟨hseg, hf, hol⟩
    dsimp only at hseg hf hol ⊢
    have hsc := vF out
    have hLo : (out.map x7).length = out.length := List.length_map _
    by_cases hlt : f < l.length
    · have hlt' : (f : Int) < ((l.map yX).length : Int) := by omega
      have hg := l11Match_pf es l f hb (by omega) hf
      obtain ⟨c1, c2, c3, c4, c5⟩ := vQ es l f
      have hst := segF_step (es := es) hlt
      generalize mtc es l f = p at hg c3 c4 hst
      have hi : (((out.map x7).length + 1 : Nat) : Int) - 1 = (((out.map x7).length : Nat) : Int) := by omega
      have hr : (out.map x7 ++ [x7 p])[(out.map x7).length]? = some (x7 p) := by simp
      (repeat' (first|(apply xW;((exact Want.none_ rfl)))|(apply xF zI;exact rfl;exact rfl)|((first|apply zY|apply y6|apply zV|(apply zU;exact rfl;exact rfl;exact zI;exact rfl;exact rfl)|apply zR|(apply yH;exact rfl;exact rfl))<;>(first|exact zI|exact Nat.zero_add _|exact rfl|refine yJ ?_|assumption|omega|(refine Bd.mk ?_;(simp;omega))|exact yU rfl|(focus (simp;done))|(simp;omega)))|apply zT|apply AWp.Q|apply zH|apply AWp.G|apply AWp.B|apply AWp.J|apply zJ|(apply AWp.T;exact rfl;((exact dT ‹_›)))|(apply yI;(iterate 6 exact rfl);(iterate 2 (focus (repeat (first|exact VAs.nil|apply VAs.cons|apply VA.c|apply VA.agg|exact VCs.nil|apply VCs.cons|exact VC.imm (Imm.v _)|exact VC.imm (Imm.sl _)))));((exact hg));(focus (repeat (first|exact trivial|exact Flat.v _|apply And.intro)));((apply yO));((exact rfl)))))
      refine ⟨(out ++ [p], f + kD es l f), ⟨by rw [← hseg, hst, List.append_assoc]; rfl, c5 hlt, by rw [List.length_append]; simp; omega⟩, by dsimp only; omega, ?_⟩
      dsimp only
      rw [vP]
      refine Weak.of [(0, some 0), (1, some 3)] rfl ?_ ?_ <;> (repeat' (first|exact trivial|exact rfl|apply And.intro|(apply cgI;(omega))|(refine yB ?_;(focus (simp;done)))|refine ⟨_,rfl,rfl,rfl,OW.one ?_⟩|refine oWs rfl rfl rfl ?_ ?_))
      all_goals first | (rw [← vP]; exact (vF _).imm) | (simp; done) | (show _ = _; omega) | skip
    · have hlt' : ¬ (f : Int) < ((l.map yX).length : Int) := by omega
      rw [segF_end (by omega), List.append_nil] at hseg
      subst hseg
      (repeat' (first|(apply xW;((exact Want.none_ rfl)))|(apply xF zI;exact rfl;exact rfl)|apply zT|apply AWp.Q|apply zH|apply AWp.G|apply AWp.X|apply AWp.R|apply zP|apply zN|(apply AWp.F;exact rfl;((exact dF ‹_›)))))
      (((refine z7 _ [(0, some 1)] (.cons (zS rfl) .nil) ?_ rfl ?_)) <;> (repeat' (first|exact trivial|exact rfl|apply And.intro|refine oWs rfl rfl rfl ?_ ?_|(refine aIm ?_;(assumption)))))
      all_goals exact hsc.imm
theorem segment_pf (es : List Ent) (l : List Int) (hb : qU es) (hl : l.length ≤ 1000000) : PF Tryz.prog 71 [.agg (wG es), .c (.sl (l.map yX))] [⟨55, 3, (seg es l).map x7⟩] (.c (.ref 0 0 (seg es l).length)) := by
  have hL : (l.map yX).length = l.length := List.length_map _
  refine PF.enter (xY _ _) Tryz.func71 rfl (by kernel_rfl) _ _ rfl rfl rfl (fun w0 mu I0 β0 gi dis => ?_)
  (repeat' (first|(apply xW;((exact Want.none_ rfl)))|(apply xF zI;exact rfl;exact rfl)|(((apply zR))<;>(first|exact zI|exact rfl|refine yJ ?_))|apply zT|apply AWp.Q|apply zH|apply AWp.G|apply AWp.B))
  refine AWp.U (σ := List Pc × Nat) (fun q => ⟨[(1, .c (.sl (l.map yX))), (2, .c (.ptr 0 0 0)), (5, .c (.ref 1 0 q.1.length)), (6, .c (int q.2))], [(0, some ⟨26, 1, [wG es]⟩), (1, some ⟨55, 3, q.1.map x7⟩)], 2⟩) (fun q => q.1 ++ kG es l q.2 = seg es l ∧ q.2 ≤ l.length ∧ q.1.length ≤ q.2) (fun q => l.length - q.2) ([], 0) ⟨rfl, Nat.zero_le _, Nat.le_refl _⟩ ?_ ?_
  · refine Weak.of [(0, some 0), (1, some 1)] rfl ?_ ?_ <;> (repeat' (first|exact trivial|exact rfl|apply And.intro|refine ⟨_,rfl,rfl,rfl,OW.one ?_⟩|refine oWs rfl rfl rfl ?_ ?_|(refine aIm ?_;(exact AllSc.nil))))
  · rintro ⟨out, f⟩ ⟨hseg, hf, hol⟩
    dsimp only at hseg hf hol ⊢
    have hsc := vF out
    have hLo : (out.map x7).length = out.length := List.length_map _
    by_cases hlt : f < l.length
    · have hlt' : (f : Int) < ((l.map yX).length : Int) := by omega
      have hg := matchAt_pf es l f hb (by omega) hf
      obtain ⟨c1, c2, c3, c4, c5⟩ := vQ es l f
      have hst := segF_step (es := es) hlt
      generalize mtc es l f = p at hg c3 c4 hst
      (repeat' (first|(apply xW;((exact Want.none_ rfl)))|(apply xF zI;exact rfl;exact rfl)|((first|apply zY|apply zR|apply zW|(apply yH;exact rfl;exact rfl)|apply yE)<;>(first|exact zI|exact rfl|refine yJ ?_|omega|exact lb rfl|(refine Bd.mk ?_;(simp;omega))))|apply zT|apply AWp.Q|apply zH|apply AWp.G|apply AWp.B|apply AWp.J|apply zJ|(apply AWp.T;exact rfl;((exact dT ‹_›)))|(apply yI;(iterate 6 exact rfl);(iterate 2 (focus (repeat (first|exact VAs.nil|apply VAs.cons|apply VA.c|apply VA.agg|exact VCs.nil|apply VCs.cons|exact VC.imm (Imm.v _)|exact VC.imm (Imm.sl _)))));((exact hg));(focus (repeat (first|exact trivial|exact Flat.v _|apply And.intro)));((apply yO));((exact rfl)))))
      refine ⟨(out ++ [p], f + kD es l f), ⟨by rw [← hseg, hst, List.append_assoc]; rfl, c5 hlt, by rw [List.length_append]; simp; omega⟩, by dsimp only; omega, ?_⟩
      dsimp only
      rw [vP]
      refine Weak.of [(0, some 0), (1, some 4)] rfl ?_ ?_ <;> (repeat' (first|exact trivial|exact rfl|apply And.intro|(apply cgI;(omega))|(refine yB ?_;(focus (simp;done)))|refine ⟨_,rfl,rfl,rfl,OW.one ?_⟩|refine oWs rfl rfl rfl ?_ ?_))
      all_goals first | (rw [← vP]; exact (vF _).imm) | (simp; done) | (show _ = _; omega) | skip
    · have hlt' : ¬ (f : Int) < ((l.map yX).length : Int) := by omega
      rw [segF_end (by omega), List.append_nil] at hseg
      subst hseg
      (repeat' (first|(apply xW;((exact Want.none_ rfl)))|(apply xF zI;exact rfl;exact rfl)|apply zT|apply AWp.Q|apply zH|apply AWp.G|apply AWp.X|apply AWp.R|apply zP|apply zN|(apply AWp.F;exact rfl;((exact dF ‹_›)))))
      (((refine z7 _ [(0, some 1)] (.cons (zS rfl) .nil) ?_ rfl ?_)) <;> (repeat' (first|exact trivial|exact rfl|apply And.intro|refine oWs rfl rfl rfl ?_ ?_|(refine aIm ?_;(assumption)))))
      all_goals exact hsc.imm
end Go.Proofs.YtchpdclknbmdoaaGreatDoor
