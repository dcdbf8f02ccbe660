/- Segment, MatchAt, IsSegmentation of both programs. No conditions but bounds of lengths. -/
import Derived.Test.YtjeffognhcbiaaaGreatDoorSgB
namespace Go.Proofs.YtjeffognhcbiaaaGreatDoor
open Go Go.RowKit
def vL (es : List Ent) (l : List Int) : Bool := qE es && qI l
theorem isMatched_pf (es : List Ent) (l : List Int) (hb : qG es) (hl : l.length ≤ 1000000) : PF Tryz.prog 46 [.agg (wG es), .c (.sl (l.map xE))] [] (.c (boo (vL es l))) := by
  have h1 := implGood_pf es hb
  have h2 := isStrokeList_pf l (by omega)
  rw [vL]
  cases hd : qE es with
  | false =>
    rw [hd] at h1
    refine PF.enter (xG _ _) Tryz.func46 rfl (by kernel_rfl) _ _ rfl rfl rfl (fun w0 mu I0 β0 gi dis => ?_)
    (repeat' (first|(apply xW;((exact Want.none_ rfl)))|(apply xF zI;exact rfl;exact rfl)|(apply yR;exact rfl;exact rfl;((exact rfl));exact rfl;exact rfl)|(apply yS;(iterate 5 exact rfl);((exact rfl)))|apply zR|apply AWp.Q|apply zH|apply AWp.G|apply AWp.R|(apply yA;(iterate 6 exact rfl);(iterate 2 (focus (repeat (first|exact VAs.nil|apply VAs.cons|apply VA.agg|exact VCs.nil|apply VCs.cons|exact VC.imm (Imm.sl _)))));((exact h1));(focus (repeat ((exact Flat.v _))));((apply yJ));((exact xB _ _)))))
    (((refine zV _ [] (.cons (zN rfl) .nil) ?_ rfl ?_)) <;> (repeat' (first|exact trivial|exact rfl)))
  | true =>
    rw [hd] at h1
    refine PF.enter (xG _ _) Tryz.func46 rfl (by kernel_rfl) _ _ rfl rfl rfl (fun w0 mu I0 β0 gi dis => ?_)
    (repeat' (first|(apply xW;(first|exact Want.none_ rfl|(refine zX rfl rfl rfl rfl ?_;((exact rfl)))))|(apply xF zI;exact rfl;exact rfl)|(apply yR;exact rfl;exact rfl;((exact rfl));exact rfl;exact rfl)|apply zR|apply AWp.Q|apply zH|apply AWp.G|apply AWp.R|(apply yA;(iterate 6 exact rfl);(iterate 2 (focus (repeat (first|exact VAs.nil|apply VAs.cons|apply VA.c|apply VA.agg|exact VCs.nil|apply VCs.cons|exact VC.imm (Imm.sl _)))));(first|exact h1|exact h2);(focus (repeat ((exact Flat.v _))));((apply yJ));((exact xB _ _)))))
    (((refine zV _ [] (.cons (zN rfl) .nil) ?_ rfl ?_)) <;> (repeat' (first|exact trivial|exact rfl)))
theorem wR {es : List Ent} {l : List Int} (h : vL es l = true) : qE es = true ∧ qI l = true ∧ l.length ≤ 60 ∧ ∀ x ∈ l, okS x = true := by
  rw [vL, Bool.and_eq_true] at h
  have h2 := h.2
  rw [qI, Bool.and_eq_true, decide_eq_true_eq, List.all_eq_true] at h2
  exact ⟨h.1, h.2, h2.1, h2.2⟩
theorem mchOk_no {es : List Ent} {l : List Int} (h : vL es l = false) : qE es = false ∨ (qE es = true ∧ qI l = false) := by
  rw [vL] at h
  cases h1 : qE es with
  | false => exact .inl rfl
  | true => rw [h1] at h; exact .inr ⟨rfl, h⟩
def sgO (es : List Ent) (l : List Int) : AObj := ⟨58, 3, (seg es l).map wM⟩
theorem specSegY_pf (es : List Ent) (l : List Int) (hb : qG es) (hl : l.length ≤ 1000000) (h : vL es l = true) : PF Tryz.prog 23 [.agg (wG es), .c (.sl (l.map xE))] [sgO es l] (.tup [.c (.ref 0 0 (seg es l).length), .c (boo true)]) := by
  obtain ⟨e1, e2, _, _⟩ := wR h
  have h1 := l6Good_pf es hb
  have h2 := l11Strokes_pf l (by omega)
  have h3 := l11Segment_pf es l hb hl
  have hsc := vS (seg es l)
  rw [e1] at h1
  rw [e2] at h2
  rw [sgO]
  refine PF.enter (xG _ _) Tryz.func23 rfl (by kernel_rfl) _ _ rfl rfl rfl (fun w0 mu I0 β0 gi dis => ?_)
  (repeat' (first|(apply xW;(first|exact Want.none_ rfl|(refine zX rfl rfl rfl rfl ?_;((exact rfl)))))|(apply xF zI;exact rfl;exact rfl)|(apply yR;exact rfl;exact rfl;((exact rfl));exact rfl;exact rfl)|apply zR|apply AWp.Q|apply zH|apply AWp.G|apply AWp.J|apply AWp.R|(apply AWp.F;exact rfl;((exact rfl)))|(apply yA;(iterate 6 exact rfl);(iterate 2 (focus (repeat (first|exact VAs.nil|apply VAs.cons|apply VA.c|apply VA.agg|exact VCs.nil|apply VCs.cons|exact VC.imm (Imm.sl _)))));(first|exact h1|exact h2|exact h3);(focus (repeat (first|exact Flat.v _|exact Flat.ref _ _ _)));(first|apply yJ|(apply yK;(focus (repeat (first|exact trivial|apply And.intro|((assumption)))))));(first|exact xB _ _|exact xA _ _ _ _))))
  (((refine zV _ [(0, some 1)] (.cons (zN rfl) (.cons (zN rfl) .nil)) ?_ rfl ?_)) <;> (repeat' (first|exact trivial|exact rfl|apply And.intro|refine oWs rfl rfl rfl ?_ ?_|(refine aIm ?_;(assumption)))))
  all_goals exact hsc.imm
theorem specSegN_pf (es : List Ent) (l : List Int) (hb : qG es) (hl : l.length ≤ 1000000) (h : vL es l = false) : PF Tryz.prog 23 [.agg (wG es), .c (.sl (l.map xE))] [⟨58, 3, []⟩] (.tup [.c (.ref 0 0 0), .c (boo false)]) := by
  have h1 := l6Good_pf es hb
  have h2 := l11Strokes_pf l (by omega)
  rcases mchOk_no h with e1 | ⟨e1, e2⟩
  · rw [e1] at h1
    refine PF.enter (xG _ _) Tryz.func23 rfl (by kernel_rfl) _ _ rfl rfl rfl (fun w0 mu I0 β0 gi dis => ?_)
    (repeat' (first|(apply xW;((exact Want.none_ rfl)))|(apply xF zI;exact rfl;exact rfl)|(((apply zU))<;>(first|exact zI|exact rfl|refine yG ?_))|(apply yR;exact rfl;exact rfl;((exact rfl));exact rfl;exact rfl)|(apply yS;(iterate 5 exact rfl);((exact rfl)))|apply zR|apply AWp.Q|apply zH|apply AWp.G|apply AWp.R|apply zK|(apply AWp.T;exact rfl;((exact rfl)))|(apply yA;(iterate 6 exact rfl);(iterate 2 (focus (repeat (first|exact VAs.nil|apply VAs.cons|apply VA.agg|exact VCs.nil|apply VCs.cons|exact VC.imm (Imm.sl _)))));((exact h1));(focus (repeat ((exact Flat.v _))));((apply yJ));((exact xB _ _)))))
    (((refine zV _ [(0, some 1)] (.cons (zN rfl) (.cons (zN rfl) .nil)) ?_ rfl ?_)) <;> (repeat' (first|exact trivial|exact rfl|apply And.intro|refine oWs rfl rfl rfl ?_ ?_|(refine aIm ?_;(exact AllSc.nil)))))
  · rw [e1] at h1
    rw [e2] at h2
    refine PF.enter (xG _ _) Tryz.func23 rfl (by kernel_rfl) _ _ rfl rfl rfl (fun w0 mu I0 β0 gi dis => ?_)
    (repeat' (first|(apply xW;(first|exact Want.none_ rfl|(refine zX rfl rfl rfl rfl ?_;((exact rfl)))))|(apply xF zI;exact rfl;exact rfl)|(((apply zU))<;>(first|exact zI|exact rfl|refine yG ?_))|(apply yR;exact rfl;exact rfl;((exact rfl));exact rfl;exact rfl)|apply zR|apply AWp.Q|apply zH|apply AWp.G|apply AWp.R|apply zK|(apply AWp.T;exact rfl;((exact rfl)))|(apply yA;(iterate 6 exact rfl);(iterate 2 (focus (repeat (first|exact VAs.nil|apply VAs.cons|apply VA.c|apply VA.agg|exact VCs.nil|apply VCs.cons|exact VC.imm (Imm.sl _)))));(first|exact h1|exact h2);(focus (repeat ((exact Flat.v _))));((apply yJ));((exact xB _ _)))))
    (((refine zV _ [(0, some 1)] (.cons (zN rfl) (.cons (zN rfl) .nil)) ?_ rfl ?_)) <;> (repeat' (first|exact trivial|exact rfl|apply And.intro|refine oWs rfl rfl rfl ?_ ?_|(refine aIm ?_;(exact AllSc.nil)))))
theorem implSegY_pf (es : List Ent) (l : List Int) (hb : qG es) (hl : l.length ≤ 1000000) (h : vL es l = true) : PF Tryz.prog 22 [.agg (wG es), .c (.sl (l.map xE))] [sgO es l] (.tup [.c (.ref 0 0 (seg es l).length), .c (boo true)]) := by
  have h1 := isMatched_pf es l hb hl
  have h3 := segment_pf es l hb hl
  have hsc := vS (seg es l)
  rw [h] at h1
  rw [sgO]
  refine PF.enter (xG _ _) Tryz.func22 rfl (by kernel_rfl) _ _ rfl rfl rfl (fun w0 mu I0 β0 gi dis => ?_)
  (repeat' (first|(apply xW;((exact Want.none_ rfl)))|(apply xF zI;exact rfl;exact rfl)|apply zR|apply AWp.Q|apply zH|apply AWp.G|apply AWp.J|apply AWp.R|(apply AWp.F;exact rfl;((exact rfl)))|(apply yA;(iterate 6 exact rfl);(iterate 2 (focus (repeat (first|exact VAs.nil|apply VAs.cons|apply VA.c|apply VA.agg|exact VCs.nil|apply VCs.cons|exact VC.imm (Imm.sl _)))));(first|exact h1|exact h3);(focus (repeat (first|exact Flat.v _|exact Flat.ref _ _ _)));(first|apply yJ|(apply yK;(focus (repeat (first|exact trivial|apply And.intro|((assumption)))))));(first|exact xB _ _|exact xA _ _ _ _))))
  (((refine zV _ [(0, some 1)] (.cons (zN rfl) (.cons (zN rfl) .nil)) ?_ rfl ?_)) <;> (repeat' (first|exact trivial|exact rfl|apply And.intro|refine oWs rfl rfl rfl ?_ ?_|(refine aIm ?_;(assumption)))))
  all_goals exact hsc.imm
end Go.Proofs.YtjeffognhcbiaaaGreatDoor
