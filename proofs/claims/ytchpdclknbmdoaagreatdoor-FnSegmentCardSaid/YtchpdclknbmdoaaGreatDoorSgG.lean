/- What is drawn for Segment; a valid dictionary with valid strokes. -/
import Derived.Test.YtchpdclknbmdoaaGreatDoorSgF
import Derived.Test.YtchpdclknbmdoaaGreatDoorSgD
import Derived.Test.YtchpdclknbmdoaaGreatDoorRL
namespace Go.Proofs.YtchpdclknbmdoaaGreatDoor
open Go Go.RowKit
theorem vBig_pf (code : List UInt8) (hl : code.length ≤ 9223372036854775807) :
    PF Tryz.prog 11 [.c (.sl (code.map wR))] [] (.c (boo (decide (65536 < code.length)))) := by
  have hL : (code.map wR).length = code.length := List.length_map _
  by_cases h : 65536 < code.length
  · have h' : (65536 : Int) < ((code.map wR).length : Int) := by omega
    rw [decide_eq_true h]
    refine PF.enter (xM _) Tryz.func11 rfl (by kernel_rfl) _ _ rfl rfl rfl (fun w0 mu I0 β0 gi dis => ?_)
    (repeat' (first|(apply xW;((exact Want.none_ rfl)))|(apply xF zI;exact rfl;exact rfl)|apply zS|apply AWp.Q|apply zH|apply AWp.G|apply AWp.R))
    (((refine zX _ [] (.cons (zP rfl) .nil) ?_ rfl ?_)) <;> (repeat' (first|exact trivial|refine vwB ?_)))
    all_goals first | exact decide_eq_true h' | exact decide_eq_false h'
  · have h' : ¬ (65536 : Int) < ((code.map wR).length : Int) := by omega
    rw [decide_eq_false h]
    refine PF.enter (xM _) Tryz.func11 rfl (by kernel_rfl) _ _ rfl rfl rfl (fun w0 mu I0 β0 gi dis => ?_)
    (repeat' (first|(apply xW;((exact Want.none_ rfl)))|(apply xF zI;exact rfl;exact rfl)|apply zS|apply AWp.Q|apply zH|apply AWp.G|apply AWp.R))
    (((refine zX _ [] (.cons (zP rfl) .nil) ?_ rfl ?_)) <;> (repeat' (first|exact trivial|refine vwB ?_)))
    all_goals first | exact decide_eq_true h' | exact decide_eq_false h'
theorem drawSg_ex (code : List UInt8) (hl : code.length ≤ 65536) : ∃ (es : List Ent) (l : List Int), wX es ∧ l.length ≤ 102 ∧
    PF Tryz.prog 63 [.c (.sl (code.map wR))] [⟨3, 1, l.map yU⟩] (.tup [.agg (x3 es), .c (.ref 0 0 l.length)]) := by
  have a0 : c00.a = 0 := rfl
  obtain ⟨c1, es, a1, ⟨hes, he8⟩, p1⟩ := anyDictionary_ex code c00 hl (by omega)
  obtain ⟨c2, l, a2, hll, p2⟩ := anyStrokes_ex code hl es hes he8 c1 (by omega)
  have hcl : ∀ q : Cur, ∀ x ∈ (xR code q).els, ∀ c ∈ x, Imm c := fun q => yG code q
  have hsc := xI l
  have i1 := y6 (hcl c1)
  have i2 := vP (b := ⟨3, 1, l.map yU⟩) (hcl c2) hsc.imm
  have j0 := x6 (hcl c00)
  have j1 := x6 (hcl c1)
  refine ⟨es, l, ⟨by omega, fun e he => ⟨by have := (he8 e he).1; omega, by have := (he8 e he).2.2; omega⟩⟩, hll, ?_⟩
  refine PF.enter (xM _) Tryz.func63 rfl (by kernel_rfl) _ _ rfl rfl rfl (fun w0 mu I0 β0 gi dis => ?_)
  (repeat' (first|(apply xW;((exact Want.none_ rfl)))|(apply xF zI;exact rfl;exact rfl)|((first|apply yS|apply zV|apply yE)<;>(first|exact zI|exact rfl|refine yI ?_|exact lb rfl|((try refine Bd.mk ?_);(focus (simp;done)))))|apply zS|(refine yN ?_ ?_;kernel_rfl)|apply AWp.Q|apply zH|apply AWp.G|apply AWp.R|(refine AWp.D ?_ ?_;kernel_rfl)|(apply (zZ (p1));(iterate 7 exact rfl);(focus (repeat (first|exact All2.nil|refine All2.cons rfl ?_)));exact rfl;(focus (repeat (first|exact MAs.nil|apply MAs.cons|apply MA.c|exact MC.ptr rfl)));((assumption));((assumption));exact rfl;exact rfl)|(apply (zZ (p2));(iterate 7 exact rfl);(focus (repeat (first|exact All2.nil|refine All2.cons rfl ?_)));exact rfl;(focus (repeat (first|exact MAs.nil|apply MAs.cons|apply MA.c|apply MA.agg|exact MCs.nil|apply MCs.cons|exact MC.ptr rfl|exact MC.vc (VC.imm (Imm.sl _)))));((assumption));((assumption));exact rfl;exact rfl)))
  (((refine zX _ [(0, some 3)] (.cons (yY rfl rfl rfl zI rfl rfl rfl) (.cons (zP rfl) .nil)) ?_ rfl ?_)) <;> (repeat' (first|exact trivial|exact rfl|apply And.intro|refine oWs rfl rfl rfl ?_ ?_|(refine aIm ?_;(assumption)))))
  all_goals exact hsc.imm
def bookE : List Ent := [⟨[1048576], [123, 94, 115, 125]⟩]
def bookL : List Int := [1048576, 262144]
theorem book_ok : mchOk bookE bookL = true := by kernel_rfl
theorem vBook_ex (code : List UInt8) (hl : code.length ≤ 65536) : ∃ (es : List Ent) (l : List Int), wX es ∧ l.length ≤ 102 ∧ mchOk es l = true ∧
    PF Tryz.prog 12 [.c (.sl (code.map wR))] [⟨3, 1, l.map yU⟩] (.tup [.agg (x3 es), .c (.ref 0 0 l.length)]) := by
  obtain ⟨es, l, hb, hll, hd⟩ := drawSg_ex code hl
  have hsc := xI l
  have hLl : (l.map yU).length = l.length := List.length_map _
  have i1 := y6 (o := ⟨3, 1, l.map yU⟩) hsc.imm
  cases hm : mchOk es l with
  | true =>
    have hs : PF Tryz.prog 43 [.agg (x3 es), .c (.sl (l.map yU))] [⟨55, 3, (seg es l).map xQ⟩] (.tup [.c (.ref 0 0 (seg es l).length), .c (boo true)]) := specSegY_pf es l hb (by omega) hm
    have i2 := y6 (o := ⟨55, 3, (seg es l).map xQ⟩) (wA _).imm
    have hsg := wA (seg es l)
    have hsl := segF_len es l 0
    refine ⟨es, l, hb, hll, hm, ?_⟩
    refine PF.enter (xM _) Tryz.func12 rfl (by kernel_rfl) _ _ rfl rfl rfl (fun w0 mu I0 β0 gi dis => ?_)
    (repeat' (first|(apply xW;((exact Want.none_ rfl)))|(apply xF zI;exact rfl;exact rfl)|((first|apply zV|apply yE)<;>(first|exact zI|exact rfl|refine yI ?_|exact lb rfl))|apply zS|apply AWp.Q|apply zH|apply AWp.G|apply AWp.J|apply AWp.R|(apply AWp.F;exact rfl;((exact rfl)))|(apply (zZ (hd));(iterate 7 exact rfl);(focus (repeat ((exact All2.nil))));exact rfl;(focus (repeat (first|exact MAs.nil|apply MAs.cons|apply MA.c|exact MC.vc (VC.imm (Imm.sl _)))));((assumption));((exact xJ));exact rfl;exact rfl)|(apply yD;(iterate 6 exact rfl);(iterate 2 (focus (repeat (first|exact VAs.nil|apply VAs.cons|apply VA.c|apply VA.agg|exact VCs.nil|apply VCs.cons|exact VC.imm (Imm.sl _)|(apply zB;exact rfl;exact rfl;((focus (simp;done)));exact rfl;((refine aIm ?_;assumption)))))));((exact hs));(focus (repeat (first|exact trivial|exact Flat.v _|exact Flat.ref _ _ _|apply And.intro)));((apply yK;(focus (repeat (first|exact trivial|apply And.intro|((assumption)))))));((exact yX _ _ _ _ _)))))
    (((refine zX _ [(0, some 1)] (.cons (yY rfl rfl rfl zI rfl rfl rfl) (.cons (zP rfl) .nil)) ?_ rfl ?_)) <;> (repeat' (first|exact trivial|exact rfl|apply And.intro|refine oWs rfl rfl rfl ?_ ?_|(refine aIm ?_;(assumption)))))
    all_goals exact hsc.imm
  | false =>
    have hs := specSegN_pf es l hb (by omega) hm
    have i2 := y6 (o := ⟨55, 3, []⟩) (wA []).imm
    refine ⟨bookE, bookL, dicOk_B (mchOk_parts book_ok).1, by decide, book_ok, ?_⟩
    refine PF.enter (xM _) Tryz.func12 rfl (by kernel_rfl) _ _ rfl rfl rfl (fun w0 mu I0 β0 gi dis => ?_)
    (repeat' (first|(apply xW;((exact Want.none_ rfl)))|(apply xF zI;exact rfl;exact rfl)|((first|apply yS|apply zT|apply zV|apply yE)<;>(first|exact zI|exact rfl|refine yI ?_|exact lb rfl|((try refine Bd.mk ?_);(focus (simp;done)))))|apply zS|apply AWp.Q|apply zH|apply AWp.G|(apply AWp.T;exact rfl;((exact rfl)))|(apply (zZ (hd));(iterate 7 exact rfl);(focus (repeat ((exact All2.nil))));exact rfl;(focus (repeat (first|exact MAs.nil|apply MAs.cons|apply MA.c|exact MC.vc (VC.imm (Imm.sl _)))));((assumption));((exact xJ));exact rfl;exact rfl)|(apply yD;(iterate 6 exact rfl);(iterate 2 (focus (repeat (first|exact VAs.nil|apply VAs.cons|apply VA.c|apply VA.agg|exact VCs.nil|apply VCs.cons|exact VC.imm (Imm.sl _)|(apply zB;exact rfl;exact rfl;((focus (simp;done)));exact rfl;((refine aIm ?_;assumption)))))));((exact hs));(focus (repeat (first|exact trivial|exact Flat.v _|exact Flat.ref _ _ _|apply And.intro)));((apply yK;(focus (repeat (first|exact trivial|apply And.intro|((exact AllSc.nil)))))));((exact yX _ _ _ _ _)))))
    refine AWp.weaken (s' := ⟨[(2, .c (.ptr 0 0 0)), (3, .c (.ref 1 0 2))], [(0, some ⟨26, 1, [x3 bookE]⟩), (1, some ⟨3, 1, bookL.map yU⟩)], 2⟩) ?_ ?_
    · refine Weak.frz 4 5 (out' := ⟨98, 2, bookE.map xO⟩) vS rfl rfl rfl (xI [1048576]).imm rfl rfl ?_ ?_
      · exact .cons (.cons (.ref _ rfl) (.cons (.same _) .nil)) .nil
      · refine Weak.frz 5 0 (out' := ⟨26, 1, [x3 bookE]⟩) vS rfl rfl rfl (x7 _) rfl rfl ?_ ?_
        · exact .cons (.cons (.ref _ rfl) .nil) .nil
        · refine Weak.of [(0, some 0), (1, some 6)] rfl ?_ ?_ <;> (repeat' (first|exact trivial|exact rfl|apply And.intro|refine ⟨_,rfl,rfl,rfl,OW.one ?_⟩|refine oWs rfl rfl rfl ?_ ?_))
          all_goals first | exact (xI _).imm | skip
    · (repeat' (first|apply AWp.R|apply zK))
      (((refine zX _ [(0, some 1)] (.cons (yY rfl rfl rfl zI rfl rfl rfl) (.cons (zP rfl) .nil)) ?_ rfl ?_)) <;> (repeat' (first|exact trivial|exact rfl|apply And.intro|refine oWs rfl rfl rfl ?_ ?_)))
      all_goals first | exact (xI _).imm | skip
end Go.Proofs.YtchpdclknbmdoaaGreatDoor
