/- What is drawn for Segment; a valid dictionary with valid strokes. -/
import Derived.Test.YtjeffognhcbiaaaGreatDoorSgF
import Derived.Test.YtjeffognhcbiaaaGreatDoorSgD
import Derived.Test.YtjeffognhcbiaaaGreatDoorDcB
namespace Go.Proofs.YtjeffognhcbiaaaGreatDoor
open Go Go.RowKit
theorem vBig_pf (code : List UInt8) (hl : code.length ≤ 9223372036854775807) :
    PF Tryz.prog 18 [.c (.sl (code.map wY))] [] (.c (boo (decide (65536 < code.length)))) := by
  have hL : (code.map wY).length = code.length := List.length_map _
  by_cases h : 65536 < code.length
  · have h' : (65536 : Int) < ((code.map wY).length : Int) := by omega
    rw [decide_eq_true h]
    refine PF.enter (xJ _) Tryz.func18 rfl (by kernel_rfl) _ _ rfl rfl rfl (fun w0 mu I0 β0 gi dis => ?_)
    (repeat' (first|(apply xW;((exact Want.none_ rfl)))|(apply xF zI;exact rfl;exact rfl)|apply zR|apply AWp.Q|apply zH|apply AWp.G|apply AWp.R))
    (((refine zV _ [] (.cons (zN rfl) .nil) ?_ rfl ?_)) <;> (repeat' (first|exact trivial|refine vwB ?_)))
    all_goals first | exact decide_eq_true h' | exact decide_eq_false h'
  · have h' : ¬ (65536 : Int) < ((code.map wY).length : Int) := by omega
    rw [decide_eq_false h]
    refine PF.enter (xJ _) Tryz.func18 rfl (by kernel_rfl) _ _ rfl rfl rfl (fun w0 mu I0 β0 gi dis => ?_)
    (repeat' (first|(apply xW;((exact Want.none_ rfl)))|(apply xF zI;exact rfl;exact rfl)|apply zR|apply AWp.Q|apply zH|apply AWp.G|apply AWp.R))
    (((refine zV _ [] (.cons (zN rfl) .nil) ?_ rfl ?_)) <;> (repeat' (first|exact trivial|refine vwB ?_)))
    all_goals first | exact decide_eq_true h' | exact decide_eq_false h'
theorem drawSg_ex (code : List UInt8) (hl : code.length ≤ 65536) : ∃ (es : List Ent) (l : List Int), qG es ∧ l.length ≤ 102 ∧
    PF Tryz.prog 45 [.c (.sl (code.map wY))] [⟨3, 1, l.map xE⟩] (.tup [.agg (wG es), .c (.ref 0 0 l.length)]) := by
  have a0 : c00.a = 0 := rfl
  obtain ⟨c1, es, a1, ⟨hes, he8⟩, p1⟩ := anyDictionary_ex code c00 hl (by omega)
  obtain ⟨c2, l, a2, hll, p2⟩ := anyStrokes_ex code hl es hes he8 c1 (by omega)
  have hcl : ∀ q : Cur, ∀ x ∈ (xV code q).els, ∀ c ∈ x, Imm c := fun q => yQ code q
  have hsc := xM l
  have i1 := xK (hcl c1)
  have i2 := qP (b := ⟨3, 1, l.map xE⟩) (hcl c2) hsc.imm
  have j0 := wD (hcl c00)
  have j1 := wD (hcl c1)
  refine ⟨es, l, ⟨by omega, fun e he => ⟨by have := (he8 e he).1; omega, by have := (he8 e he).2.2; omega⟩⟩, hll, ?_⟩
  refine PF.enter (xJ _) Tryz.func45 rfl (by kernel_rfl) _ _ rfl rfl rfl (fun w0 mu I0 β0 gi dis => ?_)
  (repeat' (first|(apply xW;((exact Want.none_ rfl)))|(apply xF zI;exact rfl;exact rfl)|((first|apply y4|apply yB|apply yH)<;>(first|exact zI|exact rfl|refine yG ?_|exact lb rfl|((try refine Bd.mk ?_);(focus (simp;done)))))|apply zR|(refine yT ?_ ?_;kernel_rfl)|apply AWp.Q|apply zH|apply AWp.G|apply AWp.R|(refine AWp.D ?_ ?_;kernel_rfl)|(apply (yP (p1));(iterate 7 exact rfl);(focus (repeat (first|exact All2.nil|refine All2.cons rfl ?_)));exact rfl;(focus (repeat (first|exact MAs.nil|apply MAs.cons|apply MA.c|exact MC.ptr rfl)));((assumption));((assumption));exact rfl;exact rfl)|(apply (yP (p2));(iterate 7 exact rfl);(focus (repeat (first|exact All2.nil|refine All2.cons rfl ?_)));exact rfl;(focus (repeat (first|exact MAs.nil|apply MAs.cons|apply MA.c|apply MA.agg|exact MCs.nil|apply MCs.cons|exact MC.ptr rfl|exact MC.vc (VC.imm (Imm.sl _)))));((assumption));((assumption));exact rfl;exact rfl)))
  (((refine zV _ [(0, some 3)] (.cons (y5 rfl rfl rfl zI rfl rfl rfl) (.cons (zN rfl) .nil)) ?_ rfl ?_)) <;> (repeat' (first|exact trivial|exact rfl|apply And.intro|refine oWs rfl rfl rfl ?_ ?_|(refine aIm ?_;(assumption)))))
  all_goals exact hsc.imm
def bookE : List Ent := [⟨[1048576], [123, 94, 115, 125]⟩]
def bookL : List Int := [1048576, 262144]
theorem book_ok : vL bookE bookL = true := by kernel_rfl
theorem vBook_ex (code : List UInt8) (hl : code.length ≤ 65536) : ∃ (es : List Ent) (l : List Int), qG es ∧ l.length ≤ 102 ∧ vL es l = true ∧
    PF Tryz.prog 19 [.c (.sl (code.map wY))] [⟨3, 1, l.map xE⟩] (.tup [.agg (wG es), .c (.ref 0 0 l.length)]) := by
  obtain ⟨es, l, hb, hll, hd⟩ := drawSg_ex code hl
  have hsc := xM l
  have hLl : (l.map xE).length = l.length := List.length_map _
  have i1 := xK (o := ⟨3, 1, l.map xE⟩) hsc.imm
  cases hm : vL es l with
  | true =>
    have hs : PF Tryz.prog 23 [.agg (wG es), .c (.sl (l.map xE))] [⟨58, 3, (seg es l).map wM⟩] (.tup [.c (.ref 0 0 (seg es l).length), .c (boo true)]) := specSegY_pf es l hb (by omega) hm
    have i2 := xK (o := ⟨58, 3, (seg es l).map wM⟩) (vS _).imm
    have hsg := vS (seg es l)
    have hsl := segF_len es l 0
    refine ⟨es, l, hb, hll, hm, ?_⟩
    refine PF.enter (xJ _) Tryz.func19 rfl (by kernel_rfl) _ _ rfl rfl rfl (fun w0 mu I0 β0 gi dis => ?_)
    (repeat' (first|(apply xW;((exact Want.none_ rfl)))|(apply xF zI;exact rfl;exact rfl)|((first|apply yB|apply yH)<;>(first|exact zI|exact rfl|refine yG ?_|exact lb rfl))|apply zR|apply AWp.Q|apply zH|apply AWp.G|apply AWp.J|apply AWp.R|(apply AWp.F;exact rfl;((exact rfl)))|(apply (yP (hd));(iterate 7 exact rfl);(focus (repeat ((exact All2.nil))));exact rfl;(focus (repeat (first|exact MAs.nil|apply MAs.cons|apply MA.c|exact MC.vc (VC.imm (Imm.sl _)))));((assumption));((exact xP));exact rfl;exact rfl)|(apply yA;(iterate 6 exact rfl);(iterate 2 (focus (repeat (first|exact VAs.nil|apply VAs.cons|apply VA.c|apply VA.agg|exact VCs.nil|apply VCs.cons|exact VC.imm (Imm.sl _)|(apply zA;exact rfl;exact rfl;((focus (simp;done)));exact rfl;((refine aIm ?_;assumption)))))));((exact hs));(focus (repeat (first|exact trivial|exact Flat.v _|exact Flat.ref _ _ _|apply And.intro)));((apply yK;(focus (repeat (first|exact trivial|apply And.intro|((assumption)))))));((exact yU _ _ _ _ _)))))
    (((refine zV _ [(0, some 1)] (.cons (y5 rfl rfl rfl zI rfl rfl rfl) (.cons (zN rfl) .nil)) ?_ rfl ?_)) <;> (repeat' (first|exact trivial|exact rfl|apply And.intro|refine oWs rfl rfl rfl ?_ ?_|(refine aIm ?_;(assumption)))))
    all_goals exact hsc.imm
  | false =>
    have hs := specSegN_pf es l hb (by omega) hm
    have i2 := xK (o := ⟨58, 3, []⟩) (vS []).imm
    refine ⟨bookE, bookL, dicOk_B (wR book_ok).1, by decide, book_ok, ?_⟩
    refine PF.enter (xJ _) Tryz.func19 rfl (by kernel_rfl) _ _ rfl rfl rfl (fun w0 mu I0 β0 gi dis => ?_)
    (repeat' (first|(apply xW;((exact Want.none_ rfl)))|(apply xF zI;exact rfl;exact rfl)|((first|apply y4|apply zU|apply yB|apply yH)<;>(first|exact zI|exact rfl|refine yG ?_|exact lb rfl|((try refine Bd.mk ?_);(focus (simp;done)))))|apply zR|apply AWp.Q|apply zH|apply AWp.G|(apply AWp.T;exact rfl;((exact rfl)))|(apply (yP (hd));(iterate 7 exact rfl);(focus (repeat ((exact All2.nil))));exact rfl;(focus (repeat (first|exact MAs.nil|apply MAs.cons|apply MA.c|exact MC.vc (VC.imm (Imm.sl _)))));((assumption));((exact xP));exact rfl;exact rfl)|(apply yA;(iterate 6 exact rfl);(iterate 2 (focus (repeat (first|exact VAs.nil|apply VAs.cons|apply VA.c|apply VA.agg|exact VCs.nil|apply VCs.cons|exact VC.imm (Imm.sl _)|(apply zA;exact rfl;exact rfl;((focus (simp;done)));exact rfl;((refine aIm ?_;assumption)))))));((exact hs));(focus (repeat (first|exact trivial|exact Flat.v _|exact Flat.ref _ _ _|apply And.intro)));((apply yK;(focus (repeat (first|exact trivial|apply And.intro|((exact AllSc.nil)))))));((exact yU _ _ _ _ _)))))
    refine AWp.weaken (s' := ⟨[(2, .c (.ptr 0 0 0)), (3, .c (.ref 1 0 2))], [(0, some ⟨35, 1, [wG bookE]⟩), (1, some ⟨3, 1, bookL.map xE⟩)], 2⟩) ?_ ?_
    · refine Weak.frz 4 5 (out' := ⟨82, 2, bookE.map xS⟩) qF rfl rfl rfl (xM [1048576]).imm rfl rfl ?_ ?_
      · exact .cons (.cons (.ref _ rfl) (.cons (.same _) .nil)) .nil
      · refine Weak.frz 5 0 (out' := ⟨35, 1, [wG bookE]⟩) qF rfl rfl rfl (wC _) rfl rfl ?_ ?_
        · exact .cons (.cons (.ref _ rfl) .nil) .nil
        · refine Weak.of [(0, some 0), (1, some 6)] rfl ?_ ?_ <;> (repeat' (first|exact trivial|exact rfl|apply And.intro|refine ⟨_,rfl,rfl,rfl,OW.one ?_⟩|refine oWs rfl rfl rfl ?_ ?_))
          all_goals first | exact (xM _).imm | skip
    · (repeat' (first|apply AWp.R|apply zK))
      (((refine zV _ [(0, some 1)] (.cons (y5 rfl rfl rfl zI rfl rfl rfl) (.cons (zN rfl) .nil)) ?_ rfl ?_)) <;> (repeat' (first|exact trivial|exact rfl|apply And.intro|refine oWs rfl rfl rfl ?_ ?_)))
      all_goals first | exact (xM _).imm | skip
end Go.Proofs.YtjeffognhcbiaaaGreatDoor
