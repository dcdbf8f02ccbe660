/- FnScreen returns true. No conditions but the bound that every argument keeps. -/
import Derived.Test.YtjeffognhcbiaaaGreatDoorScO
import Derived.Test.YtjeffognhcbiaaaGreatDoorSgG
namespace Go.Proofs.YtjeffognhcbiaaaGreatDoor
open Go Go.RowKit
set_option maxHeartbeats 8000000 in
theorem scrL_small (code : List UInt8) (hb : code.length ≤ 65536) : PF Tryz.prog 4 [.c (.sl (code.map wY))] [] (.c (boo true)) := by
  have h1 := vBig_pf code (by omega)
  rw [decide_eq_false (by omega)] at h1
  obtain ⟨es, l, hB, hll, hm, hd⟩ := vBook_ex code hb
  have hsc := xM l
  have i1 := xK (o := ⟨3, 1, l.map xE⟩) hsc.imm
  have hLl : (l.map xE).length = l.length := List.length_map _
  have hA := implScr_pf es l hB (by omega) hm
  have hZ := specScr_pf es l hB (by omega) hm
  have hI : PF Tryz.prog 22 [.agg (wG es), .c (.sl (l.map xE))] [⟨58, 3, (seg es l).map wM⟩] (.tup [.c (.ref 0 0 (seg es l).length), .c (boo true)]) := implSegY_pf es l hB (by omega) hm
  have hS : PF Tryz.prog 23 [.agg (wG es), .c (.sl (l.map xE))] [⟨58, 3, (seg es l).map wM⟩] (.tup [.c (.ref 0 0 (seg es l).length), .c (boo true)]) := specSegY_pf es l hB (by omega) hm
  have hps60 : (seg es l).length ≤ 60 := by
    have h2 := segF_len es l 0
    have h3 := (wR hm).2.2.1
    rw [seg]; omega
  have hok := seg_ok hm
  obtain ⟨hRl, hRt⟩ := atL_bd hm
  have hR := render_pf (atL es l) hRl hRt
  have hK : atK l (seg es l) (seg es l).length = atL es l := rfl
  generalize scrT (atL es l) = T at *
  generalize scrOk (atL es l) = B at *
  generalize atL es l = L at *
  have hs1 := vS (seg es l)
  have hL1 : ((seg es l).map wM).length = (seg es l).length := List.length_map _
  generalize seg es l = S at *
  refine PF.enter (xJ _) Tryz.func4 rfl (by kernel_rfl) _ _ rfl rfl rfl (fun w0 mu I0 β0 gi dis => ?_)
  (repeat' (first|(apply xW;(first|exact Want.none_ rfl|(refine zX rfl rfl rfl rfl ?_;((exact dF ‹_›)))))|(apply xF zI;exact rfl;exact rfl)|((first|apply yB|apply yH)<;>(first|exact zI|exact rfl|refine yG ?_|exact lb rfl))|(apply yR;exact rfl;exact rfl;(first|exact dT ‹_›|exact dF ‹_›);exact rfl;exact rfl)|(apply yS;(iterate 5 exact rfl);((exact dT ‹_›)))|apply zR|apply AWp.Q|apply zH|apply AWp.G|apply AWp.J|apply AWp.R|apply zK|(apply AWp.T;exact rfl;((exact rfl)))|(apply AWp.F;exact rfl;((exact rfl)))|(apply (yP (hd));(iterate 7 exact rfl);(focus (repeat ((exact All2.nil))));exact rfl;(focus (repeat (first|exact MAs.nil|apply MAs.cons|apply MA.c|exact MC.vc (VC.imm (Imm.sl _)))));((assumption));((exact xP));exact rfl;exact rfl)|(apply yA;(iterate 6 exact rfl);(iterate 2 (focus (repeat (first|exact VAs.nil|apply VAs.cons|apply VA.c|apply VA.agg|exact VCs.nil|apply VCs.cons|exact VC.imm (Imm.sl _)|(apply zA;exact rfl;exact rfl;((focus (simp;done)));exact rfl;((refine aIm ?_;assumption)))))));(first|exact h1|exact hA|exact hZ);(focus (repeat (first|exact trivial|exact Flat.v _|apply And.intro)));((apply yJ));(first|exact xB _ _|exact xC _ _ _))|(((refine zT rfl rfl rfl ?_ ?_))<;>intro hp<;>try (exfalso;omega))|(((refine AWp.C rfl ?_ ?_))<;>intro hp<;>try (exfalso;omega))))
  all_goals first | (exfalso; simp at *; done) | skip
  (repeat' (first|(apply xW;((exact Want.none_ rfl)))|(apply xF zI;exact rfl;exact rfl)|(((apply zU))<;>(first|exact zI|exact rfl|refine yG ?_))|apply zR|apply AWp.Q|apply zH|apply AWp.G|apply AWp.B|apply AWp.J|(apply yA;(iterate 6 exact rfl);(iterate 2 (focus (repeat (first|exact VAs.nil|apply VAs.cons|apply VA.c|apply VA.agg|exact VCs.nil|apply VCs.cons|exact VC.imm (Imm.sl _)|(apply zA;exact rfl;exact rfl;((focus (simp;done)));exact rfl;((refine aIm ?_;assumption)))))));(first|exact hI|exact hS);(focus (repeat (first|exact trivial|exact Flat.v _|exact Flat.ref _ _ _|apply And.intro)));((apply yK;(focus (repeat (first|exact trivial|apply And.intro|((assumption)))))));((exact yU _ _ _ _ _)))|(((refine AWp.C rfl ?_ ?_))<;>intro hp<;>try (exfalso;omega))))
  all_goals first | (exfalso; simp at *; done) | skip
  refine AWp.U (σ := Nat) (fun k => ⟨[(3, .c (.ptr 0 0 0)), (4, .c (.ref 1 0 l.length)), (5, .c (str T)), (6, .c (boo B)), (9, .c (.ref 2 0 S.length)), (11, .c (.ref 3 0 S.length)), (13, .c (.ref 4 0 (atK l S k).length)), (14, .c (int k))], [(0, some ⟨35, 1, [wG es]⟩), (1, some ⟨3, 1, l.map xE⟩), (2, some ⟨58, 3, S.map wM⟩), (3, some ⟨58, 3, S.map wM⟩), (4, some ⟨63, 2, (atK l S k).map xL⟩)], 5⟩) (fun k => k ≤ S.length) (fun k => S.length - k) 0 (Nat.zero_le _) ?_ ?_
  · refine Weak.of [(0, some 1), (1, some 0), (2, some 2), (3, some 3), (4, some 4)] rfl ?_ ?_ <;> (repeat' (first|exact trivial|exact rfl|apply And.intro|refine ⟨_,rfl,rfl,rfl,OW.one ?_⟩|refine oWs rfl rfl rfl ?_ ?_|(refine aIm ?_;first|exact AllSc.nil|assumption)))
    all_goals first | exact hsc.imm | exact hs1.imm | skip
  · rintro k hk
    have hAl := (qY hok k hk).1
    have hLA : ((atK l S k).map xL).length = (atK l S k).length := List.length_map _
    have hsA := xZ (atK l S k)
    by_cases hlt : k < S.length
    · obtain ⟨p, hp⟩ := xT hlt
      have hp' : (S.map wM)[k]? = some (wM p) := xY hp
      have hlt' : (k : Int) < (S.length : Int) := by omega
      have hpo := hok p (List.mem_of_getElem? hp)
      have hN := atK_succ (l := l) hp
      by_cases ht : p.t = []
      · obtain ⟨a, n, g1, g2, g3, g4⟩ := hpo.ix
        have g2' : (l.map xE)[a]? = some [int (n : Int)] := xY g2
        have hal : a < l.length := (List.getElem?_eq_some_iff.1 g2).1
        have hal' : (a : Int) < ((l.map xE).length : Int) := by omega
        have hr := formatStroke_pf n g4 g3
        have hfl : (fmt n).length ≤ 46 := fmt_len n
        obtain ⟨b, u, e, hu⟩ := fmt_front g3 g4
        rw [atP_raw ht g1 g2, e] at hN
        rw [e] at hr hfl
        have hb : (b :: u)[0]? = some b := rfl
        have hul : u.length ≤ 46 := by simp at hfl; omega
        have hl1 : 1 ≤ (b :: u).length := by simp
        by_cases h35 : ((b.toNat : Nat) : Int) = 35
        · have tk : List.take ((b :: u).length - 1) (List.drop 1 (b :: u)) = u := by simp
          rw [show rawL (b :: u) = 61 :: u from if_pos h35] at hN
          generalize atK l S k = J at *
          (repeat' (first|(apply xW;((exact Want.none_ rfl)))|(apply xF zI;exact rfl;exact rfl)|((first|apply yD|(apply z7;exact rfl;exact rfl;exact zI;exact rfl;exact rfl)|apply zP)<;>(first|exact zI|exact Nat.zero_add _|exact rfl|refine yG ?_|assumption|exact lb rfl))|apply zR|apply AWp.Q|apply zH|apply AWp.G|apply AWp.B|apply AWp.J|(refine AWp.D ?_ ?_;kernel_rfl)|(apply AWp.T;exact rfl;((exact dT ‹_›)))|(((refine AWp.C rfl ?_ ?_))<;>intro hp<;>try (exfalso;omega))))
          all_goals first | exact absurd ht (by assumption) | skip
          apply (rx_cmpA (neQ_run p p _ _))
          iterate 5 exact rfl
          rw [neQ_self]
          (repeat' (first|(apply xW;(first|exact Want.none_ rfl|(refine zX rfl rfl rfl rfl ?_;((exact dT ‹_›)))))|(apply xF zI;exact rfl;exact rfl)|((first|(apply z6;exact rfl;exact rfl)|apply zZ|apply xD|apply yD|(apply z7;exact rfl;exact rfl;exact zI;exact rfl;exact rfl)|apply y4|apply zU|(apply yZ;exact rfl;exact rfl)|(apply yM;exact rfl;exact rfl))<;>(first|exact zI|exact Nat.zero_add _|exact rfl|refine yG ?_|assumption|omega|exact ⟨rfl⟩|exact ⟨rfl,_,_,rfl,rfl⟩|(refine Bd.mk ?_;first|(focus (simp;done))|(simp;omega))|exact xH rfl))|(apply yR;exact rfl;exact rfl;((exact dT ‹_›));exact rfl;exact rfl)|apply zR|(refine yT ?_ ?_;kernel_rfl)|apply AWp.Q|apply zH|apply AWp.G|apply AWp.J|apply zJ|(apply AWp.T;exact rfl;((exact dT ‹_›)))|(apply AWp.F;exact rfl;((exact rfl)))|(apply yA;(iterate 6 exact rfl);(iterate 2 (focus (repeat (first|exact VAs.nil|apply VAs.cons|apply VA.c|exact VCs.nil|exact VC.imm (Imm.v _)))));((exact hr));(focus (repeat (first|exact trivial|exact Flat.v _|apply And.intro)));((apply yJ));((exact xC _ _ _)))|(((refine zT rfl rfl rfl ?_ ?_))<;>intro hp<;>try (exfalso;omega))))
          refine ⟨k + 1, by omega, by omega, ?_⟩
          rw [hN, wI]
          refine Weak.of [(0, some 0), (1, some 1), (2, some 2), (3, some 3), (4, some 6)] rfl ?_ ?_ <;> (repeat' (first|exact trivial|exact rfl|apply And.intro|(refine z8 ?_;(focus (simp;done)))|refine ⟨_,rfl,rfl,rfl,OW.one ?_⟩|refine oWs rfl rfl rfl ?_ ?_|(refine aIm ?_;(assumption))))
          all_goals first | exact hsc.imm | exact hs1.imm | (rw [← wI]; exact (xZ _).imm) | (rw [tk]; rfl) | (rw [hLA]; simp; done) | (simp; done) | skip
        · rw [show rawL (b :: u) = b :: u from if_neg h35] at hN
          generalize atK l S k = J at *
          (repeat' (first|(apply xW;((exact Want.none_ rfl)))|(apply xF zI;exact rfl;exact rfl)|((first|apply yD|(apply z7;exact rfl;exact rfl;exact zI;exact rfl;exact rfl)|apply zP)<;>(first|exact zI|exact Nat.zero_add _|exact rfl|refine yG ?_|assumption|exact lb rfl))|apply zR|apply AWp.Q|apply zH|apply AWp.G|apply AWp.B|apply AWp.J|(refine AWp.D ?_ ?_;kernel_rfl)|(apply AWp.T;exact rfl;((exact dT ‹_›)))|(((refine AWp.C rfl ?_ ?_))<;>intro hp<;>try (exfalso;omega))))
          all_goals first | exact absurd ht (by assumption) | skip
          apply (rx_cmpA (neQ_run p p _ _))
          iterate 5 exact rfl
          rw [neQ_self]
          (repeat' (first|(apply xW;(first|exact Want.none_ rfl|(refine zX rfl rfl rfl rfl ?_;((exact dT ‹_›)))))|(apply xF zI;exact rfl;exact rfl)|((first|apply zZ|apply xD|apply yD|(apply z7;exact rfl;exact rfl;exact zI;exact rfl;exact rfl)|apply y4|apply zU|(apply yZ;exact rfl;exact rfl))<;>(first|exact zI|exact Nat.zero_add _|exact rfl|refine yG ?_|assumption|omega|(refine Bd.mk ?_;first|(focus (simp;done))|(simp;omega))|exact xH rfl))|(apply yR;exact rfl;exact rfl;((exact dT ‹_›));exact rfl;exact rfl)|apply zR|(refine yT ?_ ?_;kernel_rfl)|apply AWp.Q|apply zH|apply AWp.G|apply AWp.J|apply zJ|(apply AWp.F;exact rfl;(first|exact dF ‹_›|exact rfl))|(apply yA;(iterate 6 exact rfl);(iterate 2 (focus (repeat (first|exact VAs.nil|apply VAs.cons|apply VA.c|exact VCs.nil|exact VC.imm (Imm.v _)))));((exact hr));(focus (repeat (first|exact trivial|exact Flat.v _|apply And.intro)));((apply yJ));((exact xC _ _ _)))|(((refine zT rfl rfl rfl ?_ ?_))<;>intro hp<;>try (exfalso;omega))))
          refine ⟨k + 1, by omega, by omega, ?_⟩
          rw [hN, wI]
          refine Weak.of [(0, some 0), (1, some 1), (2, some 2), (3, some 3), (4, some 6)] rfl ?_ ?_ <;> (repeat' (first|exact trivial|exact rfl|apply And.intro|(refine z8 ?_;(focus (simp;done)))|refine ⟨_,rfl,rfl,rfl,OW.one ?_⟩|refine oWs rfl rfl rfl ?_ ?_|(refine aIm ?_;(assumption))))
          all_goals first | exact hsc.imm | exact hs1.imm | (rw [← wI]; exact (xZ _).imm) | (rw [hLA]; simp; done) | (simp; done) | skip
      · have htr := hpo.tr.resolve_left ht
        have hq := parseTr_pf p.t (by have := (qC htr).1; omega)
        rw [htr, trI_ok htr] at hq
        have htl := (trR_len htr).1
        rw [atP_tr ht] at hN
        have hLr : ((trR p.t).map xL).length = (trR p.t).length := List.length_map _
        have h2 := atms_two (trR p.t)
        have hsr := xZ (trR p.t)
        generalize trR p.t = R at *
        generalize atK l S k = J at *
        have i0 : ∀ obj : AObj, some obj ∈ ([] : List (Option AObj)) → ∀ x ∈ obj.els, ∀ c ∈ x, Imm c := fun _ h => by cases h
        (repeat' (first|(apply xW;((exact Want.none_ rfl)))|(apply xF zI;exact rfl;exact rfl)|((first|apply zZ|apply yD|(apply z7;exact rfl;exact rfl;exact zI;exact rfl;exact rfl)|(apply yZ;exact rfl;exact rfl))<;>(first|exact zI|exact Nat.zero_add _|exact rfl|refine yG ?_|assumption|omega|(refine Bd.mk ?_;first|assumption|omega)))|apply zR|apply AWp.Q|apply zH|apply AWp.G|apply AWp.B|apply AWp.J|apply AWp.X|apply zQ|apply zO|(apply AWp.T;exact rfl;((exact dT ‹_›)))|(apply (yP (hq));(iterate 7 exact rfl);(focus (repeat ((exact All2.nil))));exact rfl;(focus (repeat (first|exact MAs.nil|apply MAs.cons|apply MA.c|exact MC.vc (VC.imm (Imm.v _)))));((assumption));((exact xP));exact rfl;exact rfl)))
        refine ⟨k + 1, by omega, by omega, ?_⟩
        rw [hN, List.map_append]
        refine Weak.of [(0, some 0), (1, some 1), (2, some 2), (3, some 3), (4, some 5)] rfl ?_ ?_ <;> (repeat' (first|exact trivial|exact rfl|apply And.intro|(refine z8 ?_;(focus (simp;done)))|refine ⟨_,rfl,rfl,rfl,OW.one ?_⟩|refine oWs rfl rfl rfl ?_ ?_|(refine aIm ?_;(assumption))))
        all_goals first | exact hsc.imm | exact hs1.imm | (rw [← List.map_append]; exact (xZ _).imm) | (rw [hLA]; simp; done) | (simp; done) | skip
    · have hlt' : ¬ (k : Int) < (S.length : Int) := by omega
      obtain rfl : k = S.length := by omega
      rw [hK] at hAl hLA hsA ⊢
      (repeat' (first|(apply xW;(first|exact Want.none_ rfl|(refine zX rfl rfl rfl rfl ?_;((exact dT ‹_›)))))|(apply xF zI;exact rfl;exact rfl)|(apply yR;exact rfl;exact rfl;(first|exact dT ‹_›|exact dF ‹_›);exact rfl;exact rfl)|(apply yS;(iterate 5 exact rfl);((exact dF ‹_›)))|apply zR|apply AWp.Q|apply zH|apply AWp.G|apply AWp.X|apply AWp.R|apply zQ|apply zO|(apply AWp.F;exact rfl;((exact dF ‹_›)))|(apply yA;(iterate 6 exact rfl);(iterate 2 (focus (repeat (first|exact VAs.nil|apply VAs.cons|apply VA.c|exact VCs.nil|(apply zA;exact rfl;exact rfl;((focus (simp;done)));exact rfl;((refine aIm ?_;assumption)))))));((exact hR));(focus (repeat (first|exact trivial|exact Flat.v _|apply And.intro)));((apply yJ));((exact xC _ _ _)))|(((refine zT rfl rfl rfl ?_ ?_))<;>intro hp<;>try (exfalso;omega))))
      all_goals first | (exfalso; simp at *; done) | skip
      all_goals
        (((refine zV _ [] (.cons (zN rfl) .nil) ?_ rfl ?_)) <;> (repeat' (first|exact trivial|refine vwB ?_)))
      all_goals first | exact decide_eq_true rfl | (simp; done) | skip
theorem lawScreen_pf (code : List UInt8) (hc : code.length ≤ 9223372036854775807) : PF Tryz.prog 4 [.c (.sl (code.map wY))] [] (.c (boo true)) := by
  have h1 := vBig_pf code hc
  by_cases hb : 65536 < code.length
  · rw [decide_eq_true (by omega)] at h1
    refine PF.enter (xJ _) Tryz.func4 rfl (by kernel_rfl) _ _ rfl rfl rfl (fun w0 mu I0 β0 gi dis => ?_)
    (repeat' (first|(apply xW;((exact Want.none_ rfl)))|(apply xF zI;exact rfl;exact rfl)|apply zR|apply AWp.Q|apply zH|apply AWp.G|apply AWp.R|apply zK|(apply AWp.T;exact rfl;((exact rfl)))|(apply yA;(iterate 6 exact rfl);(iterate 2 (focus (repeat (first|exact VAs.nil|apply VAs.cons|apply VA.c|exact VCs.nil|exact VC.imm (Imm.sl _)))));((exact h1));(focus (repeat ((exact Flat.v _))));((apply yJ));((exact xB _ _)))))
    (((refine zV _ [] (.cons (zN rfl) .nil) ?_ rfl ?_)) <;> (repeat' (first|exact trivial|exact rfl)))
  · exact scrL_small code (by omega)
end Go.Proofs.YtjeffognhcbiaaaGreatDoor
