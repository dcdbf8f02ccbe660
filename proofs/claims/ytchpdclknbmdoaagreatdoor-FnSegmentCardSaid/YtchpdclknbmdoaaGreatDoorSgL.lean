/- FnSegment returns true. No conditions but the bound that every argument keeps. -/
import Derived.Test.YtchpdclknbmdoaaGreatDoorSgH
import Derived.Test.YtchpdclknbmdoaaGreatDoorSgI
import Derived.Test.YtchpdclknbmdoaaGreatDoorSgK
namespace Go.Proofs.YtchpdclknbmdoaaGreatDoor
open Go Go.RowKit
theorem take_data (ps : List Pc) (n : Nat) : (ps.take n).map xQ = ((ps.map xQ).drop 0).take n := by rw [List.map_take, List.drop_zero]
theorem mt_seg {es : List Ent} {l : List Int} (h : mchOk es l = true) {p : Pc} (hp : p ∈ seg es l) : kK es l p.f = .tup [.agg (xQ p), .c (boo true)] := by
  obtain ⟨a, h1, h2, rfl⟩ := segF_mem l.length 0 (by omega) p hp
  have hz : inZ (mtc es l a).f 0 ((l.length : Int) - 1) = true := by rw [inZ, decide_eq_true_eq, h1]; omega
  rw [kK, mtR, h, hz, h1, Int.toNat_natCast]
  rfl
set_option maxHeartbeats 8000000 in
theorem segL_small (code : List UInt8) (hb : code.length ≤ 65536) : PF Tryz.prog 7 [.c (.sl (code.map wR))] [] (.c (boo true)) := by
  have h1 := vBig_pf code (by omega)
  rw [decide_eq_false (by omega)] at h1
  obtain ⟨es, l, hB, hll, hm, hd⟩ := vBook_ex code hb
  obtain ⟨es2, l2, f2, hB2, hll2, hd2⟩ := drawMt_ex code hb
  obtain ⟨es3, l3, ps3, n3, hB3, hll3, hps3, hn3, hd3⟩ := drawIs_ex code hb
  have hsc := xI l
  have hsc2 := xI l2
  have hsc3 := xI l3
  have hsp3 := wA ps3
  have i1 := y6 (o := ⟨3, 1, l.map yU⟩) hsc.imm
  have i2 := y6 (o := ⟨3, 1, l2.map yU⟩) hsc2.imm
  have i3 := vP (a := ⟨3, 1, l3.map yU⟩) (b := ⟨55, 3, ps3.map xQ⟩) hsc3.imm hsp3.imm
  have hLl : (l.map yU).length = l.length := List.length_map _
  have hLl2 : (l2.map yU).length = l2.length := List.length_map _
  have hLl3 : (l3.map yU).length = l3.length := List.length_map _
  have hLp3 : (ps3.map xQ).length = ps3.length := List.length_map _
  have hI : PF Tryz.prog 16 [.agg (x3 es), .c (.sl (l.map yU))] [⟨55, 3, (seg es l).map xQ⟩] (.tup [.c (.ref 0 0 (seg es l).length), .c (boo true)]) := implSegY_pf es l hB (by omega) hm
  have hS : PF Tryz.prog 43 [.agg (x3 es), .c (.sl (l.map yU))] [⟨55, 3, (seg es l).map xQ⟩] (.tup [.c (.ref 0 0 (seg es l).length), .c (boo true)]) := specSegY_pf es l hB (by omega) hm
  have hsl : (seg es l).length ≤ l.length := Nat.le_trans (segF_len es l 0) (by omega)
  have hY := implIsSegY_pf es l (seg es l) hB (by omega) (by omega) hm
  rw [isSg_seg] at hY
  have hV := vPieces_pf (seg es l) (by omega)
  have hMT : ∀ p ∈ seg es l, PF Tryz.prog 44 [.agg (x3 es), .c (.sl (l.map yU)), .c (int p.f)] [] (.tup [.agg (xQ p), .c (boo true)]) := fun p hp => by
    have h := implMt_pf es l p.f hB (by omega)
    rwa [mt_seg hm hp] at h
  have hM1 := implMt_pf es2 l2 f2 hB2 (by omega)
  have hM2 := specMt_pf es2 l2 f2 hB2 (by omega)
  rw [kK] at hM1 hM2
  have hG1 := implIsSegA_pf es3 l3 (ps3.take n3) hB3 (by omega) (by rw [List.length_take]; omega)
  have hG2 := specIsSegA_pf es3 l3 (ps3.take n3) hB3 (by omega) (by rw [List.length_take]; omega)
  rw [resSg, take_data] at hG1 hG2
  generalize mtR es2 l2 f2 = q at hM1 hM2
  generalize (mchOk es2 l2 && inZ f2 0 ((l2.length : Int) - 1)) = b2 at hM1 hM2
  generalize (mchOk es3 l3 && isSg es3 l3 0 (ps3.take n3)) = b3 at hG1 hG2
  generalize mchOk es3 l3 = b4 at hG1 hG2
  have hs1 := wA (seg es l)
  have hL1 : ((seg es l).map xQ).length = (seg es l).length := List.length_map _
  generalize seg es l = S at *
  refine PF.enter (xM _) Tryz.func7 rfl (by kernel_rfl) _ _ rfl rfl rfl (fun w0 mu I0 β0 gi dis => ?_)
  (repeat' (first|(apply xW;(first|exact Want.none_ rfl|(refine z6 rfl rfl rfl rfl ?_;((exact rfl)))))|(apply xF zI;exact rfl;exact rfl)|((first|apply zV|apply yE)<;>(first|exact zI|exact rfl|refine yI ?_|exact lb rfl))|(apply y4;exact rfl;exact rfl;((exact rfl));exact rfl;exact rfl)|apply zS|apply AWp.Q|apply zH|apply AWp.G|apply AWp.B|apply AWp.J|(apply AWp.F;exact rfl;((exact rfl)))|(apply (zZ (hd));(iterate 7 exact rfl);(focus (repeat ((exact All2.nil))));exact rfl;(focus (repeat (first|exact MAs.nil|apply MAs.cons|apply MA.c|exact MC.vc (VC.imm (Imm.sl _)))));((assumption));((exact xJ));exact rfl;exact rfl)|(apply yD;(iterate 6 exact rfl);(iterate 2 (focus (repeat (first|exact VAs.nil|apply VAs.cons|apply VA.c|apply VA.agg|exact VCs.nil|apply VCs.cons|exact VC.imm (Imm.sl _)|(apply zB;exact rfl;exact rfl;((focus (simp;done)));exact rfl;((refine aIm ?_;assumption)))))));(first|exact h1|exact hI|exact hS|exact hY|exact hV);(focus (repeat (first|exact trivial|exact Flat.v _|exact Flat.ref _ _ _|apply And.intro)));(first|apply yM|(apply yK;(focus (repeat (first|exact trivial|apply And.intro|((assumption)))))));(first|exact xE _ _|exact xB _ _ _|exact yX _ _ _ _ _))))
  refine AWp.U (σ := Nat) (fun k => ⟨[(0, .c (.sl (code.map wR))), (3, .c (.ptr 0 0 0)), (4, .c (.ref 1 0 l.length)), (5, .c (.ref 2 0 S.length)), (11, .c (int k))], [(0, some ⟨26, 1, [x3 es]⟩), (1, some ⟨3, 1, l.map yU⟩), (2, some ⟨55, 3, S.map xQ⟩)], 3⟩) (fun k => k ≤ S.length) (fun k => S.length - k) 0 (Nat.zero_le _) ?_ ?_
  · refine Weak.of [(0, some 1), (1, some 0), (2, some 2)] rfl ?_ ?_ <;> (repeat' (first|exact trivial|exact rfl|apply And.intro|refine ⟨_,rfl,rfl,rfl,OW.one ?_⟩|refine oWs rfl rfl rfl ?_ ?_|(refine aIm ?_;(assumption))))
    all_goals first | exact hsc.imm | exact hs1.imm | skip
  · rintro k hk
    by_cases hlt : k < S.length
    · obtain ⟨p, hp⟩ := xY hlt
      have hp' : (S.map xQ)[k]? = some (xQ p) := xS hp
      have hlt' : (k : Int) < (S.length : Int) := by omega
      have hmt := hMT p (List.mem_of_getElem? hp)
      (repeat' (first|(apply xW;(first|exact Want.none_ rfl|(refine z6 rfl rfl rfl rfl ?_;((exact rfl)))))|(apply xF zI;exact rfl;exact rfl)|((first|apply zW|(apply zU;exact rfl;exact rfl;exact zI;exact rfl;exact rfl)|apply zN|apply zV|apply yE)<;>(first|exact zI|exact Nat.zero_add _|exact rfl|refine yI ?_|assumption|exact lb rfl))|apply zS|(refine yN ?_ ?_;kernel_rfl)|apply AWp.Q|apply zH|apply AWp.G|apply AWp.B|apply AWp.J|(refine AWp.D ?_ ?_;kernel_rfl)|(apply AWp.T;exact rfl;((exact dT ‹_›)))|(apply yD;(iterate 6 exact rfl);(iterate 2 (focus (repeat (first|exact VAs.nil|apply VAs.cons|apply VA.c|apply VA.agg|exact VCs.nil|apply VCs.cons|exact VC.imm (Imm.v _)|exact VC.imm (Imm.sl _)|(apply zB;exact rfl;exact rfl;((focus (simp;done)));exact rfl;((refine aIm ?_;assumption)))))));((exact hmt));(focus (repeat (first|exact trivial|exact Flat.v _|apply And.intro)));((apply yM));((exact rfl)))))
      apply (rx_cmpA (neQ_run p p _ _))
      iterate 5 exact rfl
      rw [neQ_self]
      (repeat' (first|(apply xW;((exact Want.none_ rfl)))|(apply xF zI;exact rfl;exact rfl)|(((apply z8))<;>(first|exact rfl|refine yI ?_|omega))|(apply y4;exact rfl;exact rfl;((exact rfl));exact rfl;exact rfl)|apply zS|(refine yN ?_ ?_;kernel_rfl)|apply zH|apply AWp.G|apply AWp.J|apply zJ|(apply AWp.F;exact rfl;((exact rfl)))))
      refine ⟨k + 1, by omega, by omega, ?_⟩
      refine Weak.of [(0, some 0), (1, some 1), (2, some 2)] rfl ?_ ?_ <;> (repeat' (first|exact trivial|exact rfl|apply And.intro|refine ⟨_,rfl,rfl,rfl,OW.one ?_⟩|refine oWs rfl rfl rfl ?_ ?_|(refine aIm ?_;(assumption))))
      all_goals first | exact hsc.imm | exact hs1.imm | skip
    · have hlt' : ¬ (k : Int) < (S.length : Int) := by omega
      (repeat' (first|(apply xW;((exact Want.none_ rfl)))|(apply xF zI;exact rfl;exact rfl)|((first|apply zV|apply yE)<;>(first|exact zI|exact rfl|refine yI ?_|exact lb rfl))|apply zS|apply AWp.Q|apply zH|apply AWp.G|apply AWp.X|apply zR|apply zO|(apply AWp.F;exact rfl;((exact dF ‹_›)))|(apply (zZ (hd2));(iterate 7 exact rfl);(focus (repeat ((exact All2.nil))));exact rfl;(focus (repeat (first|exact MAs.nil|apply MAs.cons|apply MA.c|exact MC.vc (VC.imm (Imm.sl _)))));((assumption));((exact xJ));exact rfl;exact rfl)|(apply yD;(iterate 6 exact rfl);(iterate 2 (focus (repeat (first|exact VAs.nil|apply VAs.cons|apply VA.c|apply VA.agg|exact VCs.nil|apply VCs.cons|exact VC.imm (Imm.v _)|exact VC.imm (Imm.sl _)|(apply zB;exact rfl;exact rfl;((focus (simp;done)));exact rfl;((refine aIm ?_;assumption)))))));(first|exact hM1|exact hM2);(focus (repeat (first|exact trivial|exact Flat.v _|apply And.intro)));((apply yM));((exact rfl)))))
      apply (rx_cmpA (neQ_run q q _ _))
      iterate 5 exact rfl
      rw [neQ_self]
      (repeat' (first|(apply xW;(first|exact Want.none_ rfl|(refine z6 rfl rfl rfl rfl ?_;(first|exact dT ‹_›|exact rfl))))|(apply xF zI;exact rfl;exact rfl)|((first|apply zV|apply yE)<;>(first|exact zI|exact rfl|refine yI ?_|exact lb rfl))|(apply y4;exact rfl;exact rfl;(first|exact dT ‹_›|exact dF ‹_›|exact rfl);exact rfl;exact rfl)|(apply y3;(iterate 5 exact rfl);((exact dF ‹_›)))|apply zS|apply AWp.Q|apply zH|apply AWp.G|apply AWp.J|apply AWp.R|apply zK|(apply (zZ (hd3));(iterate 7 exact rfl);(focus (repeat ((exact All2.nil))));exact rfl;(focus (repeat (first|exact MAs.nil|apply MAs.cons|apply MA.c|exact MC.vc (VC.imm (Imm.sl _)))));((assumption));((exact xJ));exact rfl;exact rfl)|(apply yD;(iterate 6 exact rfl);(iterate 2 (focus (repeat (first|exact VAs.nil|apply VAs.cons|apply VA.c|apply VA.agg|exact VCs.nil|apply VCs.cons|exact VC.imm (Imm.sl _)|(apply zB;exact rfl;exact rfl;((focus (simp;done)));exact rfl;((refine aIm ?_;assumption)))|(apply zC;exact rfl;exact rfl;((focus (simp only [lA,lB,lC,lD,lE];omega)));exact rfl;((refine aIm ?_;assumption)))))));(first|exact hG1|exact hG2);(focus (repeat (first|exact trivial|exact Flat.v _|apply And.intro)));((apply yM));((exact xB _ _ _)))|(((refine z7 rfl rfl rfl ?_ ?_))<;>intro hp<;>try (exfalso;omega))|(((refine AWp.C rfl ?_ ?_))<;>intro hp<;>try (exfalso;omega))))
      all_goals first | (exfalso; simp at *; done) | skip
      all_goals
        (((refine zX _ [] (.cons (zP rfl) .nil) ?_ rfl ?_)) <;> (repeat' (first|exact trivial|refine vwB ?_)))
      all_goals exact decide_eq_true rfl
theorem lawSegment_pf (code : List UInt8) (hc : code.length ≤ 9223372036854775807) : PF Tryz.prog 7 [.c (.sl (code.map wR))] [] (.c (boo true)) := by
  have h1 := vBig_pf code hc
  by_cases hb : 65536 < code.length
  · rw [decide_eq_true (by omega)] at h1
    refine PF.enter (xM _) Tryz.func7 rfl (by kernel_rfl) _ _ rfl rfl rfl (fun w0 mu I0 β0 gi dis => ?_)
    (repeat' (first|(apply xW;((exact Want.none_ rfl)))|(apply xF zI;exact rfl;exact rfl)|apply zS|apply AWp.Q|apply zH|apply AWp.G|apply AWp.R|apply zK|(apply AWp.T;exact rfl;((exact rfl)))|(apply yD;(iterate 6 exact rfl);(iterate 2 (focus (repeat (first|exact VAs.nil|apply VAs.cons|apply VA.c|exact VCs.nil|exact VC.imm (Imm.sl _)))));((exact h1));(focus (repeat ((exact Flat.v _))));((apply yM));((exact xE _ _)))))
    (((refine zX _ [] (.cons (zP rfl) .nil) ?_ rfl ?_)) <;> (repeat' (first|exact trivial|exact rfl)))
  · exact segL_small code (by omega)
end Go.Proofs.YtchpdclknbmdoaaGreatDoor
