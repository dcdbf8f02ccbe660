/- Longest matches and segmentations, by both programs. No conditions but bounds of lengths. -/
import Derived.Test.YtjeffognhcbiaaaGreatDoorDvB
namespace Go.Proofs.YtjeffognhcbiaaaGreatDoor
open Go Go.RowKit
theorem ints_one (l : List Int) : ∀ x ∈ l.map xE, x.length = 1 := by
  intro x hx
  obtain ⟨i, _, rfl⟩ := List.mem_map.1 hx
  rfl
def qI (l : List Int) : Bool := decide (l.length ≤ 60) && l.all okS
theorem l11Strokes_pf (l : List Int) (hl : l.length ≤ 4000000) : PF Tryz.prog 48 [.c (.sl (l.map xE))] [] (.c (boo (qI l))) := by
  have hL : (l.map xE).length = l.length := List.length_map _
  refine PF.enter (xJ _) Tryz.func48 rfl (by kernel_rfl) _ _ rfl rfl rfl (fun w0 mu I0 β0 gi dis => ?_)
  (repeat' (first|(apply xW;((exact Want.none_ rfl)))|(apply xF zI;exact rfl;exact rfl)|apply zR|apply AWp.Q|apply zH|apply AWp.G|apply AWp.B))
  refine AWp.U (σ := Nat) (fun k => ⟨[(0, .c (.sl (l.map xE))), (3, .c (int k))], [], 0⟩) (fun k => k ≤ l.length ∧ k ≤ 61 ∧ (l.take k).all okS = true) (fun k => l.length - k) 0 ⟨Nat.zero_le _, Nat.zero_le _, rfl⟩ ?_ ?_
  · refine Weak.of [] rfl ?_ ?_ <;> (repeat' (first|exact trivial|exact rfl|apply And.intro))
  · rintro k ⟨hk, hk2, hall⟩
    by_cases hlt : k < l.length ∧ k ≤ 60
    · obtain ⟨c, hc⟩ := xT hlt.1
      have hc' : (l.map xE)[k]? = some (xE c) := xY hc
      have hlt' : (k : Int) < ((l.map xE).length : Int) := by omega
      have hlt2 : (k : Int) ≤ 60 := by omega
      have hg := okS2_pf c
      cases hok : okS c with
      | false =>
        rw [hok] at hg
        have e : qI l = false := by rw [qI, vK hc hok, Bool.and_false]
        rw [e]
        (repeat' (first|(apply xW;(first|exact Want.none_ rfl|(refine zX rfl rfl rfl rfl ?_;((exact dT ‹_›)))))|(apply xF zI;exact rfl;exact rfl)|(((apply yN;exact rfl;exact rfl))<;>(first|exact zI|exact Nat.zero_add _|exact rfl|refine yG ?_|assumption))|(apply yR;exact rfl;exact rfl;((exact dT ‹_›));exact rfl;exact rfl)|apply zR|apply AWp.Q|apply zH|apply AWp.G|apply AWp.B|apply AWp.J|apply AWp.R|apply zK|apply zL|(apply AWp.T;exact rfl;(first|exact dT ‹_›|exact rfl))|(apply yA;(iterate 6 exact rfl);(iterate 2 (focus (repeat (first|exact VAs.nil|apply VAs.cons|apply VA.c|exact VCs.nil|exact VC.imm (Imm.v _)))));((exact hg));(focus (repeat ((exact Flat.v _))));((apply yJ));((exact xB _ _)))))
        (((refine zV _ [] (.cons (zN rfl) .nil) ?_ rfl ?_)) <;> (repeat' (first|exact trivial|exact rfl)))
      | true =>
        rw [hok] at hg
        (repeat' (first|(apply xW;(first|exact Want.none_ rfl|(refine zX rfl rfl rfl rfl ?_;((exact dT ‹_›)))))|(apply xF zI;exact rfl;exact rfl)|((first|apply zZ|(apply yN;exact rfl;exact rfl))<;>(first|exact zI|exact Nat.zero_add _|exact rfl|refine yG ?_|assumption|omega))|(apply yR;exact rfl;exact rfl;((exact dT ‹_›));exact rfl;exact rfl)|apply zR|apply AWp.Q|apply zH|apply AWp.G|apply AWp.B|apply AWp.J|apply zJ|(apply AWp.T;exact rfl;((exact dT ‹_›)))|(apply AWp.F;exact rfl;((exact rfl)))|(apply yA;(iterate 6 exact rfl);(iterate 2 (focus (repeat (first|exact VAs.nil|apply VAs.cons|apply VA.c|exact VCs.nil|exact VC.imm (Imm.v _)))));((exact hg));(focus (repeat ((exact Flat.v _))));((apply yJ));((exact xB _ _)))))
        refine ⟨k + 1, ⟨by omega, by omega, by rw [x5 hc, hall, hok]; rfl⟩, by omega, ?_⟩
        refine Weak.of [] rfl ?_ ?_ <;> (repeat' (first|exact trivial|exact rfl|apply And.intro))
    · by_cases h1 : k < l.length
      · have h1' : (k : Int) < ((l.map xE).length : Int) := by omega
        have h2' : ¬ (k : Int) ≤ 60 := by omega
        have e : qI l = false := by rw [qI, decide_eq_false (by omega), Bool.false_and]
        rw [e]
        (repeat' (first|(apply xW;(first|exact Want.none_ rfl|(refine zX rfl rfl rfl rfl ?_;((exact dT ‹_›)))))|(apply xF zI;exact rfl;exact rfl)|(apply yR;exact rfl;exact rfl;((exact dT ‹_›));exact rfl;exact rfl)|apply zR|apply AWp.Q|apply zH|apply AWp.G|apply AWp.X|apply AWp.R|apply zQ|apply zO|(apply AWp.F;exact rfl;((exact dF ‹_›)))))
        (((refine zV _ [] (.cons (zN rfl) .nil) ?_ rfl ?_)) <;> (repeat' (first|exact trivial|refine vwB ?_)))
        exact decide_eq_false (by omega)
      · have h1' : ¬ (k : Int) < ((l.map xE).length : Int) := by omega
        obtain rfl : k = l.length := by omega
        rw [List.take_of_length_le (Nat.le_refl _)] at hall
        rw [qI, hall, Bool.and_true]
        (repeat' (first|(apply xW;((exact Want.none_ rfl)))|(apply xF zI;exact rfl;exact rfl)|(apply yR;exact rfl;exact rfl;((exact dF ‹_›));exact rfl;exact rfl)|(apply yS;(iterate 5 exact rfl);((exact dF ‹_›)))|apply zR|apply AWp.Q|apply zH|apply AWp.G|apply AWp.X|apply AWp.R|apply zQ|apply zO|(apply AWp.F;exact rfl;((exact rfl)))))
        (((refine zV _ [] (.cons (zN rfl) .nil) ?_ rfl ?_)) <;> (repeat' (first|exact trivial|refine vwB ?_)))
        rw [Bool.eq_iff_iff, decide_eq_true_eq, decide_eq_true_eq]; omega
theorem isStrokeList_pf (l : List Int) (hl : l.length ≤ 4000000) : PF Tryz.prog 72 [.c (.sl (l.map xE))] [] (.c (boo (qI l))) := by
  have hL : (l.map xE).length = l.length := List.length_map _
  have ha := allI_pf l 52 okS hl (fun c _ => okSI_pf c)
  by_cases h : l.length ≤ 60
  · have h' : ((l.map xE).length : Int) ≤ 60 := by omega
    rw [qI, decide_eq_true h, Bool.true_and]
    refine PF.enter (xJ _) Tryz.func72 rfl (by kernel_rfl) _ _ rfl rfl rfl (fun w0 mu I0 β0 gi dis => ?_)
    (repeat' (first|(apply xW;(first|exact Want.none_ rfl|(refine zX rfl rfl rfl rfl ?_;((exact dT ‹_›)))))|(apply xF zI;exact rfl;exact rfl)|(apply yR;exact rfl;exact rfl;((exact dT ‹_›));exact rfl;exact rfl)|apply zR|apply AWp.Q|apply zH|apply AWp.G|apply AWp.R|(apply yA;(iterate 6 exact rfl);(iterate 2 (focus (repeat (first|exact VAs.nil|apply VAs.cons|apply VA.c|exact VCs.nil|exact VC.imm (Imm.sl _)|apply VC.fn))));((exact ha));(focus (repeat ((exact Flat.v _))));((apply yJ));((exact xB _ _)))))
    (((refine zV _ [] (.cons (zN rfl) .nil) ?_ rfl ?_)) <;> (repeat' (first|exact trivial|exact rfl)))
  · have h' : ¬ ((l.map xE).length : Int) ≤ 60 := by omega
    rw [qI, decide_eq_false h, Bool.false_and]
    refine PF.enter (xJ _) Tryz.func72 rfl (by kernel_rfl) _ _ rfl rfl rfl (fun w0 mu I0 β0 gi dis => ?_)
    (repeat' (first|(apply xW;((exact Want.none_ rfl)))|(apply xF zI;exact rfl;exact rfl)|(apply yR;exact rfl;exact rfl;((exact dF ‹_›));exact rfl;exact rfl)|(apply yS;(iterate 5 exact rfl);((exact dF ‹_›)))|apply zR|apply AWp.Q|apply zH|apply AWp.G|apply AWp.R))
    (((refine zV _ [] (.cons (zN rfl) .nil) ?_ rfl ?_)) <;> (repeat' (first|exact trivial|exact rfl)))
theorem cut_map (l : List Int) (f n : Nat) : (cut l f n).map xE = ((l.map xE).drop f).take (f + n - f) := by
  rw [cut, List.map_take, List.map_drop, Nat.add_sub_cancel_left]
theorem mtL_hit {es : List Ent} {l : List Int} {f n : Nat} (h : f + (n + 1) ≤ l.length) (h2 : hasE es (cut l f (n + 1)) = true) : mtL es l f (n + 1) = ⟨f, (n + 1 : Nat), txtE es (cut l f (n + 1))⟩ := by rw [mtL, if_pos ⟨h, h2⟩]
theorem mtL_no {es : List Ent} {l : List Int} {f n : Nat} (h2 : hasE es (cut l f (n + 1)) = false) : mtL es l f (n + 1) = mtL es l f n := by rw [mtL, if_neg (fun h => by rw [h2] at h; cases h.2)]
theorem l11Match_pf (es : List Ent) (l : List Int) (f : Nat) (hb : qG es) (hl : l.length ≤ 4000000) (hf : f ≤ l.length) : PF Tryz.prog 59 [.agg (wG es), .c (.sl (l.map xE)), .c (int f)] [] (.agg (wM (mtc es l f))) := by
  have h1l := ints_one l
  have hL : (l.map xE).length = l.length := List.length_map _
  refine PF.enter (enum3 _ _ _) Tryz.func59 rfl (by kernel_rfl) _ _ rfl rfl rfl (fun w0 mu I0 β0 gi dis => ?_)
  (repeat' (first|(apply xW;((exact Want.none_ rfl)))|(apply xF zI;exact rfl;exact rfl)|(((apply yB))<;>(first|exact zI|exact rfl|refine yG ?_))|apply zR|apply AWp.Q|apply zH|apply AWp.G|apply AWp.B))
  refine AWp.U (σ := Nat) (fun k => ⟨[(1, .c (.sl (l.map xE))), (2, .c (int f)), (3, .c (.ptr 0 0 0)), (6, .c (.ptr 1 0 0)), (7, .c (int k))], [(0, some ⟨35, 1, [wG es]⟩), (1, some ⟨58, 3, [wM ⟨0, 0, []⟩]⟩)], 2⟩) (fun k => k ≤ 6 ∧ mtc es l f = mtL es l f k) (fun k => k) 6 ⟨Nat.le_refl _, rfl⟩ ?_ ?_
  · refine Weak.of [(0, some 0), (1, some 1)] rfl ?_ ?_ <;> (repeat' (first|exact trivial|exact rfl|apply And.intro|refine ⟨_,rfl,rfl,rfl,OW.one ?_⟩))
  · rintro k ⟨hk, hm⟩
    rcases k with _ | j
    · rw [hm]
      (repeat' (first|(apply xW;((exact Want.none_ rfl)))|(apply xF zI;exact rfl;exact rfl)|((first|apply y4|apply yH)<;>(first|exact zI|exact rfl|refine yG ?_|exact lb rfl|(refine Bd.mk ?_;(focus (simp;done)))))|apply zR|apply AWp.Q|apply zH|apply AWp.G|apply AWp.X|apply AWp.R|apply zQ|apply zO|(apply AWp.F;exact rfl;((exact rfl)))))
      (((refine zV _ [] (.cons (y5 rfl rfl rfl zI rfl rfl rfl) .nil) ?_ rfl ?_)) <;> (repeat' (first|exact trivial|exact rfl|apply And.intro)))
    · have hpos : (0 : Int) < ((j + 1 : Nat) : Int) := by omega
      have hsum : (f : Int) + ((j + 1 : Nat) : Int) = ((f + (j + 1) : Nat) : Int) := by omega
      by_cases hlong : l.length < f + (j + 1)
      · have hlong' : ((l.map xE).length : Int) < (f : Int) + ((j + 1 : Nat) : Int) := by omega
        (repeat' (first|(apply xW;((exact Want.none_ rfl)))|(apply xF zI;exact rfl;exact rfl)|((first|apply zZ|apply y3)<;>(first|exact rfl|refine yG ?_|omega))|apply zR|apply AWp.Q|apply zH|apply AWp.G|apply AWp.B|apply AWp.J|apply AWp.X|apply zQ|apply zO|(apply AWp.T;exact rfl;((exact dT ‹_›)))))
        refine ⟨j, ⟨by omega, by rw [hm, mtL_skip hlong]⟩, by omega, ?_⟩
        refine Weak.of [(0, some 0), (1, some 1)] rfl ?_ ?_ <;> (repeat' (first|exact trivial|exact rfl|apply And.intro|(apply cgI;(omega))|refine ⟨_,rfl,rfl,rfl,OW.one ?_⟩))
      · have hlong' : ¬ ((l.map xE).length : Int) < (f : Int) + ((j + 1 : Nat) : Int) := by omega
        have hg := l6Find_pf es (cut l f (j + 1)) hb (by rw [cut_len (by omega)]; omega)
        rw [cut_map] at hg
        cases hh : hasE es (cut l f (j + 1)) with
        | true =>
          rw [hh] at hg
          rw [hm, mtL_hit (by omega) hh]
          (repeat' (first|(apply xW;((exact Want.none_ rfl)))|(apply xF zI;exact rfl;exact rfl)|((first|apply zZ|apply y4|(apply yE;exact rfl;exact rfl)|apply yH)<;>(first|exact zI|exact rfl|refine yG ?_|omega|exact ⟨rfl,_,_,rfl,rfl⟩|exact lb rfl|(refine Bd.mk ?_;first|assumption|(focus (simp;done)))))|apply zR|(refine yT ?_ ?_;kernel_rfl)|apply AWp.Q|apply zH|apply AWp.G|apply AWp.B|apply AWp.J|apply AWp.R|apply zK|apply zL|(refine AWp.D ?_ ?_;kernel_rfl)|(apply AWp.T;exact rfl;(first|exact dT ‹_›|exact rfl))|(apply AWp.F;exact rfl;((exact dF ‹_›)))|(apply yA;(iterate 6 exact rfl);(iterate 2 (focus (repeat (first|exact VAs.nil|apply VAs.cons|apply VA.c|apply VA.agg|exact VCs.nil|apply VCs.cons|exact VC.imm (Imm.sl _)))));((exact hg));(focus (repeat (first|exact trivial|exact Flat.v _|apply And.intro)));((apply yJ));((exact xC _ _ _)))))
          (((refine zV _ [] (.cons (y5 rfl rfl rfl zI rfl rfl rfl) .nil) ?_ rfl ?_)) <;> (repeat' (first|exact trivial|exact rfl|apply And.intro)))
        | false =>
          rw [hh] at hg
          (repeat' (first|(apply xW;((exact Want.none_ rfl)))|(apply xF zI;exact rfl;exact rfl)|((first|apply zZ|apply y3|(apply yE;exact rfl;exact rfl))<;>(first|exact zI|exact rfl|refine yG ?_|omega|exact ⟨rfl,_,_,rfl,rfl⟩|(refine Bd.mk ?_;(assumption))))|apply zR|(refine yT ?_ ?_;kernel_rfl)|apply AWp.Q|apply zH|apply AWp.G|apply AWp.B|apply AWp.J|apply zJ|(refine AWp.D ?_ ?_;kernel_rfl)|(apply AWp.T;exact rfl;((exact dT ‹_›)))|(apply AWp.F;exact rfl;(first|exact dF ‹_›|exact rfl))|(apply yA;(iterate 6 exact rfl);(iterate 2 (focus (repeat (first|exact VAs.nil|apply VAs.cons|apply VA.c|apply VA.agg|exact VCs.nil|apply VCs.cons|exact VC.imm (Imm.sl _)))));((exact hg));(focus (repeat (first|exact trivial|exact Flat.v _|apply And.intro)));((apply yJ));((exact xC _ _ _)))))
          refine ⟨j, ⟨by omega, by rw [hm, mtL_no hh]⟩, by omega, ?_⟩
          refine Weak.of [(0, some 0), (1, some 1)] rfl ?_ ?_ <;> (repeat' (first|exact trivial|exact rfl|apply And.intro|(apply cgI;(omega))|refine ⟨_,rfl,rfl,rfl,OW.one ?_⟩))
theorem matchAt_pf (es : List Ent) (l : List Int) (f : Nat) (hb : qG es) (hl : l.length ≤ 4000000) (hf : f ≤ l.length) : PF Tryz.prog 66 [.agg (wG es), .c (.sl (l.map xE)), .c (int f)] [] (.agg (wM (mtc es l f))) := by
  have h1l := ints_one l
  have hL : (l.map xE).length = l.length := List.length_map _
  refine PF.enter (enum3 _ _ _) Tryz.func66 rfl (by kernel_rfl) _ _ rfl rfl rfl (fun w0 mu I0 β0 gi dis => ?_)
  (repeat' (first|(apply xW;((exact Want.none_ rfl)))|(apply xF zI;exact rfl;exact rfl)|((first|apply y3|apply yB|apply rx_min)<;>(first|exact zI|exact rfl|refine yG ?_|omega))|apply zR|apply AWp.Q|apply zH|apply AWp.G|apply AWp.B))
  refine AWp.U (σ := Nat) (fun k => ⟨[(1, .c (.sl (l.map xE))), (2, .c (int f)), (3, .c (.ptr 0 0 0)), (6, .c (.ptr 1 0 0)), (7, .c (int k))], [(0, some ⟨35, 1, [wG es]⟩), (1, some ⟨58, 3, [wM ⟨0, 0, []⟩]⟩)], 2⟩) (fun k => f + k ≤ l.length ∧ mtc es l f = mtL es l f k) (fun k => k) (min 6 (l.length - f)) ⟨by omega, (mtL_min hf).symm⟩ ?_ ?_
  · refine Weak.of [(0, some 0), (1, some 1)] rfl ?_ ?_ <;> (repeat' (first|exact trivial|exact rfl|apply And.intro|(apply cgI;(omega))|refine ⟨_,rfl,rfl,rfl,OW.one ?_⟩))
  · rintro k ⟨hk, hm⟩
    rcases k with _ | j
    · rw [hm]
      (repeat' (first|(apply xW;((exact Want.none_ rfl)))|(apply xF zI;exact rfl;exact rfl)|((first|apply y4|apply yH)<;>(first|exact zI|exact rfl|refine yG ?_|exact lb rfl|(refine Bd.mk ?_;(focus (simp;done)))))|apply zR|apply AWp.Q|apply zH|apply AWp.G|apply AWp.X|apply AWp.R|apply zQ|apply zO|(apply AWp.F;exact rfl;((exact rfl)))))
      (((refine zV _ [] (.cons (y5 rfl rfl rfl zI rfl rfl rfl) .nil) ?_ rfl ?_)) <;> (repeat' (first|exact trivial|exact rfl|apply And.intro)))
    · have hpos : (1 : Int) ≤ ((j + 1 : Nat) : Int) := by omega
      have hsum : (f : Int) + ((j + 1 : Nat) : Int) = ((f + (j + 1) : Nat) : Int) := by omega
      have hg := lookup_pf es (cut l f (j + 1)) hb (by rw [cut_len (by omega)]; omega)
      rw [cut_map] at hg
      cases hh : hasE es (cut l f (j + 1)) with
      | true =>
        rw [hh] at hg
        rw [hm, mtL_hit (by omega) hh]
        (repeat' (first|(apply xW;((exact Want.none_ rfl)))|(apply xF zI;exact rfl;exact rfl)|((first|apply zZ|apply y4|(apply yE;exact rfl;exact rfl)|apply yH)<;>(first|exact zI|exact rfl|refine yG ?_|omega|exact ⟨rfl,_,_,rfl,rfl⟩|exact lb rfl|(refine Bd.mk ?_;first|assumption|(focus (simp;done)))))|apply zR|(refine yT ?_ ?_;kernel_rfl)|apply AWp.Q|apply zH|apply AWp.G|apply AWp.B|apply AWp.J|apply AWp.R|apply zK|apply zL|(refine AWp.D ?_ ?_;kernel_rfl)|(apply AWp.T;exact rfl;(first|exact dT ‹_›|exact rfl))|(apply yA;(iterate 6 exact rfl);(iterate 2 (focus (repeat (first|exact VAs.nil|apply VAs.cons|apply VA.c|apply VA.agg|exact VCs.nil|apply VCs.cons|exact VC.imm (Imm.sl _)))));((exact hg));(focus (repeat (first|exact trivial|exact Flat.v _|apply And.intro)));((apply yJ));((exact xC _ _ _)))))
        (((refine zV _ [] (.cons (y5 rfl rfl rfl zI rfl rfl rfl) .nil) ?_ rfl ?_)) <;> (repeat' (first|exact trivial|exact rfl|apply And.intro)))
      | false =>
        rw [hh] at hg
        (repeat' (first|(apply xW;((exact Want.none_ rfl)))|(apply xF zI;exact rfl;exact rfl)|((first|apply zZ|apply y3|(apply yE;exact rfl;exact rfl))<;>(first|exact zI|exact rfl|refine yG ?_|omega|exact ⟨rfl,_,_,rfl,rfl⟩|(refine Bd.mk ?_;(assumption))))|apply zR|(refine yT ?_ ?_;kernel_rfl)|apply AWp.Q|apply zH|apply AWp.G|apply AWp.B|apply AWp.J|apply zJ|(refine AWp.D ?_ ?_;kernel_rfl)|(apply AWp.T;exact rfl;((exact dT ‹_›)))|(apply AWp.F;exact rfl;((exact rfl)))|(apply yA;(iterate 6 exact rfl);(iterate 2 (focus (repeat (first|exact VAs.nil|apply VAs.cons|apply VA.c|apply VA.agg|exact VCs.nil|apply VCs.cons|exact VC.imm (Imm.sl _)))));((exact hg));(focus (repeat (first|exact trivial|exact Flat.v _|apply And.intro)));((apply yJ));((exact xC _ _ _)))))
        refine ⟨j, ⟨by omega, by rw [hm, mtL_no hh]⟩, by omega, ?_⟩
        refine Weak.of [(0, some 0), (1, some 1)] rfl ?_ ?_ <;> (repeat' (first|exact trivial|exact rfl|apply And.intro|(apply cgI;(omega))|refine ⟨_,rfl,rfl,rfl,OW.one ?_⟩))
theorem l11Segment_pf (es : List Ent) (l : List Int) (hb : qG es) (hl : l.length ≤ 1000000) : PF Tryz.prog 32 [.agg (wG es), .c (.sl (l.map xE))] [⟨58, 3, (seg es l).map wM⟩] (.c (.ref 0 0 (seg es l).length)) := by
  have hL : (l.map xE).length = l.length := List.length_map _
  refine PF.enter (xG _ _) Tryz.func32 rfl (by kernel_rfl) _ _ rfl rfl rfl (fun w0 mu I0 β0 gi dis => ?_)
  (repeat' (first|(apply xW;((exact Want.none_ rfl)))|(apply xF zI;exact rfl;exact rfl)|(((apply zU))<;>(first|exact zI|exact rfl|refine yG ?_))|apply zR|apply AWp.Q|apply zH|apply AWp.G|apply AWp.B))
  refine AWp.U (σ := List Pc × Nat) (fun q => ⟨[(1, .c (.sl (l.map xE))), (2, .c (.ptr 0 0 0)), (5, .c (.ref 1 0 q.1.length)), (6, .c (int q.2))], [(0, some ⟨35, 1, [wG es]⟩), (1, some ⟨58, 3, q.1.map wM⟩)], 2⟩) (fun q => q.1 ++ segF es l q.2 = seg es l ∧ q.2 ≤ l.length ∧ q.1.length ≤ q.2) (fun q => l.length - q.2) ([], 0) ⟨rfl, Nat.zero_le _, Nat.le_refl _⟩ ?_ ?_
  · refine Weak.of [(0, some 0), (1, some 1)] rfl ?_ ?_ <;> (repeat' (first|exact trivial|exact rfl|apply And.intro|refine ⟨_,rfl,rfl,rfl,OW.one ?_⟩|refine oWs rfl rfl rfl ?_ ?_|(refine aIm ?_;(exact AllSc.nil))))
  · rintro ⟨out, f⟩ ⟨hseg, hf, hol⟩
    dsimp only at hseg hf hol ⊢
    have hsc := vS out
    have hLo : (out.map wM).length = out.length := List.length_map _
    by_cases hlt : f < l.length
    · have hlt' : (f : Int) < ((l.map xE).length : Int) := by omega
      have hg := l11Match_pf es l f hb (by omega) hf
      obtain ⟨c1, c2, c3, c4, c5⟩ := q9 es l f
      have hst := segF_step (es := es) hlt
      generalize mtc es l f = p at hg c3 c4 hst
      have hi : (((out.map wM).length + 1 : Nat) : Int) - 1 = (((out.map wM).length : Nat) : Int) := by omega
      have hr : (out.map wM ++ [wM p])[(out.map wM).length]? = some (wM p) := by simp
      (repeat' (first|(apply xW;((exact Want.none_ rfl)))|(apply xF zI;exact rfl;exact rfl)|((first|apply zZ|apply y3|apply yD|(apply z7;exact rfl;exact rfl;exact zI;exact rfl;exact rfl)|apply zU|(apply yZ;exact rfl;exact rfl))<;>(first|exact zI|exact Nat.zero_add _|exact rfl|refine yG ?_|assumption|omega|(refine Bd.mk ?_;(simp;omega))|exact xH rfl|(focus (simp;done))|(simp;omega)))|apply zR|apply AWp.Q|apply zH|apply AWp.G|apply AWp.B|apply AWp.J|apply zJ|(apply AWp.T;exact rfl;((exact dT ‹_›)))|(apply yA;(iterate 6 exact rfl);(iterate 2 (focus (repeat (first|exact VAs.nil|apply VAs.cons|apply VA.c|apply VA.agg|exact VCs.nil|apply VCs.cons|exact VC.imm (Imm.v _)|exact VC.imm (Imm.sl _)))));((exact hg));(focus (repeat (first|exact trivial|exact Flat.v _|apply And.intro)));((apply yJ));((exact rfl)))))
      refine ⟨(out ++ [p], f + cnt1 es l f), ⟨by rw [← hseg, hst, List.append_assoc]; rfl, c5 hlt, by rw [List.length_append]; simp; omega⟩, by dsimp only; omega, ?_⟩
      dsimp only
      rw [pc_snoc]
      refine Weak.of [(0, some 0), (1, some 3)] rfl ?_ ?_ <;> (repeat' (first|exact trivial|exact rfl|apply And.intro|(apply cgI;(omega))|(refine z8 ?_;(focus (simp;done)))|refine ⟨_,rfl,rfl,rfl,OW.one ?_⟩|refine oWs rfl rfl rfl ?_ ?_))
      all_goals first | (rw [← pc_snoc]; exact (vS _).imm) | (simp; done) | (show _ = _; omega) | skip
    · have hlt' : ¬ (f : Int) < ((l.map xE).length : Int) := by omega
      rw [segF_end (by omega), List.append_nil] at hseg
      subst hseg
      (repeat' (first|(apply xW;((exact Want.none_ rfl)))|(apply xF zI;exact rfl;exact rfl)|apply zR|apply AWp.Q|apply zH|apply AWp.G|apply AWp.X|apply AWp.R|apply zQ|apply zO|(apply AWp.F;exact rfl;((exact dF ‹_›)))))
      (((refine zV _ [(0, some 1)] (.cons (zN rfl) .nil) ?_ rfl ?_)) <;> (repeat' (first|exact trivial|exact rfl|apply And.intro|refine oWs rfl rfl rfl ?_ ?_|(refine aIm ?_;(assumption)))))
      all_goals exact hsc.imm
theorem segment_pf (es : List Ent) (l : List Int) (hb : qG es) (hl : l.length ≤ 1000000) : PF Tryz.prog 38 [.agg (wG es), .c (.sl (l.map xE))] [⟨58, 3, (seg es l).map wM⟩] (.c (.ref 0 0 (seg es l).length)) := by
  have hL : (l.map xE).length = l.length := List.length_map _
  refine PF.enter (xG _ _) Tryz.func38 rfl (by kernel_rfl) _ _ rfl rfl rfl (fun w0 mu I0 β0 gi dis => ?_)
  (repeat' (first|(apply xW;((exact Want.none_ rfl)))|(apply xF zI;exact rfl;exact rfl)|(((apply zU))<;>(first|exact zI|exact rfl|refine yG ?_))|apply zR|apply AWp.Q|apply zH|apply AWp.G|apply AWp.B))
  refine AWp.U (σ := List Pc × Nat) (fun q => ⟨[(1, .c (.sl (l.map xE))), (2, .c (.ptr 0 0 0)), (5, .c (.ref 1 0 q.1.length)), (6, .c (int q.2))], [(0, some ⟨35, 1, [wG es]⟩), (1, some ⟨58, 3, q.1.map wM⟩)], 2⟩) (fun q => q.1 ++ segF es l q.2 = seg es l ∧ q.2 ≤ l.length ∧ q.1.length ≤ q.2) (fun q => l.length - q.2) ([], 0) ⟨rfl, Nat.zero_le _, Nat.le_refl _⟩ ?_ ?_
  · refine Weak.of [(0, some 0), (1, some 1)] rfl ?_ ?_ <;> (repeat' (first|exact trivial|exact rfl|apply And.intro|refine ⟨_,rfl,rfl,rfl,OW.one ?_⟩|refine oWs rfl rfl rfl ?_ ?_|(refine aIm ?_;(exact AllSc.nil))))
  · rintro ⟨out, f⟩ ⟨hseg, hf, hol⟩
    dsimp only at hseg hf hol ⊢
    have hsc := vS out
    have hLo : (out.map wM).length = out.length := List.length_map _
    by_cases hlt : f < l.length
    · have hlt' : (f : Int) < ((l.map xE).length : Int) := by omega
      have hg := matchAt_pf es l f hb (by omega) hf
      obtain ⟨c1, c2, c3, c4, c5⟩ := q9 es l f
      have hst := segF_step (es := es) hlt
      generalize mtc es l f = p at hg c3 c4 hst
      (repeat' (first|(apply xW;((exact Want.none_ rfl)))|(apply xF zI;exact rfl;exact rfl)|((first|apply zZ|apply zU|apply yB|(apply yZ;exact rfl;exact rfl)|apply yH)<;>(first|exact zI|exact rfl|refine yG ?_|omega|exact lb rfl|(refine Bd.mk ?_;(simp;omega))))|apply zR|apply AWp.Q|apply zH|apply AWp.G|apply AWp.B|apply AWp.J|apply zJ|(apply AWp.T;exact rfl;((exact dT ‹_›)))|(apply yA;(iterate 6 exact rfl);(iterate 2 (focus (repeat (first|exact VAs.nil|apply VAs.cons|apply VA.c|apply VA.agg|exact VCs.nil|apply VCs.cons|exact VC.imm (Imm.v _)|exact VC.imm (Imm.sl _)))));((exact hg));(focus (repeat (first|exact trivial|exact Flat.v _|apply And.intro)));((apply yJ));((exact rfl)))))
      refine ⟨(out ++ [p], f + cnt1 es l f), ⟨by rw [← hseg, hst, List.append_assoc]; rfl, c5 hlt, by rw [List.length_append]; simp; omega⟩, by dsimp only; omega, ?_⟩
      dsimp only
      rw [pc_snoc]
      refine Weak.of [(0, some 0), (1, some 4)] rfl ?_ ?_ <;> (repeat' (first|exact trivial|exact rfl|apply And.intro|(apply cgI;(omega))|(refine z8 ?_;(focus (simp;done)))|refine ⟨_,rfl,rfl,rfl,OW.one ?_⟩|refine oWs rfl rfl rfl ?_ ?_))
      all_goals first | (rw [← pc_snoc]; exact (vS _).imm) | (simp; done) | (show _ = _; omega) | skip
    · have hlt' : ¬ (f : Int) < ((l.map xE).length : Int) := by omega
      rw [segF_end (by omega), List.append_nil] at hseg
      subst hseg
      (repeat' (first|(apply xW;((exact Want.none_ rfl)))|(apply xF zI;exact rfl;exact rfl)|apply zR|apply AWp.Q|apply zH|apply AWp.G|apply AWp.X|apply AWp.R|apply zQ|apply zO|(apply AWp.F;exact rfl;((exact dF ‹_›)))))
      (((refine zV _ [(0, some 1)] (.cons (zN rfl) .nil) ?_ rfl ?_)) <;> (repeat' (first|exact trivial|exact rfl|apply And.intro|refine oWs rfl rfl rfl ?_ ?_|(refine aIm ?_;(assumption)))))
      all_goals exact hsc.imm
end Go.Proofs.YtjeffognhcbiaaaGreatDoor
