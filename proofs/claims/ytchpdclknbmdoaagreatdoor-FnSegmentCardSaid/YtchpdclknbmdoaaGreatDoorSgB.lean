/- Longest matches and segmentations, by both programs. No conditions but bounds of lengths. -/
import Derived.Test.YtchpdclknbmdoaaGreatDoorDvB
namespace Go.Proofs.YtchpdclknbmdoaaGreatDoor
open Go Go.RowKit
theorem vV (l : List Int) : ∀ x ∈ l.map yU, x.length = 1 := by
  intro x hx
  obtain ⟨i, _, rfl⟩ := List.mem_map.1 hx
  rfl
def vY (l : List Int) : Bool := decide (l.length ≤ 60) && l.all okS
theorem wI (l : List Int) (hl : l.length ≤ 4000000) : PF Tryz.prog 67 [.c (.sl (l.map yU))] [] (.c (boo (vY l))) := by
  have hL : (l.map yU).length = l.length := List.length_map _
  refine PF.enter (xM _) Tryz.func67 rfl (by kernel_rfl) _ _ rfl rfl rfl (fun w0 mu I0 β0 gi dis => ?_)
  (repeat' (first|(apply xW;((exact Want.none_ rfl)))|(apply xF zI;exact rfl;exact rfl)|apply zS|apply AWp.Q|apply zH|apply AWp.G|apply AWp.B))
  refine AWp.U (σ := Nat) (fun k => ⟨[(0, .c (.sl (l.map yU))), (3, .c (int k))], [], 0⟩) (fun k => k ≤ l.length ∧ k ≤ 61 ∧ (l.take k).all okS = true) (fun k => l.length - k) 0 ⟨Nat.zero_le _, Nat.zero_le _, rfl⟩ ?_ ?_
  · refine Weak.of [] rfl ?_ ?_ <;> (repeat' (first|exact trivial|exact rfl|apply And.intro))
  · rintro k ⟨hk, hk2, hall⟩
    by_cases hlt : k < l.length ∧ k ≤ 60
    · obtain ⟨c, hc⟩ := xY hlt.1
      have hc' : (l.map yU)[k]? = some (yU c) := xS hc
      have hlt' : (k : Int) < ((l.map yU).length : Int) := by omega
      have hlt2 : (k : Int) ≤ 60 := by omega
      have hg := okS2_pf c
      cases hok : okS c with
      | false =>
        rw [hok] at hg
        have e : vY l = false := by rw [vY, qR hc hok, Bool.and_false]
        rw [e]
        (repeat' (first|(apply xW;(first|exact Want.none_ rfl|(refine z6 rfl rfl rfl rfl ?_;((exact dT ‹_›)))))|(apply xF zI;exact rfl;exact rfl)|(((apply yC;exact rfl;exact rfl))<;>(first|exact zI|exact Nat.zero_add _|exact rfl|refine yI ?_|assumption))|(apply y4;exact rfl;exact rfl;((exact dT ‹_›));exact rfl;exact rfl)|apply zS|apply AWp.Q|apply zH|apply AWp.G|apply AWp.B|apply AWp.J|apply AWp.R|apply zK|apply zM|(apply AWp.T;exact rfl;(first|exact dT ‹_›|exact rfl))|(apply yD;(iterate 6 exact rfl);(iterate 2 (focus (repeat (first|exact VAs.nil|apply VAs.cons|apply VA.c|exact VCs.nil|exact VC.imm (Imm.v _)))));((exact hg));(focus (repeat ((exact Flat.v _))));((apply yM));((exact xE _ _)))))
        (((refine zX _ [] (.cons (zP rfl) .nil) ?_ rfl ?_)) <;> (repeat' (first|exact trivial|exact rfl)))
      | true =>
        rw [hok] at hg
        (repeat' (first|(apply xW;(first|exact Want.none_ rfl|(refine z6 rfl rfl rfl rfl ?_;((exact dT ‹_›)))))|(apply xF zI;exact rfl;exact rfl)|((first|apply z8|(apply yC;exact rfl;exact rfl))<;>(first|exact zI|exact Nat.zero_add _|exact rfl|refine yI ?_|assumption|omega))|(apply y4;exact rfl;exact rfl;((exact dT ‹_›));exact rfl;exact rfl)|apply zS|apply AWp.Q|apply zH|apply AWp.G|apply AWp.B|apply AWp.J|apply zJ|(apply AWp.T;exact rfl;((exact dT ‹_›)))|(apply AWp.F;exact rfl;((exact rfl)))|(apply yD;(iterate 6 exact rfl);(iterate 2 (focus (repeat (first|exact VAs.nil|apply VAs.cons|apply VA.c|exact VCs.nil|exact VC.imm (Imm.v _)))));((exact hg));(focus (repeat ((exact Flat.v _))));((apply yM));((exact xE _ _)))))
        refine ⟨k + 1, ⟨by omega, by omega, by rw [wJ hc, hall, hok]; rfl⟩, by omega, ?_⟩
        refine Weak.of [] rfl ?_ ?_ <;> (repeat' (first|exact trivial|exact rfl|apply And.intro))
    · by_cases h1 : k < l.length
      · have h1' : (k : Int) < ((l.map yU).length : Int) := by omega
        have h2' : ¬ (k : Int) ≤ 60 := by omega
        have e : vY l = false := by rw [vY, decide_eq_false (by omega), Bool.false_and]
        rw [e]
        (repeat' (first|(apply xW;(first|exact Want.none_ rfl|(refine z6 rfl rfl rfl rfl ?_;((exact dT ‹_›)))))|(apply xF zI;exact rfl;exact rfl)|(apply y4;exact rfl;exact rfl;((exact dT ‹_›));exact rfl;exact rfl)|apply zS|apply AWp.Q|apply zH|apply AWp.G|apply AWp.X|apply AWp.R|apply zR|apply zO|(apply AWp.F;exact rfl;((exact dF ‹_›)))))
        (((refine zX _ [] (.cons (zP rfl) .nil) ?_ rfl ?_)) <;> (repeat' (first|exact trivial|refine vwB ?_)))
        exact decide_eq_false (by omega)
      · have h1' : ¬ (k : Int) < ((l.map yU).length : Int) := by omega
        obtain rfl : k = l.length := by omega
        rw [List.take_of_length_le (Nat.le_refl _)] at hall
        rw [vY, hall, Bool.and_true]
        (repeat' (first|(apply xW;((exact Want.none_ rfl)))|(apply xF zI;exact rfl;exact rfl)|(apply y4;exact rfl;exact rfl;((exact dF ‹_›));exact rfl;exact rfl)|(apply y3;(iterate 5 exact rfl);((exact dF ‹_›)))|apply zS|apply AWp.Q|apply zH|apply AWp.G|apply AWp.X|apply AWp.R|apply zR|apply zO|(apply AWp.F;exact rfl;((exact rfl)))))
        (((refine zX _ [] (.cons (zP rfl) .nil) ?_ rfl ?_)) <;> (repeat' (first|exact trivial|refine vwB ?_)))
        rw [Bool.eq_iff_iff, decide_eq_true_eq, decide_eq_true_eq]; omega
theorem isStrokeList_pf (l : List Int) (hl : l.length ≤ 4000000) : PF Tryz.prog 130 [.c (.sl (l.map yU))] [] (.c (boo (vY l))) := by
  have hL : (l.map yU).length = l.length := List.length_map _
  have ha := allI_pf l 79 okS hl (fun c _ => okSI_pf c)
  by_cases h : l.length ≤ 60
  · have h' : ((l.map yU).length : Int) ≤ 60 := by omega
    rw [vY, decide_eq_true h, Bool.true_and]
    refine PF.enter (xM _) Tryz.func130 rfl (by kernel_rfl) _ _ rfl rfl rfl (fun w0 mu I0 β0 gi dis => ?_)
    (repeat' (first|(apply xW;(first|exact Want.none_ rfl|(refine z6 rfl rfl rfl rfl ?_;((exact dT ‹_›)))))|(apply xF zI;exact rfl;exact rfl)|(apply y4;exact rfl;exact rfl;((exact dT ‹_›));exact rfl;exact rfl)|apply zS|apply AWp.Q|apply zH|apply AWp.G|apply AWp.R|(apply yD;(iterate 6 exact rfl);(iterate 2 (focus (repeat (first|exact VAs.nil|apply VAs.cons|apply VA.c|exact VCs.nil|exact VC.imm (Imm.sl _)|apply VC.fn))));((exact ha));(focus (repeat ((exact Flat.v _))));((apply yM));((exact xE _ _)))))
    (((refine zX _ [] (.cons (zP rfl) .nil) ?_ rfl ?_)) <;> (repeat' (first|exact trivial|exact rfl)))
  · have h' : ¬ ((l.map yU).length : Int) ≤ 60 := by omega
    rw [vY, decide_eq_false h, Bool.false_and]
    refine PF.enter (xM _) Tryz.func130 rfl (by kernel_rfl) _ _ rfl rfl rfl (fun w0 mu I0 β0 gi dis => ?_)
    (repeat' (first|(apply xW;((exact Want.none_ rfl)))|(apply xF zI;exact rfl;exact rfl)|(apply y4;exact rfl;exact rfl;((exact dF ‹_›));exact rfl;exact rfl)|(apply y3;(iterate 5 exact rfl);((exact dF ‹_›)))|apply zS|apply AWp.Q|apply zH|apply AWp.G|apply AWp.R))
    (((refine zX _ [] (.cons (zP rfl) .nil) ?_ rfl ?_)) <;> (repeat' (first|exact trivial|exact rfl)))
theorem qI (l : List Int) (f n : Nat) : (cut l f n).map yU = ((l.map yU).drop f).take (f + n - f) := by
  rw [cut, List.map_take, List.map_drop, Nat.add_sub_cancel_left]
theorem mtL_hit {es : List Ent} {l : List Int} {f n : Nat} (h : f + (n + 1) ≤ l.length) (h2 : hasE es (cut l f (n + 1)) = true) : mtL es l f (n + 1) = ⟨f, (n + 1 : Nat), qC es (cut l f (n + 1))⟩ := by rw [mtL, if_pos ⟨h, h2⟩]
theorem mtL_no {es : List Ent} {l : List Int} {f n : Nat} (h2 : hasE es (cut l f (n + 1)) = false) : mtL es l f (n + 1) = mtL es l f n := by rw [mtL, if_neg (fun h => by rw [h2] at h; cases h.2)]
theorem l11Match_pf (es : List Ent) (l : List Int) (f : Nat) (hb : wX es) (hl : l.length ≤ 4000000) (hf : f ≤ l.length) : PF Tryz.prog 108 [.agg (x3 es), .c (.sl (l.map yU)), .c (int f)] [] (.agg (xQ (mtc es l f))) := by
  have h1l := vV l
  have hL : (l.map yU).length = l.length := List.length_map _
  refine PF.enter (vE _ _ _) Tryz.func108 rfl (by kernel_rfl) _ _ rfl rfl rfl (fun w0 mu I0 β0 gi dis => ?_)
  (repeat' (first|(apply xW;((exact Want.none_ rfl)))|(apply xF zI;exact rfl;exact rfl)|(((apply zV))<;>(first|exact zI|exact rfl|refine yI ?_))|apply zS|apply AWp.Q|apply zH|apply AWp.G|apply AWp.B))
  refine AWp.U (σ := Nat) (fun k => ⟨[(1, .c (.sl (l.map yU))), (2, .c (int f)), (3, .c (.ptr 0 0 0)), (6, .c (.ptr 1 0 0)), (7, .c (int k))], [(0, some ⟨26, 1, [x3 es]⟩), (1, some ⟨55, 3, [xQ ⟨0, 0, []⟩]⟩)], 2⟩) (fun k => k ≤ 6 ∧ mtc es l f = mtL es l f k) (fun k => k) 6 ⟨Nat.le_refl _, rfl⟩ ?_ ?_
  · refine Weak.of [(0, some 0), (1, some 1)] rfl ?_ ?_ <;> (repeat' (first|exact trivial|exact rfl|apply And.intro|refine ⟨_,rfl,rfl,rfl,OW.one ?_⟩))
  · rintro k ⟨hk, hm⟩
    rcases k with _ | j
    · rw [hm]
      (repeat' (first|(apply xW;((exact Want.none_ rfl)))|(apply xF zI;exact rfl;exact rfl)|((first|apply yS|apply yE)<;>(first|exact zI|exact rfl|refine yI ?_|exact lb rfl|(refine Bd.mk ?_;(focus (simp;done)))))|apply zS|apply AWp.Q|apply zH|apply AWp.G|apply AWp.X|apply AWp.R|apply zR|apply zO|(apply AWp.F;exact rfl;((exact rfl)))))
      (((refine zX _ [] (.cons (yY rfl rfl rfl zI rfl rfl rfl) .nil) ?_ rfl ?_)) <;> (repeat' (first|exact trivial|exact rfl|apply And.intro)))
    · have hpos : (0 : Int) < ((j + 1 : Nat) : Int) := by omega
      have hsum : (f : Int) + ((j + 1 : Nat) : Int) = ((f + (j + 1) : Nat) : Int) := by omega
      by_cases hlong : l.length < f + (j + 1)
      · have hlong' : ((l.map yU).length : Int) < (f : Int) + ((j + 1 : Nat) : Int) := by omega
        (repeat' (first|(apply xW;((exact Want.none_ rfl)))|(apply xF zI;exact rfl;exact rfl)|((first|apply z8|apply yZ)<;>(first|exact rfl|refine yI ?_|omega))|apply zS|apply AWp.Q|apply zH|apply AWp.G|apply AWp.B|apply AWp.J|apply AWp.X|apply zR|apply zO|(apply AWp.T;exact rfl;((exact dT ‹_›)))))
        refine ⟨j, ⟨by omega, by rw [hm, mtL_skip hlong]⟩, by omega, ?_⟩
        refine Weak.of [(0, some 0), (1, some 1)] rfl ?_ ?_ <;> (repeat' (first|exact trivial|exact rfl|apply And.intro|(apply cgI;(omega))|refine ⟨_,rfl,rfl,rfl,OW.one ?_⟩))
      · have hlong' : ¬ ((l.map yU).length : Int) < (f : Int) + ((j + 1 : Nat) : Int) := by omega
        have hg := l6Find_pf es (cut l f (j + 1)) hb (by rw [qL (by omega)]; omega)
        rw [qI] at hg
        cases hh : hasE es (cut l f (j + 1)) with
        | true =>
          rw [hh] at hg
          rw [hm, mtL_hit (by omega) hh]
          (repeat' (first|(apply xW;((exact Want.none_ rfl)))|(apply xF zI;exact rfl;exact rfl)|((first|apply z8|apply yS|(apply yT;exact rfl;exact rfl)|apply yE)<;>(first|exact zI|exact rfl|refine yI ?_|omega|exact ⟨rfl,_,_,rfl,rfl⟩|exact lb rfl|(refine Bd.mk ?_;first|assumption|(focus (simp;done)))))|apply zS|(refine yN ?_ ?_;kernel_rfl)|apply AWp.Q|apply zH|apply AWp.G|apply AWp.B|apply AWp.J|apply AWp.R|apply zK|apply zM|(refine AWp.D ?_ ?_;kernel_rfl)|(apply AWp.T;exact rfl;(first|exact dT ‹_›|exact rfl))|(apply AWp.F;exact rfl;((exact dF ‹_›)))|(apply yD;(iterate 6 exact rfl);(iterate 2 (focus (repeat (first|exact VAs.nil|apply VAs.cons|apply VA.c|apply VA.agg|exact VCs.nil|apply VCs.cons|exact VC.imm (Imm.sl _)))));((exact hg));(focus (repeat (first|exact trivial|exact Flat.v _|apply And.intro)));((apply yM));((exact xB _ _ _)))))
          (((refine zX _ [] (.cons (yY rfl rfl rfl zI rfl rfl rfl) .nil) ?_ rfl ?_)) <;> (repeat' (first|exact trivial|exact rfl|apply And.intro)))
        | false =>
          rw [hh] at hg
          (repeat' (first|(apply xW;((exact Want.none_ rfl)))|(apply xF zI;exact rfl;exact rfl)|((first|apply z8|apply yZ|(apply yT;exact rfl;exact rfl))<;>(first|exact zI|exact rfl|refine yI ?_|omega|exact ⟨rfl,_,_,rfl,rfl⟩|(refine Bd.mk ?_;(assumption))))|apply zS|(refine yN ?_ ?_;kernel_rfl)|apply AWp.Q|apply zH|apply AWp.G|apply AWp.B|apply AWp.J|apply zJ|(refine AWp.D ?_ ?_;kernel_rfl)|(apply AWp.T;exact rfl;((exact dT ‹_›)))|(apply AWp.F;exact rfl;(first|exact dF ‹_›|exact rfl))|(apply yD;(iterate 6 exact rfl);(iterate 2 (focus (repeat (first|exact VAs.nil|apply VAs.cons|apply VA.c|apply VA.agg|exact VCs.nil|apply VCs.cons|exact VC.imm (Imm.sl _)))));((exact hg));(focus (repeat (first|exact trivial|exact Flat.v _|apply And.intro)));((apply yM));((exact xB _ _ _)))))
          refine ⟨j, ⟨by omega, by rw [hm, mtL_no hh]⟩, by omega, ?_⟩
          refine Weak.of [(0, some 0), (1, some 1)] rfl ?_ ?_ <;> (repeat' (first|exact trivial|exact rfl|apply And.intro|(apply cgI;(omega))|refine ⟨_,rfl,rfl,rfl,OW.one ?_⟩))
theorem matchAt_pf (es : List Ent) (l : List Int) (f : Nat) (hb : wX es) (hl : l.length ≤ 4000000) (hf : f ≤ l.length) : PF Tryz.prog 106 [.agg (x3 es), .c (.sl (l.map yU)), .c (int f)] [] (.agg (xQ (mtc es l f))) := by
  have h1l := vV l
  have hL : (l.map yU).length = l.length := List.length_map _
  refine PF.enter (vE _ _ _) Tryz.func106 rfl (by kernel_rfl) _ _ rfl rfl rfl (fun w0 mu I0 β0 gi dis => ?_)
  (repeat' (first|(apply xW;((exact Want.none_ rfl)))|(apply xF zI;exact rfl;exact rfl)|((first|apply yZ|apply zV|apply rx_min)<;>(first|exact zI|exact rfl|refine yI ?_|omega))|apply zS|apply AWp.Q|apply zH|apply AWp.G|apply AWp.B))
  refine AWp.U (σ := Nat) (fun k => ⟨[(1, .c (.sl (l.map yU))), (2, .c (int f)), (3, .c (.ptr 0 0 0)), (6, .c (.ptr 1 0 0)), (7, .c (int k))], [(0, some ⟨26, 1, [x3 es]⟩), (1, some ⟨55, 3, [xQ ⟨0, 0, []⟩]⟩)], 2⟩) (fun k => f + k ≤ l.length ∧ mtc es l f = mtL es l f k) (fun k => k) (min 6 (l.length - f)) ⟨by omega, (mtL_min hf).symm⟩ ?_ ?_
  · refine Weak.of [(0, some 0), (1, some 1)] rfl ?_ ?_ <;> (repeat' (first|exact trivial|exact rfl|apply And.intro|(apply cgI;(omega))|refine ⟨_,rfl,rfl,rfl,OW.one ?_⟩))
  · rintro k ⟨hk, hm⟩
    rcases k with _ | j
    · rw [hm]
      (repeat' (first|(apply xW;((exact Want.none_ rfl)))|(apply xF zI;exact rfl;exact rfl)|((first|apply yS|apply yE)<;>(first|exact zI|exact rfl|refine yI ?_|exact lb rfl|(refine Bd.mk ?_;(focus (simp;done)))))|apply zS|apply AWp.Q|apply zH|apply AWp.G|apply AWp.X|apply AWp.R|apply zR|apply zO|(apply AWp.F;exact rfl;((exact rfl)))))
      (((refine zX _ [] (.cons (yY rfl rfl rfl zI rfl rfl rfl) .nil) ?_ rfl ?_)) <;> (repeat' (first|exact trivial|exact rfl|apply And.intro)))
    · have hpos : (1 : Int) ≤ ((j + 1 : Nat) : Int) := by omega
      have hsum : (f : Int) + ((j + 1 : Nat) : Int) = ((f + (j + 1) : Nat) : Int) := by omega
      have hg := lookup_pf es (cut l f (j + 1)) hb (by rw [qL (by omega)]; omega)
      rw [qI] at hg
      cases hh : hasE es (cut l f (j + 1)) with
      | true =>
        rw [hh] at hg
        rw [hm, mtL_hit (by omega) hh]
        (repeat' (first|(apply xW;((exact Want.none_ rfl)))|(apply xF zI;exact rfl;exact rfl)|((first|apply z8|apply yS|(apply yT;exact rfl;exact rfl)|apply yE)<;>(first|exact zI|exact rfl|refine yI ?_|omega|exact ⟨rfl,_,_,rfl,rfl⟩|exact lb rfl|(refine Bd.mk ?_;first|assumption|(focus (simp;done)))))|apply zS|(refine yN ?_ ?_;kernel_rfl)|apply AWp.Q|apply zH|apply AWp.G|apply AWp.B|apply AWp.J|apply AWp.R|apply zK|apply zM|(refine AWp.D ?_ ?_;kernel_rfl)|(apply AWp.T;exact rfl;(first|exact dT ‹_›|exact rfl))|(apply yD;(iterate 6 exact rfl);(iterate 2 (focus (repeat (first|exact VAs.nil|apply VAs.cons|apply VA.c|apply VA.agg|exact VCs.nil|apply VCs.cons|exact VC.imm (Imm.sl _)))));((exact hg));(focus (repeat (first|exact trivial|exact Flat.v _|apply And.intro)));((apply yM));((exact xB _ _ _)))))
        (((refine zX _ [] (.cons (yY rfl rfl rfl zI rfl rfl rfl) .nil) ?_ rfl ?_)) <;> (repeat' (first|exact trivial|exact rfl|apply And.intro)))
      | false =>
        rw [hh] at hg
        (repeat' (first|(apply xW;((exact Want.none_ rfl)))|(apply xF zI;exact rfl;exact rfl)|((first|apply z8|apply yZ|(apply yT;exact rfl;exact rfl))<;>(first|exact zI|exact rfl|refine yI ?_|omega|exact ⟨rfl,_,_,rfl,rfl⟩|(refine Bd.mk ?_;(assumption))))|apply zS|(refine yN ?_ ?_;kernel_rfl)|apply AWp.Q|apply zH|apply AWp.G|apply AWp.B|apply AWp.J|apply zJ|(refine AWp.D ?_ ?_;kernel_rfl)|(apply AWp.T;exact rfl;((exact dT ‹_›)))|(apply AWp.F;exact rfl;((exact rfl)))|(apply yD;(iterate 6 exact rfl);(iterate 2 (focus (repeat (first|exact VAs.nil|apply VAs.cons|apply VA.c|apply VA.agg|exact VCs.nil|apply VCs.cons|exact VC.imm (Imm.sl _)))));((exact hg));(focus (repeat (first|exact trivial|exact Flat.v _|apply And.intro)));((apply yM));((exact xB _ _ _)))))
        refine ⟨j, ⟨by omega, by rw [hm, mtL_no hh]⟩, by omega, ?_⟩
        refine Weak.of [(0, some 0), (1, some 1)] rfl ?_ ?_ <;> (repeat' (first|exact trivial|exact rfl|apply And.intro|(apply cgI;(omega))|refine ⟨_,rfl,rfl,rfl,OW.one ?_⟩))
theorem l11Segment_pf (es : List Ent) (l : List Int) (hb : wX es) (hl : l.length ≤ 1000000) : PF Tryz.prog 91 [.agg (x3 es), .c (.sl (l.map yU))] [⟨55, 3, (seg es l).map xQ⟩] (.c (.ref 0 0 (seg es l).length)) := by
  have hL : (l.map yU).length = l.length := List.length_map _
  refine PF.enter (xX _ _) Tryz.func91 rfl (by kernel_rfl) _ _ rfl rfl rfl (fun w0 mu I0 β0 gi dis => ?_)
  (repeat' (first|(apply xW;((exact Want.none_ rfl)))|(apply xF zI;exact rfl;exact rfl)|(((apply zT))<;>(first|exact zI|exact rfl|refine yI ?_))|apply zS|apply AWp.Q|apply zH|apply AWp.G|apply AWp.B))
  refine AWp.U (σ := List Pc × Nat) (fun q => ⟨[(1, .c (.sl (l.map yU))), (2, .c (.ptr 0 0 0)), (5, .c (.ref 1 0 q.1.length)), (6, .c (int q.2))], [(0, some ⟨26, 1, [x3 es]⟩), (1, some ⟨55, 3, q.1.map xQ⟩)], 2⟩) (fun q => q.1 ++ kJ es l q.2 = seg es l ∧ q.2 ≤ l.length ∧ q.1.length ≤ q.2) (fun q => l.length - q.2) ([], 0) ⟨rfl, Nat.zero_le _, Nat.le_refl _⟩ ?_ ?_
  · refine Weak.of [(0, some 0), (1, some 1)] rfl ?_ ?_ <;> (repeat' (first|exact trivial|exact rfl|apply And.intro|refine ⟨_,rfl,rfl,rfl,OW.one ?_⟩|refine oWs rfl rfl rfl ?_ ?_|(refine aIm ?_;(exact AllSc.nil))))
  · rintro ⟨out, f⟩ ⟨hseg, hf, hol⟩
    dsimp only at hseg hf hol ⊢
    have hsc := wA out
    have hLo : (out.map xQ).length = out.length := List.length_map _
    by_cases hlt : f < l.length
    · have hlt' : (f : Int) < ((l.map yU).length : Int) := by omega
      have hg := l11Match_pf es l f hb (by omega) hf
      obtain ⟨c1, c2, c3, c4, c5⟩ := vI es l f
      have hst := segF_step (es := es) hlt
      generalize mtc es l f = p at hg c3 c4 hst
      have hi : (((out.map xQ).length + 1 : Nat) : Int) - 1 = (((out.map xQ).length : Nat) : Int) := by omega
      have hr : (out.map xQ ++ [xQ p])[(out.map xQ).length]? = some (xQ p) := by simp
      (repeat' (first|(apply xW;((exact Want.none_ rfl)))|(apply xF zI;exact rfl;exact rfl)|((first|apply z8|apply yZ|apply zW|(apply zU;exact rfl;exact rfl;exact zI;exact rfl;exact rfl)|apply zT|(apply yQ;exact rfl;exact rfl))<;>(first|exact zI|exact Nat.zero_add _|exact rfl|refine yI ?_|assumption|omega|(refine Bd.mk ?_;(simp;omega))|exact xH rfl|(focus (simp;done))|(simp;omega)))|apply zS|apply AWp.Q|apply zH|apply AWp.G|apply AWp.B|apply AWp.J|apply zJ|(apply AWp.T;exact rfl;((exact dT ‹_›)))|(apply yD;(iterate 6 exact rfl);(iterate 2 (focus (repeat (first|exact VAs.nil|apply VAs.cons|apply VA.c|apply VA.agg|exact VCs.nil|apply VCs.cons|exact VC.imm (Imm.v _)|exact VC.imm (Imm.sl _)))));((exact hg));(focus (repeat (first|exact trivial|exact Flat.v _|apply And.intro)));((apply yM));((exact rfl)))))
      refine ⟨(out ++ [p], f + kH es l f), ⟨by rw [← hseg, hst, List.append_assoc]; rfl, c5 hlt, by rw [List.length_append]; simp; omega⟩, by dsimp only; omega, ?_⟩
      dsimp only
      rw [vR]
      refine Weak.of [(0, some 0), (1, some 3)] rfl ?_ ?_ <;> (repeat' (first|exact trivial|exact rfl|apply And.intro|(apply cgI;(omega))|(refine yB ?_;(focus (simp;done)))|refine ⟨_,rfl,rfl,rfl,OW.one ?_⟩|refine oWs rfl rfl rfl ?_ ?_))
      all_goals first | (rw [← vR]; exact (wA _).imm) | (simp; done) | (show _ = _; omega) | skip
    · have hlt' : ¬ (f : Int) < ((l.map yU).length : Int) := by omega
      rw [vX (by omega), List.append_nil] at hseg
      subst hseg
      (repeat' (first|(apply xW;((exact Want.none_ rfl)))|(apply xF zI;exact rfl;exact rfl)|apply zS|apply AWp.Q|apply zH|apply AWp.G|apply AWp.X|apply AWp.R|apply zR|apply zO|(apply AWp.F;exact rfl;((exact dF ‹_›)))))
      (((refine zX _ [(0, some 1)] (.cons (zP rfl) .nil) ?_ rfl ?_)) <;> (repeat' (first|exact trivial|exact rfl|apply And.intro|refine oWs rfl rfl rfl ?_ ?_|(refine aIm ?_;(assumption)))))
      all_goals exact hsc.imm
theorem segment_pf (es : List Ent) (l : List Int) (hb : wX es) (hl : l.length ≤ 1000000) : PF Tryz.prog 71 [.agg (x3 es), .c (.sl (l.map yU))] [⟨55, 3, (seg es l).map xQ⟩] (.c (.ref 0 0 (seg es l).length)) := by
  have hL : (l.map yU).length = l.length := List.length_map _
  refine PF.enter (xX _ _) Tryz.func71 rfl (by kernel_rfl) _ _ rfl rfl rfl (fun w0 mu I0 β0 gi dis => ?_)
  (repeat' (first|(apply xW;((exact Want.none_ rfl)))|(apply xF zI;exact rfl;exact rfl)|(((apply zT))<;>(first|exact zI|exact rfl|refine yI ?_))|apply zS|apply AWp.Q|apply zH|apply AWp.G|apply AWp.B))
  refine AWp.U (σ := List Pc × Nat) (fun q => ⟨[(1, .c (.sl (l.map yU))), (2, .c (.ptr 0 0 0)), (5, .c (.ref 1 0 q.1.length)), (6, .c (int q.2))], [(0, some ⟨26, 1, [x3 es]⟩), (1, some ⟨55, 3, q.1.map xQ⟩)], 2⟩) (fun q => q.1 ++ kJ es l q.2 = seg es l ∧ q.2 ≤ l.length ∧ q.1.length ≤ q.2) (fun q => l.length - q.2) ([], 0) ⟨rfl, Nat.zero_le _, Nat.le_refl _⟩ ?_ ?_
  · refine Weak.of [(0, some 0), (1, some 1)] rfl ?_ ?_ <;> (repeat' (first|exact trivial|exact rfl|apply And.intro|refine ⟨_,rfl,rfl,rfl,OW.one ?_⟩|refine oWs rfl rfl rfl ?_ ?_|(refine aIm ?_;(exact AllSc.nil))))
  · rintro ⟨out, f⟩ ⟨hseg, hf, hol⟩
    dsimp only at hseg hf hol ⊢
    have hsc := wA out
    have hLo : (out.map xQ).length = out.length := List.length_map _
    by_cases hlt : f < l.length
    · have hlt' : (f : Int) < ((l.map yU).length : Int) := by omega
      have hg := matchAt_pf es l f hb (by omega) hf
      obtain ⟨c1, c2, c3, c4, c5⟩ := vI es l f
      have hst := segF_step (es := es) hlt
      generalize mtc es l f = p at hg c3 c4 hst
      (repeat' (first|(apply xW;((exact Want.none_ rfl)))|(apply xF zI;exact rfl;exact rfl)|((first|apply z8|apply zT|apply zV|(apply yQ;exact rfl;exact rfl)|apply yE)<;>(first|exact zI|exact rfl|refine yI ?_|omega|exact lb rfl|(refine Bd.mk ?_;(simp;omega))))|apply zS|apply AWp.Q|apply zH|apply AWp.G|apply AWp.B|apply AWp.J|apply zJ|(apply AWp.T;exact rfl;((exact dT ‹_›)))|(apply yD;(iterate 6 exact rfl);(iterate 2 (focus (repeat (first|exact VAs.nil|apply VAs.cons|apply VA.c|apply VA.agg|exact VCs.nil|apply VCs.cons|exact VC.imm (Imm.v _)|exact VC.imm (Imm.sl _)))));((exact hg));(focus (repeat (first|exact trivial|exact Flat.v _|apply And.intro)));((apply yM));((exact rfl)))))
      refine ⟨(out ++ [p], f + kH es l f), ⟨by rw [← hseg, hst, List.append_assoc]; rfl, c5 hlt, by rw [List.length_append]; simp; omega⟩, by dsimp only; omega, ?_⟩
      dsimp only
      rw [vR]
      refine Weak.of [(0, some 0), (1, some 4)] rfl ?_ ?_ <;> (repeat' (first|exact trivial|exact rfl|apply And.intro|(apply cgI;(omega))|(refine yB ?_;(focus (simp;done)))|refine ⟨_,rfl,rfl,rfl,OW.one ?_⟩|refine oWs rfl rfl rfl ?_ ?_))
      all_goals first | (rw [← vR]; exact (wA _).imm) | (simp; done) | (show _ = _; omega) | skip
    · have hlt' : ¬ (f : Int) < ((l.map yU).length : Int) := by omega
      rw [vX (by omega), List.append_nil] at hseg
      subst hseg
      (repeat' (first|(apply xW;((exact Want.none_ rfl)))|(apply xF zI;exact rfl;exact rfl)|apply zS|apply AWp.Q|apply zH|apply AWp.G|apply AWp.X|apply AWp.R|apply zR|apply zO|(apply AWp.F;exact rfl;((exact dF ‹_›)))))
      (((refine zX _ [(0, some 1)] (.cons (zP rfl) .nil) ?_ rfl ?_)) <;> (repeat' (first|exact trivial|exact rfl|apply And.intro|refine oWs rfl rfl rfl ?_ ?_|(refine aIm ?_;(assumption)))))
      all_goals exact hsc.imm
end Go.Proofs.YtchpdclknbmdoaaGreatDoor
