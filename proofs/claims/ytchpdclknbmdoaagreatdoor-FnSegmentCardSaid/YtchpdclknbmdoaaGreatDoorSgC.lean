/- Segment, MatchAt, IsSegmentation of both programs. No conditions but bounds of lengths. -/
import Derived.Test.YtchpdclknbmdoaaGreatDoorSgB
namespace Go.Proofs.YtchpdclknbmdoaaGreatDoor
open Go Go.RowKit
def mchOk (es : List Ent) (l : List Int) : Bool := vO es && vY l
theorem isMatched_pf (es : List Ent) (l : List Int) (hb : wX es) (hl : l.length ≤ 1000000) : PF Tryz.prog 64 [.agg (x3 es), .c (.sl (l.map yU))] [] (.c (boo (mchOk es l))) := by
  have h1 := implGood_pf es hb
  have h2 := isStrokeList_pf l (by omega)
  rw [mchOk]
  cases hd : vO es with
  | false =>
    rw [hd] at h1
    refine PF.enter (xX _ _) Tryz.func64 rfl (by kernel_rfl) _ _ rfl rfl rfl (fun w0 mu I0 β0 gi dis => ?_)
    (repeat' (first|(apply xW;((exact Want.none_ rfl)))|(apply xF zI;exact rfl;exact rfl)|(apply y4;exact rfl;exact rfl;((exact rfl));exact rfl;exact rfl)|(apply y3;(iterate 5 exact rfl);((exact rfl)))|apply zS|apply AWp.Q|apply zH|apply AWp.G|apply AWp.R|(apply yD;(iterate 6 exact rfl);(iterate 2 (focus (repeat (first|exact VAs.nil|apply VAs.cons|apply VA.agg|exact VCs.nil|apply VCs.cons|exact VC.imm (Imm.sl _)))));((exact h1));(focus (repeat ((exact Flat.v _))));((apply yM));((exact xE _ _)))))
    (((refine zX _ [] (.cons (zP rfl) .nil) ?_ rfl ?_)) <;> (repeat' (first|exact trivial|exact rfl)))
  | true =>
    rw [hd] at h1
    refine PF.enter (xX _ _) Tryz.func64 rfl (by kernel_rfl) _ _ rfl rfl rfl (fun w0 mu I0 β0 gi dis => ?_)
    (repeat' (first|(apply xW;(first|exact Want.none_ rfl|(refine z6 rfl rfl rfl rfl ?_;((exact rfl)))))|(apply xF zI;exact rfl;exact rfl)|(apply y4;exact rfl;exact rfl;((exact rfl));exact rfl;exact rfl)|apply zS|apply AWp.Q|apply zH|apply AWp.G|apply AWp.R|(apply yD;(iterate 6 exact rfl);(iterate 2 (focus (repeat (first|exact VAs.nil|apply VAs.cons|apply VA.c|apply VA.agg|exact VCs.nil|apply VCs.cons|exact VC.imm (Imm.sl _)))));(first|exact h1|exact h2);(focus (repeat ((exact Flat.v _))));((apply yM));((exact xE _ _)))))
    (((refine zX _ [] (.cons (zP rfl) .nil) ?_ rfl ?_)) <;> (repeat' (first|exact trivial|exact rfl)))
theorem mchOk_parts {es : List Ent} {l : List Int} (h : mchOk es l = true) : vO es = true ∧ vY l = true ∧ l.length ≤ 60 ∧ ∀ x ∈ l, okS x = true := by
  rw [mchOk, Bool.and_eq_true] at h
  have h2 := h.2
  rw [vY, Bool.and_eq_true, decide_eq_true_eq, List.all_eq_true] at h2
  exact ⟨h.1, h.2, h2.1, h2.2⟩
theorem mchOk_no {es : List Ent} {l : List Int} (h : mchOk es l = false) : vO es = false ∨ (vO es = true ∧ vY l = false) := by
  rw [mchOk] at h
  cases h1 : vO es with
  | false => exact .inl rfl
  | true => rw [h1] at h; exact .inr ⟨rfl, h⟩
def sgO (es : List Ent) (l : List Int) : AObj := ⟨55, 3, (seg es l).map xQ⟩
theorem specSegY_pf (es : List Ent) (l : List Int) (hb : wX es) (hl : l.length ≤ 1000000) (h : mchOk es l = true) : PF Tryz.prog 43 [.agg (x3 es), .c (.sl (l.map yU))] [sgO es l] (.tup [.c (.ref 0 0 (seg es l).length), .c (boo true)]) := by
  obtain ⟨e1, e2, _, _⟩ := mchOk_parts h
  have h1 := vD es hb
  have h2 := wI l (by omega)
  have h3 := l11Segment_pf es l hb hl
  have hsc := wA (seg es l)
  rw [e1] at h1
  rw [e2] at h2
  rw [sgO]
  refine PF.enter (xX _ _) Tryz.func43 rfl (by kernel_rfl) _ _ rfl rfl rfl (fun w0 mu I0 β0 gi dis => ?_)
  (repeat' (first|(apply xW;(first|exact Want.none_ rfl|(refine z6 rfl rfl rfl rfl ?_;((exact rfl)))))|(apply xF zI;exact rfl;exact rfl)|(apply y4;exact rfl;exact rfl;((exact rfl));exact rfl;exact rfl)|apply zS|apply AWp.Q|apply zH|apply AWp.G|apply AWp.J|apply AWp.R|(apply AWp.F;exact rfl;((exact rfl)))|(apply yD;(iterate 6 exact rfl);(iterate 2 (focus (repeat (first|exact VAs.nil|apply VAs.cons|apply VA.c|apply VA.agg|exact VCs.nil|apply VCs.cons|exact VC.imm (Imm.sl _)))));(first|exact h1|exact h2|exact h3);(focus (repeat (first|exact Flat.v _|exact Flat.ref _ _ _)));(first|apply yM|(apply yK;(focus (repeat (first|exact trivial|apply And.intro|((assumption)))))));(first|exact xE _ _|exact xA _ _ _ _))))
  (((refine zX _ [(0, some 1)] (.cons (zP rfl) (.cons (zP rfl) .nil)) ?_ rfl ?_)) <;> (repeat' (first|exact trivial|exact rfl|apply And.intro|refine oWs rfl rfl rfl ?_ ?_|(refine aIm ?_;(assumption)))))
  all_goals exact hsc.imm
theorem specSegN_pf (es : List Ent) (l : List Int) (hb : wX es) (hl : l.length ≤ 1000000) (h : mchOk es l = false) : PF Tryz.prog 43 [.agg (x3 es), .c (.sl (l.map yU))] [⟨55, 3, []⟩] (.tup [.c (.ref 0 0 0), .c (boo false)]) := by
  have h1 := vD es hb
  have h2 := wI l (by omega)
  rcases mchOk_no h with e1 | ⟨e1, e2⟩
  · rw [e1] at h1
    refine PF.enter (xX _ _) Tryz.func43 rfl (by kernel_rfl) _ _ rfl rfl rfl (fun w0 mu I0 β0 gi dis => ?_)
    (repeat' (first|(apply xW;((exact Want.none_ rfl)))|(apply xF zI;exact rfl;exact rfl)|(((apply zT))<;>(first|exact zI|exact rfl|refine yI ?_))|(apply y4;exact rfl;exact rfl;((exact rfl));exact rfl;exact rfl)|(apply y3;(iterate 5 exact rfl);((exact rfl)))|apply zS|apply AWp.Q|apply zH|apply AWp.G|apply AWp.R|apply zK|(apply AWp.T;exact rfl;((exact rfl)))|(apply yD;(iterate 6 exact rfl);(iterate 2 (focus (repeat (first|exact VAs.nil|apply VAs.cons|apply VA.agg|exact VCs.nil|apply VCs.cons|exact VC.imm (Imm.sl _)))));((exact h1));(focus (repeat ((exact Flat.v _))));((apply yM));((exact xE _ _)))))
    (((refine zX _ [(0, some 1)] (.cons (zP rfl) (.cons (zP rfl) .nil)) ?_ rfl ?_)) <;> (repeat' (first|exact trivial|exact rfl|apply And.intro|refine oWs rfl rfl rfl ?_ ?_|(refine aIm ?_;(exact AllSc.nil)))))
  · rw [e1] at h1
    rw [e2] at h2
    refine PF.enter (xX _ _) Tryz.func43 rfl (by kernel_rfl) _ _ rfl rfl rfl (fun w0 mu I0 β0 gi dis => ?_)
    (repeat' (first|(apply xW;(first|exact Want.none_ rfl|(refine z6 rfl rfl rfl rfl ?_;((exact rfl)))))|(apply xF zI;exact rfl;exact rfl)|(((apply zT))<;>(first|exact zI|exact rfl|refine yI ?_))|(apply y4;exact rfl;exact rfl;((exact rfl));exact rfl;exact rfl)|apply zS|apply AWp.Q|apply zH|apply AWp.G|apply AWp.R|apply zK|(apply AWp.T;exact rfl;((exact rfl)))|(apply yD;(iterate 6 exact rfl);(iterate 2 (focus (repeat (first|exact VAs.nil|apply VAs.cons|apply VA.c|apply VA.agg|exact VCs.nil|apply VCs.cons|exact VC.imm (Imm.sl _)))));(first|exact h1|exact h2);(focus (repeat ((exact Flat.v _))));((apply yM));((exact xE _ _)))))
    (((refine zX _ [(0, some 1)] (.cons (zP rfl) (.cons (zP rfl) .nil)) ?_ rfl ?_)) <;> (repeat' (first|exact trivial|exact rfl|apply And.intro|refine oWs rfl rfl rfl ?_ ?_|(refine aIm ?_;(exact AllSc.nil)))))
theorem implSegY_pf (es : List Ent) (l : List Int) (hb : wX es) (hl : l.length ≤ 1000000) (h : mchOk es l = true) : PF Tryz.prog 16 [.agg (x3 es), .c (.sl (l.map yU))] [sgO es l] (.tup [.c (.ref 0 0 (seg es l).length), .c (boo true)]) := by
  have h1 := isMatched_pf es l hb hl
  have h3 := segment_pf es l hb hl
  have hsc := wA (seg es l)
  rw [h] at h1
  rw [sgO]
  refine PF.enter (xX _ _) Tryz.func16 rfl (by kernel_rfl) _ _ rfl rfl rfl (fun w0 mu I0 β0 gi dis => ?_)
  (repeat' (first|(apply xW;((exact Want.none_ rfl)))|(apply xF zI;exact rfl;exact rfl)|apply zS|apply AWp.Q|apply zH|apply AWp.G|apply AWp.J|apply AWp.R|(apply AWp.F;exact rfl;((exact rfl)))|(apply yD;(iterate 6 exact rfl);(iterate 2 (focus (repeat (first|exact VAs.nil|apply VAs.cons|apply VA.c|apply VA.agg|exact VCs.nil|apply VCs.cons|exact VC.imm (Imm.sl _)))));(first|exact h1|exact h3);(focus (repeat (first|exact Flat.v _|exact Flat.ref _ _ _)));(first|apply yM|(apply yK;(focus (repeat (first|exact trivial|apply And.intro|((assumption)))))));(first|exact xE _ _|exact xA _ _ _ _))))
  (((refine zX _ [(0, some 1)] (.cons (zP rfl) (.cons (zP rfl) .nil)) ?_ rfl ?_)) <;> (repeat' (first|exact trivial|exact rfl|apply And.intro|refine oWs rfl rfl rfl ?_ ?_|(refine aIm ?_;(assumption)))))
  all_goals exact hsc.imm
def mtR (es : List Ent) (l : List Int) (f : Int) : Pc := if mchOk es l && inZ f 0 ((l.length : Int) - 1) then mtc es l f.toNat else ⟨0, 0, []⟩
def kK (es : List Ent) (l : List Int) (f : Int) : AVal := .tup [.agg (xQ (mtR es l f)), .c (boo (mchOk es l && inZ f 0 ((l.length : Int) - 1)))]
theorem implMt_pf (es : List Ent) (l : List Int) (f : Int) (hb : wX es) (hl : l.length ≤ 1000000) : PF Tryz.prog 44 [.agg (x3 es), .c (.sl (l.map yU)), .c (int f)] [] (kK es l f) := by
  have hL : (l.map yU).length = l.length := List.length_map _
  have h1 := isMatched_pf es l hb hl
  have h2 := kS f 0 (((l.map yU).length : Int) - 1)
  rw [kK, mtR]
  cases hm : mchOk es l with
  | false =>
    rw [hm] at h1
    rw [Bool.false_and, if_neg (by simp)]
    refine PF.enter (vE _ _ _) Tryz.func44 rfl (by kernel_rfl) _ _ rfl rfl rfl (fun w0 mu I0 β0 gi dis => ?_)
    (repeat' (first|(apply xW;((exact Want.none_ rfl)))|(apply xF zI;exact rfl;exact rfl)|((first|apply yS|apply zV|apply yE)<;>(first|exact zI|exact rfl|refine yI ?_|exact lb rfl|((try refine Bd.mk ?_);(focus (simp;done)))))|(apply y4;exact rfl;exact rfl;((exact rfl));exact rfl;exact rfl)|(apply y3;(iterate 5 exact rfl);((exact rfl)))|apply zS|apply AWp.Q|apply zH|apply AWp.G|apply AWp.R|apply zK|(apply AWp.T;exact rfl;((exact rfl)))|(apply yD;(iterate 6 exact rfl);(iterate 2 (focus (repeat (first|exact VAs.nil|apply VAs.cons|apply VA.c|apply VA.agg|exact VCs.nil|apply VCs.cons|exact VC.imm (Imm.sl _)))));((exact h1));(focus (repeat ((exact Flat.v _))));((apply yM));((exact xE _ _)))))
    (((refine zX _ [] (.cons (yY rfl rfl rfl zI rfl rfl rfl) (.cons (zP rfl) .nil)) ?_ rfl ?_)) <;> (repeat' (first|exact trivial|exact rfl|apply And.intro)))
  | true =>
    rw [hm] at h1
    rw [hL] at h2
    rw [Bool.true_and]
    cases hz : inZ f 0 ((l.length : Int) - 1) with
    | false =>
      rw [hz, ← hL] at h2
      rw [if_neg (by simp)]
      refine PF.enter (vE _ _ _) Tryz.func44 rfl (by kernel_rfl) _ _ rfl rfl rfl (fun w0 mu I0 β0 gi dis => ?_)
      (repeat' (first|(apply xW;(first|exact Want.none_ rfl|(refine z6 rfl rfl rfl rfl ?_;((exact rfl)))))|(apply xF zI;exact rfl;exact rfl)|((first|apply yZ|apply yS|apply zV|apply yE)<;>(first|exact zI|exact rfl|refine yI ?_|omega|exact lb rfl|((try refine Bd.mk ?_);(focus (simp;done)))))|(apply y4;exact rfl;exact rfl;((exact rfl));exact rfl;exact rfl)|apply zS|apply AWp.Q|apply zH|apply AWp.G|apply AWp.R|apply zK|(apply AWp.T;exact rfl;((exact rfl)))|(apply yD;(iterate 6 exact rfl);(iterate 2 (focus (repeat (first|exact VAs.nil|apply VAs.cons|apply VA.c|apply VA.agg|exact VCs.nil|apply VCs.cons|exact VC.imm (Imm.v _)|exact VC.imm (Imm.sl _)))));(first|exact h1|exact h2);(focus (repeat ((exact Flat.v _))));((apply yM));((exact xE _ _)))))
      (((refine zX _ [] (.cons (yY rfl rfl rfl zI rfl rfl rfl) (.cons (zP rfl) .nil)) ?_ rfl ?_)) <;> (repeat' (first|exact trivial|exact rfl|apply And.intro)))
    | true =>
      rw [hz, ← hL] at h2
      rw [if_pos rfl]
      rw [inZ, decide_eq_true_eq] at hz
      obtain ⟨n, rfl⟩ : ∃ n : Nat, f = (n : Int) := ⟨f.toNat, by omega⟩
      have h3 := matchAt_pf es l n hb (by omega) (by omega)
      rw [Int.toNat_natCast]
      refine PF.enter (vE _ _ _) Tryz.func44 rfl (by kernel_rfl) _ _ rfl rfl rfl (fun w0 mu I0 β0 gi dis => ?_)
      (repeat' (first|(apply xW;(first|exact Want.none_ rfl|(refine z6 rfl rfl rfl rfl ?_;((exact rfl)))))|(apply xF zI;exact rfl;exact rfl)|((first|apply yZ|apply zV|apply yE)<;>(first|exact zI|exact rfl|refine yI ?_|omega|exact lb rfl))|(apply y4;exact rfl;exact rfl;((exact rfl));exact rfl;exact rfl)|apply zS|apply AWp.Q|apply zH|apply AWp.G|apply AWp.J|apply AWp.R|(apply AWp.F;exact rfl;((exact rfl)))|(apply yD;(iterate 6 exact rfl);(iterate 2 (focus (repeat (first|exact VAs.nil|apply VAs.cons|apply VA.c|apply VA.agg|exact VCs.nil|apply VCs.cons|exact VC.imm (Imm.v _)|exact VC.imm (Imm.sl _)))));(first|exact h1|exact h2|exact h3);(focus (repeat (first|exact trivial|exact Flat.v _|apply And.intro)));((apply yM));(first|exact xE _ _|exact rfl))))
      (((refine zX _ [] (.cons (yY rfl rfl rfl zI rfl rfl rfl) (.cons (zP rfl) .nil)) ?_ rfl ?_)) <;> (repeat' (first|exact trivial|exact rfl|apply And.intro)))
theorem specMt_pf (es : List Ent) (l : List Int) (f : Int) (hb : wX es) (hl : l.length ≤ 1000000) : PF Tryz.prog 46 [.agg (x3 es), .c (.sl (l.map yU)), .c (int f)] [] (kK es l f) := by
  have hL : (l.map yU).length = l.length := List.length_map _
  have h1 := vD es hb
  have h1' := wI l (by omega)
  have h2 := qA f 0 (((l.map yU).length : Int) - 1)
  rw [kK, mtR]
  cases hm : mchOk es l with
  | false =>
    rw [Bool.false_and, if_neg (by simp)]
    rcases mchOk_no hm with e1 | ⟨e1, e2⟩
    · rw [e1] at h1
      refine PF.enter (vE _ _ _) Tryz.func46 rfl (by kernel_rfl) _ _ rfl rfl rfl (fun w0 mu I0 β0 gi dis => ?_)
      (repeat' (first|(apply xW;((exact Want.none_ rfl)))|(apply xF zI;exact rfl;exact rfl)|((first|apply yS|apply zV|apply yE)<;>(first|exact zI|exact rfl|refine yI ?_|exact lb rfl|((try refine Bd.mk ?_);(focus (simp;done)))))|(apply y4;exact rfl;exact rfl;((exact rfl));exact rfl;exact rfl)|(apply y3;(iterate 5 exact rfl);((exact rfl)))|apply zS|apply AWp.Q|apply zH|apply AWp.G|apply AWp.R|apply zK|(apply AWp.T;exact rfl;((exact rfl)))|(apply yD;(iterate 6 exact rfl);(iterate 2 (focus (repeat (first|exact VAs.nil|apply VAs.cons|apply VA.agg|exact VCs.nil|apply VCs.cons|exact VC.imm (Imm.sl _)))));((exact h1));(focus (repeat ((exact Flat.v _))));((apply yM));((exact xE _ _)))))
      (((refine zX _ [] (.cons (yY rfl rfl rfl zI rfl rfl rfl) (.cons (zP rfl) .nil)) ?_ rfl ?_)) <;> (repeat' (first|exact trivial|exact rfl|apply And.intro)))
    · rw [e1] at h1
      rw [e2] at h1'
      refine PF.enter (vE _ _ _) Tryz.func46 rfl (by kernel_rfl) _ _ rfl rfl rfl (fun w0 mu I0 β0 gi dis => ?_)
      (repeat' (first|(apply xW;(first|exact Want.none_ rfl|(refine z6 rfl rfl rfl rfl ?_;((exact rfl)))))|(apply xF zI;exact rfl;exact rfl)|((first|apply yS|apply zV|apply yE)<;>(first|exact zI|exact rfl|refine yI ?_|exact lb rfl|((try refine Bd.mk ?_);(focus (simp;done)))))|(apply y4;exact rfl;exact rfl;((exact rfl));exact rfl;exact rfl)|(apply y3;(iterate 5 exact rfl);((exact rfl)))|apply zS|apply AWp.Q|apply zH|apply AWp.G|apply AWp.R|apply zK|(apply AWp.T;exact rfl;((exact rfl)))|(apply yD;(iterate 6 exact rfl);(iterate 2 (focus (repeat (first|exact VAs.nil|apply VAs.cons|apply VA.c|apply VA.agg|exact VCs.nil|apply VCs.cons|exact VC.imm (Imm.sl _)))));(first|exact h1|exact h1');(focus (repeat ((exact Flat.v _))));((apply yM));((exact xE _ _)))))
      (((refine zX _ [] (.cons (yY rfl rfl rfl zI rfl rfl rfl) (.cons (zP rfl) .nil)) ?_ rfl ?_)) <;> (repeat' (first|exact trivial|exact rfl|apply And.intro)))
  | true =>
    obtain ⟨e1, e2, _, _⟩ := mchOk_parts hm
    rw [e1] at h1
    rw [e2] at h1'
    rw [hL] at h2
    rw [Bool.true_and]
    cases hz : inZ f 0 ((l.length : Int) - 1) with
    | false =>
      rw [hz, ← hL] at h2
      rw [if_neg (by simp)]
      refine PF.enter (vE _ _ _) Tryz.func46 rfl (by kernel_rfl) _ _ rfl rfl rfl (fun w0 mu I0 β0 gi dis => ?_)
      (repeat' (first|(apply xW;(first|exact Want.none_ rfl|(refine z6 rfl rfl rfl rfl ?_;((exact rfl)))))|(apply xF zI;exact rfl;exact rfl)|((first|apply yZ|apply yS|apply zV|apply yE)<;>(first|exact zI|exact rfl|refine yI ?_|omega|exact lb rfl|((try refine Bd.mk ?_);(focus (simp;done)))))|(apply y4;exact rfl;exact rfl;((exact rfl));exact rfl;exact rfl)|apply zS|apply AWp.Q|apply zH|apply AWp.G|apply AWp.R|apply zK|(apply AWp.T;exact rfl;((exact rfl)))|(apply yD;(iterate 6 exact rfl);(iterate 2 (focus (repeat (first|exact VAs.nil|apply VAs.cons|apply VA.c|apply VA.agg|exact VCs.nil|apply VCs.cons|exact VC.imm (Imm.v _)|exact VC.imm (Imm.sl _)))));(first|exact h1|exact h1'|exact h2);(focus (repeat ((exact Flat.v _))));((apply yM));((exact xE _ _)))))
      (((refine zX _ [] (.cons (yY rfl rfl rfl zI rfl rfl rfl) (.cons (zP rfl) .nil)) ?_ rfl ?_)) <;> (repeat' (first|exact trivial|exact rfl|apply And.intro)))
    | true =>
      rw [hz, ← hL] at h2
      rw [if_pos rfl]
      rw [inZ, decide_eq_true_eq] at hz
      obtain ⟨n, rfl⟩ : ∃ n : Nat, f = (n : Int) := ⟨f.toNat, by omega⟩
      have h3 := l11Match_pf es l n hb (by omega) (by omega)
      rw [Int.toNat_natCast]
      refine PF.enter (vE _ _ _) Tryz.func46 rfl (by kernel_rfl) _ _ rfl rfl rfl (fun w0 mu I0 β0 gi dis => ?_)
      (repeat' (first|(apply xW;(first|exact Want.none_ rfl|(refine z6 rfl rfl rfl rfl ?_;((exact rfl)))))|(apply xF zI;exact rfl;exact rfl)|((first|apply yZ|apply zV|apply yE)<;>(first|exact zI|exact rfl|refine yI ?_|omega|exact lb rfl))|(apply y4;exact rfl;exact rfl;((exact rfl));exact rfl;exact rfl)|apply zS|apply AWp.Q|apply zH|apply AWp.G|apply AWp.J|apply AWp.R|(apply AWp.F;exact rfl;((exact rfl)))|(apply yD;(iterate 6 exact rfl);(iterate 2 (focus (repeat (first|exact VAs.nil|apply VAs.cons|apply VA.c|apply VA.agg|exact VCs.nil|apply VCs.cons|exact VC.imm (Imm.v _)|exact VC.imm (Imm.sl _)))));(first|exact h1|exact h1'|exact h2|exact h3);(focus (repeat (first|exact trivial|exact Flat.v _|apply And.intro)));((apply yM));(first|exact xE _ _|exact rfl))))
      (((refine zX _ [] (.cons (yY rfl rfl rfl zI rfl rfl rfl) (.cons (zP rfl) .nil)) ?_ rfl ?_)) <;> (repeat' (first|exact trivial|exact rfl|apply And.intro)))
theorem isSg_step {es : List Ent} {l : List Int} {a k : Nat} {ps : List Pc} {p : Pc} (h : ps[k]? = some p) : isSg es l a (ps.drop k) = (kO es l a p && isSg es l (a + p.n.toNat) (ps.drop (k + 1))) := by
  obtain ⟨h1, h2⟩ := List.getElem?_eq_some_iff.1 h
  rw [List.drop_eq_getElem_cons h1, h2, isSg]
theorem fit_no1 {es : List Ent} {l : List Int} {a : Nat} {p : Pc} (h : ¬ p.f = a) : kO es l a p = false := by rw [kO, decide_eq_false h, Bool.false_and, Bool.false_and]
theorem fit_no2 {es : List Ent} {l : List Int} {a : Nat} {p : Pc} (h : inZ p.n 1 ((l.length : Int) - a) = false) : kO es l a p = false := by
  rw [kO]
  have e : decide (1 ≤ p.n ∧ p.n ≤ (l.length : Int) - a) = false := h
  rw [e, Bool.and_false, Bool.false_and]
theorem fit_yes {es : List Ent} {l : List Int} {a : Nat} {p : Pc} (h1 : p.f = a) (h2 : inZ p.n 1 ((l.length : Int) - a) = true) : kO es l a p = (hasE es (cut l a p.n.toNat) && decide (p.t = qC es (cut l a p.n.toNat)) || decide (p.n = 1 ∧ p.t = [])) := by
  rw [kO, decide_eq_true h1]
  have e : decide (1 ≤ p.n ∧ p.n ≤ (l.length : Int) - a) = true := h2
  rw [e, Bool.true_and, Bool.true_and]
theorem implIsSeg_pf (es : List Ent) (l : List Int) (ps : List Pc) (hb : wX es) (hl : l.length ≤ 1000000) (hp : ps.length ≤ 1000000) : PF Tryz.prog 70 [.agg (x3 es), .c (.sl (l.map yU)), .c (.sl (ps.map xQ))] [] (.c (boo (isSg es l 0 ps))) := by
  have hL : (l.map yU).length = l.length := List.length_map _
  have hLp : (ps.map xQ).length = ps.length := List.length_map _
  have h1l := vV l
  refine PF.enter (vE _ _ _) Tryz.func70 rfl (by kernel_rfl) _ _ rfl rfl rfl (fun w0 mu I0 β0 gi dis => ?_)
  (repeat' (first|(apply xW;((exact Want.none_ rfl)))|(apply xF zI;exact rfl;exact rfl)|apply zS|apply AWp.Q|apply zH|apply AWp.G|apply AWp.B))
  refine AWp.U (σ := Nat × Nat) (fun q => ⟨[(1, .c (.sl (l.map yU))), (3, .c (.ptr 0 0 0)), (7, .c (int q.2)), (12, .c (.sl (ps.map xQ))), (13, .c (int ps.length)), (14, .c (int q.1))], [(0, some ⟨26, 1, [x3 es]⟩)], 1⟩) (fun q => q.1 ≤ ps.length ∧ q.2 ≤ l.length ∧ isSg es l 0 ps = isSg es l q.2 (ps.drop q.1)) (fun q => ps.length - q.1) (0, 0) ⟨Nat.zero_le _, Nat.zero_le _, rfl⟩ ?_ ?_
  · refine Weak.of [(0, some 0)] rfl ?_ ?_ <;> (repeat' (first|exact trivial|exact rfl|apply And.intro|(apply cgI;(omega))|refine ⟨_,rfl,rfl,rfl,OW.one ?_⟩))
  · rintro ⟨k, a⟩ ⟨hk, ha, hall⟩
    dsimp only at hk ha hall ⊢
    rw [hall]
    clear hall
    by_cases hlt : k < ps.length
    · obtain ⟨p, hpk⟩ := xY hlt
      have hp' : (ps.map xQ)[k]? = some (xQ p) := xS hpk
      have hlt' : (k : Int) < (ps.length : Int) := by omega
      have hin := kS p.n 1 (((l.map yU).length : Int) - (a : Int))
      rw [isSg_step hpk]
      by_cases hf : p.f = a
      · cases hz : inZ p.n 1 ((l.length : Int) - a) with
        | false =>
          rw [hL, hz, ← hL] at hin
          rw [fit_no2 hz, Bool.false_and]
          (repeat' (first|(apply xW;(first|exact Want.none_ rfl|(refine z6 rfl rfl rfl rfl ?_;((exact dF ‹_›)))))|(apply xF zI;exact rfl;exact rfl)|((first|apply yZ|(apply yC;exact rfl;exact rfl)|apply zV|apply yE)<;>(first|exact zI|exact rfl|refine yI ?_|assumption|omega|exact lb rfl))|(apply y4;exact rfl;exact rfl;((exact dF ‹_›));exact rfl;exact rfl)|apply zS|apply AWp.Q|apply zH|apply AWp.G|apply AWp.B|apply AWp.J|apply AWp.R|apply zK|apply zM|(apply AWp.T;exact rfl;(first|exact dT ‹_›|exact rfl))|(apply yD;(iterate 6 exact rfl);(iterate 2 (focus (repeat (first|exact VAs.nil|apply VAs.cons|apply VA.c|exact VCs.nil|exact VC.imm (Imm.v _)))));((exact hin));(focus (repeat ((exact Flat.v _))));((apply yM));((exact xE _ _)))|(((refine z7 rfl rfl rfl ?_ ?_))<;>intro hp<;>try (exfalso;omega))))
          (((refine zX _ [] (.cons (zP rfl) .nil) ?_ rfl ?_)) <;> (repeat' (first|exact trivial|exact rfl)))
        | true =>
          rw [hL, hz, ← hL] at hin
          rw [fit_yes hf hz]
          rw [inZ, decide_eq_true_eq] at hz
          obtain ⟨n, hn⟩ : ∃ n : Nat, p.n = (n : Int) := ⟨p.n.toNat, by omega⟩
          obtain ⟨pf, pn, pt⟩ := p
          simp only at hn hf hz hin hp' ⊢
          subst hn hf
          have hp2 : (ps.map xQ)[k]? = some (xQ ⟨(a : Int), (n : Int), pt⟩) := hp'
          clear hp'
          rw [xQ] at hp2
          dsimp only at hp2
          rw [Int.toNat_natCast]
          have hsum : (a : Int) + (n : Int) = ((a + n : Nat) : Int) := by omega
          have hg := lookup_pf es (cut l a n) hb (by rw [qL (by omega)]; omega)
          rw [qI] at hg
          cases hh : hasE es (cut l a n) with
          | true =>
            rw [hh] at hg
            by_cases ht : pt = qC es (cut l a n)
            · rw [decide_eq_true ht, Bool.true_and, Bool.true_or, Bool.true_and]
              (repeat' (first|(apply xW;(first|exact Want.none_ rfl|(refine z6 rfl rfl rfl rfl ?_;(first|assumption|exact dT ‹_›|exact dF ‹_›|exact rfl))))|(apply xF zI;exact rfl;exact rfl)|((first|apply z8|apply yZ|(apply yC;exact rfl;exact rfl)|apply zV|(apply yT;exact rfl;exact rfl)|apply yE)<;>(first|exact zI|exact rfl|refine yI ?_|assumption|omega|exact ⟨rfl,_,_,rfl,rfl⟩|exact lb rfl|(refine Bd.mk ?_;(assumption))))|(apply y4;exact rfl;exact rfl;(first|assumption|exact dT ‹_›|exact dF ‹_›|exact rfl);exact rfl;exact rfl)|(apply y3;(iterate 5 exact rfl);(first|assumption|exact dF ‹_›))|(apply yO;(iterate 5 exact rfl))|apply zS|(refine yN ?_ ?_;kernel_rfl)|apply AWp.Q|apply zH|apply AWp.G|apply AWp.B|apply AWp.J|apply AWp.R|apply zK|apply zJ|apply zM|(refine AWp.D ?_ ?_;kernel_rfl)|(apply AWp.T;exact rfl;(first|exact dT ‹_›|exact rfl))|(apply AWp.F;exact rfl;((exact rfl)))|(apply yD;(iterate 6 exact rfl);(iterate 2 (focus (repeat (first|exact VAs.nil|apply VAs.cons|apply VA.c|apply VA.agg|exact VCs.nil|apply VCs.cons|exact VC.imm (Imm.v _)|exact VC.imm (Imm.sl _)))));(first|exact hin|exact hg);(focus (repeat (first|exact trivial|exact Flat.v _|apply And.intro)));((apply yM));(first|exact xE _ _|exact xB _ _ _))|((first|refine z7 rfl rfl rfl ?_ ?_|refine yF rfl rfl rfl ?_ ?_)<;>intro hp<;>try (exfalso;omega))|(((refine AWp.O _ rfl ?_ ?_))<;>intro hp<;>try (exfalso;omega))))
              all_goals first | (exfalso; simp only [Bool.not_eq_true', Bool.not_eq_false', decide_eq_true_eq, decide_eq_false_iff_not] at *; first | contradiction | omega | exact (by assumption : ¬ (_ ∧ _)) ⟨by omega, by assumption⟩) | skip
              refine ⟨(k + 1, a + n), ⟨by dsimp only; omega, by dsimp only; omega, rfl⟩, by dsimp only; omega, ?_⟩
              refine Weak.of [(0, some 0)] rfl ?_ ?_ <;> (repeat' (first|exact trivial|exact rfl|apply And.intro|refine ⟨_,rfl,rfl,rfl,OW.one ?_⟩))
            · rw [decide_eq_false ht, Bool.and_false, Bool.false_or]
              by_cases h1 : n = 1 ∧ pt = []
              · obtain ⟨rfl, rfl⟩ := h1
                rw [decide_eq_true (by exact ⟨rfl, rfl⟩), Bool.true_and]
                have hnil : ([] : List UInt8) = [] := rfl
                have hone : ((1 : Nat) : Int) = 1 := rfl
                (repeat' (first|(apply xW;(first|exact Want.none_ rfl|(refine z6 rfl rfl rfl rfl ?_;(first|assumption|exact dT ‹_›|exact dF ‹_›|exact rfl))))|(apply xF zI;exact rfl;exact rfl)|((first|apply z8|apply yZ|(apply yC;exact rfl;exact rfl)|apply zV|(apply yT;exact rfl;exact rfl)|apply yE)<;>(first|exact zI|exact rfl|refine yI ?_|assumption|omega|exact ⟨rfl,_,_,rfl,rfl⟩|exact lb rfl|(refine Bd.mk ?_;(assumption))))|(apply y4;exact rfl;exact rfl;(first|assumption|exact dT ‹_›|exact dF ‹_›|exact rfl);exact rfl;exact rfl)|(apply y3;(iterate 5 exact rfl);((assumption)))|(apply yO;(iterate 5 exact rfl))|apply zS|(refine yN ?_ ?_;kernel_rfl)|apply AWp.Q|apply zH|apply AWp.G|apply AWp.B|apply AWp.J|apply zJ|(refine AWp.D ?_ ?_;kernel_rfl)|(apply AWp.T;exact rfl;((exact dT ‹_›)))|(apply AWp.F;exact rfl;((exact rfl)))|(apply yD;(iterate 6 exact rfl);(iterate 2 (focus (repeat (first|exact VAs.nil|apply VAs.cons|apply VA.c|apply VA.agg|exact VCs.nil|apply VCs.cons|exact VC.imm (Imm.v _)|exact VC.imm (Imm.sl _)))));(first|exact hin|exact hg);(focus (repeat (first|exact trivial|exact Flat.v _|apply And.intro)));((apply yM));(first|exact xE _ _|exact xB _ _ _))|((first|refine z7 rfl rfl rfl ?_ ?_|refine yF rfl rfl rfl ?_ ?_)<;>intro hp<;>try (exfalso;omega))))
                all_goals first | (exfalso; simp only [Bool.not_eq_true', Bool.not_eq_false', decide_eq_true_eq, decide_eq_false_iff_not] at *; first | contradiction | omega | exact (by assumption : ¬ (_ ∧ _)) ⟨by omega, by assumption⟩) | skip
                refine ⟨(k + 1, a + 1), ⟨by dsimp only; omega, by dsimp only; omega, rfl⟩, by dsimp only; omega, ?_⟩
                refine Weak.of [(0, some 0)] rfl ?_ ?_ <;> (repeat' (first|exact trivial|exact rfl|apply And.intro|refine ⟨_,rfl,rfl,rfl,OW.one ?_⟩))
              · rw [decide_eq_false (fun e => h1 ⟨by omega, e.2⟩), Bool.false_and]
                (repeat' (first|(apply xW;(first|exact Want.none_ rfl|(refine z6 rfl rfl rfl rfl ?_;(first|assumption|exact dT ‹_›|exact dF ‹_›|exact rfl))))|(apply xF zI;exact rfl;exact rfl)|((first|apply z8|apply yZ|(apply yC;exact rfl;exact rfl)|apply zV|(apply yT;exact rfl;exact rfl)|apply yE)<;>(first|exact zI|exact rfl|refine yI ?_|assumption|omega|exact ⟨rfl,_,_,rfl,rfl⟩|exact lb rfl|(refine Bd.mk ?_;(assumption))))|(apply y4;exact rfl;exact rfl;(first|assumption|exact dT ‹_›|exact dF ‹_›|exact rfl);exact rfl;exact rfl)|(apply y3;(iterate 5 exact rfl);(first|assumption|exact dF ‹_›))|(apply yO;(iterate 5 exact rfl))|apply zS|(refine yN ?_ ?_;kernel_rfl)|apply AWp.Q|apply zH|apply AWp.G|apply AWp.B|apply AWp.J|apply AWp.R|apply zK|apply zJ|apply zM|(refine AWp.D ?_ ?_;kernel_rfl)|(apply AWp.T;exact rfl;(first|exact dT ‹_›|exact rfl))|(apply AWp.F;exact rfl;((exact rfl)))|(apply yD;(iterate 6 exact rfl);(iterate 2 (focus (repeat (first|exact VAs.nil|apply VAs.cons|apply VA.c|apply VA.agg|exact VCs.nil|apply VCs.cons|exact VC.imm (Imm.v _)|exact VC.imm (Imm.sl _)))));(first|exact hin|exact hg);(focus (repeat (first|exact trivial|exact Flat.v _|apply And.intro)));((apply yM));(first|exact xE _ _|exact xB _ _ _))|((first|refine z7 rfl rfl rfl ?_ ?_|refine yF rfl rfl rfl ?_ ?_)<;>intro hp<;>try (exfalso;omega))|(((refine AWp.O _ rfl ?_ ?_))<;>intro hp<;>try (exfalso;omega))))
                all_goals first | (exfalso; simp only [Bool.not_eq_true', Bool.not_eq_false', decide_eq_true_eq, decide_eq_false_iff_not] at *; first | contradiction | omega | exact (by assumption : ¬ (_ ∧ _)) ⟨by omega, by assumption⟩) | skip
                all_goals
                  (((refine zX _ [] (.cons (zP rfl) .nil) ?_ rfl ?_)) <;> (repeat' (first|exact trivial|exact rfl)))
          | false =>
            rw [hh] at hg
            rw [Bool.false_and, Bool.false_or]
            by_cases h1 : n = 1 ∧ pt = []
            · obtain ⟨rfl, rfl⟩ := h1
              rw [decide_eq_true (by exact ⟨rfl, rfl⟩), Bool.true_and]
              have hnil : ([] : List UInt8) = [] := rfl
              have hone : ((1 : Nat) : Int) = 1 := rfl
              (repeat' (first|(apply xW;(first|exact Want.none_ rfl|(refine z6 rfl rfl rfl rfl ?_;(first|exact dT ‹_›|exact dF ‹_›|exact rfl))))|(apply xF zI;exact rfl;exact rfl)|((first|apply z8|apply yZ|(apply yC;exact rfl;exact rfl)|apply zV|(apply yT;exact rfl;exact rfl)|apply yE)<;>(first|exact zI|exact rfl|refine yI ?_|assumption|omega|exact ⟨rfl,_,_,rfl,rfl⟩|exact lb rfl|(refine Bd.mk ?_;(assumption))))|(apply y4;exact rfl;exact rfl;(first|exact dT ‹_›|exact dF ‹_›|exact rfl);exact rfl;exact rfl)|(apply y3;(iterate 5 exact rfl);((exact rfl)))|apply zS|(refine yN ?_ ?_;kernel_rfl)|apply AWp.Q|apply zH|apply AWp.G|apply AWp.B|apply AWp.J|apply zJ|(refine AWp.D ?_ ?_;kernel_rfl)|(apply AWp.T;exact rfl;((exact dT ‹_›)))|(apply AWp.F;exact rfl;((exact rfl)))|(apply yD;(iterate 6 exact rfl);(iterate 2 (focus (repeat (first|exact VAs.nil|apply VAs.cons|apply VA.c|apply VA.agg|exact VCs.nil|apply VCs.cons|exact VC.imm (Imm.v _)|exact VC.imm (Imm.sl _)))));(first|exact hin|exact hg);(focus (repeat (first|exact trivial|exact Flat.v _|apply And.intro)));((apply yM));(first|exact xE _ _|exact xB _ _ _))|(((refine z7 rfl rfl rfl ?_ ?_))<;>intro hp<;>try (exfalso;omega))))
              all_goals first | (exfalso; simp only [Bool.not_eq_true', Bool.not_eq_false', decide_eq_true_eq, decide_eq_false_iff_not] at *; first | contradiction | omega | exact (by assumption : ¬ (_ ∧ _)) ⟨by omega, by assumption⟩) | skip
              refine ⟨(k + 1, a + 1), ⟨by dsimp only; omega, by dsimp only; omega, rfl⟩, by dsimp only; omega, ?_⟩
              refine Weak.of [(0, some 0)] rfl ?_ ?_ <;> (repeat' (first|exact trivial|exact rfl|apply And.intro|refine ⟨_,rfl,rfl,rfl,OW.one ?_⟩))
            · rw [decide_eq_false (fun e => h1 ⟨by omega, e.2⟩), Bool.false_and]
              (repeat' (first|(apply xW;(first|exact Want.none_ rfl|(refine z6 rfl rfl rfl rfl ?_;(first|exact dT ‹_›|exact dF ‹_›|exact rfl))))|(apply xF zI;exact rfl;exact rfl)|((first|apply z8|apply yZ|(apply yC;exact rfl;exact rfl)|apply zV|(apply yT;exact rfl;exact rfl)|apply yE)<;>(first|exact zI|exact rfl|refine yI ?_|assumption|omega|exact ⟨rfl,_,_,rfl,rfl⟩|exact lb rfl|(refine Bd.mk ?_;(assumption))))|(apply y4;exact rfl;exact rfl;(first|exact dT ‹_›|exact dF ‹_›|exact rfl);exact rfl;exact rfl)|(apply y3;(iterate 5 exact rfl);(first|exact dF ‹_›|exact rfl))|apply zS|(refine yN ?_ ?_;kernel_rfl)|apply AWp.Q|apply zH|apply AWp.G|apply AWp.B|apply AWp.J|apply AWp.R|apply zK|apply zJ|apply zM|(refine AWp.D ?_ ?_;kernel_rfl)|(apply AWp.T;exact rfl;(first|exact dT ‹_›|exact rfl))|(apply AWp.F;exact rfl;((exact rfl)))|(apply yD;(iterate 6 exact rfl);(iterate 2 (focus (repeat (first|exact VAs.nil|apply VAs.cons|apply VA.c|apply VA.agg|exact VCs.nil|apply VCs.cons|exact VC.imm (Imm.v _)|exact VC.imm (Imm.sl _)))));(first|exact hin|exact hg);(focus (repeat (first|exact trivial|exact Flat.v _|apply And.intro)));((apply yM));(first|exact xE _ _|exact xB _ _ _))|(((refine z7 rfl rfl rfl ?_ ?_))<;>intro hp<;>try (exfalso;omega))|(((refine AWp.O _ rfl ?_ ?_))<;>intro hp<;>try (exfalso;omega))))
              all_goals first | (exfalso; simp only [Bool.not_eq_true', Bool.not_eq_false', decide_eq_true_eq, decide_eq_false_iff_not] at *; first | contradiction | omega | exact (by assumption : ¬ (_ ∧ _)) ⟨by omega, by assumption⟩) | skip
              all_goals
                (((refine zX _ [] (.cons (zP rfl) .nil) ?_ rfl ?_)) <;> (repeat' (first|exact trivial|exact rfl)))
      · rw [fit_no1 hf, Bool.false_and]
        (repeat' (first|(apply xW;((exact Want.none_ rfl)))|(apply xF zI;exact rfl;exact rfl)|((first|(apply yC;exact rfl;exact rfl)|apply zV|apply yE)<;>(first|exact zI|exact rfl|refine yI ?_|assumption|exact lb rfl))|(apply y4;exact rfl;exact rfl;((exact dT ‹_›));exact rfl;exact rfl)|(apply y3;(iterate 5 exact rfl);((exact dT ‹_›)))|apply zS|apply AWp.Q|apply zH|apply AWp.G|apply AWp.B|apply AWp.J|apply AWp.R|apply zK|apply zM|(apply AWp.T;exact rfl;(first|exact dT ‹_›|exact rfl))))
        (((refine zX _ [] (.cons (zP rfl) .nil) ?_ rfl ?_)) <;> (repeat' (first|exact trivial|exact rfl)))
    · have hlt' : ¬ (k : Int) < (ps.length : Int) := by omega
      rw [List.drop_eq_nil_of_le (by omega), isSg]
      (repeat' (first|(apply xW;((exact Want.none_ rfl)))|(apply xF zI;exact rfl;exact rfl)|apply zS|apply AWp.Q|apply zH|apply AWp.G|apply AWp.X|apply AWp.R|apply zR|apply zO|(apply AWp.F;exact rfl;((exact dF ‹_›)))))
      (((refine zX _ [] (.cons (zP rfl) .nil) ?_ rfl ?_)) <;> (repeat' (first|exact trivial|refine vwB ?_)))
      rw [Bool.eq_iff_iff, decide_eq_true_eq, decide_eq_true_eq]; omega
end Go.Proofs.YtchpdclknbmdoaaGreatDoor
