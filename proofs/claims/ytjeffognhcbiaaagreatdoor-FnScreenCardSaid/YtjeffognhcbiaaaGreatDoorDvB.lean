/- Valid dictionaries, by both programs. No conditions but bounds of lengths. -/
import Derived.Test.YtjeffognhcbiaaaGreatDoorDvA
import Derived.Test.YtjeffognhcbiaaaGreatDoorFwA
namespace Go.Proofs.YtjeffognhcbiaaaGreatDoor
open Go Go.RowKit
def qL (e : Ent) : Bool := outOk e.o && vY e.t
theorem l6Entry_pf (e : Ent) (h1 : e.o.length ≤ 1048576) (h2 : e.t.length ≤ 1048576) : PF Tryz.prog 56 [.agg (xS e)] [] (.c (boo (qL e))) := by
  have ha := l5Parse_pf e.t h2
  have hb := l4Good_pf e.o (by omega)
  have i0 : ∀ obj : AObj, some obj ∈ ([] : List (Option AObj)) → ∀ x ∈ obj.els, ∀ c ∈ x, Imm c := fun _ h => by cases h
  rw [qL]
  cases hg : outOk e.o with
  | false =>
    rw [hg] at hb
    refine PF.enter (xJ _) Tryz.func56 rfl (by kernel_rfl) _ _ rfl rfl rfl (fun w0 mu I0 β0 gi dis => ?_)
    (repeat' (first|(apply xW;((exact Want.none_ rfl)))|(apply xF zI;exact rfl;exact rfl)|(apply yR;exact rfl;exact rfl;((exact rfl));exact rfl;exact rfl)|(apply yS;(iterate 5 exact rfl);((exact rfl)))|apply zR|apply AWp.Q|apply zH|apply AWp.G|apply AWp.R|(apply (yP (ha));(iterate 7 exact rfl);(focus (repeat ((exact All2.nil))));exact rfl;(focus (repeat (first|exact MAs.nil|apply MAs.cons|apply MA.c|exact MC.vc (VC.imm (Imm.v _)))));((assumption));((exact xP));exact rfl;exact rfl)|(apply yA;(iterate 6 exact rfl);(iterate 2 (focus (repeat (first|exact VAs.nil|apply VAs.cons|apply VA.c|exact VCs.nil|exact VC.imm (Imm.sl _)))));((exact hb));(focus (repeat ((exact Flat.v _))));((apply yJ));((exact xB _ _)))))
    (((refine zV _ [] (.cons (zN rfl) .nil) ?_ rfl ?_)) <;> (repeat' (first|exact trivial|exact rfl)))
  | true =>
    rw [hg] at hb
    refine PF.enter (xJ _) Tryz.func56 rfl (by kernel_rfl) _ _ rfl rfl rfl (fun w0 mu I0 β0 gi dis => ?_)
    (repeat' (first|(apply xW;(first|exact Want.none_ rfl|(refine zX rfl rfl rfl rfl ?_;((exact rfl)))))|(apply xF zI;exact rfl;exact rfl)|(apply yR;exact rfl;exact rfl;((exact rfl));exact rfl;exact rfl)|apply zR|apply AWp.Q|apply zH|apply AWp.G|apply AWp.R|(apply (yP (ha));(iterate 7 exact rfl);(focus (repeat ((exact All2.nil))));exact rfl;(focus (repeat (first|exact MAs.nil|apply MAs.cons|apply MA.c|exact MC.vc (VC.imm (Imm.v _)))));((assumption));((exact xP));exact rfl;exact rfl)|(apply yA;(iterate 6 exact rfl);(iterate 2 (focus (repeat (first|exact VAs.nil|apply VAs.cons|apply VA.c|exact VCs.nil|exact VC.imm (Imm.sl _)))));((exact hb));(focus (repeat ((exact Flat.v _))));((apply yJ));((exact xB _ _)))))
    (((refine zV _ [] (.cons (zN rfl) .nil) ?_ rfl ?_)) <;> (repeat' (first|exact trivial|exact rfl)))
theorem implEntry_pf (e : Ent) (h1 : e.o.length ≤ 1048576) (h2 : e.t.length ≤ 1048576) : PF Tryz.prog 62 [.agg (xS e)] [] (.c (boo (qL e))) := by
  have ha := isTr_pf e.t h2
  have hb := implOut_pf e.o (by omega)
  rw [qL]
  cases hg : outOk e.o with
  | false =>
    rw [hg] at hb
    refine PF.enter (xJ _) Tryz.func62 rfl (by kernel_rfl) _ _ rfl rfl rfl (fun w0 mu I0 β0 gi dis => ?_)
    (repeat' (first|(apply xW;((exact Want.none_ rfl)))|(apply xF zI;exact rfl;exact rfl)|(apply yR;exact rfl;exact rfl;((exact rfl));exact rfl;exact rfl)|(apply yS;(iterate 5 exact rfl);((exact rfl)))|apply zR|apply AWp.Q|apply zH|apply AWp.G|apply AWp.R|(apply yA;(iterate 6 exact rfl);(iterate 2 (focus (repeat (first|exact VAs.nil|apply VAs.cons|apply VA.c|exact VCs.nil|exact VC.imm (Imm.sl _)))));((exact hb));(focus (repeat ((exact Flat.v _))));((apply yJ));((exact xB _ _)))))
    (((refine zV _ [] (.cons (zN rfl) .nil) ?_ rfl ?_)) <;> (repeat' (first|exact trivial|exact rfl)))
  | true =>
    rw [hg] at hb
    refine PF.enter (xJ _) Tryz.func62 rfl (by kernel_rfl) _ _ rfl rfl rfl (fun w0 mu I0 β0 gi dis => ?_)
    (repeat' (first|(apply xW;(first|exact Want.none_ rfl|(refine zX rfl rfl rfl rfl ?_;((exact rfl)))))|(apply xF zI;exact rfl;exact rfl)|(apply yR;exact rfl;exact rfl;((exact rfl));exact rfl;exact rfl)|apply zR|apply AWp.Q|apply zH|apply AWp.G|apply AWp.R|(apply yA;(iterate 6 exact rfl);(iterate 2 (focus (repeat (first|exact VAs.nil|apply VAs.cons|apply VA.c|exact VCs.nil|exact VC.imm (Imm.v _)|exact VC.imm (Imm.sl _)))));(first|exact ha|exact hb);(focus (repeat ((exact Flat.v _))));((apply yJ));((exact xB _ _)))))
    (((refine zV _ [] (.cons (zN rfl) .nil) ?_ rfl ?_)) <;> (repeat' (first|exact trivial|exact rfl)))
def ltP : Option (List Int) → List Int → Bool
  | none, _ => true
  | some q, o => decide (wP q o < 0)
def srtL : List Ent → Option (List Int) → Bool
  | [], _ => true
  | e :: r, p => qL e && ltP p e.o && srtL r (some e.o)
def srt (p : Option (List Int)) (es : List Ent) : Bool := srtL es p
theorem srt_nil (p : Option (List Int)) : srt p [] = true := rfl
theorem srt_cons (p : Option (List Int)) (e : Ent) (r : List Ent) : srt p (e :: r) = (qL e && ltP p e.o && srt (some e.o) r) := rfl
def prv (es : List Ent) : Nat → Option (List Int)
  | 0 => none
  | k + 1 => (es[k]?).map (·.o)
def qE (es : List Ent) : Bool := decide (es.length ≤ 40) && srt none es
theorem dropE {es : List Ent} {k : Nat} {e : Ent} (h : es[k]? = some e) : es.drop k = e :: es.drop (k + 1) := by
  obtain ⟨h1, h2⟩ := List.getElem?_eq_some_iff.1 h
  rw [List.drop_eq_getElem_cons h1, h2]
theorem srt_step {es : List Ent} {k : Nat} {e : Ent} (h : es[k]? = some e) : srt (prv es k) (es.drop k) = (qL e && ltP (prv es k) e.o && srt (prv es (k + 1)) (es.drop (k + 1))) := by
  rw [dropE h, srt_cons, prv, h]; rfl
theorem prv_succ {es : List Ent} {k : Nat} {e : Ent} (h : es[k]? = some e) : prv es (k + 1) = some e.o := by rw [prv, h]; rfl
theorem srt_mem : ∀ {es : List Ent} {p : Option (List Int)}, srt p es = true → ∀ e ∈ es, qL e = true
  | [], _, _, e, h => by cases h
  | x :: es, p, hs, e, h => by
    rw [srt_cons, Bool.and_eq_true, Bool.and_eq_true] at hs
    rcases List.mem_cons.1 h with rfl | h
    · exact hs.1.1
    · exact srt_mem hs.2 e h
theorem dicOk_parts {es : List Ent} (h : qE es = true) : es.length ≤ 40 ∧ srt none es = true ∧ ∀ e ∈ es, qL e = true := by
  rw [qE, Bool.and_eq_true, decide_eq_true_eq] at h
  exact ⟨h.1, h.2, srt_mem h.2⟩
theorem entOk_parts {e : Ent} (h : qL e = true) : 1 ≤ e.o.length ∧ e.o.length ≤ 6 ∧ e.o.all okS = true ∧ vY e.t = true := by
  rw [qL, Bool.and_eq_true, outOk, Bool.and_eq_true, inZ, decide_eq_true_eq] at h
  exact ⟨by omega, by omega, h.1.2, h.2⟩
theorem dicOk_B {es : List Ent} (h : qE es = true) : qG es := by
  obtain ⟨h1, _, h2⟩ := dicOk_parts h
  refine ⟨by omega, fun e he => ?_⟩
  have h3 := entOk_parts (h2 e he)
  have h4 := qC h3.2.2.2
  omega
theorem l6Good_pf (es : List Ent) (hb : qG es) : PF Tryz.prog 29 [.agg (wG es)] [] (.c (boo (qE es))) := by
  have hbl := hb.1
  have hL : (es.map xS).length = es.length := List.length_map _
  by_cases hbig : 40 < es.length
  · have hb' : (40 : Int) < ((es.map xS).length : Int) := by omega
    rw [qE, decide_eq_false (by omega), Bool.false_and]
    refine PF.enter (xJ _) Tryz.func29 rfl (by kernel_rfl) _ _ rfl rfl rfl (fun w0 mu I0 β0 gi dis => ?_)
    (repeat' (first|(apply xW;((exact Want.none_ rfl)))|(apply xF zI;exact rfl;exact rfl)|apply zR|apply AWp.Q|apply zH|apply AWp.G|apply AWp.R|apply zK|(apply AWp.T;exact rfl;((exact dT ‹_›)))))
    (((refine zV _ [] (.cons (zN rfl) .nil) ?_ rfl ?_)) <;> (repeat' (first|exact trivial|exact rfl)))
  · have hb' : ¬ (40 : Int) < ((es.map xS).length : Int) := by omega
    rw [qE, decide_eq_true (by omega), Bool.true_and]
    refine PF.enter (xJ _) Tryz.func29 rfl (by kernel_rfl) _ _ rfl rfl rfl (fun w0 mu I0 β0 gi dis => ?_)
    (repeat' (first|(apply xW;((exact Want.none_ rfl)))|(apply xF zI;exact rfl;exact rfl)|apply zR|apply AWp.Q|apply zH|apply AWp.G|apply AWp.B|apply AWp.J|(apply AWp.F;exact rfl;((exact dF ‹_›)))))
    refine AWp.U (σ := Nat) (fun k => ⟨[(1, .c (.ptr 0 0 0)), (3, .c (int k))], [(0, some ⟨35, 1, [wG es]⟩)], 1⟩) (fun k => k ≤ es.length ∧ srt none es = srt (prv es k) (es.drop k)) (fun k => es.length - k) 0 ⟨Nat.zero_le _, rfl⟩ ?_ ?_
    · refine Weak.of [(0, some 0)] rfl ?_ ?_ <;> (repeat' (first|exact trivial|exact rfl|apply And.intro|refine ⟨_,rfl,rfl,rfl,OW.one ?_⟩))
    · rintro k ⟨hk, hall⟩
      rw [hall]
      by_cases hlt : k < es.length
      · obtain ⟨e, he⟩ := xT hlt
        have he' : (es.map xS)[k]? = some (xS e) := xY he
        have hlt' : (k : Int) < ((es.map xS).length : Int) := by omega
        have heb := hb.2 e (List.mem_of_getElem? he)
        have hg := l6Entry_pf e heb.1 heb.2
        have hst := srt_step he
        rw [hst]
        cases ho : qL e with
        | false =>
          rw [ho] at hg
          rw [Bool.false_and, Bool.false_and]
          (repeat' (first|(apply xW;((exact Want.none_ rfl)))|(apply xF zI;exact rfl;exact rfl)|(((apply yN;exact rfl;exact rfl))<;>(first|exact zI|exact rfl|refine yG ?_|assumption))|(apply yR;exact rfl;exact rfl;((exact rfl));exact rfl;exact rfl)|(apply yS;(iterate 5 exact rfl);((exact rfl)))|(apply yF;(iterate 5 exact rfl))|apply zR|(refine yT ?_ ?_;kernel_rfl)|apply AWp.Q|apply zH|apply AWp.G|apply AWp.B|apply AWp.J|apply AWp.R|apply zK|apply zL|(refine AWp.D ?_ ?_;kernel_rfl)|(apply AWp.T;exact rfl;(first|exact dT ‹_›|exact rfl))|(apply yA;(iterate 6 exact rfl);(iterate 2 (focus (repeat (first|exact VAs.nil|apply VAs.cons|apply VA.agg|exact VCs.nil|apply VCs.cons|exact VC.imm (Imm.v _)|exact VC.imm (Imm.sl _)))));((exact hg));(focus (repeat ((exact Flat.v _))));((apply yJ));((exact xB _ _)))))
          (((refine zV _ [] (.cons (zN rfl) .nil) ?_ rfl ?_)) <;> (repeat' (first|exact trivial|exact rfl)))
        | true =>
          rw [ho] at hg hst
          rcases k with _ | j
          · rw [show prv es 0 = none from rfl]
            rw [show prv es 0 = none from rfl] at hst
            (repeat' (first|(apply xW;(first|exact Want.none_ rfl|(refine zX rfl rfl rfl rfl ?_;((exact rfl)))))|(apply xF zI;exact rfl;exact rfl)|((first|apply zZ|(apply yN;exact rfl;exact rfl))<;>(first|exact zI|exact rfl|refine yG ?_|assumption|omega))|(apply yR;exact rfl;exact rfl;((exact rfl));exact rfl;exact rfl)|(apply yS;(iterate 5 exact rfl);((exact rfl)))|apply zR|(refine yT ?_ ?_;kernel_rfl)|apply AWp.Q|apply zH|apply AWp.G|apply AWp.B|apply AWp.J|apply zJ|(refine AWp.D ?_ ?_;kernel_rfl)|(apply AWp.T;exact rfl;((exact dT ‹_›)))|(apply AWp.F;exact rfl;((exact rfl)))|(apply yA;(iterate 6 exact rfl);(iterate 2 (focus (repeat (first|exact VAs.nil|apply VAs.cons|apply VA.agg|exact VCs.nil|apply VCs.cons|exact VC.imm (Imm.v _)|exact VC.imm (Imm.sl _)))));((exact hg));(focus (repeat ((exact Flat.v _))));((apply yJ));((exact xB _ _)))))
            refine ⟨1, ⟨by omega, by simp [ltP]⟩, by omega, ?_⟩
            refine Weak.of [(0, some 0)] rfl ?_ ?_ <;> (repeat' (first|exact trivial|exact rfl|apply And.intro|refine ⟨_,rfl,rfl,rfl,OW.one ?_⟩))
          · obtain ⟨d, hd⟩ := xT (show j < es.length by omega)
            have hd' : (es.map xS)[j]? = some (xS d) := xY hd
            have hdb := hb.2 d (List.mem_of_getElem? hd)
            have hz : ((j + 1 : Nat) : Int) - 1 = (j : Int) := by omega
            have hc := l4Compare_pf d.o e.o (by omega) (by omega)
            have hpos : (0 : Int) < ((j + 1 : Nat) : Int) := by omega
            rw [prv_succ hd] at hst ⊢
            by_cases hlt2 : wP d.o e.o < 0
            · have hge : ¬ 0 ≤ wP d.o e.o := by omega
              (repeat' (first|(apply xW;(first|exact Want.none_ rfl|(refine zX rfl rfl rfl rfl ?_;(first|exact dT ‹_›|exact rfl))))|(apply xF zI;exact rfl;exact rfl)|((first|apply zZ|apply y3|(apply yN;exact rfl;exact rfl))<;>(first|exact zI|exact rfl|refine yG ?_|assumption|omega))|(apply yR;exact rfl;exact rfl;(first|exact dT ‹_›|exact rfl);exact rfl;exact rfl)|apply zR|(refine yT ?_ ?_;kernel_rfl)|apply AWp.Q|apply zH|apply AWp.G|apply AWp.B|apply AWp.J|apply zJ|(refine AWp.D ?_ ?_;kernel_rfl)|(apply AWp.T;exact rfl;((exact dT ‹_›)))|(apply AWp.F;exact rfl;((exact dF ‹_›)))|(apply yA;(iterate 6 exact rfl);(iterate 2 (focus (repeat (first|exact VAs.nil|apply VAs.cons|apply VA.c|apply VA.agg|exact VCs.nil|apply VCs.cons|exact VC.imm (Imm.v _)|exact VC.imm (Imm.sl _)))));(first|exact hg|exact hc);(focus (repeat ((exact Flat.v _))));((apply yJ));((exact xB _ _)))))
              refine ⟨j + 2, ⟨by omega, by simp [ltP, hlt2]⟩, by omega, ?_⟩
              refine Weak.of [(0, some 0)] rfl ?_ ?_ <;> (repeat' (first|exact trivial|exact rfl|apply And.intro|refine ⟨_,rfl,rfl,rfl,OW.one ?_⟩))
            · have hge : 0 ≤ wP d.o e.o := by omega
              (repeat' (first|(apply xW;(first|exact Want.none_ rfl|(refine zX rfl rfl rfl rfl ?_;(first|exact dT ‹_›|exact rfl))))|(apply xF zI;exact rfl;exact rfl)|((first|apply y3|(apply yN;exact rfl;exact rfl))<;>(first|exact zI|exact rfl|refine yG ?_|assumption|omega))|(apply yR;exact rfl;exact rfl;(first|exact dT ‹_›|exact rfl);exact rfl;exact rfl)|apply zR|(refine yT ?_ ?_;kernel_rfl)|apply AWp.Q|apply zH|apply AWp.G|apply AWp.B|apply AWp.J|apply AWp.R|apply zK|apply zL|(refine AWp.D ?_ ?_;kernel_rfl)|(apply AWp.T;exact rfl;((exact dT ‹_›)))|(apply yA;(iterate 6 exact rfl);(iterate 2 (focus (repeat (first|exact VAs.nil|apply VAs.cons|apply VA.c|apply VA.agg|exact VCs.nil|apply VCs.cons|exact VC.imm (Imm.v _)|exact VC.imm (Imm.sl _)))));(first|exact hg|exact hc);(focus (repeat ((exact Flat.v _))));((apply yJ));((exact xB _ _)))))
              (((refine zV _ [] (.cons (zN rfl) .nil) ?_ rfl ?_)) <;> (repeat' (first|exact trivial|refine vwB ?_)))
              simp [ltP, hlt2]
      · have hlt' : ¬ (k : Int) < ((es.map xS).length : Int) := by omega
        rw [List.drop_eq_nil_of_le (by omega), srt_nil]
        (repeat' (first|(apply xW;((exact Want.none_ rfl)))|(apply xF zI;exact rfl;exact rfl)|apply zR|apply AWp.Q|apply zH|apply AWp.G|apply AWp.X|apply AWp.R|apply zQ|apply zO|(apply AWp.F;exact rfl;((exact dF ‹_›)))))
        (((refine zV _ [] (.cons (zN rfl) .nil) ?_ rfl ?_)) <;> (repeat' (first|exact trivial|exact rfl)))
theorem implGood_pf (es : List Ent) (hb : qG es) : PF Tryz.prog 35 [.agg (wG es)] [] (.c (boo (qE es))) := by
  have hbl := hb.1
  have hL : (es.map xS).length = es.length := List.length_map _
  refine PF.enter (xJ _) Tryz.func35 rfl (by kernel_rfl) _ _ rfl rfl rfl (fun w0 mu I0 β0 gi dis => ?_)
  (repeat' (first|(apply xW;((exact Want.none_ rfl)))|(apply xF zI;exact rfl;exact rfl)|apply zR|apply AWp.Q|apply zH|apply AWp.G|apply AWp.B))
  refine AWp.U (σ := Nat) (fun k => ⟨[(1, .c (.ptr 0 0 0)), (6, .c (.sl (es.map xS))), (7, .c (int es.length)), (8, .c (int k))], [(0, some ⟨35, 1, [wG es]⟩)], 1⟩) (fun k => k ≤ es.length ∧ srt none es = srt (prv es k) (es.drop k)) (fun k => es.length - k) 0 ⟨Nat.zero_le _, rfl⟩ ?_ ?_
  · refine Weak.of [(0, some 0)] rfl ?_ ?_ <;> (repeat' (first|exact trivial|exact rfl|apply And.intro|(apply cgI;(omega))|refine ⟨_,rfl,rfl,rfl,OW.one ?_⟩))
  · rintro k ⟨hk, hall⟩
    rw [qE, hall]
    by_cases hlt : k < es.length
    · obtain ⟨e, he⟩ := xT hlt
      have he' : (es.map xS)[k]? = some (xS e) := xY he
      have hlt' : (k : Int) < (es.length : Int) := by omega
      have heb := hb.2 e (List.mem_of_getElem? he)
      have hg := implEntry_pf e heb.1 heb.2
      have hst := srt_step he
      rw [hst]
      cases ho : qL e with
      | false =>
        rw [ho] at hg
        rw [Bool.false_and, Bool.false_and, Bool.and_false]
        (repeat' (first|(apply xW;((exact Want.none_ rfl)))|(apply xF zI;exact rfl;exact rfl)|((first|(apply yN;exact rfl;exact rfl)|apply yB|apply yH)<;>(first|exact zI|exact rfl|refine yG ?_|assumption|exact lb rfl))|(apply yR;exact rfl;exact rfl;((exact rfl));exact rfl;exact rfl)|(apply yS;(iterate 5 exact rfl);((exact rfl)))|(apply yF;(iterate 5 exact rfl))|apply zR|(refine yT ?_ ?_;kernel_rfl)|apply AWp.Q|apply zH|apply AWp.G|apply AWp.B|apply AWp.J|apply AWp.R|apply zK|apply zL|(refine AWp.D ?_ ?_;kernel_rfl)|(apply AWp.T;exact rfl;(first|exact dT ‹_›|exact rfl))|(apply yA;(iterate 6 exact rfl);(iterate 2 (focus (repeat (first|exact VAs.nil|apply VAs.cons|apply VA.agg|exact VCs.nil|apply VCs.cons|exact VC.imm (Imm.v _)|exact VC.imm (Imm.sl _)))));((exact hg));(focus (repeat ((exact Flat.v _))));((apply yJ));((exact xB _ _)))))
        (((refine zV _ [] (.cons (zN rfl) .nil) ?_ rfl ?_)) <;> (repeat' (first|exact trivial|exact rfl)))
      | true =>
        rw [ho] at hg hst
        rcases k with _ | j
        · rw [show prv es 0 = none from rfl]
          rw [show prv es 0 = none from rfl] at hst
          have hz0 : ¬ (0 : Int) < ((0 : Nat) : Int) := by omega
          (repeat' (first|(apply xW;(first|exact Want.none_ rfl|(refine zX rfl rfl rfl rfl ?_;((exact dF ‹_›)))))|(apply xF zI;exact rfl;exact rfl)|((first|apply zZ|(apply yN;exact rfl;exact rfl)|apply yB|apply yH)<;>(first|exact zI|exact rfl|refine yG ?_|assumption|omega|exact lb rfl))|(apply yR;exact rfl;exact rfl;((exact dF ‹_›));exact rfl;exact rfl)|(apply yS;(iterate 5 exact rfl);((exact dF ‹_›)))|apply zR|(refine yT ?_ ?_;kernel_rfl)|apply AWp.Q|apply zH|apply AWp.G|apply AWp.B|apply AWp.J|apply zJ|(refine AWp.D ?_ ?_;kernel_rfl)|(apply AWp.T;exact rfl;((exact dT ‹_›)))|(apply AWp.F;exact rfl;((exact dF ‹_›)))|(apply yA;(iterate 6 exact rfl);(iterate 2 (focus (repeat (first|exact VAs.nil|apply VAs.cons|apply VA.agg|exact VCs.nil|apply VCs.cons|exact VC.imm (Imm.v _)|exact VC.imm (Imm.sl _)))));((exact hg));(focus (repeat ((exact Flat.v _))));((apply yJ));((exact xB _ _)))))
          refine ⟨1, ⟨by omega, by simp [ltP]⟩, by omega, ?_⟩
          refine Weak.of [(0, some 0)] rfl ?_ ?_ <;> (repeat' (first|exact trivial|exact rfl|apply And.intro|refine ⟨_,rfl,rfl,rfl,OW.one ?_⟩))
        · obtain ⟨d, hd⟩ := xT (show j < es.length by omega)
          have hd' : (es.map xS)[j]? = some (xS d) := xY hd
          have hdb := hb.2 d (List.mem_of_getElem? hd)
          have hz : ((j + 1 : Nat) : Int) - 1 = (j : Int) := by omega
          have hc := sliceCmp_pf d.o e.o (by omega) (by omega)
          have hpos : (0 : Int) < ((j + 1 : Nat) : Int) := by omega
          rw [prv_succ hd] at hst ⊢
          by_cases hlt2 : wP d.o e.o < 0
          · have hge : ¬ 0 ≤ wP d.o e.o := by omega
            (repeat' (first|(apply xW;(first|exact Want.none_ rfl|(refine zX rfl rfl rfl rfl ?_;(first|exact dT ‹_›|exact rfl))))|(apply xF zI;exact rfl;exact rfl)|((first|apply zZ|apply y3|(apply yN;exact rfl;exact rfl)|apply yB|apply yH)<;>(first|exact zI|exact rfl|refine yG ?_|assumption|omega|exact lb rfl))|(apply yR;exact rfl;exact rfl;(first|exact dT ‹_›|exact rfl);exact rfl;exact rfl)|apply zR|(refine yT ?_ ?_;kernel_rfl)|apply AWp.Q|apply zH|apply AWp.G|apply AWp.B|apply AWp.J|apply zJ|(refine AWp.D ?_ ?_;kernel_rfl)|(apply AWp.T;exact rfl;((exact dT ‹_›)))|(apply AWp.F;exact rfl;((exact dF ‹_›)))|(apply yA;(iterate 6 exact rfl);(iterate 2 (focus (repeat (first|exact VAs.nil|apply VAs.cons|apply VA.c|apply VA.agg|exact VCs.nil|apply VCs.cons|exact VC.imm (Imm.v _)|exact VC.imm (Imm.sl _)))));(first|exact hg|exact hc);(focus (repeat ((exact Flat.v _))));((apply yJ));((exact xB _ _)))))
            refine ⟨j + 2, ⟨by omega, by simp [ltP, hlt2]⟩, by omega, ?_⟩
            refine Weak.of [(0, some 0)] rfl ?_ ?_ <;> (repeat' (first|exact trivial|exact rfl|apply And.intro|refine ⟨_,rfl,rfl,rfl,OW.one ?_⟩))
          · have hge : 0 ≤ wP d.o e.o := by omega
            (repeat' (first|(apply xW;(first|exact Want.none_ rfl|(refine zX rfl rfl rfl rfl ?_;(first|exact dT ‹_›|exact rfl))))|(apply xF zI;exact rfl;exact rfl)|((first|apply y3|(apply yN;exact rfl;exact rfl)|apply yB|apply yH)<;>(first|exact zI|exact rfl|refine yG ?_|assumption|omega|exact lb rfl))|(apply yR;exact rfl;exact rfl;(first|exact dT ‹_›|exact rfl);exact rfl;exact rfl)|apply zR|(refine yT ?_ ?_;kernel_rfl)|apply AWp.Q|apply zH|apply AWp.G|apply AWp.B|apply AWp.J|apply AWp.R|apply zK|apply zL|(refine AWp.D ?_ ?_;kernel_rfl)|(apply AWp.T;exact rfl;((exact dT ‹_›)))|(apply yA;(iterate 6 exact rfl);(iterate 2 (focus (repeat (first|exact VAs.nil|apply VAs.cons|apply VA.c|apply VA.agg|exact VCs.nil|apply VCs.cons|exact VC.imm (Imm.v _)|exact VC.imm (Imm.sl _)))));(first|exact hg|exact hc);(focus (repeat ((exact Flat.v _))));((apply yJ));((exact xB _ _)))))
            (((refine zV _ [] (.cons (zN rfl) .nil) ?_ rfl ?_)) <;> (repeat' (first|exact trivial|refine vwB ?_)))
            simp [ltP, hlt2]
    · have hlt' : ¬ (k : Int) < (es.length : Int) := by omega
      rw [List.drop_eq_nil_of_le (by omega), srt_nil, Bool.and_true]
      (repeat' (first|(apply xW;((exact Want.none_ rfl)))|(apply xF zI;exact rfl;exact rfl)|apply zR|apply AWp.Q|apply zH|apply AWp.G|apply AWp.X|apply AWp.R|apply zQ|apply zO|(apply AWp.F;exact rfl;((exact dF ‹_›)))))
      (((refine zV _ [] (.cons (zN rfl) .nil) ?_ rfl ?_)) <;> (repeat' (first|exact trivial|refine vwB ?_)))
      rw [Bool.eq_iff_iff, decide_eq_true_eq, decide_eq_true_eq]; omega
end Go.Proofs.YtjeffognhcbiaaaGreatDoor
