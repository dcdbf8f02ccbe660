/- Valid dictionaries, by both programs. No conditions but bounds of lengths. -/
import Derived.Test.YtchpdclknbmdoaaGreatDoorDvA
import Derived.Test.YtchpdclknbmdoaaGreatDoorFwA
namespace Go.Proofs.YtchpdclknbmdoaaGreatDoor
open Go Go.RowKit
def qI (e : Ent) : Bool := qE e.o && qM e.t
theorem l6Entry_pf (e : Ent) (h1 : e.o.length ≤ 1048576) (h2 : e.t.length ≤ 1048576) : PF Tryz.prog 131 [.agg (xR e)] [] (.c (boo (qI e))) := by
  have ha := l5Parse_pf e.t h2
  have hb := l4Good_pf e.o (by omega)
  have i0 : ∀ obj : AObj, some obj ∈ ([] : List (Option AObj)) → ∀ x ∈ obj.els, ∀ c ∈ x, Imm c := fun _ h => by cases h
  rw [qI]
  cases hg : qE e.o with
  | false =>
    rw [hg] at hb
    refine PF.enter (xI _) Tryz.func131 rfl (by kernel_rfl) _ _ rfl rfl rfl (fun w0 mu I0 β0 gi dis => ?_)
    (repeat' (first|(apply xW;((exact Want.none_ rfl)))|(apply xF zK;exact rfl;exact rfl)|(apply y8;exact rfl;exact rfl;((exact rfl));exact rfl;exact rfl)|(apply y7;(iterate 5 exact rfl);((exact rfl)))|apply zV|apply AWp.Q|apply zJ|apply AWp.G|apply AWp.R|(apply (zY (ha));(iterate 7 exact rfl);(focus (repeat ((exact All2.nil))));exact rfl;(focus (repeat (first|exact MAs.nil|apply MAs.cons|apply MA.c|exact MC.vc (VC.imm (Imm.v _)))));((assumption));((exact xE));exact rfl;exact rfl)|(apply yM;(iterate 6 exact rfl);(iterate 2 (focus (repeat (first|exact VAs.nil|apply VAs.cons|apply VA.c|exact VCs.nil|exact VC.imm (Imm.sl _)))));((exact hb));(focus (repeat ((exact Flat.v _))));((apply yX));((exact xO _ _)))))
    (((refine z6 _ [] (.cons (zT rfl) .nil) ?_ rfl ?_)) <;> (repeat' (first|exact trivial|exact rfl)))
  | true =>
    rw [hg] at hb
    refine PF.enter (xI _) Tryz.func131 rfl (by kernel_rfl) _ _ rfl rfl rfl (fun w0 mu I0 β0 gi dis => ?_)
    (repeat' (first|(apply xW;(first|exact Want.none_ rfl|(refine zZ rfl rfl rfl rfl ?_;((exact rfl)))))|(apply xF zK;exact rfl;exact rfl)|(apply y8;exact rfl;exact rfl;((exact rfl));exact rfl;exact rfl)|apply zV|apply AWp.Q|apply zJ|apply AWp.G|apply AWp.R|(apply (zY (ha));(iterate 7 exact rfl);(focus (repeat ((exact All2.nil))));exact rfl;(focus (repeat (first|exact MAs.nil|apply MAs.cons|apply MA.c|exact MC.vc (VC.imm (Imm.v _)))));((assumption));((exact xE));exact rfl;exact rfl)|(apply yM;(iterate 6 exact rfl);(iterate 2 (focus (repeat (first|exact VAs.nil|apply VAs.cons|apply VA.c|exact VCs.nil|exact VC.imm (Imm.sl _)))));((exact hb));(focus (repeat ((exact Flat.v _))));((apply yX));((exact xO _ _)))))
    (((refine z6 _ [] (.cons (zT rfl) .nil) ?_ rfl ?_)) <;> (repeat' (first|exact trivial|exact rfl)))
theorem implEntry_pf (e : Ent) (h1 : e.o.length ≤ 1048576) (h2 : e.t.length ≤ 1048576) : PF Tryz.prog 138 [.agg (xR e)] [] (.c (boo (qI e))) := by
  have ha := isTr_pf e.t h2
  have hb := implOut_pf e.o (by omega)
  rw [qI]
  cases hg : qE e.o with
  | false =>
    rw [hg] at hb
    refine PF.enter (xI _) Tryz.func138 rfl (by kernel_rfl) _ _ rfl rfl rfl (fun w0 mu I0 β0 gi dis => ?_)
    (repeat' (first|(apply xW;((exact Want.none_ rfl)))|(apply xF zK;exact rfl;exact rfl)|(apply y8;exact rfl;exact rfl;((exact rfl));exact rfl;exact rfl)|(apply y7;(iterate 5 exact rfl);((exact rfl)))|apply zV|apply AWp.Q|apply zJ|apply AWp.G|apply AWp.R|(apply yM;(iterate 6 exact rfl);(iterate 2 (focus (repeat (first|exact VAs.nil|apply VAs.cons|apply VA.c|exact VCs.nil|exact VC.imm (Imm.sl _)))));((exact hb));(focus (repeat ((exact Flat.v _))));((apply yX));((exact xO _ _)))))
    (((refine z6 _ [] (.cons (zT rfl) .nil) ?_ rfl ?_)) <;> (repeat' (first|exact trivial|exact rfl)))
  | true =>
    rw [hg] at hb
    refine PF.enter (xI _) Tryz.func138 rfl (by kernel_rfl) _ _ rfl rfl rfl (fun w0 mu I0 β0 gi dis => ?_)
    (repeat' (first|(apply xW;(first|exact Want.none_ rfl|(refine zZ rfl rfl rfl rfl ?_;((exact rfl)))))|(apply xF zK;exact rfl;exact rfl)|(apply y8;exact rfl;exact rfl;((exact rfl));exact rfl;exact rfl)|apply zV|apply AWp.Q|apply zJ|apply AWp.G|apply AWp.R|(apply yM;(iterate 6 exact rfl);(iterate 2 (focus (repeat (first|exact VAs.nil|apply VAs.cons|apply VA.c|exact VCs.nil|exact VC.imm (Imm.v _)|exact VC.imm (Imm.sl _)))));(first|exact ha|exact hb);(focus (repeat ((exact Flat.v _))));((apply yX));((exact xO _ _)))))
    (((refine z6 _ [] (.cons (zT rfl) .nil) ?_ rfl ?_)) <;> (repeat' (first|exact trivial|exact rfl)))
def ltP : Option (List Int) → List Int → Bool
  | none, _ => true
  | some q, o => decide (wM q o < 0)
def srtL : List Ent → Option (List Int) → Bool
  | [], _ => true
  | e :: r, p => qI e && ltP p e.o && srtL r (some e.o)
def srt (p : Option (List Int)) (es : List Ent) : Bool := srtL es p
theorem srt_nil (p : Option (List Int)) : srt p [] = true := rfl
theorem srt_cons (p : Option (List Int)) (e : Ent) (r : List Ent) : srt p (e :: r) = (qI e && ltP p e.o && srt (some e.o) r) := rfl
def prv (es : List Ent) : Nat → Option (List Int)
  | 0 => none
  | k + 1 => (es[k]?).map (·.o)
def qJ (es : List Ent) : Bool := decide (es.length ≤ 40) && srt none es
theorem dropE {es : List Ent} {k : Nat} {e : Ent} (h : es[k]? = some e) : es.drop k = e :: es.drop (k + 1) := by
  obtain ⟨h1, h2⟩ := List.getElem?_eq_some_iff.1 h
  rw [List.drop_eq_getElem_cons h1, h2]
theorem srt_step {es : List Ent} {k : Nat} {e : Ent} (h : es[k]? = some e) : srt (prv es k) (es.drop k) = (qI e && ltP (prv es k) e.o && srt (prv es (k + 1)) (es.drop (k + 1))) := by
  rw [dropE h, srt_cons, prv, h]; rfl
theorem prv_succ {es : List Ent} {k : Nat} {e : Ent} (h : es[k]? = some e) : prv es (k + 1) = some e.o := by rw [prv, h]; rfl
theorem l6Good_pf (es : List Ent) (hb : kW es) : PF Tryz.prog 66 [.agg (wI es)] [] (.c (boo (qJ es))) := by
  have hbl := hb.1
  have hL : (es.map xR).length = es.length := List.length_map _
  by_cases hbig : 40 < es.length
  · have hb' : (40 : Int) < ((es.map xR).length : Int) := by omega
    rw [qJ, decide_eq_false (by omega), Bool.false_and]
    refine PF.enter (xI _) Tryz.func66 rfl (by kernel_rfl) _ _ rfl rfl rfl (fun w0 mu I0 β0 gi dis => ?_)
    (repeat' (first|(apply xW;((exact Want.none_ rfl)))|(apply xF zK;exact rfl;exact rfl)|apply zV|apply AWp.Q|apply zJ|apply AWp.G|apply AWp.R|apply zM|(apply AWp.T;exact rfl;((exact dT ‹_›)))))
    (((refine z6 _ [] (.cons (zT rfl) .nil) ?_ rfl ?_)) <;> (repeat' (first|exact trivial|exact rfl)))
  · have hb' : ¬ (40 : Int) < ((es.map xR).length : Int) := by omega
    rw [qJ, decide_eq_true (by omega), Bool.true_and]
    refine PF.enter (xI _) Tryz.func66 rfl (by kernel_rfl) _ _ rfl rfl rfl (fun w0 mu I0 β0 gi dis => ?_)
    (repeat' (first|(apply xW;((exact Want.none_ rfl)))|(apply xF zK;exact rfl;exact rfl)|apply zV|apply AWp.Q|apply zJ|apply AWp.G|apply AWp.B|apply AWp.J|(apply AWp.F;exact rfl;((exact dF ‹_›)))))
    refine AWp.U (σ := Nat) (fun k => ⟨[(1, .c (.ptr 0 0 0)), (3, .c (int k))], [(0, some ⟨26, 1, [wI es]⟩)], 1⟩) (fun k => k ≤ es.length ∧ srt none es = srt (prv es k) (es.drop k)) (fun k => es.length - k) 0 ⟨Nat.zero_le _, rfl⟩ ?_ ?_
    · refine Weak.of [(0, some 0)] rfl ?_ ?_ <;> (repeat' (first|exact trivial|exact rfl|apply And.intro|refine ⟨_,rfl,rfl,rfl,OW.one ?_⟩))
    · rintro k ⟨hk, hall⟩
      rw [hall]
      by_cases hlt : k < es.length
      · obtain ⟨e, he⟩ := xX hlt
        have he' : (es.map xR)[k]? = some (xR e) := xZ he
        have hlt' : (k : Int) < ((es.map xR).length : Int) := by omega
        have heb := hb.2 e (List.mem_of_getElem? he)
        have hg := l6Entry_pf e heb.1 heb.2
        have hst := srt_step he
        rw [hst]
        cases ho : qI e with
        | false =>
          rw [ho] at hg
          rw [Bool.false_and, Bool.false_and]
          (repeat' (first|(apply xW;((exact Want.none_ rfl)))|(apply xF zK;exact rfl;exact rfl)|(((apply yJ;exact rfl;exact rfl))<;>(first|exact zK|exact rfl|refine yO ?_|assumption))|(apply y8;exact rfl;exact rfl;((exact rfl));exact rfl;exact rfl)|(apply y7;(iterate 5 exact rfl);((exact rfl)))|(apply yV;(iterate 5 exact rfl))|apply zV|(refine yN ?_ ?_;kernel_rfl)|apply AWp.Q|apply zJ|apply AWp.G|apply AWp.B|apply AWp.J|apply AWp.R|apply zM|apply zN|(refine AWp.D ?_ ?_;kernel_rfl)|(apply AWp.T;exact rfl;(first|exact dT ‹_›|exact rfl))|(apply yM;(iterate 6 exact rfl);(iterate 2 (focus (repeat (first|exact VAs.nil|apply VAs.cons|apply VA.agg|exact VCs.nil|apply VCs.cons|exact VC.imm (Imm.v _)|exact VC.imm (Imm.sl _)))));((exact hg));(focus (repeat ((exact Flat.v _))));((apply yX));((exact xO _ _)))))
          (((refine z6 _ [] (.cons (zT rfl) .nil) ?_ rfl ?_)) <;> (repeat' (first|exact trivial|exact rfl)))
        | true =>
          rw [ho] at hg hst
          rcases k with _ | j
          · rw [show prv es 0 = none from rfl]
            rw [show prv es 0 = none from rfl] at hst
            (repeat' (first|(apply xW;(first|exact Want.none_ rfl|(refine zZ rfl rfl rfl rfl ?_;((exact rfl)))))|(apply xF zK;exact rfl;exact rfl)|((first|apply yF|(apply yJ;exact rfl;exact rfl))<;>(first|exact zK|exact rfl|refine yO ?_|assumption|omega))|(apply y8;exact rfl;exact rfl;((exact rfl));exact rfl;exact rfl)|(apply y7;(iterate 5 exact rfl);((exact rfl)))|apply zV|(refine yN ?_ ?_;kernel_rfl)|apply AWp.Q|apply zJ|apply AWp.G|apply AWp.B|apply AWp.J|apply zL|(refine AWp.D ?_ ?_;kernel_rfl)|(apply AWp.T;exact rfl;((exact dT ‹_›)))|(apply AWp.F;exact rfl;((exact rfl)))|(apply yM;(iterate 6 exact rfl);(iterate 2 (focus (repeat (first|exact VAs.nil|apply VAs.cons|apply VA.agg|exact VCs.nil|apply VCs.cons|exact VC.imm (Imm.v _)|exact VC.imm (Imm.sl _)))));((exact hg));(focus (repeat ((exact Flat.v _))));((apply yX));((exact xO _ _)))))
            refine ⟨1, ⟨by omega, by simp [ltP]⟩, by omega, ?_⟩
            refine Weak.of [(0, some 0)] rfl ?_ ?_ <;> (repeat' (first|exact trivial|exact rfl|apply And.intro|refine ⟨_,rfl,rfl,rfl,OW.one ?_⟩))
          · obtain ⟨d, hd⟩ := xX (show j < es.length by omega)
            have hd' : (es.map xR)[j]? = some (xR d) := xZ hd
            have hdb := hb.2 d (List.mem_of_getElem? hd)
            have hz : ((j + 1 : Nat) : Int) - 1 = (j : Int) := by omega
            have hc := l4Compare_pf d.o e.o (by omega) (by omega)
            have hpos : (0 : Int) < ((j + 1 : Nat) : Int) := by omega
            rw [prv_succ hd] at hst ⊢
            by_cases hlt2 : wM d.o e.o < 0
            · have hge : ¬ 0 ≤ wM d.o e.o := by omega
              (repeat' (first|(apply xW;(first|exact Want.none_ rfl|(refine zZ rfl rfl rfl rfl ?_;(first|exact dT ‹_›|exact rfl))))|(apply xF zK;exact rfl;exact rfl)|((first|apply yF|apply yW|(apply yJ;exact rfl;exact rfl))<;>(first|exact zK|exact rfl|refine yO ?_|assumption|omega))|(apply y8;exact rfl;exact rfl;(first|exact dT ‹_›|exact rfl);exact rfl;exact rfl)|apply zV|(refine yN ?_ ?_;kernel_rfl)|apply AWp.Q|apply zJ|apply AWp.G|apply AWp.B|apply AWp.J|apply zL|(refine AWp.D ?_ ?_;kernel_rfl)|(apply AWp.T;exact rfl;((exact dT ‹_›)))|(apply AWp.F;exact rfl;((exact dF ‹_›)))|(apply yM;(iterate 6 exact rfl);(iterate 2 (focus (repeat (first|exact VAs.nil|apply VAs.cons|apply VA.c|apply VA.agg|exact VCs.nil|apply VCs.cons|exact VC.imm (Imm.v _)|exact VC.imm (Imm.sl _)))));(first|exact hg|exact hc);(focus (repeat ((exact Flat.v _))));((apply yX));((exact xO _ _)))))
              refine ⟨j + 2, ⟨by omega, by simp [ltP, hlt2]⟩, by omega, ?_⟩
              refine Weak.of [(0, some 0)] rfl ?_ ?_ <;> (repeat' (first|exact trivial|exact rfl|apply And.intro|refine ⟨_,rfl,rfl,rfl,OW.one ?_⟩))
            · have hge : 0 ≤ wM d.o e.o := by omega
              (repeat' (first|(apply xW;(first|exact Want.none_ rfl|(refine zZ rfl rfl rfl rfl ?_;(first|exact dT ‹_›|exact rfl))))|(apply xF zK;exact rfl;exact rfl)|((first|apply yW|(apply yJ;exact rfl;exact rfl))<;>(first|exact zK|exact rfl|refine yO ?_|assumption|omega))|(apply y8;exact rfl;exact rfl;(first|exact dT ‹_›|exact rfl);exact rfl;exact rfl)|apply zV|(refine yN ?_ ?_;kernel_rfl)|apply AWp.Q|apply zJ|apply AWp.G|apply AWp.B|apply AWp.J|apply AWp.R|apply zM|apply zN|(refine AWp.D ?_ ?_;kernel_rfl)|(apply AWp.T;exact rfl;((exact dT ‹_›)))|(apply yM;(iterate 6 exact rfl);(iterate 2 (focus (repeat (first|exact VAs.nil|apply VAs.cons|apply VA.c|apply VA.agg|exact VCs.nil|apply VCs.cons|exact VC.imm (Imm.v _)|exact VC.imm (Imm.sl _)))));(first|exact hg|exact hc);(focus (repeat ((exact Flat.v _))));((apply yX));((exact xO _ _)))))
              (((refine z6 _ [] (.cons (zT rfl) .nil) ?_ rfl ?_)) <;> (repeat' (first|exact trivial|refine vwB ?_)))
              simp [ltP, hlt2]
      · have hlt' : ¬ (k : Int) < ((es.map xR).length : Int) := by omega
        rw [List.drop_eq_nil_of_le (by omega), srt_nil]
        (repeat' (first|(apply xW;((exact Want.none_ rfl)))|(apply xF zK;exact rfl;exact rfl)|apply zV|apply AWp.Q|apply zJ|apply AWp.G|apply AWp.X|apply AWp.R|apply zU|apply zR|(apply AWp.F;exact rfl;((exact dF ‹_›)))))
        (((refine z6 _ [] (.cons (zT rfl) .nil) ?_ rfl ?_)) <;> (repeat' (first|exact trivial|exact rfl)))
theorem implGood_pf (es : List Ent) (hb : kW es) : PF Tryz.prog 78 [.agg (wI es)] [] (.c (boo (qJ es))) := by
  have hbl := hb.1
  have hL : (es.map xR).length = es.length := List.length_map _
  refine PF.enter (xI _) Tryz.func78 rfl (by kernel_rfl) _ _ rfl rfl rfl (fun w0 mu I0 β0 gi dis => ?_)
  (repeat' (first|(apply xW;((exact Want.none_ rfl)))|(apply xF zK;exact rfl;exact rfl)|apply zV|apply AWp.Q|apply zJ|apply AWp.G|apply AWp.B))
  refine AWp.U (σ := Nat) (fun k => ⟨[(1, .c (.ptr 0 0 0)), (6, .c (.sl (es.map xR))), (7, .c (int es.length)), (8, .c (int k))], [(0, some ⟨26, 1, [wI es]⟩)], 1⟩) (fun k => k ≤ es.length ∧ srt none es = srt (prv es k) (es.drop k)) (fun k => es.length - k) 0 ⟨Nat.zero_le _, rfl⟩ ?_ ?_
  · refine Weak.of [(0, some 0)] rfl ?_ ?_ <;> (repeat' (first|exact trivial|exact rfl|apply And.intro|(apply cgI;(omega))|refine ⟨_,rfl,rfl,rfl,OW.one ?_⟩))
  · rintro k ⟨hk, hall⟩
    rw [qJ, hall]
    by_cases hlt : k < es.length
    · obtain ⟨e, he⟩ := xX hlt
      have he' : (es.map xR)[k]? = some (xR e) := xZ he
      have hlt' : (k : Int) < (es.length : Int) := by omega
      have heb := hb.2 e (List.mem_of_getElem? he)
      have hg := implEntry_pf e heb.1 heb.2
      have hst := srt_step he
      rw [hst]
      cases ho : qI e with
      | false =>
        rw [ho] at hg
        rw [Bool.false_and, Bool.false_and, Bool.and_false]
        (repeat' (first|(apply xW;((exact Want.none_ rfl)))|(apply xF zK;exact rfl;exact rfl)|((first|(apply yJ;exact rfl;exact rfl)|apply zX|apply yD)<;>(first|exact zK|exact rfl|refine yO ?_|assumption|exact lb rfl))|(apply y8;exact rfl;exact rfl;((exact rfl));exact rfl;exact rfl)|(apply y7;(iterate 5 exact rfl);((exact rfl)))|(apply yV;(iterate 5 exact rfl))|apply zV|(refine yN ?_ ?_;kernel_rfl)|apply AWp.Q|apply zJ|apply AWp.G|apply AWp.B|apply AWp.J|apply AWp.R|apply zM|apply zN|(refine AWp.D ?_ ?_;kernel_rfl)|(apply AWp.T;exact rfl;(first|exact dT ‹_›|exact rfl))|(apply yM;(iterate 6 exact rfl);(iterate 2 (focus (repeat (first|exact VAs.nil|apply VAs.cons|apply VA.agg|exact VCs.nil|apply VCs.cons|exact VC.imm (Imm.v _)|exact VC.imm (Imm.sl _)))));((exact hg));(focus (repeat ((exact Flat.v _))));((apply yX));((exact xO _ _)))))
        (((refine z6 _ [] (.cons (zT rfl) .nil) ?_ rfl ?_)) <;> (repeat' (first|exact trivial|exact rfl)))
      | true =>
        rw [ho] at hg hst
        rcases k with _ | j
        · rw [show prv es 0 = none from rfl]
          rw [show prv es 0 = none from rfl] at hst
          have hz0 : ¬ (0 : Int) < ((0 : Nat) : Int) := by omega
          (repeat' (first|(apply xW;(first|exact Want.none_ rfl|(refine zZ rfl rfl rfl rfl ?_;((exact dF ‹_›)))))|(apply xF zK;exact rfl;exact rfl)|((first|apply yF|(apply yJ;exact rfl;exact rfl)|apply zX|apply yD)<;>(first|exact zK|exact rfl|refine yO ?_|assumption|omega|exact lb rfl))|(apply y8;exact rfl;exact rfl;((exact dF ‹_›));exact rfl;exact rfl)|(apply y7;(iterate 5 exact rfl);((exact dF ‹_›)))|apply zV|(refine yN ?_ ?_;kernel_rfl)|apply AWp.Q|apply zJ|apply AWp.G|apply AWp.B|apply AWp.J|apply zL|(refine AWp.D ?_ ?_;kernel_rfl)|(apply AWp.T;exact rfl;((exact dT ‹_›)))|(apply AWp.F;exact rfl;((exact dF ‹_›)))|(apply yM;(iterate 6 exact rfl);(iterate 2 (focus (repeat (first|exact VAs.nil|apply VAs.cons|apply VA.agg|exact VCs.nil|apply VCs.cons|exact VC.imm (Imm.v _)|exact VC.imm (Imm.sl _)))));((exact hg));(focus (repeat ((exact Flat.v _))));((apply yX));((exact xO _ _)))))
          refine ⟨1, ⟨by omega, by simp [ltP]⟩, by omega, ?_⟩
          refine Weak.of [(0, some 0)] rfl ?_ ?_ <;> (repeat' (first|exact trivial|exact rfl|apply And.intro|refine ⟨_,rfl,rfl,rfl,OW.one ?_⟩))
        · obtain ⟨d, hd⟩ := xX (show j < es.length by omega)
          have hd' : (es.map xR)[j]? = some (xR d) := xZ hd
          have hdb := hb.2 d (List.mem_of_getElem? hd)
          have hz : ((j + 1 : Nat) : Int) - 1 = (j : Int) := by omega
          have hc := sliceCmp_pf d.o e.o (by omega) (by omega)
          have hpos : (0 : Int) < ((j + 1 : Nat) : Int) := by omega
          rw [prv_succ hd] at hst ⊢
          by_cases hlt2 : wM d.o e.o < 0
          · have hge : ¬ 0 ≤ wM d.o e.o := by omega
            (repeat' (first|(apply xW;(first|exact Want.none_ rfl|(refine zZ rfl rfl rfl rfl ?_;(first|exact dT ‹_›|exact rfl))))|(apply xF zK;exact rfl;exact rfl)|((first|apply yF|apply yW|(apply yJ;exact rfl;exact rfl)|apply zX|apply yD)<;>(first|exact zK|exact rfl|refine yO ?_|assumption|omega|exact lb rfl))|(apply y8;exact rfl;exact rfl;(first|exact dT ‹_›|exact rfl);exact rfl;exact rfl)|apply zV|(refine yN ?_ ?_;kernel_rfl)|apply AWp.Q|apply zJ|apply AWp.G|apply AWp.B|apply AWp.J|apply zL|(refine AWp.D ?_ ?_;kernel_rfl)|(apply AWp.T;exact rfl;((exact dT ‹_›)))|(apply AWp.F;exact rfl;((exact dF ‹_›)))|(apply yM;(iterate 6 exact rfl);(iterate 2 (focus (repeat (first|exact VAs.nil|apply VAs.cons|apply VA.c|apply VA.agg|exact VCs.nil|apply VCs.cons|exact VC.imm (Imm.v _)|exact VC.imm (Imm.sl _)))));(first|exact hg|exact hc);(focus (repeat ((exact Flat.v _))));((apply yX));((exact xO _ _)))))
            refine ⟨j + 2, ⟨by omega, by simp [ltP, hlt2]⟩, by omega, ?_⟩
            refine Weak.of [(0, some 0)] rfl ?_ ?_ <;> (repeat' (first|exact trivial|exact rfl|apply And.intro|refine ⟨_,rfl,rfl,rfl,OW.one ?_⟩))
          · have hge : 0 ≤ wM d.o e.o := by omega
            (repeat' (first|(apply xW;(first|exact Want.none_ rfl|(refine zZ rfl rfl rfl rfl ?_;(first|exact dT ‹_›|exact rfl))))|(apply xF zK;exact rfl;exact rfl)|((first|apply yW|(apply yJ;exact rfl;exact rfl)|apply zX|apply yD)<;>(first|exact zK|exact rfl|refine yO ?_|assumption|omega|exact lb rfl))|(apply y8;exact rfl;exact rfl;(first|exact dT ‹_›|exact rfl);exact rfl;exact rfl)|apply zV|(refine yN ?_ ?_;kernel_rfl)|apply AWp.Q|apply zJ|apply AWp.G|apply AWp.B|apply AWp.J|apply AWp.R|apply zM|apply zN|(refine AWp.D ?_ ?_;kernel_rfl)|(apply AWp.T;exact rfl;((exact dT ‹_›)))|(apply yM;(iterate 6 exact rfl);(iterate 2 (focus (repeat (first|exact VAs.nil|apply VAs.cons|apply VA.c|apply VA.agg|exact VCs.nil|apply VCs.cons|exact VC.imm (Imm.v _)|exact VC.imm (Imm.sl _)))));(first|exact hg|exact hc);(focus (repeat ((exact Flat.v _))));((apply yX));((exact xO _ _)))))
            (((refine z6 _ [] (.cons (zT rfl) .nil) ?_ rfl ?_)) <;> (repeat' (first|exact trivial|refine vwB ?_)))
            simp [ltP, hlt2]
    · have hlt' : ¬ (k : Int) < (es.length : Int) := by omega
      rw [List.drop_eq_nil_of_le (by omega), srt_nil, Bool.and_true]
      (repeat' (first|(apply xW;((exact Want.none_ rfl)))|(apply xF zK;exact rfl;exact rfl)|apply zV|apply AWp.Q|apply zJ|apply AWp.G|apply AWp.X|apply AWp.R|apply zU|apply zR|(apply AWp.F;exact rfl;((exact dF ‹_›)))))
      (((refine z6 _ [] (.cons (zT rfl) .nil) ?_ rfl ?_)) <;> (repeat' (first|exact trivial|refine vwB ?_)))
      rw [Bool.eq_iff_iff, decide_eq_true_eq, decide_eq_true_eq]; omega
end Go.Proofs.YtchpdclknbmdoaaGreatDoor
