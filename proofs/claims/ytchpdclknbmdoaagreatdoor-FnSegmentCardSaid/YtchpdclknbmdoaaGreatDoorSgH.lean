/- IsSegmentation of spec, and of both where it refuses. -/
import Derived.Test.YtchpdclknbmdoaaGreatDoorSgD
namespace Go.Proofs.YtchpdclknbmdoaaGreatDoor
open Go Go.RowKit
set_option maxHeartbeats 4000000 in
theorem specIsSegY_pf (es : List Ent) (l : List Int) (ps : List Pc) (hb : wX es) (hl : l.length ≤ 1000000) (hp : ps.length ≤ 1000000) (h : mchOk es l = true) : PF Tryz.prog 48 [.agg (x3 es), .c (.sl (l.map yU)), .c (.sl (ps.map xQ))] [] (.tup [.c (boo (isSg es l 0 ps)), .c (boo true)]) := by
  obtain ⟨hd, hs, h60, _⟩ := mchOk_parts h
  have hN := dicOk_N hd
  have h1 := vD es hb
  have h2 := wI l (by omega)
  rw [hd] at h1
  rw [hs] at h2
  have hL : (l.map yU).length = l.length := List.length_map _
  have hLp : (ps.map xQ).length = ps.length := List.length_map _
  have h1l := vV l
  refine PF.enter (vE _ _ _) Tryz.func48 rfl (by kernel_rfl) _ _ rfl rfl rfl (fun w0 mu I0 β0 gi dis => ?_)
  (repeat' (first|(apply xW;(first|exact Want.none_ rfl|(refine z6 rfl rfl rfl rfl ?_;((exact rfl)))))|(apply xF zI;exact rfl;exact rfl)|(apply y4;exact rfl;exact rfl;((exact rfl));exact rfl;exact rfl)|apply zS|apply AWp.Q|apply zH|apply AWp.G|apply AWp.B|apply AWp.J|(apply AWp.F;exact rfl;((exact rfl)))|(apply yD;(iterate 6 exact rfl);(iterate 2 (focus (repeat (first|exact VAs.nil|apply VAs.cons|apply VA.c|apply VA.agg|exact VCs.nil|apply VCs.cons|exact VC.imm (Imm.sl _)))));(first|exact h1|exact h2);(focus (repeat ((exact Flat.v _))));((apply yM));((exact xE _ _)))))
  refine AWp.U (σ := Nat × Nat) (fun q => ⟨[(1, .c (.sl (l.map yU))), (2, .c (.sl (ps.map xQ))), (3, .c (.ptr 0 0 0)), (8, .c (int q.2)), (9, .c (int q.1))], [(0, some ⟨26, 1, [x3 es]⟩)], 1⟩) (fun q => q.1 ≤ ps.length ∧ q.2 ≤ l.length ∧ isSg es l 0 ps = isSg es l q.2 (ps.drop q.1)) (fun q => ps.length - q.1) (0, 0) ⟨Nat.zero_le _, Nat.zero_le _, rfl⟩ ?_ ?_
  · refine Weak.of [(0, some 0)] rfl ?_ ?_ <;> (repeat' (first|exact trivial|exact rfl|apply And.intro|refine ⟨_,rfl,rfl,rfl,OW.one ?_⟩))
  · rintro ⟨k, a⟩ ⟨hk, ha, hall⟩
    dsimp only at hk ha hall ⊢
    rw [hall]
    clear hall
    by_cases hlt : k < ps.length
    · obtain ⟨p, hpk⟩ := xY hlt
      have hp' : (ps.map xQ)[k]? = some (xQ p) := xS hpk
      have hlt' : (k : Int) < ((ps.map xQ).length : Int) := by omega
      have hin := qA p.n 1 (((l.map yU).length : Int) - (a : Int))
      rw [isSg_step hpk]
      by_cases hf : p.f = a
      · cases hz : inZ p.n 1 ((l.length : Int) - a) with
        | false =>
          rw [hL, hz, ← hL] at hin
          rw [fit_no2 hz, Bool.false_and]
          (repeat' (first|(apply xW;(first|exact Want.none_ rfl|(refine z6 rfl rfl rfl rfl ?_;((exact dF ‹_›)))))|(apply xF zI;exact rfl;exact rfl)|((first|apply yZ|(apply yC;exact rfl;exact rfl)|apply zV|apply yE)<;>(first|exact zI|exact rfl|refine yI ?_|assumption|omega|exact lb rfl))|(apply y4;exact rfl;exact rfl;((exact dF ‹_›));exact rfl;exact rfl)|apply zS|apply AWp.Q|apply zH|apply AWp.G|apply AWp.B|apply AWp.J|apply AWp.R|apply zK|apply zM|(apply AWp.T;exact rfl;(first|exact dT ‹_›|exact rfl))|(apply yD;(iterate 6 exact rfl);(iterate 2 (focus (repeat (first|exact VAs.nil|apply VAs.cons|apply VA.c|exact VCs.nil|exact VC.imm (Imm.v _)))));((exact hin));(focus (repeat ((exact Flat.v _))));((apply yM));((exact xE _ _)))|(((refine z7 rfl rfl rfl ?_ ?_))<;>intro hp<;>try (exfalso;omega))))
          (((refine zX _ [] (.cons (zP rfl) (.cons (zP rfl) .nil)) ?_ rfl ?_)) <;> (repeat' (first|exact trivial|exact rfl|apply And.intro)))
        | true =>
          rw [hL, hz, ← hL] at hin
          rw [fit_yes hf hz]
          rw [inZ, decide_eq_true_eq] at hz
          obtain ⟨n, hn⟩ : ∃ n : Nat, p.n = (n : Int) := ⟨p.n.toNat, by omega⟩
          obtain ⟨pf, pn, pt⟩ := p
          simp only at hn hf hz hin hp' ⊢
          subst hn hf
          have hp2 : (ps.map xQ)[k]? = some (xQ ⟨(a : Int), (n : Int), pt⟩) := hp'
          clear hp'
          rw [xQ] at hp2
          dsimp only at hp2
          rw [Int.toNat_natCast]
          have hsum : (a : Int) + (n : Int) = ((a + n : Nat) : Int) := by omega
          have hg := l6Find_pf es (cut l a n) hb (by rw [qL (by omega)]; omega)
          rw [qI] at hg
          by_cases hpt : pt = []
          · subst hpt
            have hnil : ([] : List UInt8) = [] := rfl
            have hx : (hasE es (cut l a n) && decide (([] : List UInt8) = qC es (cut l a n))) = false := by
              cases hh : hasE es (cut l a n) with
              | false => rfl
              | true => rw [decide_eq_false (fun e => (hN.txt hh).1 e.symm)]; rfl
            rw [hx, Bool.false_or]
            by_cases h1n : n = 1
            · subst h1n
              rw [decide_eq_true (by exact ⟨rfl, rfl⟩), Bool.true_and]
              have hone : ((1 : Nat) : Int) = 1 := rfl
              (repeat' (first|(apply xW;(first|exact Want.none_ rfl|(refine z6 rfl rfl rfl rfl ?_;(first|exact dT ‹_›|exact dF ‹_›|exact rfl))))|(apply xF zI;exact rfl;exact rfl)|((first|apply z8|apply yZ|(apply yC;exact rfl;exact rfl)|apply zV|(apply yT;exact rfl;exact rfl)|apply yE)<;>(first|exact zI|exact rfl|refine yI ?_|assumption|omega|exact ⟨rfl,_,_,rfl,rfl⟩|exact lb rfl|(refine Bd.mk ?_;(assumption))))|(apply y4;exact rfl;exact rfl;(first|exact dT ‹_›|exact dF ‹_›|exact rfl);exact rfl;exact rfl)|(apply y3;(iterate 5 exact rfl);((exact rfl)))|(apply yO;(iterate 5 exact rfl))|apply zS|(refine yN ?_ ?_;kernel_rfl)|apply AWp.Q|apply zH|apply AWp.G|apply AWp.B|apply AWp.J|apply zJ|(refine AWp.D ?_ ?_;kernel_rfl)|(apply AWp.T;exact rfl;((exact dT ‹_›)))|(apply AWp.F;exact rfl;((exact rfl)))|(apply yD;(iterate 6 exact rfl);(iterate 2 (focus (repeat (first|exact VAs.nil|apply VAs.cons|apply VA.c|apply VA.agg|exact VCs.nil|apply VCs.cons|exact VC.imm (Imm.v _)|exact VC.imm (Imm.sl _)))));(first|exact hin|exact hg);(focus (repeat (first|exact trivial|exact Flat.v _|apply And.intro)));((apply yM));(first|exact xE _ _|exact xB _ _ _))|(((refine z7 rfl rfl rfl ?_ ?_))<;>intro hp<;>try (exfalso;omega))))
              all_goals first | (exfalso; simp only [Bool.not_eq_true', Bool.not_eq_false', decide_eq_true_eq, decide_eq_false_iff_not] at *; first | contradiction | omega) | skip
              refine ⟨(k + 1, a + 1), ⟨by dsimp only; omega, by dsimp only; omega, rfl⟩, by dsimp only; omega, ?_⟩
              refine Weak.of [(0, some 0)] rfl ?_ ?_ <;> (repeat' (first|exact trivial|exact rfl|apply And.intro|refine ⟨_,rfl,rfl,rfl,OW.one ?_⟩))
            · have h1n' : (n : Int) ≠ 1 := by omega
              rw [decide_eq_false (fun e => h1n (by omega)), Bool.false_and]
              (repeat' (first|(apply xW;(first|exact Want.none_ rfl|(refine z6 rfl rfl rfl rfl ?_;(first|exact dT ‹_›|exact dF ‹_›))))|(apply xF zI;exact rfl;exact rfl)|((first|apply z8|apply yZ|(apply yC;exact rfl;exact rfl)|apply zV|(apply yT;exact rfl;exact rfl)|apply yE)<;>(first|exact zI|exact rfl|refine yI ?_|assumption|omega|exact ⟨rfl,_,_,rfl,rfl⟩|exact lb rfl|(refine Bd.mk ?_;(assumption))))|(apply y4;exact rfl;exact rfl;(first|exact dT ‹_›|exact dF ‹_›);exact rfl;exact rfl)|(apply y3;(iterate 5 exact rfl);((exact dT ‹_›)))|(apply yO;(iterate 5 exact rfl))|apply zS|(refine yN ?_ ?_;kernel_rfl)|apply AWp.Q|apply zH|apply AWp.G|apply AWp.B|apply AWp.J|apply AWp.R|apply zK|apply zM|(refine AWp.D ?_ ?_;kernel_rfl)|(apply AWp.T;exact rfl;(first|exact dT ‹_›|exact rfl))|(apply AWp.F;exact rfl;((exact rfl)))|(apply yD;(iterate 6 exact rfl);(iterate 2 (focus (repeat (first|exact VAs.nil|apply VAs.cons|apply VA.c|apply VA.agg|exact VCs.nil|apply VCs.cons|exact VC.imm (Imm.v _)|exact VC.imm (Imm.sl _)))));(first|exact hin|exact hg);(focus (repeat (first|exact trivial|exact Flat.v _|apply And.intro)));((apply yM));(first|exact xE _ _|exact xB _ _ _))|(((refine z7 rfl rfl rfl ?_ ?_))<;>intro hp<;>try (exfalso;omega))))
              all_goals first | (exfalso; simp only [Bool.not_eq_true', Bool.not_eq_false', decide_eq_true_eq, decide_eq_false_iff_not] at *; first | contradiction | omega) | skip
              all_goals
                (((refine zX _ [] (.cons (zP rfl) (.cons (zP rfl) .nil)) ?_ rfl ?_)) <;> (repeat' (first|exact trivial|exact rfl|apply And.intro)))
          · have hx2 : decide ((n : Int) = 1 ∧ pt = []) = false := decide_eq_false (fun e => hpt e.2)
            rw [hx2, Bool.or_false]
            cases hh : hasE es (cut l a n) with
            | false =>
              rw [hh] at hg
              rw [Bool.false_and, Bool.false_and]
              (repeat' (first|(apply xW;(first|exact Want.none_ rfl|(refine z6 rfl rfl rfl rfl ?_;(first|exact dT ‹_›|exact dF ‹_›|exact rfl))))|(apply xF zI;exact rfl;exact rfl)|((first|apply z8|apply yZ|(apply yC;exact rfl;exact rfl)|apply zV|(apply yT;exact rfl;exact rfl)|apply yE)<;>(first|exact zI|exact rfl|refine yI ?_|assumption|omega|exact ⟨rfl,_,_,rfl,rfl⟩|exact lb rfl|(refine Bd.mk ?_;(assumption))))|(apply y4;exact rfl;exact rfl;(first|exact dT ‹_›|exact dF ‹_›|exact rfl);exact rfl;exact rfl)|(apply y3;(iterate 5 exact rfl);(first|exact dF ‹_›|exact rfl))|apply zS|(refine yN ?_ ?_;kernel_rfl)|apply AWp.Q|apply zH|apply AWp.G|apply AWp.B|apply AWp.J|apply AWp.R|apply zK|apply zM|(refine AWp.D ?_ ?_;kernel_rfl)|(apply AWp.T;exact rfl;(first|exact dT ‹_›|exact rfl))|(apply AWp.F;exact rfl;((exact rfl)))|(apply yD;(iterate 6 exact rfl);(iterate 2 (focus (repeat (first|exact VAs.nil|apply VAs.cons|apply VA.c|apply VA.agg|exact VCs.nil|apply VCs.cons|exact VC.imm (Imm.v _)|exact VC.imm (Imm.sl _)))));(first|exact hin|exact hg);(focus (repeat (first|exact trivial|exact Flat.v _|apply And.intro)));((apply yM));(first|exact xE _ _|exact xB _ _ _))|(((refine z7 rfl rfl rfl ?_ ?_))<;>intro hp<;>try (exfalso;omega))))
              all_goals first | (exfalso; simp only [Bool.not_eq_true', Bool.not_eq_false', decide_eq_true_eq, decide_eq_false_iff_not] at *; first | contradiction | omega) | skip
              all_goals
                (((refine zX _ [] (.cons (zP rfl) (.cons (zP rfl) .nil)) ?_ rfl ?_)) <;> (repeat' (first|exact trivial|exact rfl|apply And.intro)))
            | true =>
              rw [hh] at hg
              by_cases ht : pt = qC es (cut l a n)
              · rw [decide_eq_true ht, Bool.true_and, Bool.true_and]
                (repeat' (first|(apply xW;(first|exact Want.none_ rfl|(refine z6 rfl rfl rfl rfl ?_;(first|exact dT ‹_›|exact dF ‹_›|exact rfl))))|(apply xF zI;exact rfl;exact rfl)|((first|apply z8|apply yZ|(apply yC;exact rfl;exact rfl)|apply zV|(apply yT;exact rfl;exact rfl)|apply yE)<;>(first|exact zI|exact rfl|refine yI ?_|assumption|omega|exact ⟨rfl,_,_,rfl,rfl⟩|exact lb rfl|(refine Bd.mk ?_;(assumption))))|(apply y4;exact rfl;exact rfl;(first|exact dT ‹_›|exact dF ‹_›|exact rfl);exact rfl;exact rfl)|(apply y3;(iterate 5 exact rfl);((exact dF ‹_›)))|apply zS|(refine yN ?_ ?_;kernel_rfl)|apply AWp.Q|apply zH|apply AWp.G|apply AWp.B|apply AWp.J|apply AWp.R|apply zK|apply zJ|apply zM|(refine AWp.D ?_ ?_;kernel_rfl)|(apply AWp.T;exact rfl;((exact dT ‹_›)))|(apply AWp.F;exact rfl;((exact rfl)))|(apply yD;(iterate 6 exact rfl);(iterate 2 (focus (repeat (first|exact VAs.nil|apply VAs.cons|apply VA.c|apply VA.agg|exact VCs.nil|apply VCs.cons|exact VC.imm (Imm.v _)|exact VC.imm (Imm.sl _)))));(first|exact hin|exact hg);(focus (repeat (first|exact trivial|exact Flat.v _|apply And.intro)));((apply yM));(first|exact xE _ _|exact xB _ _ _))|(((refine z7 rfl rfl rfl ?_ ?_))<;>intro hp<;>try (exfalso;omega))|(((refine AWp.C rfl ?_ ?_))<;>intro hp<;>try (exfalso;omega))))
                all_goals first | (exfalso; simp only [Bool.not_eq_true', Bool.not_eq_false', decide_eq_true_eq, decide_eq_false_iff_not] at *; first | contradiction | omega) | skip
                refine ⟨(k + 1, a + n), ⟨by dsimp only; omega, by dsimp only; omega, rfl⟩, by dsimp only; omega, ?_⟩
                refine Weak.of [(0, some 0)] rfl ?_ ?_ <;> (repeat' (first|exact trivial|exact rfl|apply And.intro|refine ⟨_,rfl,rfl,rfl,OW.one ?_⟩))
              · rw [decide_eq_false ht, Bool.true_and, Bool.false_and]
                (repeat' (first|(apply xW;(first|exact Want.none_ rfl|(refine z6 rfl rfl rfl rfl ?_;(first|exact dT ‹_›|exact dF ‹_›|exact rfl))))|(apply xF zI;exact rfl;exact rfl)|((first|apply z8|apply yZ|(apply yC;exact rfl;exact rfl)|apply zV|(apply yT;exact rfl;exact rfl)|apply yE)<;>(first|exact zI|exact rfl|refine yI ?_|assumption|omega|exact ⟨rfl,_,_,rfl,rfl⟩|exact lb rfl|(refine Bd.mk ?_;(assumption))))|(apply y4;exact rfl;exact rfl;(first|exact dT ‹_›|exact dF ‹_›|exact rfl);exact rfl;exact rfl)|(apply y3;(iterate 5 exact rfl);((exact dF ‹_›)))|apply zS|(refine yN ?_ ?_;kernel_rfl)|apply AWp.Q|apply zH|apply AWp.G|apply AWp.B|apply AWp.J|apply AWp.R|apply zK|apply zM|(refine AWp.D ?_ ?_;kernel_rfl)|(apply AWp.T;exact rfl;((exact dT ‹_›)))|(apply AWp.F;exact rfl;((exact rfl)))|(apply yD;(iterate 6 exact rfl);(iterate 2 (focus (repeat (first|exact VAs.nil|apply VAs.cons|apply VA.c|apply VA.agg|exact VCs.nil|apply VCs.cons|exact VC.imm (Imm.v _)|exact VC.imm (Imm.sl _)))));(first|exact hin|exact hg);(focus (repeat (first|exact trivial|exact Flat.v _|apply And.intro)));((apply yM));(first|exact xE _ _|exact xB _ _ _))|(((refine z7 rfl rfl rfl ?_ ?_))<;>intro hp<;>try (exfalso;omega))))
                all_goals first | (exfalso; simp only [Bool.not_eq_true', Bool.not_eq_false', decide_eq_true_eq, decide_eq_false_iff_not] at *; first | contradiction | omega) | skip
                all_goals
                  (((refine zX _ [] (.cons (zP rfl) (.cons (zP rfl) .nil)) ?_ rfl ?_)) <;> (repeat' (first|exact trivial|exact rfl|apply And.intro)))
      · rw [fit_no1 hf, Bool.false_and]
        (repeat' (first|(apply xW;((exact Want.none_ rfl)))|(apply xF zI;exact rfl;exact rfl)|((first|(apply yC;exact rfl;exact rfl)|apply zV|apply yE)<;>(first|exact zI|exact rfl|refine yI ?_|assumption|exact lb rfl))|(apply y4;exact rfl;exact rfl;((exact dT ‹_›));exact rfl;exact rfl)|(apply y3;(iterate 5 exact rfl);((exact dT ‹_›)))|apply zS|apply AWp.Q|apply zH|apply AWp.G|apply AWp.B|apply AWp.J|apply AWp.R|apply zK|apply zM|(apply AWp.T;exact rfl;(first|exact dT ‹_›|exact rfl))))
        (((refine zX _ [] (.cons (zP rfl) (.cons (zP rfl) .nil)) ?_ rfl ?_)) <;> (repeat' (first|exact trivial|exact rfl|apply And.intro)))
    · have hlt' : ¬ (k : Int) < ((ps.map xQ).length : Int) := by omega
      rw [List.drop_eq_nil_of_le (by omega), isSg]
      (repeat' (first|(apply xW;((exact Want.none_ rfl)))|(apply xF zI;exact rfl;exact rfl)|apply zS|apply AWp.Q|apply zH|apply AWp.G|apply AWp.X|apply AWp.R|apply zR|apply zO|(apply AWp.F;exact rfl;((exact dF ‹_›)))))
      (((refine zX _ [] (.cons (zP rfl) (.cons (zP rfl) .nil)) ?_ rfl ?_)) <;> (repeat' (first|exact trivial|exact rfl|apply And.intro|refine fwB ?_)))
      rw [Bool.eq_iff_iff, decide_eq_true_eq, decide_eq_true_eq]; omega
theorem specIsSegN_pf (es : List Ent) (l : List Int) (ps : List Pc) (hb : wX es) (hl : l.length ≤ 1000000) (hp : ps.length ≤ 1000000) (h : mchOk es l = false) : PF Tryz.prog 48 [.agg (x3 es), .c (.sl (l.map yU)), .c (.sl (ps.map xQ))] [] (.tup [.c (boo false), .c (boo false)]) := by
  have h1 := vD es hb
  have h2 := wI l (by omega)
  rcases mchOk_no h with e1 | ⟨e1, e2⟩
  · rw [e1] at h1
    refine PF.enter (vE _ _ _) Tryz.func48 rfl (by kernel_rfl) _ _ rfl rfl rfl (fun w0 mu I0 β0 gi dis => ?_)
    (repeat' (first|(apply xW;((exact Want.none_ rfl)))|(apply xF zI;exact rfl;exact rfl)|(apply y4;exact rfl;exact rfl;((exact rfl));exact rfl;exact rfl)|(apply y3;(iterate 5 exact rfl);((exact rfl)))|apply zS|apply AWp.Q|apply zH|apply AWp.G|apply AWp.R|apply zK|(apply AWp.T;exact rfl;((exact rfl)))|(apply yD;(iterate 6 exact rfl);(iterate 2 (focus (repeat (first|exact VAs.nil|apply VAs.cons|apply VA.agg|exact VCs.nil|apply VCs.cons|exact VC.imm (Imm.sl _)))));((exact h1));(focus (repeat ((exact Flat.v _))));((apply yM));((exact xE _ _)))))
    (((refine zX _ [] (.cons (zP rfl) (.cons (zP rfl) .nil)) ?_ rfl ?_)) <;> (repeat' (first|exact trivial|exact rfl|apply And.intro)))
  · rw [e1] at h1
    rw [e2] at h2
    refine PF.enter (vE _ _ _) Tryz.func48 rfl (by kernel_rfl) _ _ rfl rfl rfl (fun w0 mu I0 β0 gi dis => ?_)
    (repeat' (first|(apply xW;(first|exact Want.none_ rfl|(refine z6 rfl rfl rfl rfl ?_;((exact rfl)))))|(apply xF zI;exact rfl;exact rfl)|(apply y4;exact rfl;exact rfl;((exact rfl));exact rfl;exact rfl)|apply zS|apply AWp.Q|apply zH|apply AWp.G|apply AWp.R|apply zK|(apply AWp.T;exact rfl;((exact rfl)))|(apply yD;(iterate 6 exact rfl);(iterate 2 (focus (repeat (first|exact VAs.nil|apply VAs.cons|apply VA.c|apply VA.agg|exact VCs.nil|apply VCs.cons|exact VC.imm (Imm.sl _)))));(first|exact h1|exact h2);(focus (repeat ((exact Flat.v _))));((apply yM));((exact xE _ _)))))
    (((refine zX _ [] (.cons (zP rfl) (.cons (zP rfl) .nil)) ?_ rfl ?_)) <;> (repeat' (first|exact trivial|exact rfl|apply And.intro)))
theorem implIsSegN_pf (es : List Ent) (l : List Int) (ps : List Pc) (hb : wX es) (hl : l.length ≤ 1000000) (hp : ps.length ≤ 1000000) (h : mchOk es l = false) : PF Tryz.prog 15 [.agg (x3 es), .c (.sl (l.map yU)), .c (.sl (ps.map xQ))] [] (.tup [.c (boo false), .c (boo false)]) := by
  have h1 := isMatched_pf es l hb hl
  rw [h] at h1
  refine PF.enter (vE _ _ _) Tryz.func15 rfl (by kernel_rfl) _ _ rfl rfl rfl (fun w0 mu I0 β0 gi dis => ?_)
  (repeat' (first|(apply xW;((exact Want.none_ rfl)))|(apply xF zI;exact rfl;exact rfl)|apply zS|apply AWp.Q|apply zH|apply AWp.G|apply AWp.R|apply zK|(apply AWp.T;exact rfl;((exact rfl)))|(apply yD;(iterate 6 exact rfl);(iterate 2 (focus (repeat (first|exact VAs.nil|apply VAs.cons|apply VA.c|apply VA.agg|exact VCs.nil|apply VCs.cons|exact VC.imm (Imm.sl _)))));((exact h1));(focus (repeat ((exact Flat.v _))));((apply yM));((exact xE _ _)))))
  (((refine zX _ [] (.cons (zP rfl) (.cons (zP rfl) .nil)) ?_ rfl ?_)) <;> (repeat' (first|exact trivial|exact rfl|apply And.intro)))
def resSg (es : List Ent) (l : List Int) (ps : List Pc) : AVal := .tup [.c (boo (mchOk es l && isSg es l 0 ps)), .c (boo (mchOk es l))]
theorem implIsSegA_pf (es : List Ent) (l : List Int) (ps : List Pc) (hb : wX es) (hl : l.length ≤ 1000000) (hp : ps.length ≤ 1000000) : PF Tryz.prog 15 [.agg (x3 es), .c (.sl (l.map yU)), .c (.sl (ps.map xQ))] [] (resSg es l ps) := by
  rw [resSg]
  cases h : mchOk es l with
  | true => exact implIsSegY_pf es l ps hb hl hp h
  | false => exact implIsSegN_pf es l ps hb hl hp h
theorem specIsSegA_pf (es : List Ent) (l : List Int) (ps : List Pc) (hb : wX es) (hl : l.length ≤ 1000000) (hp : ps.length ≤ 1000000) : PF Tryz.prog 48 [.agg (x3 es), .c (.sl (l.map yU)), .c (.sl (ps.map xQ))] [] (resSg es l ps) := by
  rw [resSg]
  cases h : mchOk es l with
  | true => exact specIsSegY_pf es l ps hb hl hp h
  | false => exact specIsSegN_pf es l ps hb hl hp h
end Go.Proofs.YtchpdclknbmdoaaGreatDoor
