/- JoinSuffix, upper, lower, by the program. No conditions but bounds of lengths. -/
import Derived.Test.YtjeffognhcbiaaaGreatDoorScI
import Derived.Test.YtjeffognhcbiaaaGreatDoorScD
import Derived.Laws.Runes
namespace Go.Proofs.YtjeffognhcbiaaaGreatDoor
open Go Go.RowKit
theorem takeT2 {α : Type} (s : List α) (k : Nat) : s.take k = (s.drop 0).take (k - 0) := by rw [List.drop_zero, Nat.sub_zero]
theorem joinW_val {w x : List UInt8} : joinW w x = (if wB w x = 1 then w.take (w.length - 1) ++ [105, 101, 115]
  else if wB w x = 2 then w ++ [101, 115]
  else if wB w x = 3 then w.take (w.length - 2) ++ [121, 105, 110, 103]
  else if wB w x = 4 then w.take (w.length - 1) ++ [105] ++ x
  else if wB w x = 5 then w.take (w.length - 1) ++ x
  else if wB w x = 6 then w ++ w.drop (w.length - 1) ++ x
  else w ++ x) := rfl
theorem joinI_pf (w x : List UInt8) (hw : w.length ≤ 1000000) (hx : x.length ≤ 1000000) : PF Tryz.prog 186 [.c (str w), .c (str x)] [] (.tup [.c (str (jnT w x)), .c (boo (jE w x))]) := by
  have h1 := isWord_pf w (by omega)
  have h2 := isWord_pf x (by omega)
  rw [jnT, jE]
  cases a1 : kF w with
  | false =>
    rw [a1] at h1
    refine PF.enter (xG _ _) Tryz.func186 rfl (by kernel_rfl) _ _ rfl rfl rfl (fun w0 mu I0 β0 gi dis => ?_)
    (repeat' (first|(apply xW;((exact Want.none_ rfl)))|(apply xF zI;exact rfl;exact rfl)|(apply yR;exact rfl;exact rfl;((exact rfl));exact rfl;exact rfl)|(apply yS;(iterate 5 exact rfl);((exact rfl)))|apply zR|apply AWp.Q|apply zH|apply AWp.G|apply AWp.R|apply zK|(apply AWp.T;exact rfl;((exact rfl)))|(apply yA;(iterate 6 exact rfl);(iterate 2 (focus (repeat (first|exact VAs.nil|apply VAs.cons|apply VA.c|exact VCs.nil|exact VC.imm (Imm.v _)))));((exact h1));(focus (repeat ((exact Flat.v _))));((apply yJ));((exact xB _ _)))))
    (((refine zV _ [] (.cons (zN rfl) (.cons (zN rfl) .nil)) ?_ rfl ?_)) <;> (repeat' (first|exact trivial|exact rfl|apply And.intro)))
  | true =>
    rw [a1] at h1
    cases a2 : kF x with
    | false =>
      rw [a2] at h2
      refine PF.enter (xG _ _) Tryz.func186 rfl (by kernel_rfl) _ _ rfl rfl rfl (fun w0 mu I0 β0 gi dis => ?_)
      (repeat' (first|(apply xW;(first|exact Want.none_ rfl|(refine zX rfl rfl rfl rfl ?_;((exact rfl)))))|(apply xF zI;exact rfl;exact rfl)|(apply yR;exact rfl;exact rfl;((exact rfl));exact rfl;exact rfl)|apply zR|apply AWp.Q|apply zH|apply AWp.G|apply AWp.R|apply zK|(apply AWp.T;exact rfl;((exact rfl)))|(apply yA;(iterate 6 exact rfl);(iterate 2 (focus (repeat (first|exact VAs.nil|apply VAs.cons|apply VA.c|exact VCs.nil|exact VC.imm (Imm.v _)))));(first|exact h1|exact h2);(focus (repeat ((exact Flat.v _))));((apply yJ));((exact xB _ _)))))
      (((refine zV _ [] (.cons (zN rfl) (.cons (zN rfl) .nil)) ?_ rfl ?_)) <;> (repeat' (first|exact trivial|exact rfl|apply And.intro)))
    | true =>
      rw [a2] at h2
      have l1 := wdOk_len a1
      have l2 := wdOk_len a2
      have h3 := rule_pf w x (by omega) (by omega)
      obtain ⟨n1, n3, n4, n5, n6⟩ := ruleN_len (w := w) (x := x)
      have hz1 : (w.length : Int) - 1 = ((w.length - 1 : Nat) : Int) := by omega
      rw [joinW_val]
      rcases ruleN_rng w x with h | h | h | h | h | h | h
      all_goals rw [h] at h3 n1 n3 n4 n5 n6 ⊢
      · show PF _ _ _ _ (.tup [.c (str (if (true && true && decide ((w ++ x).length ≤ 24)) = true then w ++ x else [])), .c (boo (true && true && decide ((w ++ x).length ≤ 24)))])
        have e : w ++ x = w ++ x := by rfl
        rw [e]
        by_cases hl : (w ++ x).length ≤ 24
        · have hl' : ¬ (24 : Int) < ((w ++ x).length : Int) := by omega
          rw [decide_eq_true hl]
          refine PF.enter (xG _ _) Tryz.func186 rfl (by kernel_rfl) _ _ rfl rfl rfl (fun w0 mu I0 β0 gi dis => ?_)
          (repeat' (first|(apply xW;(first|exact Want.none_ rfl|(refine zX rfl rfl rfl rfl ?_;((exact rfl)))))|(apply xF zI;exact rfl;exact rfl)|(((apply z6;exact rfl;exact rfl))<;>(first|exact rfl|refine yG ?_|(refine Bd.mk ?_;(omega))))|(apply yR;exact rfl;exact rfl;((exact rfl));exact rfl;exact rfl)|apply zR|apply AWp.Q|apply zH|apply AWp.G|apply AWp.B|apply AWp.J|apply AWp.R|apply zJ|(apply AWp.F;exact rfl;(first|exact dF ‹_›|exact rfl))|(apply yA;(iterate 6 exact rfl);(iterate 2 (focus (repeat (first|exact VAs.nil|apply VAs.cons|apply VA.c|exact VCs.nil|exact VC.imm (Imm.v _)))));(first|exact h1|exact h2|exact h3);(focus (repeat ((exact Flat.v _))));((apply yJ));((exact xB _ _)))))
          (((refine zV _ [] (.cons (zN rfl) (.cons (zN rfl) .nil)) ?_ rfl ?_)) <;> (repeat' (first|exact trivial|exact rfl|apply And.intro)))
        · have hl' : (24 : Int) < ((w ++ x).length : Int) := by omega
          rw [decide_eq_false hl]
          refine PF.enter (xG _ _) Tryz.func186 rfl (by kernel_rfl) _ _ rfl rfl rfl (fun w0 mu I0 β0 gi dis => ?_)
          (repeat' (first|(apply xW;(first|exact Want.none_ rfl|(refine zX rfl rfl rfl rfl ?_;((exact rfl)))))|(apply xF zI;exact rfl;exact rfl)|(((apply z6;exact rfl;exact rfl))<;>(first|exact rfl|refine yG ?_|(refine Bd.mk ?_;(omega))))|(apply yR;exact rfl;exact rfl;((exact rfl));exact rfl;exact rfl)|apply zR|apply AWp.Q|apply zH|apply AWp.G|apply AWp.B|apply AWp.J|apply AWp.R|apply zK|apply zJ|(apply AWp.T;exact rfl;((exact dT ‹_›)))|(apply AWp.F;exact rfl;((exact rfl)))|(apply yA;(iterate 6 exact rfl);(iterate 2 (focus (repeat (first|exact VAs.nil|apply VAs.cons|apply VA.c|exact VCs.nil|exact VC.imm (Imm.v _)))));(first|exact h1|exact h2|exact h3);(focus (repeat ((exact Flat.v _))));((apply yJ));((exact xB _ _)))))
          (((refine zV _ [] (.cons (zN rfl) (.cons (zN rfl) .nil)) ?_ rfl ?_)) <;> (repeat' (first|exact trivial|exact rfl|apply And.intro)))
      · show PF _ _ _ _ (.tup [.c (str (if (true && true && decide ((w.take (w.length - 1) ++ [105, 101, 115]).length ≤ 24)) = true then w.take (w.length - 1) ++ [105, 101, 115] else [])), .c (boo (true && true && decide ((w.take (w.length - 1) ++ [105, 101, 115]).length ≤ 24)))])
        have e : w.take (w.length - 1) ++ [105, 101, 115] = (w.drop 0).take (w.length - 1 - 0) ++ [105, 101, 115] := by rw [takeT2]
        rw [e]
        by_cases hl : ((w.drop 0).take (w.length - 1 - 0) ++ [105, 101, 115]).length ≤ 24
        · have hl' : ¬ (24 : Int) < (((w.drop 0).take (w.length - 1 - 0) ++ [105, 101, 115]).length : Int) := by omega
          rw [decide_eq_true hl]
          refine PF.enter (xG _ _) Tryz.func186 rfl (by kernel_rfl) _ _ rfl rfl rfl (fun w0 mu I0 β0 gi dis => ?_)
          (repeat' (first|(apply xW;(first|exact Want.none_ rfl|(refine zX rfl rfl rfl rfl ?_;((exact rfl)))))|(apply xF zI;exact rfl;exact rfl)|((first|(apply z6;exact rfl;exact rfl)|apply y3|(apply yM;exact rfl;exact rfl))<;>(first|exact zI|exact rfl|refine yG ?_|omega|exact ⟨rfl⟩|(refine Bd.mk ?_;first|omega|(simp;omega))|(focus (apply oI;exact rfl;exact rfl;assumption))))|(apply yR;exact rfl;exact rfl;((exact rfl));exact rfl;exact rfl)|apply zR|apply AWp.Q|apply zH|apply AWp.G|apply AWp.B|apply AWp.J|apply AWp.R|apply zJ|(apply AWp.T;exact rfl;((exact rfl)))|(apply AWp.F;exact rfl;(first|exact dF ‹_›|exact rfl))|(apply yA;(iterate 6 exact rfl);(iterate 2 (focus (repeat (first|exact VAs.nil|apply VAs.cons|apply VA.c|exact VCs.nil|exact VC.imm (Imm.v _)))));(first|exact h1|exact h2|exact h3);(focus (repeat ((exact Flat.v _))));((apply yJ));((exact xB _ _)))))
          (((refine zV _ [] (.cons (zN rfl) (.cons (zN rfl) .nil)) ?_ rfl ?_)) <;> (repeat' (first|exact trivial|exact rfl|apply And.intro)))
        · have hl' : (24 : Int) < (((w.drop 0).take (w.length - 1 - 0) ++ [105, 101, 115]).length : Int) := by omega
          rw [decide_eq_false hl]
          refine PF.enter (xG _ _) Tryz.func186 rfl (by kernel_rfl) _ _ rfl rfl rfl (fun w0 mu I0 β0 gi dis => ?_)
          (repeat' (first|(apply xW;(first|exact Want.none_ rfl|(refine zX rfl rfl rfl rfl ?_;((exact rfl)))))|(apply xF zI;exact rfl;exact rfl)|((first|(apply z6;exact rfl;exact rfl)|apply y3|(apply yM;exact rfl;exact rfl))<;>(first|exact zI|exact rfl|refine yG ?_|omega|exact ⟨rfl⟩|(refine Bd.mk ?_;first|omega|(simp;omega))|(focus (apply oI;exact rfl;exact rfl;assumption))))|(apply yR;exact rfl;exact rfl;((exact rfl));exact rfl;exact rfl)|apply zR|apply AWp.Q|apply zH|apply AWp.G|apply AWp.B|apply AWp.J|apply AWp.R|apply zK|apply zJ|(apply AWp.T;exact rfl;(first|exact dT ‹_›|exact rfl))|(apply AWp.F;exact rfl;((exact rfl)))|(apply yA;(iterate 6 exact rfl);(iterate 2 (focus (repeat (first|exact VAs.nil|apply VAs.cons|apply VA.c|exact VCs.nil|exact VC.imm (Imm.v _)))));(first|exact h1|exact h2|exact h3);(focus (repeat ((exact Flat.v _))));((apply yJ));((exact xB _ _)))))
          (((refine zV _ [] (.cons (zN rfl) (.cons (zN rfl) .nil)) ?_ rfl ?_)) <;> (repeat' (first|exact trivial|exact rfl|apply And.intro)))
      · show PF _ _ _ _ (.tup [.c (str (if (true && true && decide ((w ++ [101, 115]).length ≤ 24)) = true then w ++ [101, 115] else [])), .c (boo (true && true && decide ((w ++ [101, 115]).length ≤ 24)))])
        have e : w ++ [101, 115] = w ++ [101, 115] := by rfl
        rw [e]
        by_cases hl : (w ++ [101, 115]).length ≤ 24
        · have hl' : ¬ (24 : Int) < ((w ++ [101, 115]).length : Int) := by omega
          rw [decide_eq_true hl]
          refine PF.enter (xG _ _) Tryz.func186 rfl (by kernel_rfl) _ _ rfl rfl rfl (fun w0 mu I0 β0 gi dis => ?_)
          (repeat' (first|(apply xW;(first|exact Want.none_ rfl|(refine zX rfl rfl rfl rfl ?_;((exact rfl)))))|(apply xF zI;exact rfl;exact rfl)|(((apply z6;exact rfl;exact rfl))<;>(first|exact rfl|refine yG ?_|(refine Bd.mk ?_;first|omega|(simp;omega))))|(apply yR;exact rfl;exact rfl;((exact rfl));exact rfl;exact rfl)|apply zR|apply AWp.Q|apply zH|apply AWp.G|apply AWp.B|apply AWp.J|apply AWp.R|apply zJ|(apply AWp.T;exact rfl;((exact rfl)))|(apply AWp.F;exact rfl;(first|exact dF ‹_›|exact rfl))|(apply yA;(iterate 6 exact rfl);(iterate 2 (focus (repeat (first|exact VAs.nil|apply VAs.cons|apply VA.c|exact VCs.nil|exact VC.imm (Imm.v _)))));(first|exact h1|exact h2|exact h3);(focus (repeat ((exact Flat.v _))));((apply yJ));((exact xB _ _)))))
          (((refine zV _ [] (.cons (zN rfl) (.cons (zN rfl) .nil)) ?_ rfl ?_)) <;> (repeat' (first|exact trivial|exact rfl|apply And.intro)))
        · have hl' : (24 : Int) < ((w ++ [101, 115]).length : Int) := by omega
          rw [decide_eq_false hl]
          refine PF.enter (xG _ _) Tryz.func186 rfl (by kernel_rfl) _ _ rfl rfl rfl (fun w0 mu I0 β0 gi dis => ?_)
          (repeat' (first|(apply xW;(first|exact Want.none_ rfl|(refine zX rfl rfl rfl rfl ?_;((exact rfl)))))|(apply xF zI;exact rfl;exact rfl)|(((apply z6;exact rfl;exact rfl))<;>(first|exact rfl|refine yG ?_|(refine Bd.mk ?_;first|omega|(simp;omega))))|(apply yR;exact rfl;exact rfl;((exact rfl));exact rfl;exact rfl)|apply zR|apply AWp.Q|apply zH|apply AWp.G|apply AWp.B|apply AWp.J|apply AWp.R|apply zK|apply zJ|(apply AWp.T;exact rfl;(first|exact dT ‹_›|exact rfl))|(apply AWp.F;exact rfl;((exact rfl)))|(apply yA;(iterate 6 exact rfl);(iterate 2 (focus (repeat (first|exact VAs.nil|apply VAs.cons|apply VA.c|exact VCs.nil|exact VC.imm (Imm.v _)))));(first|exact h1|exact h2|exact h3);(focus (repeat ((exact Flat.v _))));((apply yJ));((exact xB _ _)))))
          (((refine zV _ [] (.cons (zN rfl) (.cons (zN rfl) .nil)) ?_ rfl ?_)) <;> (repeat' (first|exact trivial|exact rfl|apply And.intro)))
      · show PF _ _ _ _ (.tup [.c (str (if (true && true && decide ((w.take (w.length - 2) ++ [121, 105, 110, 103]).length ≤ 24)) = true then w.take (w.length - 2) ++ [121, 105, 110, 103] else [])), .c (boo (true && true && decide ((w.take (w.length - 2) ++ [121, 105, 110, 103]).length ≤ 24)))])
        have e : w.take (w.length - 2) ++ [121, 105, 110, 103] = (w.drop 0).take (w.length - 2 - 0) ++ [121, 105, 110, 103] := by rw [takeT2]
        rw [e]
        have := n3 rfl
        have hz2 : (w.length : Int) - 2 = ((w.length - 2 : Nat) : Int) := by omega
        by_cases hl : ((w.drop 0).take (w.length - 2 - 0) ++ [121, 105, 110, 103]).length ≤ 24
        · have hl' : ¬ (24 : Int) < (((w.drop 0).take (w.length - 2 - 0) ++ [121, 105, 110, 103]).length : Int) := by omega
          rw [decide_eq_true hl]
          refine PF.enter (xG _ _) Tryz.func186 rfl (by kernel_rfl) _ _ rfl rfl rfl (fun w0 mu I0 β0 gi dis => ?_)
          (repeat' (first|(apply xW;(first|exact Want.none_ rfl|(refine zX rfl rfl rfl rfl ?_;((exact rfl)))))|(apply xF zI;exact rfl;exact rfl)|((first|(apply z6;exact rfl;exact rfl)|apply y3|(apply yM;exact rfl;exact rfl))<;>(first|exact zI|exact rfl|refine yG ?_|omega|exact ⟨rfl⟩|(refine Bd.mk ?_;first|omega|(simp;omega))|(focus (apply oI;exact rfl;exact rfl;assumption))))|(apply yR;exact rfl;exact rfl;((exact rfl));exact rfl;exact rfl)|apply zR|apply AWp.Q|apply zH|apply AWp.G|apply AWp.B|apply AWp.J|apply AWp.R|apply zJ|(apply AWp.T;exact rfl;((exact rfl)))|(apply AWp.F;exact rfl;(first|exact dF ‹_›|exact rfl))|(apply yA;(iterate 6 exact rfl);(iterate 2 (focus (repeat (first|exact VAs.nil|apply VAs.cons|apply VA.c|exact VCs.nil|exact VC.imm (Imm.v _)))));(first|exact h1|exact h2|exact h3);(focus (repeat ((exact Flat.v _))));((apply yJ));((exact xB _ _)))))
          (((refine zV _ [] (.cons (zN rfl) (.cons (zN rfl) .nil)) ?_ rfl ?_)) <;> (repeat' (first|exact trivial|exact rfl|apply And.intro)))
        · have hl' : (24 : Int) < (((w.drop 0).take (w.length - 2 - 0) ++ [121, 105, 110, 103]).length : Int) := by omega
          rw [decide_eq_false hl]
          refine PF.enter (xG _ _) Tryz.func186 rfl (by kernel_rfl) _ _ rfl rfl rfl (fun w0 mu I0 β0 gi dis => ?_)
          (repeat' (first|(apply xW;(first|exact Want.none_ rfl|(refine zX rfl rfl rfl rfl ?_;((exact rfl)))))|(apply xF zI;exact rfl;exact rfl)|((first|(apply z6;exact rfl;exact rfl)|apply y3|(apply yM;exact rfl;exact rfl))<;>(first|exact zI|exact rfl|refine yG ?_|omega|exact ⟨rfl⟩|(refine Bd.mk ?_;first|omega|(simp;omega))|(focus (apply oI;exact rfl;exact rfl;assumption))))|(apply yR;exact rfl;exact rfl;((exact rfl));exact rfl;exact rfl)|apply zR|apply AWp.Q|apply zH|apply AWp.G|apply AWp.B|apply AWp.J|apply AWp.R|apply zK|apply zJ|(apply AWp.T;exact rfl;(first|exact dT ‹_›|exact rfl))|(apply AWp.F;exact rfl;((exact rfl)))|(apply yA;(iterate 6 exact rfl);(iterate 2 (focus (repeat (first|exact VAs.nil|apply VAs.cons|apply VA.c|exact VCs.nil|exact VC.imm (Imm.v _)))));(first|exact h1|exact h2|exact h3);(focus (repeat ((exact Flat.v _))));((apply yJ));((exact xB _ _)))))
          (((refine zV _ [] (.cons (zN rfl) (.cons (zN rfl) .nil)) ?_ rfl ?_)) <;> (repeat' (first|exact trivial|exact rfl|apply And.intro)))
      · show PF _ _ _ _ (.tup [.c (str (if (true && true && decide ((w.take (w.length - 1) ++ [105] ++ x).length ≤ 24)) = true then w.take (w.length - 1) ++ [105] ++ x else [])), .c (boo (true && true && decide ((w.take (w.length - 1) ++ [105] ++ x).length ≤ 24)))])
        have e : w.take (w.length - 1) ++ [105] ++ x = (w.drop 0).take (w.length - 1 - 0) ++ [105] ++ x := by rw [takeT2]
        rw [e]
        by_cases hl : ((w.drop 0).take (w.length - 1 - 0) ++ [105] ++ x).length ≤ 24
        · have hl' : ¬ (24 : Int) < (((w.drop 0).take (w.length - 1 - 0) ++ [105] ++ x).length : Int) := by omega
          rw [decide_eq_true hl]
          refine PF.enter (xG _ _) Tryz.func186 rfl (by kernel_rfl) _ _ rfl rfl rfl (fun w0 mu I0 β0 gi dis => ?_)
          (repeat' (first|(apply xW;(first|exact Want.none_ rfl|(refine zX rfl rfl rfl rfl ?_;((exact rfl)))))|(apply xF zI;exact rfl;exact rfl)|((first|(apply z6;exact rfl;exact rfl)|apply y3|(apply yM;exact rfl;exact rfl))<;>(first|exact zI|exact rfl|refine yG ?_|omega|exact ⟨rfl⟩|(refine Bd.mk ?_;first|omega|(simp;omega))|(focus (apply oI;exact rfl;exact rfl;assumption))))|(apply yR;exact rfl;exact rfl;((exact rfl));exact rfl;exact rfl)|apply zR|apply AWp.Q|apply zH|apply AWp.G|apply AWp.B|apply AWp.J|apply AWp.R|apply zJ|(apply AWp.T;exact rfl;((exact rfl)))|(apply AWp.F;exact rfl;(first|exact dF ‹_›|exact rfl))|(apply yA;(iterate 6 exact rfl);(iterate 2 (focus (repeat (first|exact VAs.nil|apply VAs.cons|apply VA.c|exact VCs.nil|exact VC.imm (Imm.v _)))));(first|exact h1|exact h2|exact h3);(focus (repeat ((exact Flat.v _))));((apply yJ));((exact xB _ _)))))
          (((refine zV _ [] (.cons (zN rfl) (.cons (zN rfl) .nil)) ?_ rfl ?_)) <;> (repeat' (first|exact trivial|exact rfl|apply And.intro)))
        · have hl' : (24 : Int) < (((w.drop 0).take (w.length - 1 - 0) ++ [105] ++ x).length : Int) := by omega
          rw [decide_eq_false hl]
          refine PF.enter (xG _ _) Tryz.func186 rfl (by kernel_rfl) _ _ rfl rfl rfl (fun w0 mu I0 β0 gi dis => ?_)
          (repeat' (first|(apply xW;(first|exact Want.none_ rfl|(refine zX rfl rfl rfl rfl ?_;((exact rfl)))))|(apply xF zI;exact rfl;exact rfl)|((first|(apply z6;exact rfl;exact rfl)|apply y3|(apply yM;exact rfl;exact rfl))<;>(first|exact zI|exact rfl|refine yG ?_|omega|exact ⟨rfl⟩|(refine Bd.mk ?_;first|omega|(simp;omega))|(focus (apply oI;exact rfl;exact rfl;assumption))))|(apply yR;exact rfl;exact rfl;((exact rfl));exact rfl;exact rfl)|apply zR|apply AWp.Q|apply zH|apply AWp.G|apply AWp.B|apply AWp.J|apply AWp.R|apply zK|apply zJ|(apply AWp.T;exact rfl;(first|exact dT ‹_›|exact rfl))|(apply AWp.F;exact rfl;((exact rfl)))|(apply yA;(iterate 6 exact rfl);(iterate 2 (focus (repeat (first|exact VAs.nil|apply VAs.cons|apply VA.c|exact VCs.nil|exact VC.imm (Imm.v _)))));(first|exact h1|exact h2|exact h3);(focus (repeat ((exact Flat.v _))));((apply yJ));((exact xB _ _)))))
          (((refine zV _ [] (.cons (zN rfl) (.cons (zN rfl) .nil)) ?_ rfl ?_)) <;> (repeat' (first|exact trivial|exact rfl|apply And.intro)))
      · show PF _ _ _ _ (.tup [.c (str (if (true && true && decide ((w.take (w.length - 1) ++ x).length ≤ 24)) = true then w.take (w.length - 1) ++ x else [])), .c (boo (true && true && decide ((w.take (w.length - 1) ++ x).length ≤ 24)))])
        have e : w.take (w.length - 1) ++ x = (w.drop 0).take (w.length - 1 - 0) ++ x := by rw [takeT2]
        rw [e]
        by_cases hl : ((w.drop 0).take (w.length - 1 - 0) ++ x).length ≤ 24
        · have hl' : ¬ (24 : Int) < (((w.drop 0).take (w.length - 1 - 0) ++ x).length : Int) := by omega
          rw [decide_eq_true hl]
          refine PF.enter (xG _ _) Tryz.func186 rfl (by kernel_rfl) _ _ rfl rfl rfl (fun w0 mu I0 β0 gi dis => ?_)
          (repeat' (first|(apply xW;(first|exact Want.none_ rfl|(refine zX rfl rfl rfl rfl ?_;((exact rfl)))))|(apply xF zI;exact rfl;exact rfl)|((first|(apply z6;exact rfl;exact rfl)|apply y3|(apply yM;exact rfl;exact rfl))<;>(first|exact zI|exact rfl|refine yG ?_|omega|exact ⟨rfl⟩|(refine Bd.mk ?_;first|omega|(simp;omega))|(focus (apply oI;exact rfl;exact rfl;assumption))))|(apply yR;exact rfl;exact rfl;((exact rfl));exact rfl;exact rfl)|apply zR|apply AWp.Q|apply zH|apply AWp.G|apply AWp.B|apply AWp.J|apply AWp.R|apply zJ|(apply AWp.T;exact rfl;((exact rfl)))|(apply AWp.F;exact rfl;(first|exact dF ‹_›|exact rfl))|(apply yA;(iterate 6 exact rfl);(iterate 2 (focus (repeat (first|exact VAs.nil|apply VAs.cons|apply VA.c|exact VCs.nil|exact VC.imm (Imm.v _)))));(first|exact h1|exact h2|exact h3);(focus (repeat ((exact Flat.v _))));((apply yJ));((exact xB _ _)))))
          (((refine zV _ [] (.cons (zN rfl) (.cons (zN rfl) .nil)) ?_ rfl ?_)) <;> (repeat' (first|exact trivial|exact rfl|apply And.intro)))
        · have hl' : (24 : Int) < (((w.drop 0).take (w.length - 1 - 0) ++ x).length : Int) := by omega
          rw [decide_eq_false hl]
          refine PF.enter (xG _ _) Tryz.func186 rfl (by kernel_rfl) _ _ rfl rfl rfl (fun w0 mu I0 β0 gi dis => ?_)
          (repeat' (first|(apply xW;(first|exact Want.none_ rfl|(refine zX rfl rfl rfl rfl ?_;((exact rfl)))))|(apply xF zI;exact rfl;exact rfl)|((first|(apply z6;exact rfl;exact rfl)|apply y3|(apply yM;exact rfl;exact rfl))<;>(first|exact zI|exact rfl|refine yG ?_|omega|exact ⟨rfl⟩|(refine Bd.mk ?_;first|omega|(simp;omega))|(focus (apply oI;exact rfl;exact rfl;assumption))))|(apply yR;exact rfl;exact rfl;((exact rfl));exact rfl;exact rfl)|apply zR|apply AWp.Q|apply zH|apply AWp.G|apply AWp.B|apply AWp.J|apply AWp.R|apply zK|apply zJ|(apply AWp.T;exact rfl;(first|exact dT ‹_›|exact rfl))|(apply AWp.F;exact rfl;((exact rfl)))|(apply yA;(iterate 6 exact rfl);(iterate 2 (focus (repeat (first|exact VAs.nil|apply VAs.cons|apply VA.c|exact VCs.nil|exact VC.imm (Imm.v _)))));(first|exact h1|exact h2|exact h3);(focus (repeat ((exact Flat.v _))));((apply yJ));((exact xB _ _)))))
          (((refine zV _ [] (.cons (zN rfl) (.cons (zN rfl) .nil)) ?_ rfl ?_)) <;> (repeat' (first|exact trivial|exact rfl|apply And.intro)))
      · show PF _ _ _ _ (.tup [.c (str (if (true && true && decide ((w ++ w.drop (w.length - 1) ++ x).length ≤ 24)) = true then w ++ w.drop (w.length - 1) ++ x else [])), .c (boo (true && true && decide ((w ++ w.drop (w.length - 1) ++ x).length ≤ 24)))])
        have e : w ++ w.drop (w.length - 1) ++ x = w ++ (w.drop (w.length - 1)).take (w.length - (w.length - 1)) ++ x := by rw [vV]
        rw [e]
        by_cases hl : (w ++ (w.drop (w.length - 1)).take (w.length - (w.length - 1)) ++ x).length ≤ 24
        · have hl' : ¬ (24 : Int) < ((w ++ (w.drop (w.length - 1)).take (w.length - (w.length - 1)) ++ x).length : Int) := by omega
          rw [decide_eq_true hl]
          refine PF.enter (xG _ _) Tryz.func186 rfl (by kernel_rfl) _ _ rfl rfl rfl (fun w0 mu I0 β0 gi dis => ?_)
          (repeat' (first|(apply xW;(first|exact Want.none_ rfl|(refine zX rfl rfl rfl rfl ?_;((exact rfl)))))|(apply xF zI;exact rfl;exact rfl)|((first|(apply z6;exact rfl;exact rfl)|apply y3|(apply yM;exact rfl;exact rfl))<;>(first|exact zI|exact rfl|refine yG ?_|omega|exact ⟨rfl⟩|(refine Bd.mk ?_;first|omega|(simp;omega))|(focus (apply oI;exact rfl;exact rfl;assumption))))|(apply yR;exact rfl;exact rfl;((exact rfl));exact rfl;exact rfl)|apply zR|apply AWp.Q|apply zH|apply AWp.G|apply AWp.B|apply AWp.J|apply AWp.R|apply zJ|(apply AWp.T;exact rfl;((exact rfl)))|(apply AWp.F;exact rfl;(first|exact dF ‹_›|exact rfl))|(apply yA;(iterate 6 exact rfl);(iterate 2 (focus (repeat (first|exact VAs.nil|apply VAs.cons|apply VA.c|exact VCs.nil|exact VC.imm (Imm.v _)))));(first|exact h1|exact h2|exact h3);(focus (repeat ((exact Flat.v _))));((apply yJ));((exact xB _ _)))))
          (((refine zV _ [] (.cons (zN rfl) (.cons (zN rfl) .nil)) ?_ rfl ?_)) <;> (repeat' (first|exact trivial|exact rfl|apply And.intro)))
        · have hl' : (24 : Int) < ((w ++ (w.drop (w.length - 1)).take (w.length - (w.length - 1)) ++ x).length : Int) := by omega
          rw [decide_eq_false hl]
          refine PF.enter (xG _ _) Tryz.func186 rfl (by kernel_rfl) _ _ rfl rfl rfl (fun w0 mu I0 β0 gi dis => ?_)
          (repeat' (first|(apply xW;(first|exact Want.none_ rfl|(refine zX rfl rfl rfl rfl ?_;((exact rfl)))))|(apply xF zI;exact rfl;exact rfl)|((first|(apply z6;exact rfl;exact rfl)|apply y3|(apply yM;exact rfl;exact rfl))<;>(first|exact zI|exact rfl|refine yG ?_|omega|exact ⟨rfl⟩|(refine Bd.mk ?_;first|omega|(simp;omega))|(focus (apply oI;exact rfl;exact rfl;assumption))))|(apply yR;exact rfl;exact rfl;((exact rfl));exact rfl;exact rfl)|apply zR|apply AWp.Q|apply zH|apply AWp.G|apply AWp.B|apply AWp.J|apply AWp.R|apply zK|apply zJ|(apply AWp.T;exact rfl;(first|exact dT ‹_›|exact rfl))|(apply AWp.F;exact rfl;((exact rfl)))|(apply yA;(iterate 6 exact rfl);(iterate 2 (focus (repeat (first|exact VAs.nil|apply VAs.cons|apply VA.c|exact VCs.nil|exact VC.imm (Imm.v _)))));(first|exact h1|exact h2|exact h3);(focus (repeat ((exact Flat.v _))));((apply yJ));((exact xB _ _)))))
          (((refine zV _ [] (.cons (zN rfl) (.cons (zN rfl) .nil)) ?_ rfl ?_)) <;> (repeat' (first|exact trivial|exact rfl|apply And.intro)))
theorem rx_convIS {P : Program} {E : Env} {ops : Array Oper} {K : AS → Prop} {draw : Bool} {r : List Oper} {acc : List (Upd × Foot)} {tm : List (Nat × AVal)} {ob : List (Nat × Option AObj)} {nx d ty : Nat} {pos : String} {aft : Array Edge} {g : Option (Nat × Bool)}
    {T : List (Nat × TyI)} {src dst : Nat} {i j : TyI} {x : Operand} {k : IntKind} {n : Int} (l : List UInt8) (hd : xR (some d) E.n = true)
    (hx : opV tm x = some (.c (.v (.int k n)))) (hT : TabOk P T) (hs : lk src T = some i) (hk : i.kind = some k) (ht : lk dst T = some j) (hj : j.isStr = true) (he : Utf8.encode n = ⟨⟨l⟩⟩)
    (h : regX P E ops K draw r ((xX (some d) (.c (str l)), ⟨(Oper.mk (some d) (.convert src dst x) ty pos aft g).looksAt ops, []⟩) :: acc) ⟨(d, .c (str l)) :: tm, ob, nx⟩) : regY P E ops K draw ⟨some d, .convert src dst x, ty, pos, aft, g⟩ r acc ⟨tm, ob, nx⟩ := by
  refine ⟨fun hw => ?_⟩
  obtain ⟨x1, x2⟩ := xI (ob := ob) (nx := nx) hx
  refine regX.cons _ _ (StepOk.conv rfl hw hd x2 x1 rfl fun w => ?_) rfl h
  have h1 := hT.int hs hk
  rw [run_convert_int_string w src dst k n (by rw [h1]; rfl) (hT.str ht hj), he]
theorem enc_fin : ∀ n : Fin 128, Utf8.encode (n.val : Int) = ⟨⟨[UInt8.ofNat n.val]⟩⟩ := by decide +kernel
theorem enc_one {b : UInt8} (h : b.toNat < 128) : Utf8.encode ((b.toNat : Nat) : Int) = ⟨⟨[b]⟩⟩ := by
  have := enc_fin ⟨b.toNat, h⟩
  simpa using this
theorem up_val {b : UInt8} (h : vU b = true) : IntKind.i32.wrap (IntKind.u8.wrap (((b.toNat : Nat) : Int) - 97 + 65)) = (((b - 32 : UInt8).toNat : Nat) : Int) := by
  have hs := sub32 h
  rw [vU, Bool.and_eq_true, decide_eq_true_eq, decide_eq_true_eq] at h
  rw [IntWalk.u8_in _ (by omega), IntWalk.i32_in _ (by omega), ← hs]
  omega
theorem lo_val {b : UInt8} (h : kP b = true) : IntKind.i32.wrap (IntKind.u8.wrap (((b.toNat : Nat) : Int) - 65 + 97)) = (((b + 32 : UInt8).toNat : Nat) : Int) := by
  have hs := add32 h
  rw [kP, Bool.and_eq_true, decide_eq_true_eq, decide_eq_true_eq] at h
  rw [IntWalk.u8_in _ (by omega)] at hs
  rw [IntWalk.u8_in _ (by omega), IntWalk.i32_in _ (by omega), ← hs]
  omega
end Go.Proofs.YtjeffognhcbiaaaGreatDoor
