/- A stroke's notation by the program. -/
import Derived.Test.YtjeffognhcbiaaaGreatDoorTpF
namespace Go.Proofs.YtjeffognhcbiaaaGreatDoor
open Go Go.RowKit
theorem mid_bits (s : Nat) : (s / 2 ^ 8 &&& 31 = 0) ↔ kI s = false := by
  have e31 : (31 : Nat) = 2 ^ 5 - 1 := rfl
  constructor
  · intro h
    rw [kI, List.any_eq_false]
    intro k hk hm
    simp only [midB, decide_eq_true_eq] at hm
    rw [x4, keysN, List.mem_filter] at hk
    have := congrArg (fun n => Nat.testBit n (k - 8)) h
    simp only [Nat.testBit_and, Nat.testBit_div_two_pow, Nat.zero_testBit] at this
    rw [show k - 8 + 8 = k by omega, hk.2, e31, Nat.testBit_two_pow_sub_one, decide_eq_true (by omega)] at this
    cases this
  · intro h
    apply Nat.eq_of_testBit_eq
    intro j
    rw [Nat.testBit_and, Nat.testBit_div_two_pow, Nat.zero_testBit, e31, Nat.testBit_two_pow_sub_one]
    by_cases hj : j < 5
    · cases hb : s.testBit (j + 8) with
      | false => rfl
      | true =>
        rw [kI, List.any_eq_false] at h
        exact absurd (show midB (j + 8) = true by rw [midB, decide_eq_true_eq]; omega) (h (j + 8) (by rw [x4, keysN, List.mem_filter, List.mem_range]; exact ⟨by omega, hb⟩))
    · simp [hj]
theorem formatStroke_pf (s : Nat) (hs : s < 8388608) (h1 : 1 ≤ s) : PF Tryz.prog 25 [.c (int s)] [] (.tup [.c (str (fmt s)), .c (boo true)]) := by
  have hsc := nEl_sc (x4 s)
  have hL := nEl_len (x4 s)
  have hkl := keysN_len s 23
  rw [← x4] at hkl
  have hlab : labL.length = 23 := rfl
  have hv := isStrokeT_pf s
  have hvt : inZ s 1 8388607 = true := by rw [inZ, decide_eq_true]; omega
  rw [hvt] at hv
  have hw : IntKind.u64.wrap 8 = 8 := rfl
  have hm := mid_bits s
  have hdl := Nat.div_le_self s (2 ^ 8)
  have hz : (decide (¬ ((s / 2 ^ 8 &&& 31 : Nat) : Int) = 0)) = kI s := by
    cases h : kI s with
    | false => rw [hm.2 h]; rfl
    | true =>
      rw [decide_eq_true]
      intro e
      have : s / 2 ^ 8 &&& 31 = 0 := by omega
      rw [hm.1 this] at h; cases h
  refine PF.enter (xJ _) Tryz.func25 rfl (by kernel_rfl) _ _ rfl rfl rfl (fun w0 mu I0 β0 gi dis => ?_)
  (repeat' (first|(apply xW;((exact Want.none_ rfl)))|(apply xF zI;exact rfl;exact rfl)|apply zR|apply AWp.Q|apply zH|apply AWp.G|apply AWp.B|apply AWp.J|(apply AWp.F;exact rfl;((exact rfl)))|(apply yA;(iterate 6 exact rfl);(iterate 2 (focus (repeat (first|exact VAs.nil|apply VAs.cons|apply VA.c|exact VCs.nil|exact VC.imm (Imm.v _)))));(first|exact hv|exact keysOf_pf s hs);(focus (repeat (first|exact Flat.v _|exact Flat.ref _ _ _)));(first|apply yJ|(apply yK;(focus (repeat (first|exact trivial|apply And.intro|((assumption)))))));(first|exact xB _ _|exact xA _ _ _ _))|((first|(apply kA;exact rfl;exact rfl;exact rfl)|(apply qZ;exact rfl;exact rfl;exact rfl;((assumption))))<;>(first|refine yG ?_|(refine Bd.mk ?_;first|(focus (simp;done))|(simp;omega))))))
  refine AWp.U (σ := Nat) (fun j => ⟨[(4, .c (str (fmK s j))), (16, .c (.ref 0 0 (x4 s).length)), (5, .c (boo (kI s || ((x4 s).take j).any qD))), (17, .c (int (x4 s).length)), (18, .c (int j))], [(0, some ⟨3, 1, nEl (x4 s)⟩)], 1⟩) (fun j => j ≤ (x4 s).length) (fun j => (x4 s).length - j) 0 (Nat.zero_le _) ?_ ?_
  · rw [← hz]
    refine Weak.of [(0, some 0)] rfl ?_ ?_ <;> (repeat' (first|exact trivial|exact rfl|apply And.intro|refine oWs rfl rfl rfl ?_ ?_|refine vwB ?_|(refine aIm ?_;(assumption))))
    all_goals first | exact wQ _ | (simp; done) | skip
  · intro j hj
    have hfl := fmK_len s j
    by_cases hlt : j < (x4 s).length
    · obtain ⟨k, hk⟩ := xT hlt
      have hk23 := keys_lt hk
      have hzz := nEl_at hk
      have hlt' : (j : Int) < ((x4 s).length : Int) := by omega
      have hkz : (k : Int) + 1 = ((k + 1 : Nat) : Int) := by omega
      have hll := labN_len hk23
      have hsu := fmK_succ hk
      have hr1 : ((x4 s).take (j + 1)).any qD = (((x4 s).take j).any qD || qD k) := wK hk
      rw [vH] at hll
      by_cases h13 : 13 ≤ k
      · have h13' : (13 : Int) ≤ (k : Int) := by omega
        have hrt : qD k = true := by rw [qD, decide_eq_true h13]
        rw [hrt, Bool.or_true] at hr1
        cases hM : kI s with
        | true =>
          rw [hM, if_neg (by simp)] at hsu
          rw [Bool.true_or]
          (repeat' (first|(apply xW;(first|exact Want.none_ rfl|(refine zX rfl rfl rfl rfl ?_;((exact dT ‹_›)))))|(apply xF zI;exact rfl;exact rfl)|((first|(apply z6;exact rfl;exact rfl)|apply zZ|apply yD|(apply z7;exact rfl;exact rfl;exact zI;exact rfl;exact rfl)|(apply yM;exact rfl;exact rfl))<;>(first|exact zI|exact Nat.zero_add _|exact rfl|refine yG ?_|assumption|omega|exact ⟨rfl,_,_,rfl,rfl⟩|(refine Bd.mk ?_;(simp;omega))))|(apply yR;exact rfl;exact rfl;((exact dT ‹_›));exact rfl;exact rfl)|apply zR|apply AWp.Q|apply zH|apply AWp.G|apply AWp.B|apply AWp.J|apply zJ|(apply AWp.T;exact rfl;((exact dT ‹_›)))|(apply AWp.F;exact rfl;((exact rfl)))))
          refine ⟨j + 1, by omega, by omega, ?_⟩
          rw [hsu]
          refine Weak.of [(0, some 0)] rfl ?_ ?_ <;> (repeat' (first|exact trivial|exact rfl|apply And.intro|refine oWs rfl rfl rfl ?_ ?_|refine vwS ?_|(refine aIm ?_;(assumption))))
          all_goals first | exact wQ _ | (simp [vH, hM]; done) | (simp [vH, hM]; rfl)
        | false =>
          rw [Bool.false_or]
          cases hR : ((x4 s).take j).any qD with
          | true =>
            rw [hR, hM, if_neg (by simp)] at hsu
            (repeat' (first|(apply xW;(first|exact Want.none_ rfl|(refine zX rfl rfl rfl rfl ?_;((exact dT ‹_›)))))|(apply xF zI;exact rfl;exact rfl)|((first|(apply z6;exact rfl;exact rfl)|apply zZ|apply yD|(apply z7;exact rfl;exact rfl;exact zI;exact rfl;exact rfl)|(apply yM;exact rfl;exact rfl))<;>(first|exact zI|exact Nat.zero_add _|exact rfl|refine yG ?_|assumption|omega|exact ⟨rfl,_,_,rfl,rfl⟩|(refine Bd.mk ?_;(simp;omega))))|(apply yR;exact rfl;exact rfl;((exact dT ‹_›));exact rfl;exact rfl)|apply zR|apply AWp.Q|apply zH|apply AWp.G|apply AWp.B|apply AWp.J|apply zJ|(apply AWp.T;exact rfl;((exact dT ‹_›)))|(apply AWp.F;exact rfl;((exact rfl)))))
            refine ⟨j + 1, by omega, by omega, ?_⟩
            rw [hsu, Bool.false_or, hr1]
            refine Weak.of [(0, some 0)] rfl ?_ ?_ <;> (repeat' (first|exact trivial|exact rfl|apply And.intro|refine oWs rfl rfl rfl ?_ ?_|refine vwS ?_|(refine aIm ?_;(assumption))))
            all_goals first | exact wQ _ | (simp [vH, hM]; done) | (simp [vH, hM]; rfl)
          | false =>
            rw [hR, hM, if_pos ⟨h13, rfl, rfl⟩] at hsu
            (repeat' (first|(apply xW;(first|exact Want.none_ rfl|(refine zX rfl rfl rfl rfl ?_;((exact dT ‹_›)))))|(apply xF zI;exact rfl;exact rfl)|((first|(apply z6;exact rfl;exact rfl)|apply zZ|apply yD|(apply z7;exact rfl;exact rfl;exact zI;exact rfl;exact rfl)|(apply yM;exact rfl;exact rfl))<;>(first|exact zI|exact Nat.zero_add _|exact rfl|refine yG ?_|assumption|omega|exact ⟨rfl,_,_,rfl,rfl⟩|(refine Bd.mk ?_;(simp;omega))))|(apply yR;exact rfl;exact rfl;((exact dT ‹_›));exact rfl;exact rfl)|apply zR|apply AWp.Q|apply zH|apply AWp.G|apply AWp.B|apply AWp.J|apply zJ|(apply AWp.T;exact rfl;(first|exact dT ‹_›|exact rfl))))
            refine ⟨j + 1, by omega, by omega, ?_⟩
            rw [hsu, Bool.false_or, hr1]
            refine Weak.of [(0, some 0)] rfl ?_ ?_ <;> (repeat' (first|exact trivial|exact rfl|apply And.intro|refine oWs rfl rfl rfl ?_ ?_|(refine aIm ?_;(assumption))))
            all_goals first | exact wQ _ | (simp [vH, hM]; done) | (simp [vH, hM]; rfl)
      · have h13' : ¬ (13 : Int) ≤ (k : Int) := by omega
        have hrt : qD k = false := by rw [qD, decide_eq_false h13]
        rw [hrt, Bool.or_false] at hr1
        rw [if_neg (fun h => h13 h.1)] at hsu
        cases hB : (kI s || ((x4 s).take j).any qD) with
        | true =>
          (repeat' (first|(apply xW;((exact Want.none_ rfl)))|(apply xF zI;exact rfl;exact rfl)|((first|(apply z6;exact rfl;exact rfl)|apply zZ|apply yD|(apply z7;exact rfl;exact rfl;exact zI;exact rfl;exact rfl)|(apply yM;exact rfl;exact rfl))<;>(first|exact zI|exact Nat.zero_add _|exact rfl|refine yG ?_|assumption|omega|exact ⟨rfl,_,_,rfl,rfl⟩|(refine Bd.mk ?_;(simp;omega))))|(apply yR;exact rfl;exact rfl;((exact dF ‹_›));exact rfl;exact rfl)|(apply yS;(iterate 5 exact rfl);((exact dF ‹_›)))|apply zR|apply AWp.Q|apply zH|apply AWp.G|apply AWp.B|apply AWp.J|apply zJ|(apply AWp.T;exact rfl;((exact dT ‹_›)))|(apply AWp.F;exact rfl;((exact rfl)))))
          refine ⟨j + 1, by omega, by omega, ?_⟩
          rw [hsu, hr1, hB]
          refine Weak.of [(0, some 0)] rfl ?_ ?_ <;> (repeat' (first|exact trivial|exact rfl|apply And.intro|refine oWs rfl rfl rfl ?_ ?_|refine vwS ?_|(refine aIm ?_;(assumption))))
          all_goals first | exact wQ _ | (simp [vH]; done) | (simp [vH]; rfl)
        | false =>
          (repeat' (first|(apply xW;((exact Want.none_ rfl)))|(apply xF zI;exact rfl;exact rfl)|((first|(apply z6;exact rfl;exact rfl)|apply zZ|apply yD|(apply z7;exact rfl;exact rfl;exact zI;exact rfl;exact rfl)|(apply yM;exact rfl;exact rfl))<;>(first|exact zI|exact Nat.zero_add _|exact rfl|refine yG ?_|assumption|omega|exact ⟨rfl,_,_,rfl,rfl⟩|(refine Bd.mk ?_;(simp;omega))))|(apply yR;exact rfl;exact rfl;((exact dF ‹_›));exact rfl;exact rfl)|(apply yS;(iterate 5 exact rfl);((exact dF ‹_›)))|apply zR|apply AWp.Q|apply zH|apply AWp.G|apply AWp.B|apply AWp.J|apply zJ|(apply AWp.T;exact rfl;((exact dT ‹_›)))|(apply AWp.F;exact rfl;((exact rfl)))))
          refine ⟨j + 1, by omega, by omega, ?_⟩
          rw [hsu, hr1, hB]
          refine Weak.of [(0, some 0)] rfl ?_ ?_ <;> (repeat' (first|exact trivial|exact rfl|apply And.intro|refine oWs rfl rfl rfl ?_ ?_|refine vwS ?_|(refine aIm ?_;(assumption))))
          all_goals first | exact wQ _ | (simp [vH]; done) | (simp [vH]; rfl)
    · have hlt' : ¬ (j : Int) < ((x4 s).length : Int) := by omega
      obtain rfl : j = (x4 s).length := by omega
      (repeat' (first|(apply xW;((exact Want.none_ rfl)))|(apply xF zI;exact rfl;exact rfl)|apply zR|apply AWp.Q|apply zH|apply AWp.G|apply AWp.X|apply AWp.R|apply zQ|apply zO|(apply AWp.F;exact rfl;((exact dF ‹_›)))))
      (((refine zV _ [] (.cons (zN rfl) (.cons (zN rfl) .nil)) ?_ rfl ?_)) <;> (repeat' (first|exact trivial|exact rfl|apply And.intro)))
end Go.Proofs.YtjeffognhcbiaaaGreatDoor
