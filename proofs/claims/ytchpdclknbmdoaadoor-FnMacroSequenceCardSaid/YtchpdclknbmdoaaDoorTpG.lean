/- A stroke's and an outline's notation by the program. No conditions but bounds. -/
import Derived.Test.YtchpdclknbmdoaaDoorTpF
import Derived.Test.YtchpdclknbmdoaaDoorSJoin
namespace Go.Proofs.YtchpdclknbmdoaaDoor
open Go Go.RowKit
theorem mid_bits (s : Nat) : (s / 2 ^ 8 &&& 31 = 0) ↔ qG s = false := by
  have e31 : (31 : Nat) = 2 ^ 5 - 1 := rfl
  constructor
  · intro h
    rw [qG, List.any_eq_false]
    intro k hk hm
    simp only [midB, decide_eq_true_eq] at hm
    rw [keys, keysN, List.mem_filter] at hk
    have := congrArg (fun n => Nat.testBit n (k - 8)) h
    simp only [Nat.testBit_and, Nat.testBit_div_two_pow, Nat.zero_testBit] at this
    rw [show k - 8 + 8 = k by omega, hk.2, e31, Nat.testBit_two_pow_sub_one, decide_eq_true (by omega)] at this
    cases this
  · intro h
    apply Nat.eq_of_testBit_eq
    intro j
    rw [Nat.testBit_and, Nat.testBit_div_two_pow, Nat.zero_testBit, e31, Nat.testBit_two_pow_sub_one]
    by_cases hj : j < 5
    · cases hb : s.testBit (j + 8) with
      | false => rfl
      | true =>
        rw [qG, List.any_eq_false] at h
        exact absurd (show midB (j + 8) = true by rw [midB, decide_eq_true_eq]; omega) (h (j + 8) (by rw [keys, keysN, List.mem_filter, List.mem_range]; exact ⟨by omega, hb⟩))
    · simp [hj]
theorem formatStroke_pf (s : Nat) (hs : s < 8388608) (h1 : 1 ≤ s) : PF Tryd.prog 96 [.c (int s)] [] (.tup [.c (str (fmt s)), .c (boo true)]) := by
  have hsc := nEl_sc (keys s)
  have hL := vF (keys s)
  have hkl := vI s 23
  rw [← keys] at hkl
  have hlab : qP.length = 23 := rfl
  have hv := isStrokeT_pf s
  have hvt : inZ s 1 8388607 = true := by rw [inZ, decide_eq_true]; omega
  rw [hvt] at hv
  have hw : IntKind.u64.wrap 8 = 8 := rfl
  have hm := mid_bits s
  have hdl := Nat.div_le_self s (2 ^ 8)
  have hz : (decide (¬ ((s / 2 ^ 8 &&& 31 : Nat) : Int) = 0)) = qG s := by
    cases h : qG s with
    | false => rw [hm.2 h]; rfl
    | true =>
      rw [decide_eq_true]
      intro e
      have : s / 2 ^ 8 &&& 31 = 0 := by omega
      rw [hm.1 this] at h; cases h
  refine PF.enter (xM _) Tryd.func96 rfl (by kernel_rfl) _ _ rfl rfl rfl (fun w0 mu I0 β0 gi dis => ?_)
  (repeat' (first|(apply xW;(first|exact Want.none_ rfl|(refine yA rfl rfl rfl rfl ?_;(first|assumption|exact dT ‹_›|exact dF ‹_›|exact rfl))))|(apply xF zH;exact rfl;exact rfl)|((first|(apply z6;exact rfl;exact rfl)|apply z7|(apply z8;exact rfl;exact rfl)|apply zU|(apply zV;exact rfl;exact rfl;exact zH;exact rfl;exact rfl)|apply zN|(apply y8;exact rfl;exact rfl)|(apply yZ;exact rfl;exact rfl)|apply yX|apply xN)<;>(first|exact zH|exact Nat.zero_add _|exact rfl|refine yN ?_|assumption|omega|exact ⟨rfl⟩|exact ⟨rfl,_,_,rfl,rfl⟩|exact lb rfl|(refine Bd.mk ?_;first|assumption|omega|(focus (simp;done))|(simp;omega)|decide)|(focus (apply oI;exact rfl;exact rfl;assumption))|(focus (refine ⟨rfl,_,_,rfl,?_⟩;omega))|(focus (simp;done))|(simp;omega)|(simp only [lA,lB,lC,lD,lE];omega)))|(apply yW;exact rfl;exact rfl;(first|assumption|exact dT ‹_›|exact dF ‹_›|exact rfl);exact rfl;exact rfl)|(apply yV;(iterate 5 exact rfl);(first|assumption|exact dT ‹_›|exact dF ‹_›|exact rfl))|(apply yL;(iterate 5 exact rfl))|apply zS|apply AWp.Q|apply zG|apply AWp.G|apply AWp.B|apply AWp.J|apply AWp.X|apply AWp.R|apply zO|apply zJ|apply zI|apply zL|apply zM|(refine zK rfl ?_)|(apply AWp.T;exact rfl;(first|assumption|exact dT ‹_›|exact dF ‹_›|exact rfl))|(apply AWp.F;exact rfl;(first|assumption|exact dT ‹_›|exact dF ‹_›|exact rfl))|(apply yH;(iterate 6 exact rfl);(iterate 2 (focus (repeat (first|exact VAs.nil|apply VAs.cons|apply VA.c|apply VA.agg|exact VCs.nil|(apply VCs.same;assumption)|apply VCs.cons|exact VC.imm (Imm.v _)|exact VC.imm (Imm.sl _)|exact VC.imm (Imm.ip _)|exact VC.imm ‹_›|exact VC.nil|(apply zB;exact rfl;exact rfl;(first|exact rfl|(focus (simp;done))|omega|(focus (simp only [lA,lB,lC,lD,lE];omega)));exact rfl;(first|assumption|(refine aIm ?_;assumption)))|(apply zC;exact rfl;exact rfl;(first|assumption|omega|(focus (simp only [lA,lB,lC,lD,lE];omega))|(focus (simp;done))|(focus (simp;omega)));exact rfl;(first|assumption|(refine aIm ?_;assumption)))|assumption))));(first|exact hv|exact keysOf_pf s hs);(focus (repeat (first|exact trivial|exact Flat.v _|exact Flat.dead|exact Flat.ref _ _ _|exact Flat.nil|apply And.intro)));(first|apply yS|(apply yR;(focus (repeat (first|exact trivial|apply And.intro|(first|exact AllSc.nil|assumption))))));(first|exact xG _ _|exact xJ _ _ _|exact xK _ _ _ _|exact y3 _ _ _ _ _|exact xH _|exact y5 _ _|exact y4 _ _ _ _|exact yU _ _ _ _ _|exact yT _ _|exact xI _ _ _ _|exact rfl))|((first|(apply vP;exact rfl;exact rfl;exact rfl)|(apply vZ;exact rfl;exact rfl;exact rfl)|(apply vO;exact rfl;exact rfl;exact rfl)|(apply wS;exact rfl;exact rfl;exact rfl)|(apply vN;exact rfl;exact rfl;exact rfl;(first|assumption|exact rfl))|(apply vR;exact rfl;exact rfl;exact rfl;(first|assumption|exact rfl)))<;>(first|exact zH|exact Nat.zero_add _|exact rfl|refine yN ?_|assumption|omega|exact ⟨rfl⟩|exact ⟨rfl,_,_,rfl,rfl⟩|exact lb rfl|(refine Bd.mk ?_;first|assumption|omega|(focus (simp;done))|(simp;omega)|decide)|(focus (apply oI;exact rfl;exact rfl;assumption))|(focus (refine ⟨rfl,_,_,rfl,?_⟩;omega))|(focus (simp;done))|(simp;omega)|(simp only [lA,lB,lC,lD,lE];omega)))|((first|refine zT rfl rfl rfl ?_ ?_|refine zX rfl rfl rfl ?_ ?_)<;>intro hp<;>(try (exfalso;omega)))|((first|refine AWp.C rfl ?_ ?_|refine AWp.O _ rfl ?_ ?_)<;>intro hp<;>(try (exfalso;omega)))))
  refine AWp.U (σ := Nat) (fun j => ⟨[(4, .c (str (fmK s j))), (16, .c (.ref 0 0 (keys s).length)), (5, .c (boo (qG s || ((keys s).take j).any wN))), (17, .c (int (keys s).length)), (18, .c (int j))], [(0, some ⟨3, 1, nEl (keys s)⟩)], 1⟩) (fun j => j ≤ (keys s).length) (fun j => (keys s).length - j) 0 (Nat.zero_le _) ?_ ?_
  · rw [← hz]
    refine Weak.of [(0, some 0)] rfl ?_ ?_ <;> (repeat' (first|exact trivial|exact rfl|exact Or.inr ⟨rfl,‹_›⟩|exact Or.inl ⟨rfl,trivial⟩|apply And.intro|exact congrArg (Value.int .i64) (by first|omega|(simp;done)|(simp;omega))|(refine yD ?_;first|(focus (simp;done))|omega|(simp only [lA,lB,lC,lD,lE];omega))|(refine ⟨_,rfl,rfl,rfl,OW.one ?_⟩)|(refine ⟨_,rfl,rfl,rfl,OW.same ?_ ?_⟩)|refine vwB ?_|refine vwS ?_|refine vwI ?_|refine fwB ?_|refine fwS ?_|refine fwI ?_|(refine aIm ?_;first|exact AllSc.nil|assumption)))
    all_goals first | exact x6 _ | (simp; done) | skip
  · intro j hj
    have hfl := fmK_len s j
    by_cases hlt : j < (keys s).length
    · obtain ⟨k, hk⟩ := xR hlt
      have hk23 := keys_lt hk
      have hzz := nEl_at hk
      have hlt' : (j : Int) < ((keys s).length : Int) := by omega
      have hkz : (k : Int) + 1 = ((k + 1 : Nat) : Int) := by omega
      have hll := labN_len hk23
      have hsu := fmK_succ hk
      have hr1 : ((keys s).take (j + 1)).any wN = (((keys s).take j).any wN || wN k) := wH hk
      rw [vA] at hll
      by_cases h13 : 13 ≤ k
      · have h13' : (13 : Int) ≤ (k : Int) := by omega
        have hrt : wN k = true := by rw [wN, decide_eq_true h13]
        rw [hrt, Bool.or_true] at hr1
        cases hM : qG s with
        | true =>
          rw [hM, if_neg (by simp)] at hsu
          rw [Bool.true_or]
          (repeat' (first|(apply xW;(first|exact Want.none_ rfl|(refine yA rfl rfl rfl rfl ?_;(first|assumption|exact dT ‹_›|exact dF ‹_›|exact rfl))))|(apply xF zH;exact rfl;exact rfl)|((first|(apply z6;exact rfl;exact rfl)|apply z7|(apply z8;exact rfl;exact rfl)|apply zU|(apply zV;exact rfl;exact rfl;exact zH;exact rfl;exact rfl)|apply zN|(apply y8;exact rfl;exact rfl)|(apply yZ;exact rfl;exact rfl)|apply yX|apply xN)<;>(first|exact zH|exact Nat.zero_add _|exact rfl|refine yN ?_|assumption|omega|exact ⟨rfl⟩|exact ⟨rfl,_,_,rfl,rfl⟩|exact lb rfl|(refine Bd.mk ?_;first|assumption|omega|(focus (simp;done))|(simp;omega)|decide)|(focus (apply oI;exact rfl;exact rfl;assumption))|(focus (refine ⟨rfl,_,_,rfl,?_⟩;omega))|(focus (simp;done))|(simp;omega)|(simp only [lA,lB,lC,lD,lE];omega)))|(apply yW;exact rfl;exact rfl;(first|assumption|exact dT ‹_›|exact dF ‹_›|exact rfl);exact rfl;exact rfl)|(apply yV;(iterate 5 exact rfl);(first|assumption|exact dT ‹_›|exact dF ‹_›|exact rfl))|(apply yL;(iterate 5 exact rfl))|apply zS|apply AWp.Q|apply zG|apply AWp.G|apply AWp.B|apply AWp.J|apply AWp.X|apply AWp.R|apply zO|apply zJ|apply zI|apply zL|apply zM|(refine zK rfl ?_)|(apply AWp.T;exact rfl;(first|assumption|exact dT ‹_›|exact dF ‹_›|exact rfl))|(apply AWp.F;exact rfl;(first|assumption|exact dT ‹_›|exact dF ‹_›|exact rfl))|((first|refine zT rfl rfl rfl ?_ ?_|refine zX rfl rfl rfl ?_ ?_)<;>intro hp<;>(try (exfalso;omega)))|((first|refine AWp.C rfl ?_ ?_|refine AWp.O _ rfl ?_ ?_)<;>intro hp<;>(try (exfalso;omega)))))
          refine ⟨j + 1, by omega, by omega, ?_⟩
          rw [hsu]
          refine Weak.of [(0, some 0)] rfl ?_ ?_ <;> (repeat' (first|exact trivial|exact rfl|exact Or.inr ⟨rfl,‹_›⟩|exact Or.inl ⟨rfl,trivial⟩|apply And.intro|exact congrArg (Value.int .i64) (by first|omega|(simp;done)|(simp;omega))|(refine yD ?_;first|(focus (simp;done))|omega|(simp only [lA,lB,lC,lD,lE];omega))|(refine ⟨_,rfl,rfl,rfl,OW.one ?_⟩)|(refine ⟨_,rfl,rfl,rfl,OW.same ?_ ?_⟩)|refine vwB ?_|refine vwS ?_|refine vwI ?_|refine fwB ?_|refine fwS ?_|refine fwI ?_|(refine aIm ?_;first|exact AllSc.nil|assumption)))
          all_goals first | exact x6 _ | (simp [vA, hM]; done) | (simp [vA, hM]; rfl)
        | false =>
          rw [Bool.false_or]
          cases hR : ((keys s).take j).any wN with
          | true =>
            rw [hR, hM, if_neg (by simp)] at hsu
            (repeat' (first|(apply xW;(first|exact Want.none_ rfl|(refine yA rfl rfl rfl rfl ?_;(first|assumption|exact dT ‹_›|exact dF ‹_›|exact rfl))))|(apply xF zH;exact rfl;exact rfl)|((first|(apply z6;exact rfl;exact rfl)|apply z7|(apply z8;exact rfl;exact rfl)|apply zU|(apply zV;exact rfl;exact rfl;exact zH;exact rfl;exact rfl)|apply zN|(apply y8;exact rfl;exact rfl)|(apply yZ;exact rfl;exact rfl)|apply yX|apply xN)<;>(first|exact zH|exact Nat.zero_add _|exact rfl|refine yN ?_|assumption|omega|exact ⟨rfl⟩|exact ⟨rfl,_,_,rfl,rfl⟩|exact lb rfl|(refine Bd.mk ?_;first|assumption|omega|(focus (simp;done))|(simp;omega)|decide)|(focus (apply oI;exact rfl;exact rfl;assumption))|(focus (refine ⟨rfl,_,_,rfl,?_⟩;omega))|(focus (simp;done))|(simp;omega)|(simp only [lA,lB,lC,lD,lE];omega)))|(apply yW;exact rfl;exact rfl;(first|assumption|exact dT ‹_›|exact dF ‹_›|exact rfl);exact rfl;exact rfl)|(apply yV;(iterate 5 exact rfl);(first|assumption|exact dT ‹_›|exact dF ‹_›|exact rfl))|(apply yL;(iterate 5 exact rfl))|apply zS|apply AWp.Q|apply zG|apply AWp.G|apply AWp.B|apply AWp.J|apply AWp.X|apply AWp.R|apply zO|apply zJ|apply zI|apply zL|apply zM|(refine zK rfl ?_)|(apply AWp.T;exact rfl;(first|assumption|exact dT ‹_›|exact dF ‹_›|exact rfl))|(apply AWp.F;exact rfl;(first|assumption|exact dT ‹_›|exact dF ‹_›|exact rfl))|((first|refine zT rfl rfl rfl ?_ ?_|refine zX rfl rfl rfl ?_ ?_)<;>intro hp<;>(try (exfalso;omega)))|((first|refine AWp.C rfl ?_ ?_|refine AWp.O _ rfl ?_ ?_)<;>intro hp<;>(try (exfalso;omega)))))
            refine ⟨j + 1, by omega, by omega, ?_⟩
            rw [hsu, Bool.false_or, hr1]
            refine Weak.of [(0, some 0)] rfl ?_ ?_ <;> (repeat' (first|exact trivial|exact rfl|exact Or.inr ⟨rfl,‹_›⟩|exact Or.inl ⟨rfl,trivial⟩|apply And.intro|exact congrArg (Value.int .i64) (by first|omega|(simp;done)|(simp;omega))|(refine yD ?_;first|(focus (simp;done))|omega|(simp only [lA,lB,lC,lD,lE];omega))|(refine ⟨_,rfl,rfl,rfl,OW.one ?_⟩)|(refine ⟨_,rfl,rfl,rfl,OW.same ?_ ?_⟩)|refine vwB ?_|refine vwS ?_|refine vwI ?_|refine fwB ?_|refine fwS ?_|refine fwI ?_|(refine aIm ?_;first|exact AllSc.nil|assumption)))
            all_goals first | exact x6 _ | (simp [vA, hM]; done) | (simp [vA, hM]; rfl)
          | false =>
            rw [hR, hM, if_pos ⟨h13, rfl, rfl⟩] at hsu
            (repeat' (first|(apply xW;(first|exact Want.none_ rfl|(refine yA rfl rfl rfl rfl ?_;(first|assumption|exact dT ‹_›|exact dF ‹_›|exact rfl))))|(apply xF zH;exact rfl;exact rfl)|((first|(apply z6;exact rfl;exact rfl)|apply z7|(apply z8;exact rfl;exact rfl)|apply zU|(apply zV;exact rfl;exact rfl;exact zH;exact rfl;exact rfl)|apply zN|(apply y8;exact rfl;exact rfl)|(apply yZ;exact rfl;exact rfl)|apply yX|apply xN)<;>(first|exact zH|exact Nat.zero_add _|exact rfl|refine yN ?_|assumption|omega|exact ⟨rfl⟩|exact ⟨rfl,_,_,rfl,rfl⟩|exact lb rfl|(refine Bd.mk ?_;first|assumption|omega|(focus (simp;done))|(simp;omega)|decide)|(focus (apply oI;exact rfl;exact rfl;assumption))|(focus (refine ⟨rfl,_,_,rfl,?_⟩;omega))|(focus (simp;done))|(simp;omega)|(simp only [lA,lB,lC,lD,lE];omega)))|(apply yW;exact rfl;exact rfl;(first|assumption|exact dT ‹_›|exact dF ‹_›|exact rfl);exact rfl;exact rfl)|(apply yV;(iterate 5 exact rfl);(first|assumption|exact dT ‹_›|exact dF ‹_›|exact rfl))|(apply yL;(iterate 5 exact rfl))|apply zS|apply AWp.Q|apply zG|apply AWp.G|apply AWp.B|apply AWp.J|apply AWp.X|apply AWp.R|apply zO|apply zJ|apply zI|apply zL|apply zM|(refine zK rfl ?_)|(apply AWp.T;exact rfl;(first|assumption|exact dT ‹_›|exact dF ‹_›|exact rfl))|(apply AWp.F;exact rfl;(first|assumption|exact dT ‹_›|exact dF ‹_›|exact rfl))|((first|refine zT rfl rfl rfl ?_ ?_|refine zX rfl rfl rfl ?_ ?_)<;>intro hp<;>(try (exfalso;omega)))|((first|refine AWp.C rfl ?_ ?_|refine AWp.O _ rfl ?_ ?_)<;>intro hp<;>(try (exfalso;omega)))))
            refine ⟨j + 1, by omega, by omega, ?_⟩
            rw [hsu, Bool.false_or, hr1]
            refine Weak.of [(0, some 0)] rfl ?_ ?_ <;> (repeat' (first|exact trivial|exact rfl|exact Or.inr ⟨rfl,‹_›⟩|exact Or.inl ⟨rfl,trivial⟩|apply And.intro|exact congrArg (Value.int .i64) (by first|omega|(simp;done)|(simp;omega))|(refine yD ?_;first|(focus (simp;done))|omega|(simp only [lA,lB,lC,lD,lE];omega))|(refine ⟨_,rfl,rfl,rfl,OW.one ?_⟩)|(refine ⟨_,rfl,rfl,rfl,OW.same ?_ ?_⟩)|refine vwB ?_|refine vwS ?_|refine vwI ?_|refine fwB ?_|refine fwS ?_|refine fwI ?_|(refine aIm ?_;first|exact AllSc.nil|assumption)))
            all_goals first | exact x6 _ | (simp [vA, hM]; done) | (simp [vA, hM]; rfl)
      · have h13' : ¬ (13 : Int) ≤ (k : Int) := by omega
        have hrt : wN k = false := by rw [wN, decide_eq_false h13]
        rw [hrt, Bool.or_false] at hr1
        rw [if_neg (fun h => h13 h.1)] at hsu
        cases hB : (qG s || ((keys s).take j).any wN) with
        | true =>
          (repeat' (first|(apply xW;(first|exact Want.none_ rfl|(refine yA rfl rfl rfl rfl ?_;(first|assumption|exact dT ‹_›|exact dF ‹_›|exact rfl))))|(apply xF zH;exact rfl;exact rfl)|((first|(apply z6;exact rfl;exact rfl)|apply z7|(apply z8;exact rfl;exact rfl)|apply zU|(apply zV;exact rfl;exact rfl;exact zH;exact rfl;exact rfl)|apply zN|(apply y8;exact rfl;exact rfl)|(apply yZ;exact rfl;exact rfl)|apply yX|apply xN)<;>(first|exact zH|exact Nat.zero_add _|exact rfl|refine yN ?_|assumption|omega|exact ⟨rfl⟩|exact ⟨rfl,_,_,rfl,rfl⟩|exact lb rfl|(refine Bd.mk ?_;first|assumption|omega|(focus (simp;done))|(simp;omega)|decide)|(focus (apply oI;exact rfl;exact rfl;assumption))|(focus (refine ⟨rfl,_,_,rfl,?_⟩;omega))|(focus (simp;done))|(simp;omega)|(simp only [lA,lB,lC,lD,lE];omega)))|(apply yW;exact rfl;exact rfl;(first|assumption|exact dT ‹_›|exact dF ‹_›|exact rfl);exact rfl;exact rfl)|(apply yV;(iterate 5 exact rfl);(first|assumption|exact dT ‹_›|exact dF ‹_›|exact rfl))|(apply yL;(iterate 5 exact rfl))|apply zS|apply AWp.Q|apply zG|apply AWp.G|apply AWp.B|apply AWp.J|apply AWp.X|apply AWp.R|apply zO|apply zJ|apply zI|apply zL|apply zM|(refine zK rfl ?_)|(apply AWp.T;exact rfl;(first|assumption|exact dT ‹_›|exact dF ‹_›|exact rfl))|(apply AWp.F;exact rfl;(first|assumption|exact dT ‹_›|exact dF ‹_›|exact rfl))|((first|refine zT rfl rfl rfl ?_ ?_|refine zX rfl rfl rfl ?_ ?_)<;>intro hp<;>(try (exfalso;omega)))|((first|refine AWp.C rfl ?_ ?_|refine AWp.O _ rfl ?_ ?_)<;>intro hp<;>(try (exfalso;omega)))))
          refine ⟨j + 1, by omega, by omega, ?_⟩
          rw [hsu, hr1, hB]
          refine Weak.of [(0, some 0)] rfl ?_ ?_ <;> (repeat' (first|exact trivial|exact rfl|exact Or.inr ⟨rfl,‹_›⟩|exact Or.inl ⟨rfl,trivial⟩|apply And.intro|exact congrArg (Value.int .i64) (by first|omega|(simp;done)|(simp;omega))|(refine yD ?_;first|(focus (simp;done))|omega|(simp only [lA,lB,lC,lD,lE];omega))|(refine ⟨_,rfl,rfl,rfl,OW.one ?_⟩)|(refine ⟨_,rfl,rfl,rfl,OW.same ?_ ?_⟩)|refine vwB ?_|refine vwS ?_|refine vwI ?_|refine fwB ?_|refine fwS ?_|refine fwI ?_|(refine aIm ?_;first|exact AllSc.nil|assumption)))
          all_goals first | exact x6 _ | (simp [vA]; done) | (simp [vA]; rfl)
        | false =>
          (repeat' (first|(apply xW;(first|exact Want.none_ rfl|(refine yA rfl rfl rfl rfl ?_;(first|assumption|exact dT ‹_›|exact dF ‹_›|exact rfl))))|(apply xF zH;exact rfl;exact rfl)|((first|(apply z6;exact rfl;exact rfl)|apply z7|(apply z8;exact rfl;exact rfl)|apply zU|(apply zV;exact rfl;exact rfl;exact zH;exact rfl;exact rfl)|apply zN|(apply y8;exact rfl;exact rfl)|(apply yZ;exact rfl;exact rfl)|apply yX|apply xN)<;>(first|exact zH|exact Nat.zero_add _|exact rfl|refine yN ?_|assumption|omega|exact ⟨rfl⟩|exact ⟨rfl,_,_,rfl,rfl⟩|exact lb rfl|(refine Bd.mk ?_;first|assumption|omega|(focus (simp;done))|(simp;omega)|decide)|(focus (apply oI;exact rfl;exact rfl;assumption))|(focus (refine ⟨rfl,_,_,rfl,?_⟩;omega))|(focus (simp;done))|(simp;omega)|(simp only [lA,lB,lC,lD,lE];omega)))|(apply yW;exact rfl;exact rfl;(first|assumption|exact dT ‹_›|exact dF ‹_›|exact rfl);exact rfl;exact rfl)|(apply yV;(iterate 5 exact rfl);(first|assumption|exact dT ‹_›|exact dF ‹_›|exact rfl))|(apply yL;(iterate 5 exact rfl))|apply zS|apply AWp.Q|apply zG|apply AWp.G|apply AWp.B|apply AWp.J|apply AWp.X|apply AWp.R|apply zO|apply zJ|apply zI|apply zL|apply zM|(refine zK rfl ?_)|(apply AWp.T;exact rfl;(first|assumption|exact dT ‹_›|exact dF ‹_›|exact rfl))|(apply AWp.F;exact rfl;(first|assumption|exact dT ‹_›|exact dF ‹_›|exact rfl))|((first|refine zT rfl rfl rfl ?_ ?_|refine zX rfl rfl rfl ?_ ?_)<;>intro hp<;>(try (exfalso;omega)))|((first|refine AWp.C rfl ?_ ?_|refine AWp.O _ rfl ?_ ?_)<;>intro hp<;>(try (exfalso;omega)))))
          refine ⟨j + 1, by omega, by omega, ?_⟩
          rw [hsu, hr1, hB]
          refine Weak.of [(0, some 0)] rfl ?_ ?_ <;> (repeat' (first|exact trivial|exact rfl|exact Or.inr ⟨rfl,‹_›⟩|exact Or.inl ⟨rfl,trivial⟩|apply And.intro|exact congrArg (Value.int .i64) (by first|omega|(simp;done)|(simp;omega))|(refine yD ?_;first|(focus (simp;done))|omega|(simp only [lA,lB,lC,lD,lE];omega))|(refine ⟨_,rfl,rfl,rfl,OW.one ?_⟩)|(refine ⟨_,rfl,rfl,rfl,OW.same ?_ ?_⟩)|refine vwB ?_|refine vwS ?_|refine vwI ?_|refine fwB ?_|refine fwS ?_|refine fwI ?_|(refine aIm ?_;first|exact AllSc.nil|assumption)))
          all_goals first | exact x6 _ | (simp [vA]; done) | (simp [vA]; rfl)
    · have hlt' : ¬ (j : Int) < ((keys s).length : Int) := by omega
      obtain rfl : j = (keys s).length := by omega
      (repeat' (first|(apply xW;(first|exact Want.none_ rfl|(refine yA rfl rfl rfl rfl ?_;(first|assumption|exact dT ‹_›|exact dF ‹_›|exact rfl))))|(apply xF zH;exact rfl;exact rfl)|((first|(apply z6;exact rfl;exact rfl)|apply z7|(apply z8;exact rfl;exact rfl)|apply zU|(apply zV;exact rfl;exact rfl;exact zH;exact rfl;exact rfl)|apply zN|(apply y8;exact rfl;exact rfl)|(apply yZ;exact rfl;exact rfl)|apply yX|apply xN)<;>(first|exact zH|exact Nat.zero_add _|exact rfl|refine yN ?_|assumption|omega|exact ⟨rfl⟩|exact ⟨rfl,_,_,rfl,rfl⟩|exact lb rfl|(refine Bd.mk ?_;first|assumption|omega|(focus (simp;done))|(simp;omega)|decide)|(focus (apply oI;exact rfl;exact rfl;assumption))|(focus (refine ⟨rfl,_,_,rfl,?_⟩;omega))|(focus (simp;done))|(simp;omega)|(simp only [lA,lB,lC,lD,lE];omega)))|(apply yW;exact rfl;exact rfl;(first|assumption|exact dT ‹_›|exact dF ‹_›|exact rfl);exact rfl;exact rfl)|(apply yV;(iterate 5 exact rfl);(first|assumption|exact dT ‹_›|exact dF ‹_›|exact rfl))|(apply yL;(iterate 5 exact rfl))|apply zS|apply AWp.Q|apply zG|apply AWp.G|apply AWp.B|apply AWp.J|apply AWp.X|apply AWp.R|apply zO|apply zJ|apply zI|apply zL|apply zM|(refine zK rfl ?_)|(apply AWp.T;exact rfl;(first|assumption|exact dT ‹_›|exact dF ‹_›|exact rfl))|(apply AWp.F;exact rfl;(first|assumption|exact dT ‹_›|exact dF ‹_›|exact rfl))|((first|refine zT rfl rfl rfl ?_ ?_|refine zX rfl rfl rfl ?_ ?_)<;>intro hp<;>(try (exfalso;omega)))|((first|refine AWp.C rfl ?_ ?_|refine AWp.O _ rfl ?_ ?_)<;>intro hp<;>(try (exfalso;omega)))))
      ((first|refine yE _ [] (.cons (zR rfl) (.cons (zR rfl) .nil)) ?_ rfl ?_|refine yF _ [] (.cons (zR rfl) (.cons (zR rfl) .nil)) ?_ rfl ?_) <;> (repeat' (first|exact trivial|exact rfl|exact Or.inr ⟨rfl,‹_›⟩|exact Or.inl ⟨rfl,trivial⟩|apply And.intro|exact congrArg (Value.int .i64) (by first|omega|(simp;done)|(simp;omega))|(refine yD ?_;first|(focus (simp;done))|omega|(simp only [lA,lB,lC,lD,lE];omega))|(refine ⟨_,rfl,rfl,rfl,OW.one ?_⟩)|(refine ⟨_,rfl,rfl,rfl,OW.same ?_ ?_⟩)|refine vwB ?_|refine vwS ?_|refine vwI ?_|refine fwB ?_|refine fwS ?_|refine fwI ?_|(refine aIm ?_;first|exact AllSc.nil|assumption))))
theorem formatBad_pf (s : Int) (h : inZ s 1 8388607 = false) : PF Tryd.prog 96 [.c (int s)] [] (.tup [.c (str []), .c (boo false)]) := by
  have hv := isStrokeT_pf s
  rw [h] at hv
  refine PF.enter (xM _) Tryd.func96 rfl (by kernel_rfl) _ _ rfl rfl rfl (fun w0 mu I0 β0 gi dis => ?_)
  (repeat' (first|(apply xW;(first|exact Want.none_ rfl|(refine yA rfl rfl rfl rfl ?_;(first|assumption|exact dT ‹_›|exact dF ‹_›|exact rfl))))|(apply xF zH;exact rfl;exact rfl)|((first|(apply z6;exact rfl;exact rfl)|apply z7|(apply z8;exact rfl;exact rfl)|apply zU|(apply zV;exact rfl;exact rfl;exact zH;exact rfl;exact rfl)|apply zN|(apply y8;exact rfl;exact rfl)|(apply yZ;exact rfl;exact rfl)|apply yX|apply xN)<;>(first|exact zH|exact Nat.zero_add _|exact rfl|refine yN ?_|assumption|omega|exact ⟨rfl⟩|exact ⟨rfl,_,_,rfl,rfl⟩|exact lb rfl|(refine Bd.mk ?_;first|assumption|omega|(focus (simp;done))|(simp;omega)|decide)|(focus (apply oI;exact rfl;exact rfl;assumption))|(focus (refine ⟨rfl,_,_,rfl,?_⟩;omega))|(focus (simp;done))|(simp;omega)|(simp only [lA,lB,lC,lD,lE];omega)))|(apply yW;exact rfl;exact rfl;(first|assumption|exact dT ‹_›|exact dF ‹_›|exact rfl);exact rfl;exact rfl)|(apply yV;(iterate 5 exact rfl);(first|assumption|exact dT ‹_›|exact dF ‹_›|exact rfl))|(apply yL;(iterate 5 exact rfl))|apply zS|apply AWp.Q|apply zG|apply AWp.G|apply AWp.B|apply AWp.J|apply AWp.X|apply AWp.R|apply zO|apply zJ|apply zI|apply zL|apply zM|(refine zK rfl ?_)|(apply AWp.T;exact rfl;(first|assumption|exact dT ‹_›|exact dF ‹_›|exact rfl))|(apply AWp.F;exact rfl;(first|assumption|exact dT ‹_›|exact dF ‹_›|exact rfl))|(apply yH;(iterate 6 exact rfl);(iterate 2 (focus (repeat (first|exact VAs.nil|apply VAs.cons|apply VA.c|apply VA.agg|exact VCs.nil|(apply VCs.same;assumption)|apply VCs.cons|exact VC.imm (Imm.v _)|exact VC.imm (Imm.sl _)|exact VC.imm (Imm.ip _)|exact VC.imm ‹_›|exact VC.nil|(apply zB;exact rfl;exact rfl;(first|exact rfl|(focus (simp;done))|omega|(focus (simp only [lA,lB,lC,lD,lE];omega)));exact rfl;(first|assumption|(refine aIm ?_;assumption)))|(apply zC;exact rfl;exact rfl;(first|assumption|omega|(focus (simp only [lA,lB,lC,lD,lE];omega))|(focus (simp;done))|(focus (simp;omega)));exact rfl;(first|assumption|(refine aIm ?_;assumption)))|assumption))));(first|exact hv);(focus (repeat (first|exact trivial|exact Flat.v _|exact Flat.dead|exact Flat.ref _ _ _|exact Flat.nil|apply And.intro)));(first|apply yS|(apply yR;(focus (repeat (first|exact trivial|apply And.intro|(first|exact AllSc.nil|assumption))))));(first|exact xG _ _|exact xJ _ _ _|exact xK _ _ _ _|exact y3 _ _ _ _ _|exact xH _|exact y5 _ _|exact y4 _ _ _ _|exact yU _ _ _ _ _|exact yT _ _|exact xI _ _ _ _|exact rfl))|((first|refine zT rfl rfl rfl ?_ ?_|refine zX rfl rfl rfl ?_ ?_)<;>intro hp<;>(try (exfalso;omega)))|((first|refine AWp.C rfl ?_ ?_|refine AWp.O _ rfl ?_ ?_)<;>intro hp<;>(try (exfalso;omega)))))
  ((first|refine yE _ [] (.cons (zR rfl) (.cons (zR rfl) .nil)) ?_ rfl ?_|refine yF _ [] (.cons (zR rfl) (.cons (zR rfl) .nil)) ?_ rfl ?_) <;> (repeat' (first|exact trivial|exact rfl|exact Or.inr ⟨rfl,‹_›⟩|exact Or.inl ⟨rfl,trivial⟩|apply And.intro|exact congrArg (Value.int .i64) (by first|omega|(simp;done)|(simp;omega))|(refine yD ?_;first|(focus (simp;done))|omega|(simp only [lA,lB,lC,lD,lE];omega))|(refine ⟨_,rfl,rfl,rfl,OW.one ?_⟩)|(refine ⟨_,rfl,rfl,rfl,OW.same ?_ ?_⟩)|refine vwB ?_|refine vwS ?_|refine vwI ?_|refine fwB ?_|refine fwS ?_|refine fwI ?_|(refine aIm ?_;first|exact AllSc.nil|assumption))))
theorem joinTail_le {m : Nat} (c : UInt8) : ∀ {r : List (List UInt8)}, (∀ l ∈ r, l.length ≤ m) → (Lib.joinTail [c] r).length ≤ (m + 1) * r.length
  | [], _ => by simp [Lib.joinTail]
  | x :: r, h => by
    have ih := joinTail_le c (r := r) fun l hl => h l (List.mem_cons_of_mem _ hl)
    have hx := h x (List.mem_cons_self ..)
    simp only [Lib.joinTail, List.map_cons, List.flatten_cons, List.length_append, List.length_cons, List.length_nil] at ih ⊢
    rw [Nat.mul_succ]
    omega
theorem join_le {m : Nat} (c : UInt8) {r : List (List UInt8)} (h : ∀ l ∈ r, l.length ≤ m) : (Lib.join r [c]).length ≤ (m + 1) * r.length := by
  cases r with
  | nil => simp [Lib.join]
  | cons x r =>
    have ih := joinTail_le c (r := r) fun l hl => h l (List.mem_cons_of_mem _ hl)
    have hx := h x (List.mem_cons_self ..)
    rw [Lib.join_cons, List.length_append, List.length_cons, Nat.mul_succ]
    omega
theorem join_snoc (sep : UInt8) (xs : List (List UInt8)) (y : List UInt8) (h : xs ≠ []) : Lib.join (xs ++ [y]) [sep] = Lib.join xs [sep] ++ [sep] ++ y := by
  cases xs with
  | nil => exact absurd rfl h
  | cons x r =>
    rw [List.cons_append, Lib.join_cons, Lib.join_cons]
    simp [Lib.joinTail, List.append_assoc]
def outl (r : List Nat) : List UInt8 := Lib.join (r.map fmt) [47]
theorem outl_le (r : List Nat) : (outl r).length ≤ 47 * r.length := by
  have h := join_le (m := 46) 47 (r := r.map fmt) (fun l hl => by
    obtain ⟨s, _, rfl⟩ := List.mem_map.1 hl
    exact qH s)
  rw [List.length_map] at h
  exact h
def strk (r : List Nat) : Prop := ∀ s ∈ r, 1 ≤ s ∧ s < 8388608
theorem strs_imm (l : List (List UInt8)) : ∀ x ∈ l.map x4, ∀ c ∈ x, Imm c := by
  intro x hx c hc
  obtain ⟨p, _, rfl⟩ := List.mem_map.1 hx
  simp only [x4, List.mem_singleton] at hc
  subst hc
  exact Imm.v _
theorem notation_pf (r : List Nat) (hr : strk r) (hl : r.length ≤ 4000000) : PF Tryd.prog 63 [.c (.sl (nEl r))] [] (.c (str (outl r))) := by
  have hL := vF r
  have hj := outl_le r
  have hj2 := sJoin_pf (r.map fmt) [47] (by simp; omega) (by rw [← outl]; omega)
  rw [← outl] at hj2
  refine PF.enter (xM _) Tryd.func63 rfl (by kernel_rfl) _ _ rfl rfl rfl (fun w0 mu I0 β0 gi dis => ?_)
  (repeat' (first|(apply xW;(first|exact Want.none_ rfl|(refine yA rfl rfl rfl rfl ?_;(first|assumption|exact dT ‹_›|exact dF ‹_›|exact rfl))))|(apply xF zH;exact rfl;exact rfl)|((first|(apply z6;exact rfl;exact rfl)|apply z7|(apply z8;exact rfl;exact rfl)|apply zU|(apply zV;exact rfl;exact rfl;exact zH;exact rfl;exact rfl)|apply zN|apply zQ|(apply yB;exact rfl;exact rfl)|apply yC)<;>(first|exact zH|exact Nat.zero_add _|exact rfl|refine yN ?_|assumption|omega|exact ⟨rfl⟩|exact ⟨rfl,_,_,rfl,rfl⟩|exact lb rfl|(refine Bd.mk ?_;first|assumption|omega|(focus (simp;done))|(simp;omega)|decide)|exact yO rfl|exact xE ‹_›|(focus (simp;done))|(simp;omega)|(simp only [lA,lB,lC,lD,lE];omega)|exact yK rfl (by first|rfl|(simp;done)|(simp only [lA,lB,lC,lD,lE];omega))|exact yJ rfl (by first|assumption|omega|(simp only [lA,lB,lC,lD,lE];omega))))|apply zS|apply AWp.Q|apply zG|apply AWp.G|apply AWp.B|apply AWp.J|apply AWp.X|apply AWp.R|apply zO|apply zJ|apply zI|apply zL|apply zM|(refine zK rfl ?_)|(apply AWp.T;exact rfl;(first|assumption|exact dT ‹_›|exact dF ‹_›|exact rfl))|(apply AWp.F;exact rfl;(first|assumption|exact dT ‹_›|exact dF ‹_›|exact rfl))|((first|refine AWp.C rfl ?_ ?_|refine AWp.O _ rfl ?_ ?_)<;>intro hp<;>(try (exfalso;omega)))))
  refine AWp.U (σ := Nat) (fun k => ⟨[(3, .c (.ref 0 0 k)), (9, .c (.sl (nEl r))), (10, .c (int r.length)), (11, .c (int k))], [(0, some ⟨9, 1, ((r.map fmt).take k).map x4⟩)], 1⟩) (fun k => k ≤ r.length) (fun k => r.length - k) 0 (Nat.zero_le _) ?_ ?_
  · refine Weak.of [(0, some 0)] rfl ?_ ?_ <;> (repeat' (first|exact trivial|exact rfl|exact Or.inr ⟨rfl,‹_›⟩|exact Or.inl ⟨rfl,trivial⟩|apply And.intro|exact congrArg (Value.int .i64) (by first|omega|(simp;done)|(simp;omega))|(refine yD ?_;first|(focus (simp;done))|omega|(simp only [lA,lB,lC,lD,lE];omega))|(refine ⟨_,rfl,rfl,rfl,OW.one ?_⟩)|(refine ⟨_,rfl,rfl,rfl,OW.same ?_ ?_⟩)|refine vwB ?_|refine vwS ?_|refine vwI ?_|refine fwB ?_|refine fwS ?_|refine fwI ?_|(refine aIm ?_;first|exact AllSc.nil|assumption)))
  · intro k hk
    by_cases hlt : k < r.length
    · obtain ⟨s, hs⟩ := xR hlt
      have hzz := nEl_at hs
      have hlt' : (k : Int) < (r.length : Int) := by omega
      have hf := formatStroke_pf s (hr s (List.mem_of_getElem? hs)).2 (hr s (List.mem_of_getElem? hs)).1
      have hfl := qH s
      have hts : (r.map fmt).take (k + 1) = (r.map fmt).take k ++ [fmt s] := by rw [List.take_add_one, List.getElem?_map, hs]; rfl
      have htl : ((r.map fmt).take k).length = k := by simp; omega
      (repeat' (first|(apply xW;(first|exact Want.none_ rfl|(refine yA rfl rfl rfl rfl ?_;(first|assumption|exact dT ‹_›|exact dF ‹_›|exact rfl))))|(apply xF zH;exact rfl;exact rfl)|((first|(apply z6;exact rfl;exact rfl)|apply z7|(apply z8;exact rfl;exact rfl)|apply zU|(apply zV;exact rfl;exact rfl;exact zH;exact rfl;exact rfl)|apply zN|apply zQ|(apply yB;exact rfl;exact rfl)|apply yC)<;>(first|exact zH|exact Nat.zero_add _|exact rfl|refine yN ?_|assumption|omega|exact ⟨rfl⟩|exact ⟨rfl,_,_,rfl,rfl⟩|exact lb rfl|(refine Bd.mk ?_;first|assumption|omega|(focus (simp;done))|(simp;omega)|decide)|exact yO rfl|exact xE ‹_›|(focus (simp;done))|(simp;omega)|(simp only [lA,lB,lC,lD,lE];omega)|exact yK rfl (by first|rfl|(simp;done)|(simp only [lA,lB,lC,lD,lE];omega))|exact yJ rfl (by first|assumption|omega|(simp only [lA,lB,lC,lD,lE];omega))))|apply zS|apply AWp.Q|apply zG|apply AWp.G|apply AWp.B|apply AWp.J|apply AWp.X|apply AWp.R|apply zO|apply zJ|apply zI|apply zL|apply zM|(refine zK rfl ?_)|(apply AWp.T;exact rfl;(first|assumption|exact dT ‹_›|exact dF ‹_›|exact rfl))|(apply AWp.F;exact rfl;(first|assumption|exact dT ‹_›|exact dF ‹_›|exact rfl))|(apply yH;(iterate 6 exact rfl);(iterate 2 (focus (repeat (first|exact VAs.nil|apply VAs.cons|apply VA.c|apply VA.agg|exact VCs.nil|(apply VCs.same;assumption)|apply VCs.cons|exact VC.imm (Imm.v _)|exact VC.imm (Imm.sl _)|exact VC.imm (Imm.ip _)|exact VC.imm ‹_›|exact VC.nil|(apply zB;exact rfl;exact rfl;(first|exact rfl|(focus (simp;done))|omega|(focus (simp only [lA,lB,lC,lD,lE];omega)));exact rfl;(first|assumption|(refine aIm ?_;assumption)))|(apply zC;exact rfl;exact rfl;(first|assumption|omega|(focus (simp only [lA,lB,lC,lD,lE];omega))|(focus (simp;done))|(focus (simp;omega)));exact rfl;(first|assumption|(refine aIm ?_;assumption)))|assumption))));(first|exact hf);(focus (repeat (first|exact trivial|exact Flat.v _|exact Flat.dead|exact Flat.ref _ _ _|exact Flat.nil|apply And.intro)));(first|apply yS|(apply yR;(focus (repeat (first|exact trivial|apply And.intro|(first|exact AllSc.nil|assumption))))));(first|exact xG _ _|exact xJ _ _ _|exact xK _ _ _ _|exact y3 _ _ _ _ _|exact xH _|exact y5 _ _|exact y4 _ _ _ _|exact yU _ _ _ _ _|exact yT _ _|exact xI _ _ _ _|exact rfl))|((first|refine AWp.C rfl ?_ ?_|refine AWp.O _ rfl ?_ ?_)<;>intro hp<;>(try (exfalso;omega)))))
      refine ⟨k + 1, by omega, by omega, ?_⟩
      rw [hts]
      refine Weak.of [(0, some 2)] rfl ?_ ?_ <;> (repeat' (first|exact trivial|exact rfl|exact Or.inr ⟨rfl,‹_›⟩|exact Or.inl ⟨rfl,trivial⟩|apply And.intro|exact congrArg (Value.int .i64) (by first|omega|(simp;done)|(simp;omega))|(refine yD ?_;first|(focus (simp;done))|omega|(simp only [lA,lB,lC,lD,lE];omega))|(refine ⟨_,rfl,rfl,rfl,OW.one ?_⟩)|(refine ⟨_,rfl,rfl,rfl,OW.same ?_ ?_⟩)|refine vwB ?_|refine vwS ?_|refine vwI ?_|refine fwB ?_|refine fwS ?_|refine fwI ?_|(refine aIm ?_;first|exact AllSc.nil|assumption)))
      all_goals first | (rw [List.map_append]; rfl) | exact strs_imm _ | (rw [List.length_map, htl]; rfl)
    · have hlt' : ¬ (k : Int) < (r.length : Int) := by omega
      obtain rfl : k = r.length := by omega
      rw [List.take_of_length_le (by simp)]
      refine AWp.frz 3 0 wE rfl rfl (by simp) (strs_imm _) ?_
      (repeat' (first|(apply xW;(first|exact Want.none_ rfl|(refine yA rfl rfl rfl rfl ?_;(first|assumption|exact dT ‹_›|exact dF ‹_›|exact rfl))))|(apply xF zH;exact rfl;exact rfl)|((first|(apply z6;exact rfl;exact rfl)|apply z7|(apply z8;exact rfl;exact rfl)|apply zU|(apply zV;exact rfl;exact rfl;exact zH;exact rfl;exact rfl)|apply zN|apply zQ|(apply yB;exact rfl;exact rfl)|apply yC)<;>(first|exact zH|exact Nat.zero_add _|exact rfl|refine yN ?_|assumption|omega|exact ⟨rfl⟩|exact ⟨rfl,_,_,rfl,rfl⟩|exact lb rfl|(refine Bd.mk ?_;first|assumption|omega|(focus (simp;done))|(simp;omega)|decide)|exact yO rfl|exact xE ‹_›|(focus (simp;done))|(simp;omega)|(simp only [lA,lB,lC,lD,lE];omega)|exact yK rfl (by first|rfl|(simp;done)|(simp only [lA,lB,lC,lD,lE];omega))|exact yJ rfl (by first|assumption|omega|(simp only [lA,lB,lC,lD,lE];omega))))|apply zS|apply AWp.Q|apply zG|apply AWp.G|apply AWp.B|apply AWp.J|apply AWp.X|apply AWp.R|apply zO|apply zJ|apply zI|apply zL|apply zM|(refine zK rfl ?_)|(apply AWp.T;exact rfl;(first|assumption|exact dT ‹_›|exact dF ‹_›|exact rfl))|(apply AWp.F;exact rfl;(first|assumption|exact dT ‹_›|exact dF ‹_›|exact rfl))|(apply yH;(iterate 6 exact rfl);(iterate 2 (focus (repeat (first|exact VAs.nil|apply VAs.cons|apply VA.c|apply VA.agg|exact VCs.nil|(apply VCs.same;assumption)|apply VCs.cons|exact VC.imm (Imm.v _)|exact VC.imm (Imm.sl _)|exact VC.imm (Imm.ip _)|exact VC.imm ‹_›|exact VC.nil|(apply zB;exact rfl;exact rfl;(first|exact rfl|(focus (simp;done))|omega|(focus (simp only [lA,lB,lC,lD,lE];omega)));exact rfl;(first|assumption|(refine aIm ?_;assumption)))|(apply zC;exact rfl;exact rfl;(first|assumption|omega|(focus (simp only [lA,lB,lC,lD,lE];omega))|(focus (simp;done))|(focus (simp;omega)));exact rfl;(first|assumption|(refine aIm ?_;assumption)))|assumption))));(first|exact hj2);(focus (repeat (first|exact trivial|exact Flat.v _|exact Flat.dead|exact Flat.ref _ _ _|exact Flat.nil|apply And.intro)));(first|apply yS|(apply yR;(focus (repeat (first|exact trivial|apply And.intro|(first|exact AllSc.nil|assumption))))));(first|exact xG _ _|exact xJ _ _ _|exact xK _ _ _ _|exact y3 _ _ _ _ _|exact xH _|exact y5 _ _|exact y4 _ _ _ _|exact yU _ _ _ _ _|exact yT _ _|exact xI _ _ _ _|exact rfl))|((first|refine AWp.C rfl ?_ ?_|refine AWp.O _ rfl ?_ ?_)<;>intro hp<;>(try (exfalso;omega)))))
      ((first|refine yE _ [] (.cons (zR rfl) .nil) ?_ rfl ?_|refine yF _ [] (.cons (zR rfl) .nil) ?_ rfl ?_) <;> (repeat' (first|exact trivial|exact rfl|exact Or.inr ⟨rfl,‹_›⟩|exact Or.inl ⟨rfl,trivial⟩|apply And.intro|exact congrArg (Value.int .i64) (by first|omega|(simp;done)|(simp;omega))|(refine yD ?_;first|(focus (simp;done))|omega|(simp only [lA,lB,lC,lD,lE];omega))|(refine ⟨_,rfl,rfl,rfl,OW.one ?_⟩)|(refine ⟨_,rfl,rfl,rfl,OW.same ?_ ?_⟩)|refine vwB ?_|refine vwS ?_|refine vwI ?_|refine fwB ?_|refine fwS ?_|refine fwI ?_|(refine aIm ?_;first|exact AllSc.nil|assumption))))
end Go.Proofs.YtchpdclknbmdoaaDoor
