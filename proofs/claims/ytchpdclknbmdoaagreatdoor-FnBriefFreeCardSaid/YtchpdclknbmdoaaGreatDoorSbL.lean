/- FnBriefFree returns true. No conditions but the bound of the code's length. -/
import Derived.Test.YtchpdclknbmdoaaGreatDoorSbC
import Derived.Test.YtchpdclknbmdoaaGreatDoorSbD
import Derived.Test.YtchpdclknbmdoaaGreatDoorSbE
import Derived.Test.YtchpdclknbmdoaaGreatDoorRL
namespace Go.Proofs.YtchpdclknbmdoaaGreatDoor
open Go Go.RowKit
set_option maxHeartbeats 4000000 in
theorem sgI_yes (es : List Ent) (w : List UInt8) (n : Nat) (hb : kW es) (hw : w.length ≤ 1048576) (h : qO es w n = true) : PF Tryz.prog 50 [.agg (wI es), .c (str w), .c (int n)] [⟨3, 1, (sug es (phN w) n).map y4⟩] (.tup [.c (.ref 0 0 (sug es (phN w) n).length), .c (boo true)]) := by
  have h1 := implGood_pf es hb
  have h2 := implPh_pf w hw
  have h3 := isFew_pf n
  have hlt8 := phN_lt w
  rw [qO, Bool.and_eq_true, Bool.and_eq_true] at h
  obtain ⟨hd, hk, hn⟩ := h
  rw [hd] at h1
  rw [hk] at h2
  rw [hn] at h3
  rw [decide_eq_true_eq] at hk
  rw [inZ, decide_eq_true_eq] at hn
  generalize phN w = b at *
  have h4 := keysOf_pf b hlt8
  have hkp : (keys b).length = szK b := qU b
  have hL := vN (keys b)
  have hsk := qY (keys b)
  have hK := sz23 b
  have hpK := pow23 hK
  obtain ⟨K, hKK⟩ : ∃ K, Bd (szK b = K) := ⟨_, ⟨rfl⟩⟩
  rw [hKK.h] at hkp hK hpK
  rw [hkp] at h4
  have hspr : ∀ x : Nat, x < 4294967296 → PF Tryz.prog 113 [.c (.sl (nEl (keys b))), .c (int (x : Nat))] [] (.c (int (dep 23 b x : Nat))) := fun x hx => spread_pf b x hx
  generalize keys b = KS at *
  refine PF.enter (kG _ _ _) Tryz.func50 rfl (by kernel_rfl) _ _ rfl rfl rfl (fun w0 mu I0 β0 gi dis => ?_)
  (repeat' (first|(apply xW;(first|exact Want.none_ rfl|(refine zZ rfl rfl rfl rfl ?_;((exact rfl)))))|(apply xF zK;exact rfl;exact rfl)|(((apply zQ))<;>(first|exact zK|exact rfl|refine yO ?_))|(apply y8;exact rfl;exact rfl;((exact rfl));exact rfl;exact rfl)|apply zV|apply AWp.Q|apply zJ|apply AWp.G|apply AWp.B|apply AWp.J|(apply AWp.F;exact rfl;((exact rfl)))|(apply yM;(iterate 6 exact rfl);(iterate 2 (focus (repeat (first|exact VAs.nil|apply VAs.cons|apply VA.c|apply VA.agg|exact VCs.nil|apply VCs.cons|exact VC.imm (Imm.v _)|exact VC.imm (Imm.sl _)))));(first|exact h2|exact h1|exact h3|exact h4);(focus (repeat (first|exact trivial|exact Flat.v _|exact Flat.ref _ _ _|apply And.intro)));(first|apply yX|(apply yZ;(focus (repeat (first|exact trivial|apply And.intro|((assumption)))))));(first|exact xO _ _|exact xM _ _ _|exact xP _ _ _ _))))
  refine AWp.U (σ := Nat × List Int) (fun q => ⟨[(2, .c (int n)), (3, .c (.ptr 0 0 0)), (10, .c (.ref 1 0 K)), (11, .c (.ref 2 0 q.2.length)), (12, .c (int ((K - q.1 : Nat) : Int)))], [(0, some ⟨26, 1, [wI es]⟩), (1, some ⟨3, 1, nEl KS⟩), (2, some ⟨3, 1, q.2.map y4⟩)], 3⟩) (fun q => q.1 ≤ K ∧ q.2 = (allG es b q.1).take n) (fun q => K - q.1) (0, []) ⟨Nat.zero_le _, (List.take_nil).symm⟩ ?_ ?_
  · refine Weak.of [(0, some 0), (1, some 1), (2, some 2)] rfl ?_ ?_ <;> (repeat' (first|exact trivial|exact rfl|apply And.intro|refine ⟨_,rfl,rfl,rfl,OW.one ?_⟩|refine oWs rfl rfl rfl ?_ ?_|(refine aIm ?_;first|exact AllSc.nil|assumption)))
    all_goals first | exact vG _ | skip
  · rintro ⟨j, out⟩ ⟨hj, hout⟩
    dsimp only at hj hout ⊢
    have hsc := xJ out
    have hol : out.length ≤ n := by rw [hout, List.length_take]; omega
    by_cases hlt : j < K
    · have hge : (1 : Int) ≤ ((K - j : Nat) : Int) := by omega
      have hgf := got_first es n (show j < szK b by rw [hKK.h]; exact hlt)
      rw [hKK.h, ← hout] at hgf
      have hp1 := xY (K - j)
      have hp2 : 2 ^ (K - j) ≤ 2 ^ K := Nat.pow_le_pow_right (by omega) (by omega)
      have hmj : K - j < 62 := by omega
      have hmK : K < 62 := by omega
      have hpp := pow2 (K - j - 1)
      have hpq := xY (K - j - 1)
      rw [show K - j - 1 + 1 = K - j by omega] at hpp
      have hx1 : ((2 ^ (K - j) : Nat) : Int) - 1 = ((2 ^ (K - j) - 1 : Nat) : Int) := by omega
      have hones : Bd (pc 24 (2 ^ (K - j) - 1) = K - j) := ⟨by
        have := pc_ones (K - j) (24 - (K - j))
        rwa [show K - j + (24 - (K - j)) = 24 by omega] at this⟩
      (repeat' (first|(apply xW;((exact Want.none_ rfl)))|(apply xF zK;exact rfl;exact rfl)|(((apply yW))<;>(first|exact rfl|refine yO ?_|omega))|apply zV|apply AWp.Q|apply zJ|apply AWp.G|apply AWp.B|apply AWp.J|(apply AWp.T;exact rfl;((exact dT ‹_›)))|(((apply wU;exact rfl;exact rfl;exact rfl;((exact rfl))))<;>(first|refine yO ?_|(refine Bd.mk ?_;(assumption))))))
      refine AWp.U (σ := Nat × List Int) (fun q => ⟨[(2, .c (int n)), (3, .c (.ptr 0 0 0)), (10, .c (.ref 1 0 K)), (11, .c (.ref 2 0 q.2.length)), (12, .c (int ((K - j : Nat) : Int))), (13, .c (int (q.1 : Nat)))], [(0, some ⟨26, 1, [wI es]⟩), (1, some ⟨3, 1, nEl KS⟩), (2, some ⟨3, 1, q.2.map y4⟩)], 3⟩) (fun q => 0 < q.1 ∧ q.1 < 16777216 ∧ Bd (pc 24 q.1 = K - j) ∧ q.2 = got es b j n q.1) (fun q => 16777216 - q.1) (2 ^ (K - j) - 1, out) ⟨by dsimp only; omega, by dsimp only; omega, hones, hgf.symm⟩ ?_ ?_
      · refine Weak.of [(0, some 0), (1, some 1), (2, some 2)] rfl ?_ ?_ <;> (repeat' (first|exact trivial|exact rfl|apply And.intro|(apply cgI;(omega))|refine ⟨_,rfl,rfl,rfl,OW.one ?_⟩|refine oWs rfl rfl rfl ?_ ?_|(refine aIm ?_;(assumption))))
        all_goals first | exact vG _ | exact hsc.imm | (congr 2; omega) | skip
      · rintro ⟨x, o2⟩ ⟨hx0, hx24, hpx, ho2⟩
        dsimp only at hx0 hx24 hpx ho2 ⊢
        have hsc2 := xJ o2
        have hLo : (o2.map y4).length = o2.length := List.length_map _
        have ho2n : o2.length ≤ n := by rw [ho2, got, List.length_take]; omega
        by_cases hx : x < 2 ^ K
        · have hx' : (x : Int) < ((2 ^ K : Nat) : Int) := by omega
          by_cases hl : o2.length < n
          · have hl' : (o2.length : Int) < (n : Int) := by omega
            obtain ⟨t, y, ht, hlow, hor, hsum, hxy, hy24, hpy, hz⟩ := nextX hx0 (by omega)
            have hpy' : Bd (pc 24 y = K - j) := ⟨hpy.trans hpx.h⟩
            have hst := got_step (es := es) (by rw [hKK.h]; exact hx) hxy (by rw [hKK.h]; exact hpx.h) hz (by rw [← ho2]; exact hl)
            rw [← ho2] at hst
            clear hz hpy
            have hs := hspr x (by omega)
            have hnb := neg_bits hx0 (by omega) hlow ht
            have htz := tz_pf t (by omega)
            have hpt := pow2_le (show t ≤ 23 by omega)
            have hpt1 := xY t
            have hwt : IntKind.u64.wrap ((2 ^ t : Nat) : Int) = ((2 ^ t : Nat) : Int) := by
              show ((2 ^ t : Nat) : Int) % 18446744073709551616 = _
              omega
            rw [← hwt] at htz
            have hxr : (x ^^^ (x + 2 ^ t)) < 4611686018427387904 := Nat.xor_lt_two_pow (n := 62) (by omega) (by omega)
            have hxd := Nat.div_le_self (x ^^^ (x + 2 ^ t)) (2 ^ (t + 2))
            have hcast : (x : Int) + ((2 ^ t : Nat) : Int) = ((x + 2 ^ t : Nat) : Int) := by omega
            have hxv : bits .xor .i64 (x : Int) ((x : Int) + ((2 ^ t : Nat) : Int)) = ((x ^^^ (x + 2 ^ t) : Nat) : Int) := by
              rw [hcast]; exact bXor (by omega) (by omega)
            have hov : bits .or .i64 ((x : Int) + ((2 ^ t : Nat) : Int)) (((x ^^^ (x + 2 ^ t)) / 2 ^ (t + 2) : Nat) : Int) = ((y : Nat) : Int) := by
              rw [hcast, bOr (by omega) (by omega), hor]
            have htc : (t : Int) + 2 = ((t + 2 : Nat) : Int) := by omega
            have ht2 : t + 2 < 62 := by omega
            have hf : PF Tryz.prog 81 [.agg (wI es), .c (.sl [[int (dep 23 b x : Nat)]])] [] (.c (int (atE es [sbN b x]))) := find_pf es [sbN b x] hb (by simp)
            have hs1 : AllSc [[int (dep 23 b x : Nat)]] := xJ [sbN b x]
            cases he : hasE es [sbN b x] with
            | true =>
              rw [show atE es [sbN b x] = ((idxE es [sbN b x] : Nat) : Int) by rw [atE, he]; rfl] at hf
              rw [if_neg (by rw [vH, he]; simp), List.append_nil] at hst
              (repeat' (first|(apply xW;(first|exact Want.none_ rfl|(refine zZ rfl rfl rfl rfl ?_;((exact dT ‹_›)))))|(apply xF zK;exact rfl;exact rfl)|((first|apply vZ|apply zQ)<;>(first|exact zK|exact rfl|refine yO ?_|omega))|(apply y8;exact rfl;exact rfl;((exact dT ‹_›));exact rfl;exact rfl)|apply zV|apply AWp.Q|apply zJ|apply AWp.G|apply AWp.B|apply AWp.J|(apply AWp.T;exact rfl;((exact dT ‹_›)))|(apply AWp.F;exact rfl;((exact rfl)))|(apply yM;(iterate 6 exact rfl);(iterate 2 (focus (repeat (first|exact VAs.nil|apply VAs.cons|apply VA.c|apply VA.agg|exact VCs.nil|apply VCs.cons|exact VC.imm (Imm.v _)|exact VC.imm (Imm.sl _)|(apply zB;exact rfl;exact rfl;(first|exact rfl|(focus (simp only [lA,lB,lC,lD,lE];omega)));exact rfl;((refine aIm ?_;assumption)))))));(first|exact hs|exact hf);(focus (repeat ((exact Flat.v _))));((apply yX));((exact xO _ _)))|(((apply wU;exact rfl;exact rfl;exact rfl;((exact rfl))))<;>(first|refine yO ?_|(refine Bd.mk ?_;(assumption))))))
              refine qB rfl rfl rfl hnb ?_
              (repeat' (first|(apply xW;((exact Want.none_ rfl)))|(apply xF zK;exact rfl;exact rfl)|(((apply yF))<;>(first|exact rfl|refine yO ?_|omega))|apply zV|apply AWp.Q|apply zJ|apply AWp.G|apply zL|(apply yM;(iterate 6 exact rfl);(iterate 2 (focus (repeat (first|exact VAs.nil|apply VAs.cons|apply VA.c|exact VCs.nil|exact VC.imm (Imm.v _)))));((exact htz));(focus (repeat ((exact Flat.v _))));((apply yX));((exact xO _ _)))|((first|(apply vO;exact rfl;exact rfl;exact rfl)|(apply wX;exact rfl;exact rfl;exact rfl)|(apply wY;exact rfl;exact rfl;exact rfl;((assumption))))<;>(first|refine yO ?_|(refine Bd.mk ?_;first|assumption|omega)))))
              refine ⟨(y, o2), ⟨by dsimp only; omega, hy24, hpy', hst.symm⟩, by dsimp only; omega, ?_⟩
              dsimp only
              refine Weak.of [(0, some 0), (1, some 1), (2, some 2)] rfl ?_ ?_ <;> (repeat' (first|exact trivial|exact rfl|apply And.intro|(apply cgI;(omega))|refine ⟨_,rfl,rfl,rfl,OW.one ?_⟩|refine oWs rfl rfl rfl ?_ ?_|(refine aIm ?_;(assumption))))
              all_goals first | exact vG _ | exact hsc2.imm | skip
            | false =>
              rw [show atE es [sbN b x] = -1 by rw [atE, he]; rfl] at hf
              rw [if_pos (by rw [vH, he]; rfl)] at hst
              (repeat' (first|(apply xW;(first|exact Want.none_ rfl|(refine zZ rfl rfl rfl rfl ?_;((exact dT ‹_›)))))|(apply xF zK;exact rfl;exact rfl)|((first|apply vZ|apply zQ|(apply yB;exact rfl;exact rfl))<;>(first|exact zK|exact rfl|refine yO ?_|omega|(refine Bd.mk ?_;first|(focus (simp;done))|(simp;omega))))|(apply y8;exact rfl;exact rfl;((exact dT ‹_›));exact rfl;exact rfl)|apply zV|apply AWp.Q|apply zJ|apply AWp.G|apply AWp.B|apply AWp.J|(apply AWp.T;exact rfl;(first|exact dT ‹_›|exact rfl))|(apply yM;(iterate 6 exact rfl);(iterate 2 (focus (repeat (first|exact VAs.nil|apply VAs.cons|apply VA.c|apply VA.agg|exact VCs.nil|apply VCs.cons|exact VC.imm (Imm.v _)|exact VC.imm (Imm.sl _)|(apply zB;exact rfl;exact rfl;(first|exact rfl|(focus (simp only [lA,lB,lC,lD,lE];omega)));exact rfl;((refine aIm ?_;assumption)))))));(first|exact hs|exact hf);(focus (repeat ((exact Flat.v _))));((apply yX));((exact xO _ _)))|(((apply wU;exact rfl;exact rfl;exact rfl;((exact rfl))))<;>(first|refine yO ?_|(refine Bd.mk ?_;(assumption))))))
              refine qB rfl rfl rfl hnb ?_
              (repeat' (first|(apply xW;((exact Want.none_ rfl)))|(apply xF zK;exact rfl;exact rfl)|(((apply yF))<;>(first|exact rfl|refine yO ?_|omega))|apply zV|apply AWp.Q|apply zJ|apply AWp.G|apply zL|(apply yM;(iterate 6 exact rfl);(iterate 2 (focus (repeat (first|exact VAs.nil|apply VAs.cons|apply VA.c|exact VCs.nil|exact VC.imm (Imm.v _)))));((exact htz));(focus (repeat ((exact Flat.v _))));((apply yX));((exact xO _ _)))|((first|(apply vO;exact rfl;exact rfl;exact rfl)|(apply wX;exact rfl;exact rfl;exact rfl)|(apply wY;exact rfl;exact rfl;exact rfl;((assumption))))<;>(first|refine yO ?_|(refine Bd.mk ?_;first|assumption|omega)))))
              refine ⟨(y, o2 ++ [sbN b x]), ⟨by dsimp only; omega, hy24, hpy', hst.symm⟩, by dsimp only; omega, ?_⟩
              dsimp only
              rw [wB]
              refine Weak.of [(0, some 0), (1, some 1), (2, some 5)] rfl ?_ ?_ <;> (repeat' (first|exact trivial|exact rfl|apply And.intro|(apply cgI;(omega))|(refine yG ?_;(focus (simp;done)))|refine ⟨_,rfl,rfl,rfl,OW.one ?_⟩|refine oWs rfl rfl rfl ?_ ?_|(refine aIm ?_;(assumption))))
              all_goals first | exact vG _ | (rw [← wB]; exact (xJ _).imm) | (simp; done) | skip
          · have hl' : ¬ (o2.length : Int) < (n : Int) := by omega
            have hgl := got_last (es := es) (.inr (by rw [← ho2]; exact hl))
            rw [← ho2] at hgl
            (repeat' (first|(apply xW;(first|exact Want.none_ rfl|(refine zZ rfl rfl rfl rfl ?_;((exact dT ‹_›)))))|(apply xF zK;exact rfl;exact rfl)|(((apply yW))<;>(first|exact rfl|refine yO ?_|omega))|(apply y8;exact rfl;exact rfl;((exact dT ‹_›));exact rfl;exact rfl)|apply zV|apply AWp.Q|apply zJ|apply AWp.G|apply AWp.X|apply zU|apply zL|apply zR|(apply AWp.F;exact rfl;((exact dF ‹_›)))|(((apply wU;exact rfl;exact rfl;exact rfl;((exact rfl))))<;>(first|refine yO ?_|(refine Bd.mk ?_;(assumption))))))
            refine ⟨(j + 1, o2), ⟨by dsimp only; omega, hgl⟩, by dsimp only; omega, ?_⟩
            dsimp only
            refine Weak.of [(0, some 0), (1, some 1), (2, some 2)] rfl ?_ ?_ <;> (repeat' (first|exact trivial|exact rfl|apply And.intro|(apply cgI;(omega))|refine ⟨_,rfl,rfl,rfl,OW.one ?_⟩|refine oWs rfl rfl rfl ?_ ?_|(refine aIm ?_;(assumption))))
            all_goals first | exact vG _ | exact hsc2.imm | (congr 2; omega) | skip
        · have hx' : ¬ (x : Int) < ((2 ^ K : Nat) : Int) := by omega
          have hgl := got_last (es := es) (n := n) (j := j) (.inl (by rw [hKK.h]; exact hx))
          rw [← ho2] at hgl
          (repeat' (first|(apply xW;((exact Want.none_ rfl)))|(apply xF zK;exact rfl;exact rfl)|(((apply yW))<;>(first|exact rfl|refine yO ?_|omega))|(apply y8;exact rfl;exact rfl;((exact dF ‹_›));exact rfl;exact rfl)|(apply y7;(iterate 5 exact rfl);((exact dF ‹_›)))|apply zV|apply AWp.Q|apply zJ|apply AWp.G|apply AWp.X|apply zU|apply zL|apply zR|(apply AWp.F;exact rfl;((exact rfl)))|(((apply wU;exact rfl;exact rfl;exact rfl;((exact rfl))))<;>(first|refine yO ?_|(refine Bd.mk ?_;(assumption))))))
          refine ⟨(j + 1, o2), ⟨by dsimp only; omega, hgl⟩, by dsimp only; omega, ?_⟩
          dsimp only
          refine Weak.of [(0, some 0), (1, some 1), (2, some 2)] rfl ?_ ?_ <;> (repeat' (first|exact trivial|exact rfl|apply And.intro|(apply cgI;(omega))|refine ⟨_,rfl,rfl,rfl,OW.one ?_⟩|refine oWs rfl rfl rfl ?_ ?_|(refine aIm ?_;(assumption))))
          all_goals first | exact vG _ | exact hsc2.imm | (congr 2; omega) | skip
    · have hge : ¬ (1 : Int) ≤ ((K - j : Nat) : Int) := by omega
      obtain rfl : j = K := by omega
      have hse : sug es b n = out := by rw [sug, hKK.h]; exact hout.symm
      rw [hse]
      (repeat' (first|(apply xW;((exact Want.none_ rfl)))|(apply xF zK;exact rfl;exact rfl)|apply zV|apply AWp.Q|apply zJ|apply AWp.G|apply AWp.X|apply AWp.R|apply zU|apply zR|(apply AWp.F;exact rfl;((exact dF ‹_›)))))
      (((refine z6 _ [(0, some 2)] (.cons (zT rfl) (.cons (zT rfl) .nil)) ?_ rfl ?_)) <;> (repeat' (first|exact trivial|exact rfl|apply And.intro|refine oWs rfl rfl rfl ?_ ?_|(refine aIm ?_;(assumption)))))
      all_goals exact hsc.imm
end Go.Proofs.YtchpdclknbmdoaaGreatDoor
namespace Go.Proofs.YtchpdclknbmdoaaGreatDoor
open Go Go.RowKit
set_option maxHeartbeats 8000000 in
theorem sgS_yes (es : List Ent) (w : List UInt8) (n : Nat) (hb : kW es) (hw : w.length ≤ 1048576) (h : qO es w n = true) : PF Tryz.prog 49 [.agg (wI es), .c (str w), .c (int n)] [⟨3, 1, (sugL es (phN w) n).map y4⟩] (.tup [.c (.ref 0 0 (sug es (phN w) n).length), .c (boo true)]) := by
  have h1 := l6Good_pf es hb
  have h2 := specPh_pf w hw
  have h3 := qR n 0 50
  have hlt8 := phN_lt w
  rw [qO, Bool.and_eq_true, Bool.and_eq_true] at h
  obtain ⟨hd, hk, hn⟩ := h
  rw [hd] at h1
  rw [hk] at h2
  rw [hn] at h3
  rw [decide_eq_true_eq] at hk
  rw [inZ, decide_eq_true_eq] at hn
  generalize phN w = b at *
  have h4 := l2Keys_pf b hlt8
  have hK := sz23 b
  have hpK := pow23 hK
  have hfull : dep 23 b (2 ^ szK b - 1) = b := dep_full 23 b (by have : (2 : Nat) ^ 23 = 8388608 := by decide
                                                                 omega)
  have hp1 := xY (szK b)
  have hsk := qY (keys b)
  have hLk := vN (keys b)
  have hkp : (keys b).length = szK b := qU b
  rw [hkp] at h4 hLk
  have hsug := sug_len es b n
  have hsL := sugL_len es b n
  obtain ⟨K, hKK⟩ : ∃ K, Bd (szK b = K) := ⟨_, ⟨rfl⟩⟩
  rw [hKK.h] at h4 hK hpK hfull hp1 hkp hLk
  have hJ0 : Bd (sugL es b n = allG es b (qH es b n K 0)) := ⟨by rw [sugL, hKK.h]⟩
  generalize keys b = KS at *
  obtain ⟨SL, hSL⟩ : ∃ SL, Bd ((sug es b n).length = SL) := ⟨_, ⟨rfl⟩⟩
  rw [hSL.h] at hsug ⊢
  have hsugB : Bd (SL = min n (sugL es b n).length) := ⟨hsug⟩
  have hsLB : Bd ((sugL es b n).length ≤ 200000000) := ⟨hsL⟩
  clear hsug hsL
  refine PF.enter (kG _ _ _) Tryz.func49 rfl (by kernel_rfl) _ _ rfl rfl rfl (fun w0 mu I0 β0 gi dis => ?_)
  (repeat' (first|(apply xW;(first|exact Want.none_ rfl|(refine zZ rfl rfl rfl rfl ?_;((exact rfl)))))|(apply xF zK;exact rfl;exact rfl)|(((apply zQ))<;>(first|exact zK|exact rfl|refine yO ?_))|(apply y8;exact rfl;exact rfl;((exact rfl));exact rfl;exact rfl)|apply zV|apply AWp.Q|apply zJ|apply AWp.G|apply AWp.B|apply AWp.J|(apply AWp.F;exact rfl;((exact rfl)))|(apply yM;(iterate 6 exact rfl);(iterate 2 (focus (repeat (first|exact VAs.nil|apply VAs.cons|apply VA.c|apply VA.agg|exact VCs.nil|apply VCs.cons|exact VC.imm (Imm.v _)|exact VC.imm (Imm.sl _)))));(first|exact h2|exact h1|exact h3|exact h4);(focus (repeat (first|exact trivial|exact Flat.v _|exact Flat.ref _ _ _|apply And.intro)));(first|apply yX|(apply yZ;(focus (repeat (first|exact trivial|apply And.intro|((assumption)))))));(first|exact xO _ _|exact xM _ _ _|exact xP _ _ _ _))))
  refine AWp.U (σ := Nat) (fun j => ⟨[(2, .c (int n)), (3, .c (.ptr 0 0 0)), (8, .c (int (b : Nat))), (10, .c (.ref 1 0 (allG es b j).length)), (11, .c (int ((K - j : Nat) : Int)))], [(0, some ⟨26, 1, [wI es]⟩), (1, some ⟨3, 1, (allG es b j).map y4⟩)], 2⟩) (fun j => j ≤ K ∧ Bd (qH es b n (K - j) j = qH es b n K 0)) (fun j => K - j) 0 ⟨Nat.zero_le _, ⟨rfl⟩⟩ ?_ ?_
  · refine Weak.of [(0, some 0), (1, some 1)] rfl ?_ ?_ <;> (repeat' (first|exact trivial|exact rfl|apply And.intro|refine ⟨_,rfl,rfl,rfl,OW.one ?_⟩|refine oWs rfl rfl rfl ?_ ?_|(refine aIm ?_;(exact AllSc.nil))))
  · rintro j ⟨hj, hJ⟩
    have hsc := xJ (allG es b j)
    have hLo : ((allG es b j).map y4).length = (allG es b j).length := List.length_map _
    have hal := allG_len es b j
    by_cases hlt : j < K
    · have hgt : (0 : Int) < ((K - j : Nat) : Int) := by omega
      have hmem : Bd (∀ v ∈ allG es b j, ∃ x, x < 2 ^ szK b ∧ K - j < pc 24 x ∧ v = sbN b x ∧ vH es v = true) := ⟨fun v hv => by
        obtain ⟨x, q1, q2, q3, q4⟩ := allG_mem (by rw [hKK.h]; exact hj) hv
        rw [hKK.h] at q2
        exact ⟨x, q1, q2, q3, q4⟩⟩
      have hnext : Bd (allG es b (j + 1) = allG es b j ++ dn es b (K - j) 1) := ⟨by rw [dn_grp es b (by omega), allG, hKK.h]⟩
      have hdl : Bd (∀ a, (dn es b (K - j) a).length ≤ 2 ^ K - a) := ⟨by
        have h9 := dn_len es b (K - j)
        rw [hKK.h] at h9
        exact h9⟩
      have hdn : Bd (dn es b (K - j) (2 ^ K) = []) := ⟨by
        have h9 := dn_end es b (K - j)
        rw [hKK.h] at h9
        exact h9⟩
      obtain ⟨f, hf⟩ : ∃ f, K - j = f + 1 := ⟨K - j - 1, by omega⟩
      have hJ' : Bd ((if n ≤ (allG es b (j + 1)).length then j + 1 else qH es b n f (j + 1)) = qH es b n K 0) := ⟨by
        have := hJ.h
        rwa [hf, qH] at this⟩
      generalize hA : allG es b j = A at *
      have hm : Bd (K - j = f + 1) := ⟨hf⟩
      have hmb : K - j ≤ 23 := by omega
      generalize hmK : K - j = m at *
      (repeat' (first|(apply xW;((exact Want.none_ rfl)))|(apply xF zK;exact rfl;exact rfl)|apply zV|apply AWp.Q|apply zJ|apply AWp.G|apply AWp.B|apply AWp.J|(apply AWp.T;exact rfl;((exact dT ‹_›)))))
      refine AWp.U (σ := Nat) (fun x => ⟨[(2, .c (int n)), (3, .c (.ptr 0 0 0)), (8, .c (int (b : Nat))), (10, .c (.ref 1 0 (A ++ dn es b m (x + 1)).length)), (11, .c (int (m : Nat))), (12, .c (int (dep 23 b x : Nat)))], [(0, some ⟨26, 1, [wI es]⟩), (1, some ⟨3, 1, (A ++ dn es b m (x + 1)).map y4⟩)], 2⟩) (fun x => x < 2 ^ K) (fun x => x) (2 ^ K - 1) (by omega) ?_ ?_
      · rw [show 2 ^ K - 1 + 1 = 2 ^ K by omega, hdn.h, List.append_nil, hfull]
        refine Weak.of [(0, some 0), (1, some 1)] rfl ?_ ?_ <;> (repeat' (first|exact trivial|exact rfl|apply And.intro|refine ⟨_,rfl,rfl,rfl,OW.one ?_⟩|refine oWs rfl rfl rfl ?_ ?_|(refine aIm ?_;(assumption))))
        all_goals first | exact hsc.imm | skip
      · intro x hx
        have hxs : Bd (x < 2 ^ szK b) := ⟨by rw [hKK.h]; exact hx⟩
        have hdx := hdl.h (x + 1)
        obtain ⟨D, hD⟩ : ∃ D, Bd (dn es b m (x + 1) = D) := ⟨_, ⟨rfl⟩⟩
        rw [hD.h] at hdx ⊢
        have hlen : (A ++ D).length = A.length + D.length := List.length_append
        have hscx := xJ (A ++ D)
        have hLx : ((A ++ D).map y4).length = (A ++ D).length := List.length_map _
        have h1x := ints1 (A ++ D)
        have happ : Bd (∀ q, A ++ D = q → A ++ dn es b m (x + 1) = q) := ⟨fun q hq => by rw [hD.h]; exact hq⟩
        obtain ⟨L, hLL⟩ : ∃ L, Bd (A ++ D = L) := ⟨_, ⟨rfl⟩⟩
        rw [hLL.h] at hlen hscx hLx h1x ⊢
        by_cases hx0 : 0 < x
        · have hpos := dep_pos (N := 23) (b := b) hx0 hxs.h
          have hne : ¬ ((dep 23 b x : Nat) : Int) = 0 := by omega
          have hne2 : ((dep 23 b x : Nat) : Int) ≠ 0 := by omega
          have hdb : Bd (bits .and .i64 (((dep 23 b x : Nat) : Int) - 1) (b : Int) = ((dep 23 b (x - 1) : Nat) : Int)) := ⟨dec_bits hx0 hxs.h hlt8⟩
          have hle := dep_le b x
          have h5 := l2Keys_pf (dep 23 b x) (by omega)
          have hsk5 := qY (keys (dep 23 b x))
          have hLk5 := vN (keys (dep 23 b x))
          rw [qU, pc24 hxs.h] at h5 hLk5
          obtain ⟨p, hp⟩ : ∃ p, Bd (pc 24 x = p) := ⟨_, ⟨rfl⟩⟩
          rw [hp.h] at h5 hLk5
          have hfa : PF Tryz.prog 84 [.agg (wI es), .c (.sl [[int (dep 23 b x : Nat)]])] [] (.c (int (atE es [sbN b x]))) := l6At_pf es [sbN b x] hb (by simp)
          have hs1 : AllSc [[int (dep 23 b x : Nat)]] := xJ [sbN b x]
          have hwk : ∀ e, sbN b e = ((dep 23 b e : Nat) : Int) := fun e => rfl
          generalize keys (dep 23 b x) = KX at *
          by_cases hpm : p = m
          · subst hpm
            have hpm' : ¬ ((p : Nat) : Int) ≠ ((p : Nat) : Int) := fun e => e rfl
            cases he : hasE es [sbN b x] with
            | true =>
              rw [show atE es [sbN b x] = ((idxE es [sbN b x] : Nat) : Int) by rw [atE, he]; rfl] at hfa
              have hst : Bd (A ++ dn es b p x = L) := ⟨by rw [dn_full hxs.h (by rw [vH, he]; simp), hD.h]; exact hLL.h⟩
              (repeat' (first|(apply xW;(first|exact Want.none_ rfl|(refine zZ rfl rfl rfl rfl ?_;((exact dF ‹_›)))))|(apply xF zK;exact rfl;exact rfl)|((first|apply yW|apply zQ)<;>(first|exact zK|exact rfl|refine yO ?_|omega))|(apply y8;exact rfl;exact rfl;((exact dF ‹_›));exact rfl;exact rfl)|apply zV|apply AWp.Q|apply zJ|apply AWp.G|apply AWp.B|apply AWp.J|apply AWp.X|apply zU|apply zR|(apply AWp.T;exact rfl;(first|exact dT ‹_›|exact rfl))|(apply yM;(iterate 6 exact rfl);(iterate 2 (focus (repeat (first|exact VAs.nil|apply VAs.cons|apply VA.c|apply VA.agg|exact VCs.nil|apply VCs.cons|exact VC.imm (Imm.v _)|exact VC.imm (Imm.sl _)|(apply zB;exact rfl;exact rfl;((exact rfl));exact rfl;((refine aIm ?_;assumption)))))));(first|exact h5|exact hfa);(focus (repeat (first|exact Flat.v _|exact Flat.ref _ _ _)));(first|apply yX|(apply yZ;(focus (repeat (first|exact trivial|apply And.intro|((assumption)))))));(first|exact xO _ _|exact xP _ _ _ _))))
              refine qB rfl rfl rfl hdb.h ?_
              (repeat' (first|(apply xW;((exact Want.none_ rfl)))|(apply xF zK;exact rfl;exact rfl)|apply zV|apply zJ))
              refine ⟨x - 1, by omega, by omega, ?_⟩
              rw [show x - 1 + 1 = x by omega, hst.h]
              refine Weak.of [(0, some 0), (1, some 1)] rfl ?_ ?_ <;> (repeat' (first|exact trivial|exact rfl|apply And.intro|refine ⟨_,rfl,rfl,rfl,OW.one ?_⟩|refine oWs rfl rfl rfl ?_ ?_|(refine aIm ?_;(assumption))))
              all_goals first | exact hscx.imm | skip
            | false =>
              rw [show atE es [sbN b x] = -1 by rw [atE, he]; rfl] at hfa
              have hst : Bd (dn es b p x = sbN b x :: D) := ⟨by rw [dn_hit hxs.h hp.h (by rw [vH, he]; rfl), hD.h]⟩
              have hDm : Bd (∀ v ∈ D, ∃ y, x + 1 ≤ y ∧ y < 2 ^ szK b ∧ pc 24 y = p ∧ v = sbN b y ∧ vH es v = true) := ⟨fun v hv => by rw [← hD.h] at hv; exact dn_mem hv⟩
              (repeat' (first|(apply xW;(first|exact Want.none_ rfl|(refine zZ rfl rfl rfl rfl ?_;((exact dF ‹_›)))))|(apply xF zK;exact rfl;exact rfl)|(((apply zQ))<;>(first|exact zK|exact rfl|refine yO ?_))|(apply y8;exact rfl;exact rfl;((exact dF ‹_›));exact rfl;exact rfl)|apply zV|apply AWp.Q|apply zJ|apply AWp.G|apply AWp.B|apply AWp.J|(apply AWp.T;exact rfl;((exact dT ‹_›)))|(apply AWp.F;exact rfl;((exact rfl)))|(apply yM;(iterate 6 exact rfl);(iterate 2 (focus (repeat (first|exact VAs.nil|apply VAs.cons|apply VA.c|apply VA.agg|exact VCs.nil|apply VCs.cons|exact VC.imm (Imm.v _)|exact VC.imm (Imm.sl _)|(apply zB;exact rfl;exact rfl;((exact rfl));exact rfl;((refine aIm ?_;assumption)))))));(first|exact h5|exact hfa);(focus (repeat (first|exact Flat.v _|exact Flat.ref _ _ _)));(first|apply yX|(apply yZ;(focus (repeat (first|exact trivial|apply And.intro|((assumption)))))));(first|exact xO _ _|exact xP _ _ _ _))))
              refine AWp.U (σ := Nat) (fun k => ⟨[(2, .c (int n)), (3, .c (.ptr 0 0 0)), (8, .c (int (b : Nat))), (10, .c (.ref 1 0 L.length)), (11, .c (int (p : Nat))), (12, .c (int (dep 23 b x : Nat))), (13, .c (int k))], [(0, some ⟨26, 1, [wI es]⟩), (1, some ⟨3, 1, L.map y4⟩)], 2⟩) (fun k => A.length ≤ k ∧ k ≤ L.length) (fun k => k) L.length ⟨by omega, Nat.le_refl _⟩ ?_ ?_
              · refine Weak.of [(0, some 0), (1, some 1)] rfl ?_ ?_ <;> (repeat' (first|exact trivial|exact rfl|apply And.intro|refine ⟨_,rfl,rfl,rfl,OW.one ?_⟩|refine oWs rfl rfl rfl ?_ ?_|(refine aIm ?_;(assumption))))
                all_goals first | exact hscx.imm | skip
              · rintro k ⟨hk1, hk2⟩
                by_cases hkA : A.length < k
                · obtain ⟨v, hv⟩ := xX (show k - 1 - A.length < D.length by omega)
                  obtain ⟨y, hy1, hy2, hy3, rfl, _⟩ := hDm.h v (List.mem_of_getElem? hv)
                  have hvL : L[k - 1]? = some (sbN b y) := by rw [← hLL.h, List.getElem?_append_right (by omega)]; exact hv
                  have hv' : (L.map y4)[k - 1]? = some [int ((dep 23 b y : Nat) : Int)] := xZ hvL
                  have hk3 : (k : Int) - 1 = ((k - 1 : Nat) : Int) := by omega
                  have hk0 : (0 : Int) < (k : Int) := by omega
                  have hmo := dep_mono 23 b x y hy1 hy2
                  have hley := dep_le b y
                  have h6 := l2Keys_pf (dep 23 b y) (by omega)
                  have hsk6 := qY (keys (dep 23 b y))
                  have hLk6 := vN (keys (dep 23 b y))
                  rw [qU, pc24 hy2, hy3] at h6 hLk6
                  generalize keys (dep 23 b y) = KY at *
                  generalize dep 23 b y = sy at *
                  generalize dep 23 b x = sx at *
                  have hgt2 : (sy : Int) > (sx : Int) := by omega
                  have hpp : ((p : Nat) : Int) = ((p : Nat) : Int) := rfl
                  have hkb : (k : Int) ≤ 1000000000 := by omega
                  clear hy2 hy3 hv hvL hDm
                  (repeat' (first|(apply xW;(first|exact Want.none_ rfl|(refine zZ rfl rfl rfl rfl ?_;((exact dT ‹_›)))))|(apply xF zK;exact rfl;exact rfl)|((first|apply yW|apply z8|(apply zW;exact rfl;exact rfl;exact zK;exact rfl;exact rfl))<;>(first|exact zK|exact Nat.zero_add _|exact rfl|refine yO ?_|assumption|omega))|(apply y8;exact rfl;exact rfl;((exact dT ‹_›));exact rfl;exact rfl)|apply zV|apply AWp.Q|apply zJ|apply AWp.G|apply AWp.B|apply AWp.J|apply zL|(apply AWp.T;exact rfl;((exact dT ‹_›)))|(apply yM;(iterate 6 exact rfl);(iterate 2 (focus (repeat (first|exact VAs.nil|apply VAs.cons|apply VA.c|exact VCs.nil|exact VC.imm (Imm.v _)))));((exact h6));(focus (repeat ((exact Flat.ref _ _ _))));((apply yZ;(focus (repeat (first|exact trivial|apply And.intro|((assumption)))))));((exact xP _ _ _ _)))))
                  refine ⟨k - 1, ⟨by omega, by omega⟩, by omega, ?_⟩
                  refine Weak.of [(0, some 0), (1, some 1)] rfl ?_ ?_ <;> (repeat' (first|exact trivial|exact rfl|apply And.intro|(apply cgI;(omega))|refine ⟨_,rfl,rfl,rfl,OW.one ?_⟩|refine oWs rfl rfl rfl ?_ ?_|(refine aIm ?_;(assumption))))
                  all_goals first | exact hscx.imm | skip
                · have hkE : k = A.length := by omega
                  have hLd : Bd (L = A ++ D) := ⟨hLL.h.symm⟩
                  by_cases hkz : k = 0
                  · subst hkz
                    have hk0 : ¬ (0 : Int) < ((0 : Nat) : Int) := by omega
                    have hk00 : (0 : Nat) ≤ L.length := Nat.zero_le _
                    clear hfa h5 hxs hD happ hdn hdl hmem hnext hJ' hm hJ hJ0 hsugB hsLB
                    (repeat' (first|(apply xW;((exact Want.none_ rfl)))|(apply xF zK;exact rfl;exact rfl)|((first|apply yW|apply zQ|(apply yB;exact rfl;exact rfl)|apply yK)<;>(first|exact zK|exact Nat.zero_add _|exact rfl|refine yO ?_|assumption|omega|exact ⟨rfl⟩|exact ⟨rfl,_,_,rfl,rfl⟩|(refine Bd.mk ?_;first|assumption|(focus (simp;done))|(simp;omega))|exact yP rfl (by (simp;done))))|(apply y8;exact rfl;exact rfl;((exact dF ‹_›));exact rfl;exact rfl)|(apply y7;(iterate 5 exact rfl);((exact dF ‹_›)))|apply zV|(refine yN ?_ ?_;kernel_rfl)|apply AWp.Q|apply zJ|apply AWp.G|apply AWp.X|apply zU|apply zL|apply zR|(refine AWp.D ?_ ?_;kernel_rfl)|(apply AWp.F;exact rfl;((exact dF ‹_›)))))
                    refine qB rfl rfl rfl hdb.h ?_
                    (repeat' (first|(apply xW;((exact Want.none_ rfl)))|(apply xF zK;exact rfl;exact rfl)|apply zV|apply zJ))
                    refine ⟨x - 1, by omega, by omega, ?_⟩
                    have hAe : A = [] := List.length_eq_zero_iff.1 hkE.symm
                    have hLD : L = D := by rw [hLd.h, hAe]; rfl
                    rw [show x - 1 + 1 = x by omega, hst.h, hAe]
                    refine Weak.of [(0, some 0), (1, some 6)] rfl ?_ ?_ <;> (repeat' (first|exact trivial|exact rfl|apply And.intro|refine ⟨_,rfl,rfl,rfl,OW.one ?_⟩|refine oWs rfl rfl rfl ?_ ?_))
                    all_goals first | (rw [hLD]; simp; done) | (rw [hLD]; simp; rfl) | exact (xJ (sbN b x :: D)).imm | (rw [hLD]; simp; omega) | skip
                  · obtain ⟨v, hv⟩ := xX (show k - 1 < A.length by omega)
                    obtain ⟨y, hy2, hy3, rfl, _⟩ := hmem.h v (List.mem_of_getElem? hv)
                    have hvL : L[k - 1]? = some (sbN b y) := by rw [← hLL.h, List.getElem?_append_left (by omega)]; exact hv
                    have hv' : (L.map y4)[k - 1]? = some [int ((dep 23 b y : Nat) : Int)] := xZ hvL
                    have hk3 : (k : Int) - 1 = ((k - 1 : Nat) : Int) := by omega
                    have hk0 : (0 : Int) < (k : Int) := by omega
                    have hkb : (k : Int) ≤ 1000000000 := by omega
                    have hley := dep_le b y
                    have h6 := l2Keys_pf (dep 23 b y) (by omega)
                    have hsk6 := qY (keys (dep 23 b y))
                    have hLk6 := vN (keys (dep 23 b y))
                    rw [qU, pc24 hy2] at h6 hLk6
                    obtain ⟨py, hpy⟩ : ∃ py, Bd (pc 24 y = py) := ⟨_, ⟨rfl⟩⟩
                    rw [hpy.h] at h6 hLk6 hy3
                    have hpn : ¬ ((py : Nat) : Int) = ((p : Nat) : Int) := by omega
                    generalize keys (dep 23 b y) = KY at *
                    generalize dep 23 b y = sy at *
                    clear hy2 hv hvL hDm hpy
                    clear hfa h5 hxs hD happ hdn hdl hmem hnext hJ' hm hJ hJ0 hsugB hsLB
                    (repeat' (first|(apply xW;(first|exact Want.none_ rfl|(refine zZ rfl rfl rfl rfl ?_;((exact dT ‹_›)))))|(apply xF zK;exact rfl;exact rfl)|((first|apply yW|apply z8|(apply zW;exact rfl;exact rfl;exact zK;exact rfl;exact rfl)|apply zQ|(apply yB;exact rfl;exact rfl)|apply yK)<;>(first|exact zK|exact Nat.zero_add _|exact rfl|refine yO ?_|assumption|omega|exact ⟨rfl⟩|exact ⟨rfl,_,_,rfl,rfl⟩|(refine Bd.mk ?_;first|(focus (simp;done))|(simp;omega))|exact xK ‹_›|(focus (simp;done))|exact yQ rfl (by (simp only [lA,lB,lC,lD,lE];omega))))|(apply y8;exact rfl;exact rfl;(first|exact dT ‹_›|exact dF ‹_›);exact rfl;exact rfl)|(apply y7;(iterate 5 exact rfl);((exact dF ‹_›)))|apply zV|(refine yN ?_ ?_;kernel_rfl)|apply AWp.Q|apply zJ|apply AWp.G|apply AWp.X|apply zU|apply zL|apply zR|(refine AWp.D ?_ ?_;kernel_rfl)|(apply AWp.F;exact rfl;((exact rfl)))|(apply yM;(iterate 6 exact rfl);(iterate 2 (focus (repeat (first|exact VAs.nil|apply VAs.cons|apply VA.c|exact VCs.nil|exact VC.imm (Imm.v _)))));((exact h6));(focus (repeat ((exact Flat.ref _ _ _))));((apply yZ;(focus (repeat (first|exact trivial|apply And.intro|((assumption)))))));((exact xP _ _ _ _)))))
                    refine qB rfl rfl rfl hdb.h ?_
                    (repeat' (first|(apply xW;((exact Want.none_ rfl)))|(apply xF zK;exact rfl;exact rfl)|apply zV|apply zJ))
                    refine ⟨x - 1, by omega, by omega, ?_⟩
                    rw [show x - 1 + 1 = x by omega, hst.h]
                    refine Weak.of [(0, some 0), (1, some 7)] rfl ?_ ?_ <;> (repeat' (first|exact trivial|exact rfl|apply And.intro|refine ⟨_,rfl,rfl,rfl,OW.one ?_⟩|refine oWs rfl rfl rfl ?_ ?_))
                    all_goals first | exact mid2_len A D L k _ _ hLd.h hkE | exact mid2 A D L k _ _ hLd.h hkE | exact (xJ _).imm | skip
          · have hpm' : ((p : Nat) : Int) ≠ ((m : Nat) : Int) := by omega
            have hst : Bd (A ++ dn es b m x = L) := ⟨by rw [dn_size hxs.h (by rw [hp.h]; exact hpm), hD.h]; exact hLL.h⟩
            (repeat' (first|(apply xW;((exact Want.none_ rfl)))|(apply xF zK;exact rfl;exact rfl)|(((apply yW))<;>(first|exact rfl|refine yO ?_|omega))|(apply y8;exact rfl;exact rfl;((exact dT ‹_›));exact rfl;exact rfl)|(apply y7;(iterate 5 exact rfl);((exact dT ‹_›)))|apply zV|apply AWp.Q|apply zJ|apply AWp.G|apply AWp.B|apply AWp.J|apply AWp.X|apply zU|apply zR|(apply AWp.T;exact rfl;(first|exact dT ‹_›|exact rfl))|(apply yM;(iterate 6 exact rfl);(iterate 2 (focus (repeat (first|exact VAs.nil|apply VAs.cons|apply VA.c|exact VCs.nil|exact VC.imm (Imm.v _)))));((exact h5));(focus (repeat ((exact Flat.ref _ _ _))));((apply yZ;(focus (repeat (first|exact trivial|apply And.intro|((assumption)))))));((exact xP _ _ _ _)))))
            refine qB rfl rfl rfl hdb.h ?_
            (repeat' (first|(apply xW;((exact Want.none_ rfl)))|(apply xF zK;exact rfl;exact rfl)|apply zV|apply zJ))
            refine ⟨x - 1, by omega, by omega, ?_⟩
            rw [show x - 1 + 1 = x by omega, hst.h]
            refine Weak.of [(0, some 0), (1, some 1)] rfl ?_ ?_ <;> (repeat' (first|exact trivial|exact rfl|apply And.intro|refine ⟨_,rfl,rfl,rfl,OW.one ?_⟩|refine oWs rfl rfl rfl ?_ ?_|(refine aIm ?_;(assumption))))
            all_goals first | exact hscx.imm | skip
        · obtain rfl : x = 0 := by omega
          have hz : ((0 : Nat) : Int) = 0 := rfl
          have hz2 : ¬ (((0 : Nat) : Int) ≠ 0) := fun e => e rfl
          rw [dep_zero]
          have hnx : Bd (allG es b (j + 1) = L) := ⟨by
            have h9 := hD.h
            rw [Nat.zero_add] at h9
            rw [hnext.h, h9]; exact hLL.h⟩
          by_cases hge : n ≤ L.length
          · have hge' : (L.length : Int) ≥ (n : Int) := by omega
            have hL : Bd (sugL es b n = L) := ⟨by
              have := hJ'.h
              rw [hnx.h, if_pos hge] at this
              rw [hJ0.h, ← this, hnx.h]⟩
            have hsug := hsugB.h
            have hsL := hsLB.h
            rw [hL.h] at hsug hsL ⊢
            have hlm := l1LeastS_pf n L.length
            rw [show min (n : Int) (L.length : Int) = ((SL : Nat) : Int) by omega] at hlm
            have hsl : SL ≤ L.length := by omega
            (repeat' (first|(apply xW;((exact Want.none_ rfl)))|(apply xF zK;exact rfl;exact rfl)|(((apply yK))<;>(first|exact zK|exact rfl|refine yO ?_|assumption|omega|exact ⟨rfl⟩|exact ⟨rfl,_,_,rfl,rfl⟩))|apply zV|apply AWp.Q|apply zJ|apply AWp.G|apply AWp.X|apply AWp.R|apply zU|apply zR|(refine zP rfl ?_)|(apply AWp.T;exact rfl;((exact dT ‹_›)))|(apply AWp.F;exact rfl;((exact dF ‹_›)))|(apply yM;(iterate 6 exact rfl);(iterate 2 (focus (repeat (first|exact VAs.nil|apply VAs.cons|apply VA.c|exact VCs.nil|exact VC.imm (Imm.v _)))));((exact hlm));(focus (repeat ((exact Flat.v _))));((apply yX));((exact xO _ _)))))
            (((refine z6 _ [(0, some 1)] (.cons (zT rfl) (.cons (zT rfl) .nil)) ?_ rfl ?_)) <;> (repeat' (first|exact trivial|exact rfl|apply And.intro|refine oWs rfl rfl rfl ?_ ?_|(refine aIm ?_;(assumption)))))
            all_goals exact hscx.imm
          · have hge' : ¬ (L.length : Int) ≥ (n : Int) := by omega
            (repeat' (first|(apply xW;((exact Want.none_ rfl)))|(apply xF zK;exact rfl;exact rfl)|(((apply yW))<;>(first|exact rfl|refine yO ?_|omega))|apply zV|apply AWp.Q|apply zJ|apply AWp.G|apply AWp.J|apply AWp.X|apply zU|apply zL|apply zR|(apply AWp.F;exact rfl;((exact dF ‹_›)))))
            have h9 := hm.h
            refine ⟨j + 1, ⟨by omega, ⟨?_⟩⟩, by omega, ?_⟩
            · have := hJ'.h
              rw [hnx.h, if_neg hge] at this
              rw [show K - (j + 1) = f by omega]; exact this
            · rw [hnx.h]
              refine Weak.of [(0, some 0), (1, some 1)] rfl ?_ ?_ <;> (repeat' (first|exact trivial|exact rfl|apply And.intro|(apply cgI;(omega))|refine ⟨_,rfl,rfl,rfl,OW.one ?_⟩|refine oWs rfl rfl rfl ?_ ?_|(refine aIm ?_;(assumption))))
              all_goals first | exact hscx.imm | (congr 2; omega) | skip
    · have hgt : ¬ (0 : Int) < ((K - j : Nat) : Int) := by omega
      obtain rfl : j = K := by omega
      have hL : sugL es b n = allG es b j := by
        have := hJ.h
        rw [Nat.sub_self, qH] at this
        rw [hJ0.h, ← this]
      have hsug := hsugB.h
      have hsL := hsLB.h
      rw [hL] at hsug hsL ⊢
      have hlm := l1LeastS_pf n (allG es b j).length
      rw [show min (n : Int) ((allG es b j).length : Int) = ((SL : Nat) : Int) by omega] at hlm
      have hsl : SL ≤ (allG es b j).length := by omega
      clear hL
      (repeat' (first|(apply xW;((exact Want.none_ rfl)))|(apply xF zK;exact rfl;exact rfl)|(((apply yK))<;>(first|exact zK|exact rfl|refine yO ?_|assumption|omega|exact ⟨rfl⟩|exact ⟨rfl,_,_,rfl,rfl⟩))|apply zV|apply AWp.Q|apply zJ|apply AWp.G|apply AWp.X|apply AWp.R|apply zU|apply zR|(apply AWp.F;exact rfl;((exact dF ‹_›)))|(apply yM;(iterate 6 exact rfl);(iterate 2 (focus (repeat (first|exact VAs.nil|apply VAs.cons|apply VA.c|exact VCs.nil|exact VC.imm (Imm.v _)))));((exact hlm));(focus (repeat ((exact Flat.v _))));((apply yX));((exact xO _ _)))))
      (((refine z6 _ [(0, some 1)] (.cons (zT rfl) (.cons (zT rfl) .nil)) ?_ rfl ?_)) <;> (repeat' (first|exact trivial|exact rfl|apply And.intro|refine oWs rfl rfl rfl ?_ ?_|(refine aIm ?_;(assumption)))))
      all_goals exact hsc.imm
end Go.Proofs.YtchpdclknbmdoaaGreatDoor
namespace Go.Proofs.YtchpdclknbmdoaaGreatDoor
open Go Go.RowKit
theorem keysOfI_pf (s : Nat) (h0 : 0 < s) (hs : s < 8388608) : PF Tryz.prog 57 [.c (int (s : Nat))] [⟨3, 1, nEl (keys s)⟩] (.tup [.c (.ref 0 0 (pc 23 s)), .c (boo true)]) := by
  have h1 := okSI_pf (s : Int)
  have ho : okS (s : Int) = true := by rw [okS, inZ, decide_eq_true_eq]; omega
  rw [ho] at h1
  have h2 := keysOf_pf s hs
  have hsk := qY (keys s)
  have hL := vN (keys s)
  rw [qU] at h2 hL
  obtain ⟨p, hp⟩ : ∃ p, Bd (pc 23 s = p) := ⟨_, ⟨rfl⟩⟩
  rw [hp.h] at h2 hL ⊢
  generalize keys s = KS at *
  refine PF.enter (xI _) Tryz.func57 rfl (by kernel_rfl) _ _ rfl rfl rfl (fun w0 mu I0 β0 gi dis => ?_)
  (repeat' (first|(apply xW;((exact Want.none_ rfl)))|(apply xF zK;exact rfl;exact rfl)|apply zV|apply AWp.Q|apply zJ|apply AWp.G|apply AWp.J|apply AWp.R|(apply AWp.F;exact rfl;((exact rfl)))|(apply yM;(iterate 6 exact rfl);(iterate 2 (focus (repeat (first|exact VAs.nil|apply VAs.cons|apply VA.c|exact VCs.nil|exact VC.imm (Imm.v _)))));(first|exact h1|exact h2);(focus (repeat (first|exact Flat.v _|exact Flat.ref _ _ _)));(first|apply yX|(apply yZ;(focus (repeat (first|exact trivial|apply And.intro|((assumption)))))));(first|exact xO _ _|exact xP _ _ _ _))))
  (((refine z6 _ [(0, some 0)] (.cons (zT rfl) (.cons (zT rfl) .nil)) ?_ rfl ?_)) <;> (repeat' (first|exact trivial|exact rfl|apply And.intro|refine oWs rfl rfl rfl ?_ ?_|(refine aIm ?_;(assumption)))))
  all_goals exact vG _
section
variable (code : List UInt8) (hl : code.length ≤ 65536) (es : List Ent) (w : List UInt8) (hB : kW es) (hw : w.length ≤ 21)
include hl hB hw
theorem sbL_no (n : Int) (hd : PF Tryz.prog 54 [.c (.sl (code.map vE))] [] (.tup [.agg (wI es), .c (str w), .c (int n)])) (h : qO es w n = false) : PF Tryz.prog 9 [.c (.sl (code.map vE))] [] (.c (boo true)) := by
  have i0 : ∀ obj : AObj, some obj ∈ ([] : List (Option AObj)) → ∀ x ∈ obj.els, ∀ c ∈ x, Imm c := fun _ h => by cases h
  have h1 := rBig_pf code (by omega)
  rw [decide_eq_false (by omega)] at h1
  have hI := sgI_no es w n hB (by omega) h
  have hA := sgS_no es w n hB (by omega) h
  have hP := implPh_pf w (by omega)
  have hQ := specPh_pf w (by omega)
  have hR := rInts_pf [] (by simp)
  obtain ⟨b, hbN⟩ : ∃ b, Bd (phN w = b) := ⟨_, ⟨rfl⟩⟩
  rw [hbN.h] at hP hQ
  generalize decide (b ≠ 0) = bb at hP hQ
  have hbb : ¬ ((b : Int) ≠ (b : Int)) := fun e => e rfl
  refine PF.enter (xI _) Tryz.func9 rfl (by kernel_rfl) _ _ rfl rfl rfl (fun w0 mu I0 β0 gi dis => ?_)
  (repeat' (first|(apply xW;(first|exact Want.none_ rfl|(refine zZ rfl rfl rfl rfl ?_;(first|exact dF ‹_›|exact rfl))))|(apply xF zK;exact rfl;exact rfl)|((first|apply zX|apply yD)<;>(first|exact zK|exact rfl|refine yO ?_|exact lb rfl))|(apply y8;exact rfl;exact rfl;(first|exact dT ‹_›|exact dF ‹_›|exact rfl);exact rfl;exact rfl)|(apply y7;(iterate 5 exact rfl);(first|exact dT ‹_›|exact rfl))|apply zV|apply AWp.Q|apply zJ|apply AWp.G|apply AWp.B|apply AWp.J|apply AWp.R|apply zM|(apply AWp.T;exact rfl;((exact rfl)))|(apply AWp.F;exact rfl;((exact rfl)))|(apply (zY (hd));(iterate 7 exact rfl);(focus (repeat ((exact All2.nil))));exact rfl;(focus (repeat (first|exact MAs.nil|apply MAs.cons|apply MA.c|exact MC.vc (VC.imm (Imm.sl _)))));((assumption));((exact xE));exact rfl;exact rfl)|(apply yM;(iterate 6 exact rfl);(iterate 2 (focus (repeat (first|exact VAs.nil|apply VAs.cons|apply VA.c|apply VA.agg|exact VCs.nil|apply VCs.cons|exact VC.imm (Imm.v _)|exact VC.imm (Imm.sl _)|exact VC.nil))));(first|exact h1|exact hI|exact hA|exact hP|exact hQ|exact hR);(focus (repeat (first|exact trivial|exact Flat.v _|exact Flat.nil|apply And.intro)));((apply yX));(first|exact xO _ _|exact xM _ _ _|exact xB _ _))|(((refine z7 rfl rfl rfl ?_ ?_))<;>intro hp<;>try (exfalso;omega))))
  all_goals first | (exfalso; simp at *; done) | skip
  refine AWp.U (σ := Unit) (fun _ => ⟨[(6, .c .nil), (14, .c (int 0))], [], 0⟩) (fun _ => True) (fun _ => 0) () trivial ?_ ?_
  · refine Weak.of [] rfl ?_ ?_ <;> (repeat' (first|exact trivial|exact rfl|apply And.intro))
  · rintro ⟨⟩ _
    (repeat' (first|(apply xW;((exact Want.none_ rfl)))|(apply xF zK;exact rfl;exact rfl)|apply zV|apply AWp.Q|apply zJ|apply AWp.G|apply AWp.X|apply AWp.R|apply zU|apply zR|(apply AWp.F;exact rfl;((exact rfl)))))
    (((refine z6 _ [] (.cons (zT rfl) .nil) ?_ rfl ?_)) <;> (repeat' (first|exact trivial|exact rfl)))
set_option maxHeartbeats 4000000 in
theorem sbL_yes (n : Nat) (hd : PF Tryz.prog 54 [.c (.sl (code.map vE))] [] (.tup [.agg (wI es), .c (str w), .c (int n)])) (h : qO es w n = true) : PF Tryz.prog 9 [.c (.sl (code.map vE))] [] (.c (boo true)) := by
  have i0 : ∀ obj : AObj, some obj ∈ ([] : List (Option AObj)) → ∀ x ∈ obj.els, ∀ c ∈ x, Imm c := fun _ h => by cases h
  have h1 := rBig_pf code (by omega)
  rw [decide_eq_false (by omega)] at h1
  have hI := sgI_yes es w n hB (by omega) h
  have hA := sgS_yes es w n hB (by omega) h
  have hP := implPh_pf w (by omega)
  have hQ := specPh_pf w (by omega)
  have hb8 := phN_lt w
  have hlen := sug_len es (phN w) n
  have hLL := sugL_len es (phN w) n
  have hok := sugL_ok es (phN w) n
  have hat : Bd (∀ k v, (sug es (phN w) n)[k]? = some v → ∃ x : Nat, v = (x : Int) ∧ 0 < x ∧ x &&& phN w = x ∧ hasE es [v] = false) := ⟨fun k v hk => sug_at hk⟩
  have hlt : Bd (∀ k a b, (sug es (phN w) n)[k]? = some a → (sug es (phN w) n)[k + 1]? = some b → gLt a b) := ⟨fun k a b h1 h2 => sug_lt h1 h2⟩
  rw [qO, Bool.and_eq_true, Bool.and_eq_true] at h
  obtain ⟨hdo, hk, hn⟩ := h
  rw [hk] at hP hQ
  rw [inZ, decide_eq_true_eq] at hn
  rw [decide_eq_true_eq] at hk
  generalize phN w = b at *
  generalize sug es b n = S at *
  generalize sugL es b n = L at *
  have hsS := xJ S
  have hsL := xJ L
  have hLS : (S.map y4).length = S.length := List.length_map _
  have hLLm : (L.map y4).length = L.length := List.length_map _
  have hS50 : S.length ≤ 50 := by omega
  have hR : PF Tryz.prog 23 [.c (.sl (S.map y4)), .c (.sl (((L.map y4).drop 0).take S.length))] [] (.c (boo true)) := by
    have e : ((L.map y4).drop 0).take S.length = S.map y4 := by
      rw [List.drop_zero, ← List.map_take]
      have : L.take S.length = S := by
        by_cases hc : n ≤ L.length
        · rw [show S.length = n by omega]
          exact hok.symm
        · rw [show S.length = L.length by omega, List.take_length, hok, List.take_of_length_le (by omega)]
      rw [this]
    rw [e]
    exact rInts_pf S (by omega)
  clear hok
  have hbb : ¬ ((b : Int) ≠ (b : Int)) := fun e => e rfl
  have hSL : S.length ≤ L.length := by omega
  have hc50 : ¬ (50 : Int) < (S.length : Int) := by omega
  refine PF.enter (xI _) Tryz.func9 rfl (by kernel_rfl) _ _ rfl rfl rfl (fun w0 mu I0 β0 gi dis => ?_)
  (repeat' (first|(apply xW;(first|exact Want.none_ rfl|(refine zZ rfl rfl rfl rfl ?_;(first|exact dF ‹_›|exact rfl))))|(apply xF zK;exact rfl;exact rfl)|((first|apply zX|apply yD)<;>(first|exact zK|exact rfl|refine yO ?_|exact lb rfl))|(apply y8;exact rfl;exact rfl;(first|exact dF ‹_›|exact rfl);exact rfl;exact rfl)|apply zV|apply AWp.Q|apply zJ|apply AWp.G|apply AWp.B|apply AWp.J|(apply AWp.F;exact rfl;(first|exact dF ‹_›|exact rfl))|(apply (zY (hd));(iterate 7 exact rfl);(focus (repeat ((exact All2.nil))));exact rfl;(focus (repeat (first|exact MAs.nil|apply MAs.cons|apply MA.c|exact MC.vc (VC.imm (Imm.sl _)))));((assumption));((exact xE));exact rfl;exact rfl)|(apply yM;(iterate 6 exact rfl);(iterate 2 (focus (repeat (first|exact VAs.nil|apply VAs.cons|apply VA.c|apply VA.agg|exact VCs.nil|apply VCs.cons|exact VC.imm (Imm.v _)|exact VC.imm (Imm.sl _)|(apply zB;exact rfl;exact rfl;((focus (simp;done)));exact rfl;((refine aIm ?_;assumption)))|(apply zC;exact rfl;exact rfl;((focus (simp only [lA,lB,lC,lD,lE];omega)));exact rfl;((refine aIm ?_;assumption)))))));(first|exact h1|exact hI|exact hA|exact hP|exact hQ|exact hR);(focus (repeat (first|exact trivial|exact Flat.v _|exact Flat.ref _ _ _|apply And.intro)));(first|apply yX|(apply yZ;(focus (repeat (first|exact trivial|apply And.intro|((assumption)))))));(first|exact xO _ _|exact xM _ _ _|exact xA _ _ _ _ _))))
  refine AWp.U (σ := Nat) (fun k => ⟨[(3, .c (.ptr 0 0 0)), (6, .c (.ref 1 0 S.length)), (10, .c (int (b : Nat))), (14, .c (int k))], [(0, some ⟨26, 1, [wI es]⟩), (1, some ⟨3, 1, S.map y4⟩)], 2⟩) (fun k => k ≤ S.length) (fun k => S.length - k) 0 (Nat.zero_le _) ?_ ?_
  · refine Weak.of [(0, some 0), (1, some 1)] rfl ?_ ?_ <;> (repeat' (first|exact trivial|exact rfl|apply And.intro|refine ⟨_,rfl,rfl,rfl,OW.one ?_⟩|refine oWs rfl rfl rfl ?_ ?_|(refine aIm ?_;(assumption))))
    all_goals first | exact hsS.imm | skip
  · rintro k hkS
    by_cases hks : k < S.length
    · obtain ⟨v, hv⟩ := xX hks
      obtain ⟨x, rfl, hx0, hxb, hno⟩ := hat.h k v hv
      have hv' : (S.map y4)[k]? = some [int (x : Nat)] := xZ hv
      have hks' : (k : Int) < (S.length : Int) := by omega
      have hxle : x ≤ b := by rw [← hxb]; exact Nat.and_le_right
      have hs1 : AllSc [[int (x : Nat)]] := xJ [(x : Int)]
      have hf : PF Tryz.prog 24 [.agg (wI es), .c (.sl [[int (x : Nat)]])] [] (.tup [.c (boo true), .c (boo true)]) := by
        have hf := freeI_pf es [(x : Int)] hB (by simp)
        have ho : qE [(x : Int)] = true := by
          have : okS (x : Int) = true := by rw [okS, inZ, decide_eq_true_eq]; omega
          simp [qE, inZ, this]
        rw [resFr, frOkB, hdo, ho, hno] at hf
        exact hf
      have hand : Bd (bits .and .i64 (x : Int) (b : Int) = (x : Int)) := ⟨by rw [bAnd (by omega) (by omega), hxb]⟩
      have hsame : ¬ ((x : Int) ≠ (x : Int)) := fun e => e rfl
      have hK2 := keysOfI_pf x hx0 (by omega)
      have hsk2 := qY (keys x)
      have hLk2 := vN (keys x)
      by_cases hk0 : k = 0
      · subst hk0
        have hz : ¬ (0 : Int) < ((0 : Nat) : Int) := by omega
        clear hK2 hsk2 hLk2
        (repeat' (first|(apply xW;(first|exact Want.none_ rfl|(refine zZ rfl rfl rfl rfl ?_;((exact dF ‹_›)))))|(apply xF zK;exact rfl;exact rfl)|((first|apply z8|(apply zW;exact rfl;exact rfl;exact zK;exact rfl;exact rfl)|apply zQ)<;>(first|exact zK|exact Nat.zero_add _|exact rfl|refine yO ?_|assumption))|(apply y8;exact rfl;exact rfl;((exact dF ‹_›));exact rfl;exact rfl)|apply zV|(refine yN ?_ ?_;kernel_rfl)|apply AWp.Q|apply zJ|apply AWp.G|apply AWp.B|apply AWp.J|(refine AWp.D ?_ ?_;kernel_rfl)|(apply AWp.T;exact rfl;((exact dT ‹_›)))|(apply yM;(iterate 6 exact rfl);(iterate 2 (focus (repeat (first|exact VAs.nil|apply VAs.cons|apply VA.c|apply VA.agg|exact VCs.nil|apply VCs.cons|exact VC.imm (Imm.sl _)|(apply zB;exact rfl;exact rfl;((exact rfl));exact rfl;((refine aIm ?_;assumption)))))));((exact hf));(focus (repeat (first|exact trivial|exact Flat.v _|apply And.intro)));((apply yX));((exact xM _ _ _)))))
        refine qB rfl rfl rfl hand.h ?_
        (repeat' (first|(apply xW;(first|exact Want.none_ rfl|(refine zZ rfl rfl rfl rfl ?_;((exact dF ‹_›)))))|(apply xF zK;exact rfl;exact rfl)|((first|apply yF|apply z8|(apply zW;exact rfl;exact rfl;exact zK;exact rfl;exact rfl))<;>(first|exact zK|exact Nat.zero_add _|exact rfl|refine yO ?_|assumption|omega))|(apply y8;exact rfl;exact rfl;((exact dF ‹_›));exact rfl;exact rfl)|apply zV|(refine yN ?_ ?_;kernel_rfl)|apply AWp.Q|apply zJ|apply AWp.G|apply AWp.J|apply zL|(apply AWp.F;exact rfl;((exact dF ‹_›)))))
        refine ⟨1, by omega, by omega, ?_⟩
        refine Weak.of [(0, some 0), (1, some 1)] rfl ?_ ?_ <;> (repeat' (first|exact trivial|exact rfl|apply And.intro|refine ⟨_,rfl,rfl,rfl,OW.one ?_⟩|refine oWs rfl rfl rfl ?_ ?_|(refine aIm ?_;(assumption))))
        all_goals first | exact hsS.imm | skip
      · obtain ⟨u, hu⟩ := xX (show k - 1 < S.length by omega)
        obtain ⟨y, rfl, hy0, hyb, _⟩ := hat.h (k - 1) u hu
        have hg := hlt.h (k - 1) _ _ hu (by rw [show k - 1 + 1 = k by omega]; exact hv)
        have hu' : (S.map y4)[k - 1]? = some [int (y : Nat)] := xZ hu
        have hyle : y ≤ b := by rw [← hyb]; exact Nat.and_le_right
        have hz : (0 : Int) < (k : Int) := by omega
        have hm1 : (k : Int) - 1 = ((k - 1 : Nat) : Int) := by omega
        have hk1 : k - 1 < S.length := by omega
        have hK1 := keysOfI_pf y hy0 (by omega)
        have hsk1 := qY (keys y)
        have hLk1 := vN (keys y)
        rw [qU] at hLk1 hLk2
        obtain ⟨x2, y2, ex, ey, hg⟩ := hg
        have e1 : y = x2 := by omega
        have e2 : x = y2 := by omega
        subst e1 e2
        obtain ⟨px, hpx⟩ : ∃ p, Bd (pc 23 x = p) := ⟨_, ⟨rfl⟩⟩
        obtain ⟨py, hpy⟩ : ∃ p, Bd (pc 23 y = p) := ⟨_, ⟨rfl⟩⟩
        rw [hpx.h] at hK2 hLk2 hg
        rw [hpy.h] at hK1 hLk1 hg
        generalize keys x = KX at *
        generalize keys y = KY at *
        rcases hg with hg | ⟨hg, hlt2⟩
        · have q1 : ¬ ((py : Nat) : Int) < ((px : Nat) : Int) := by omega
          have q2 : ¬ ((py : Nat) : Int) = ((px : Nat) : Int) := by omega
          (repeat' (first|(apply xW;(first|exact Want.none_ rfl|(refine zZ rfl rfl rfl rfl ?_;((exact rfl)))))|(apply xF zK;exact rfl;exact rfl)|((first|apply z8|(apply zW;exact rfl;exact rfl;exact zK;exact rfl;exact rfl)|apply zQ)<;>(first|exact zK|exact Nat.zero_add _|exact rfl|refine yO ?_|assumption))|(apply y8;exact rfl;exact rfl;((exact rfl));exact rfl;exact rfl)|apply zV|(refine yN ?_ ?_;kernel_rfl)|apply AWp.Q|apply zJ|apply AWp.G|apply AWp.B|apply AWp.J|(refine AWp.D ?_ ?_;kernel_rfl)|(apply AWp.T;exact rfl;((exact dT ‹_›)))|(apply yM;(iterate 6 exact rfl);(iterate 2 (focus (repeat (first|exact VAs.nil|apply VAs.cons|apply VA.c|apply VA.agg|exact VCs.nil|apply VCs.cons|exact VC.imm (Imm.sl _)|(apply zB;exact rfl;exact rfl;((exact rfl));exact rfl;((refine aIm ?_;assumption)))))));((exact hf));(focus (repeat (first|exact trivial|exact Flat.v _|apply And.intro)));((apply yX));((exact xM _ _ _)))))
          refine qB rfl rfl rfl hand.h ?_
          (repeat' (first|(apply xW;(first|exact Want.none_ rfl|(refine zZ rfl rfl rfl rfl ?_;(first|exact dF ‹_›|exact rfl))))|(apply xF zK;exact rfl;exact rfl)|((first|apply yF|apply yW|apply z8|(apply zW;exact rfl;exact rfl;exact zK;exact rfl;exact rfl))<;>(first|exact zK|exact Nat.zero_add _|exact rfl|refine yO ?_|assumption|omega))|(apply y8;exact rfl;exact rfl;(first|exact dF ‹_›|exact rfl);exact rfl;exact rfl)|(apply y7;(iterate 5 exact rfl);((exact dF ‹_›)))|apply zV|(refine yN ?_ ?_;kernel_rfl)|apply AWp.Q|apply zJ|apply AWp.G|apply AWp.J|apply zL|(refine AWp.D ?_ ?_;kernel_rfl)|(apply AWp.T;exact rfl;((exact dT ‹_›)))|(apply AWp.F;exact rfl;(first|exact dF ‹_›|exact rfl))|(apply yM;(iterate 6 exact rfl);(iterate 2 (focus (repeat (first|exact VAs.nil|apply VAs.cons|apply VA.c|exact VCs.nil|exact VC.imm (Imm.v _)))));(first|exact hK1|exact hK2);(focus (repeat (first|exact trivial|exact Flat.v _|exact Flat.ref _ _ _|apply And.intro)));((apply yZ;(focus (repeat (first|exact trivial|apply And.intro|((assumption)))))));((exact xA _ _ _ _ _)))))
          refine ⟨k + 1, by omega, by omega, ?_⟩
          refine Weak.of [(0, some 0), (1, some 1)] rfl ?_ ?_ <;> (repeat' (first|exact trivial|exact rfl|apply And.intro|refine ⟨_,rfl,rfl,rfl,OW.one ?_⟩|refine oWs rfl rfl rfl ?_ ?_|(refine aIm ?_;(assumption))))
          all_goals first | exact hsS.imm | skip
        · subst hg
          have q1 : ¬ ((px : Nat) : Int) < ((px : Nat) : Int) := by omega
          have q2 : ((px : Nat) : Int) = ((px : Nat) : Int) := rfl
          have q3 : ¬ (x : Int) ≤ (y : Int) := by omega
          (repeat' (first|(apply xW;(first|exact Want.none_ rfl|(refine zZ rfl rfl rfl rfl ?_;((exact rfl)))))|(apply xF zK;exact rfl;exact rfl)|((first|apply z8|(apply zW;exact rfl;exact rfl;exact zK;exact rfl;exact rfl)|apply zQ)<;>(first|exact zK|exact Nat.zero_add _|exact rfl|refine yO ?_|assumption))|(apply y8;exact rfl;exact rfl;((exact rfl));exact rfl;exact rfl)|apply zV|(refine yN ?_ ?_;kernel_rfl)|apply AWp.Q|apply zJ|apply AWp.G|apply AWp.B|apply AWp.J|(refine AWp.D ?_ ?_;kernel_rfl)|(apply AWp.T;exact rfl;((exact dT ‹_›)))|(apply yM;(iterate 6 exact rfl);(iterate 2 (focus (repeat (first|exact VAs.nil|apply VAs.cons|apply VA.c|apply VA.agg|exact VCs.nil|apply VCs.cons|exact VC.imm (Imm.sl _)|(apply zB;exact rfl;exact rfl;((exact rfl));exact rfl;((refine aIm ?_;assumption)))))));((exact hf));(focus (repeat (first|exact trivial|exact Flat.v _|apply And.intro)));((apply yX));((exact xM _ _ _)))))
          refine qB rfl rfl rfl hand.h ?_
          (repeat' (first|(apply xW;(first|exact Want.none_ rfl|(refine zZ rfl rfl rfl rfl ?_;(first|exact dT ‹_›|exact dF ‹_›|exact rfl))))|(apply xF zK;exact rfl;exact rfl)|((first|apply yF|apply yW|apply z8|(apply zW;exact rfl;exact rfl;exact zK;exact rfl;exact rfl))<;>(first|exact zK|exact Nat.zero_add _|exact rfl|refine yO ?_|assumption|omega))|(apply y8;exact rfl;exact rfl;(first|exact dT ‹_›|exact dF ‹_›|exact rfl);exact rfl;exact rfl)|apply zV|(refine yN ?_ ?_;kernel_rfl)|apply AWp.Q|apply zJ|apply AWp.G|apply AWp.J|apply zL|(refine AWp.D ?_ ?_;kernel_rfl)|(apply AWp.T;exact rfl;((exact dT ‹_›)))|(apply AWp.F;exact rfl;((exact dF ‹_›)))|(apply yM;(iterate 6 exact rfl);(iterate 2 (focus (repeat (first|exact VAs.nil|apply VAs.cons|apply VA.c|exact VCs.nil|exact VC.imm (Imm.v _)))));(first|exact hK1|exact hK2);(focus (repeat (first|exact trivial|exact Flat.v _|exact Flat.ref _ _ _|apply And.intro)));((apply yZ;(focus (repeat (first|exact trivial|apply And.intro|((assumption)))))));((exact xA _ _ _ _ _)))))
          refine ⟨k + 1, by omega, by omega, ?_⟩
          refine Weak.of [(0, some 0), (1, some 1)] rfl ?_ ?_ <;> (repeat' (first|exact trivial|exact rfl|apply And.intro|refine ⟨_,rfl,rfl,rfl,OW.one ?_⟩|refine oWs rfl rfl rfl ?_ ?_|(refine aIm ?_;(assumption))))
          all_goals first | exact hsS.imm | skip
    · have hks' : ¬ (k : Int) < (S.length : Int) := by omega
      (repeat' (first|(apply xW;((exact Want.none_ rfl)))|(apply xF zK;exact rfl;exact rfl)|apply zV|apply AWp.Q|apply zJ|apply AWp.G|apply AWp.X|apply AWp.R|apply zU|apply zR|(apply AWp.F;exact rfl;((exact dF ‹_›)))))
      (((refine z6 _ [] (.cons (zT rfl) .nil) ?_ rfl ?_)) <;> (repeat' (first|exact trivial|exact rfl)))
end
theorem lawBriefFree_pf (code : List UInt8) (hc : code.length ≤ 9223372036854775807) : PF Tryz.prog 9 [.c (.sl (code.map vE))] [] (.c (boo true)) := by
  by_cases hbg : 65536 < code.length
  · have h1 := rBig_pf code hc
    rw [decide_eq_true (by omega)] at h1
    refine PF.enter (xI _) Tryz.func9 rfl (by kernel_rfl) _ _ rfl rfl rfl (fun w0 mu I0 β0 gi dis => ?_)
    (repeat' (first|(apply xW;((exact Want.none_ rfl)))|(apply xF zK;exact rfl;exact rfl)|apply zV|apply AWp.Q|apply zJ|apply AWp.G|apply AWp.R|apply zM|(apply AWp.T;exact rfl;((exact rfl)))|(apply yM;(iterate 6 exact rfl);(iterate 2 (focus (repeat (first|exact VAs.nil|apply VAs.cons|apply VA.c|exact VCs.nil|exact VC.imm (Imm.sl _)))));((exact h1));(focus (repeat ((exact Flat.v _))));((apply yX));((exact xO _ _)))))
    (((refine z6 _ [] (.cons (zT rfl) .nil) ?_ rfl ?_)) <;> (repeat' (first|exact trivial|exact rfl)))
  · have hl : code.length ≤ 65536 := by omega
    obtain ⟨es, w, n, hB, hw, hd⟩ := drawSb_ex code hl
    cases h : qO es w n with
    | false => exact sbL_no code hl es w hB hw n hd h
    | true =>
      have h' := h
      rw [qO, Bool.and_eq_true, Bool.and_eq_true, inZ, decide_eq_true_eq, decide_eq_true_eq] at h'
      obtain ⟨q, rfl⟩ : ∃ q : Nat, n = (q : Int) := ⟨n.toNat, by omega⟩
      exact sbL_yes code hl es w hB hw q hd h
end Go.Proofs.YtchpdclknbmdoaaGreatDoor
