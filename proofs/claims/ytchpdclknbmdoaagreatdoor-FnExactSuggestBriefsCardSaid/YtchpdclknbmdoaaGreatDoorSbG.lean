/- SuggestBriefs of the program at valid arguments. -/
import Derived.Test.YtchpdclknbmdoaaGreatDoorSbC
namespace Go.Proofs.YtchpdclknbmdoaaGreatDoor
open Go Go.RowKit
set_option maxHeartbeats 4000000 in
theorem sgI_yes (es : List Ent) (w : List UInt8) (n : Nat) (hb : qQ es) (hw : w.length ≤ 1048576) (h : qR es w n = true) : PF Tryz.prog 50 [.agg (vE es), .c (str w), .c (int n)] [⟨3, 1, (sug es (phN w) n).map yQ⟩] (.tup [.c (.ref 0 0 (sug es (phN w) n).length), .c (boo true)]) := by
  have h1 := implGood_pf es hb
  have h2 := implPh_pf w hw
  have h3 := isFew_pf n
  have hlt8 := phN_lt w
  rw [qR, Bool.and_eq_true, Bool.and_eq_true] at h
  obtain ⟨hd, hk, hn⟩ := h
  rw [hd] at h1
  rw [hk] at h2
  rw [hn] at h3
  rw [decide_eq_true_eq] at hk
  rw [inZ, decide_eq_true_eq] at hn
  generalize phN w = b at *
  have h4 := keysOf_pf b hlt8
  have hkp : (keys b).length = szK b := keys_pc b
  have hL := vU (keys b)
  have hsk := nEl_sc (keys b)
  have hK := kY b
  have hpK := pow23 hK
  obtain ⟨K, hKK⟩ : ∃ K, Bd (szK b = K) := ⟨_, ⟨rfl⟩⟩
  rw [hKK.h] at hkp hK hpK
  rw [hkp] at h4
  have hspr : ∀ x : Nat, x < 4294967296 → PF Tryz.prog 113 [.c (.sl (nEl (keys b))), .c (int (x : Nat))] [] (.c (int (dep 23 b x : Nat))) := fun x hx => spread_pf b x hx
  generalize keys b = KS at *
  refine PF.enter (qS _ _ _) Tryz.func50 rfl (by kernel_rfl) _ _ rfl rfl rfl (fun w0 mu I0 β0 gi dis => ?_)
  (repeat' (first|(apply xW;(first|exact Want.none_ rfl|(refine zW rfl rfl rfl rfl ?_;((exact rfl)))))|(apply xF zI;exact rfl;exact rfl)|(((apply zS))<;>(first|exact zI|exact rfl|refine yH ?_))|(apply yX;exact rfl;exact rfl;((exact rfl));exact rfl;exact rfl)|apply zQ|apply AWp.Q|apply zG|apply AWp.G|apply AWp.B|apply AWp.J|(apply AWp.F;exact rfl;((exact rfl)))|(apply yC;(iterate 6 exact rfl);(iterate 2 (focus (repeat (first|exact VAs.nil|apply VAs.cons|apply VA.c|apply VA.agg|exact VCs.nil|apply VCs.cons|exact VC.imm (Imm.v _)|exact VC.imm (Imm.sl _)))));(first|exact h2|exact h1|exact h3|exact h4);(focus (repeat (first|exact trivial|exact Flat.v _|exact Flat.ref _ _ _|apply And.intro)));(first|apply yJ|(apply yK;(focus (repeat (first|exact trivial|apply And.intro|((assumption)))))));(first|exact xD _ _|exact xB _ _ _|exact xE _ _ _ _))))
  refine AWp.U (σ := Nat × List Int) (fun q => ⟨[(2, .c (int n)), (3, .c (.ptr 0 0 0)), (10, .c (.ref 1 0 K)), (11, .c (.ref 2 0 q.2.length)), (12, .c (int ((K - q.1 : Nat) : Int)))], [(0, some ⟨26, 1, [vE es]⟩), (1, some ⟨3, 1, nEl KS⟩), (2, some ⟨3, 1, q.2.map yQ⟩)], 3⟩) (fun q => q.1 ≤ K ∧ q.2 = (allG es b q.1).take n) (fun q => K - q.1) (0, []) ⟨Nat.zero_le _, (List.take_nil).symm⟩ ?_ ?_
  · refine Weak.of [(0, some 0), (1, some 1), (2, some 2)] rfl ?_ ?_ <;> (repeat' (first|exact trivial|exact rfl|apply And.intro|refine ⟨_,rfl,rfl,rfl,OW.one ?_⟩|refine oWs rfl rfl rfl ?_ ?_|(refine aIm ?_;first|exact AllSc.nil|assumption)))
    all_goals first | exact wV _ | skip
  · rintro ⟨j, out⟩ ⟨hj, hout⟩
    dsimp only at hj hout ⊢
    have hsc := wP out
    have hol : out.length ≤ n := by rw [hout, List.length_take]; omega
    by_cases hlt : j < K
    · have hge : (1 : Int) ≤ ((K - j : Nat) : Int) := by omega
      have hgf := got_first es n (show j < szK b by rw [hKK.h]; exact hlt)
      rw [hKK.h, ← hout] at hgf
      have hp1 := xI (K - j)
      have hp2 : 2 ^ (K - j) ≤ 2 ^ K := Nat.pow_le_pow_right (by omega) (by omega)
      have hmj : K - j < 62 := by omega
      have hmK : K < 62 := by omega
      have hpp := pow2 (K - j - 1)
      have hpq := xI (K - j - 1)
      rw [show K - j - 1 + 1 = K - j by omega] at hpp
      have hx1 : ((2 ^ (K - j) : Nat) : Int) - 1 = ((2 ^ (K - j) - 1 : Nat) : Int) := by omega
      have hones : Bd (pc 24 (2 ^ (K - j) - 1) = K - j) := ⟨by
        have := pc_ones (K - j) (24 - (K - j))
        rwa [show K - j + (24 - (K - j)) = 24 by omega] at this⟩
      (repeat' (first|(apply xW;((exact Want.none_ rfl)))|(apply xF zI;exact rfl;exact rfl)|(((apply y6))<;>(first|exact rfl|refine yH ?_|omega))|apply zQ|apply AWp.Q|apply zG|apply AWp.G|apply AWp.B|apply AWp.J|(apply AWp.T;exact rfl;((exact dT ‹_›)))|(((apply wJ;exact rfl;exact rfl;exact rfl;((exact rfl))))<;>(first|refine yH ?_|(refine Bd.mk ?_;(assumption))))))
      refine AWp.U (σ := Nat × List Int) (fun q => ⟨[(2, .c (int n)), (3, .c (.ptr 0 0 0)), (10, .c (.ref 1 0 K)), (11, .c (.ref 2 0 q.2.length)), (12, .c (int ((K - j : Nat) : Int))), (13, .c (int (q.1 : Nat)))], [(0, some ⟨26, 1, [vE es]⟩), (1, some ⟨3, 1, nEl KS⟩), (2, some ⟨3, 1, q.2.map yQ⟩)], 3⟩) (fun q => 0 < q.1 ∧ q.1 < 16777216 ∧ Bd (pc 24 q.1 = K - j) ∧ q.2 = got es b j n q.1) (fun q => 16777216 - q.1) (2 ^ (K - j) - 1, out) ⟨by dsimp only; omega, by dsimp only; omega, hones, hgf.symm⟩ ?_ ?_
      · refine Weak.of [(0, some 0), (1, some 1), (2, some 2)] rfl ?_ ?_ <;> (repeat' (first|exact trivial|exact rfl|apply And.intro|(apply cgI;(omega))|refine ⟨_,rfl,rfl,rfl,OW.one ?_⟩|refine oWs rfl rfl rfl ?_ ?_|(refine aIm ?_;(assumption))))
        all_goals first | exact wV _ | exact hsc.imm | (congr 2; omega) | skip
      · rintro ⟨x, o2⟩ ⟨hx0, hx24, hpx, ho2⟩
        dsimp only at hx0 hx24 hpx ho2 ⊢
        have hsc2 := wP o2
        have hLo : (o2.map yQ).length = o2.length := List.length_map _
        have ho2n : o2.length ≤ n := by rw [ho2, got, List.length_take]; omega
        by_cases hx : x < 2 ^ K
        · have hx' : (x : Int) < ((2 ^ K : Nat) : Int) := by omega
          by_cases hl : o2.length < n
          · have hl' : (o2.length : Int) < (n : Int) := by omega
            obtain ⟨t, y, ht, hlow, hor, hsum, hxy, hy24, hpy, hz⟩ := nextX hx0 (by omega)
            have hpy' : Bd (pc 24 y = K - j) := ⟨hpy.trans hpx.h⟩
            have hst := got_step (es := es) (by rw [hKK.h]; exact hx) hxy (by rw [hKK.h]; exact hpx.h) hz (by rw [← ho2]; exact hl)
            rw [← ho2] at hst
            clear hz hpy
            have hs := hspr x (by omega)
            have hnb := neg_bits hx0 (by omega) hlow ht
            have htz := tz_pf t (by omega)
            have hpt := pow2_le (show t ≤ 23 by omega)
            have hpt1 := xI t
            have hwt : IntKind.u64.wrap ((2 ^ t : Nat) : Int) = ((2 ^ t : Nat) : Int) := by
              show ((2 ^ t : Nat) : Int) % 18446744073709551616 = _
              omega
            rw [← hwt] at htz
            have hxr : (x ^^^ (x + 2 ^ t)) < 4611686018427387904 := Nat.xor_lt_two_pow (n := 62) (by omega) (by omega)
            have hxd := Nat.div_le_self (x ^^^ (x + 2 ^ t)) (2 ^ (t + 2))
            have hcast : (x : Int) + ((2 ^ t : Nat) : Int) = ((x + 2 ^ t : Nat) : Int) := by omega
            have hxv : bits .xor .i64 (x : Int) ((x : Int) + ((2 ^ t : Nat) : Int)) = ((x ^^^ (x + 2 ^ t) : Nat) : Int) := by
              rw [hcast]; exact bXor (by omega) (by omega)
            have hov : bits .or .i64 ((x : Int) + ((2 ^ t : Nat) : Int)) (((x ^^^ (x + 2 ^ t)) / 2 ^ (t + 2) : Nat) : Int) = ((y : Nat) : Int) := by
              rw [hcast, bOr (by omega) (by omega), hor]
            have htc : (t : Int) + 2 = ((t + 2 : Nat) : Int) := by omega
            have ht2 : t + 2 < 62 := by omega
            have hf : PF Tryz.prog 81 [.agg (vE es), .c (.sl [[int (dep 23 b x : Nat)]])] [] (.c (int (atE es [sbN b x]))) := find_pf es [sbN b x] hb (by simp)
            have hs1 : AllSc [[int (dep 23 b x : Nat)]] := wP [sbN b x]
            cases he : hasE es [sbN b x] with
            | true =>
              rw [show atE es [sbN b x] = ((idxE es [sbN b x] : Nat) : Int) by rw [atE, he]; rfl] at hf
              rw [if_neg (by rw [wY, he]; simp), List.append_nil] at hst
              (repeat' (first|(apply xW;(first|exact Want.none_ rfl|(refine zW rfl rfl rfl rfl ?_;((exact dT ‹_›)))))|(apply xF zI;exact rfl;exact rfl)|((first|apply vJ|apply zS)<;>(first|exact zI|exact rfl|refine yH ?_|omega))|(apply yX;exact rfl;exact rfl;((exact dT ‹_›));exact rfl;exact rfl)|apply zQ|apply AWp.Q|apply zG|apply AWp.G|apply AWp.B|apply AWp.J|(apply AWp.T;exact rfl;((exact dT ‹_›)))|(apply AWp.F;exact rfl;((exact rfl)))|(apply yC;(iterate 6 exact rfl);(iterate 2 (focus (repeat (first|exact VAs.nil|apply VAs.cons|apply VA.c|apply VA.agg|exact VCs.nil|apply VCs.cons|exact VC.imm (Imm.v _)|exact VC.imm (Imm.sl _)|(apply zA;exact rfl;exact rfl;(first|exact rfl|(focus (simp only [lA,lB,lC,lD,lE];omega)));exact rfl;((refine aIm ?_;assumption)))))));(first|exact hs|exact hf);(focus (repeat ((exact Flat.v _))));((apply yJ));((exact xD _ _)))|(((apply wJ;exact rfl;exact rfl;exact rfl;((exact rfl))))<;>(first|refine yH ?_|(refine Bd.mk ?_;(assumption))))))
              refine qO rfl rfl rfl hnb ?_
              (repeat' (first|(apply xW;((exact Want.none_ rfl)))|(apply xF zI;exact rfl;exact rfl)|(((apply yE))<;>(first|exact rfl|refine yH ?_|omega))|apply zQ|apply AWp.Q|apply zG|apply AWp.G|apply zH|(apply yC;(iterate 6 exact rfl);(iterate 2 (focus (repeat (first|exact VAs.nil|apply VAs.cons|apply VA.c|exact VCs.nil|exact VC.imm (Imm.v _)))));((exact htz));(focus (repeat ((exact Flat.v _))));((apply yJ));((exact xD _ _)))|((first|(apply vD;exact rfl;exact rfl;exact rfl)|(apply wK;exact rfl;exact rfl;exact rfl)|(apply wM;exact rfl;exact rfl;exact rfl;((assumption))))<;>(first|refine yH ?_|(refine Bd.mk ?_;first|assumption|omega)))))
              refine ⟨(y, o2), ⟨by dsimp only; omega, hy24, hpy', hst.symm⟩, by dsimp only; omega, ?_⟩
              dsimp only
              refine Weak.of [(0, some 0), (1, some 1), (2, some 2)] rfl ?_ ?_ <;> (repeat' (first|exact trivial|exact rfl|apply And.intro|(apply cgI;(omega))|refine ⟨_,rfl,rfl,rfl,OW.one ?_⟩|refine oWs rfl rfl rfl ?_ ?_|(refine aIm ?_;(assumption))))
              all_goals first | exact wV _ | exact hsc2.imm | skip
            | false =>
              rw [show atE es [sbN b x] = -1 by rw [atE, he]; rfl] at hf
              rw [if_pos (by rw [wY, he]; rfl)] at hst
              (repeat' (first|(apply xW;(first|exact Want.none_ rfl|(refine zW rfl rfl rfl rfl ?_;((exact dT ‹_›)))))|(apply xF zI;exact rfl;exact rfl)|((first|apply vJ|apply zS|(apply yO;exact rfl;exact rfl))<;>(first|exact zI|exact rfl|refine yH ?_|omega|(refine Bd.mk ?_;first|(focus (simp;done))|(simp;omega))))|(apply yX;exact rfl;exact rfl;((exact dT ‹_›));exact rfl;exact rfl)|apply zQ|apply AWp.Q|apply zG|apply AWp.G|apply AWp.B|apply AWp.J|(apply AWp.T;exact rfl;(first|exact dT ‹_›|exact rfl))|(apply yC;(iterate 6 exact rfl);(iterate 2 (focus (repeat (first|exact VAs.nil|apply VAs.cons|apply VA.c|apply VA.agg|exact VCs.nil|apply VCs.cons|exact VC.imm (Imm.v _)|exact VC.imm (Imm.sl _)|(apply zA;exact rfl;exact rfl;(first|exact rfl|(focus (simp only [lA,lB,lC,lD,lE];omega)));exact rfl;((refine aIm ?_;assumption)))))));(first|exact hs|exact hf);(focus (repeat ((exact Flat.v _))));((apply yJ));((exact xD _ _)))|(((apply wJ;exact rfl;exact rfl;exact rfl;((exact rfl))))<;>(first|refine yH ?_|(refine Bd.mk ?_;(assumption))))))
              refine qO rfl rfl rfl hnb ?_
              (repeat' (first|(apply xW;((exact Want.none_ rfl)))|(apply xF zI;exact rfl;exact rfl)|(((apply yE))<;>(first|exact rfl|refine yH ?_|omega))|apply zQ|apply AWp.Q|apply zG|apply AWp.G|apply zH|(apply yC;(iterate 6 exact rfl);(iterate 2 (focus (repeat (first|exact VAs.nil|apply VAs.cons|apply VA.c|exact VCs.nil|exact VC.imm (Imm.v _)))));((exact htz));(focus (repeat ((exact Flat.v _))));((apply yJ));((exact xD _ _)))|((first|(apply vD;exact rfl;exact rfl;exact rfl)|(apply wK;exact rfl;exact rfl;exact rfl)|(apply wM;exact rfl;exact rfl;exact rfl;((assumption))))<;>(first|refine yH ?_|(refine Bd.mk ?_;first|assumption|omega)))))
              refine ⟨(y, o2 ++ [sbN b x]), ⟨by dsimp only; omega, hy24, hpy', hst.symm⟩, by dsimp only; omega, ?_⟩
              dsimp only
              rw [ints_snoc]
              refine Weak.of [(0, some 0), (1, some 1), (2, some 5)] rfl ?_ ?_ <;> (repeat' (first|exact trivial|exact rfl|apply And.intro|(apply cgI;(omega))|(refine yA ?_;(focus (simp;done)))|refine ⟨_,rfl,rfl,rfl,OW.one ?_⟩|refine oWs rfl rfl rfl ?_ ?_|(refine aIm ?_;(assumption))))
              all_goals first | exact wV _ | (rw [← ints_snoc]; exact (wP _).imm) | (simp; done) | skip
          · have hl' : ¬ (o2.length : Int) < (n : Int) := by omega
            have hgl := got_last (es := es) (.inr (by rw [← ho2]; exact hl))
            rw [← ho2] at hgl
            (repeat' (first|(apply xW;(first|exact Want.none_ rfl|(refine zW rfl rfl rfl rfl ?_;((exact dT ‹_›)))))|(apply xF zI;exact rfl;exact rfl)|(((apply y6))<;>(first|exact rfl|refine yH ?_|omega))|(apply yX;exact rfl;exact rfl;((exact dT ‹_›));exact rfl;exact rfl)|apply zQ|apply AWp.Q|apply zG|apply AWp.G|apply AWp.X|apply zN|apply zH|apply zL|(apply AWp.F;exact rfl;((exact dF ‹_›)))|(((apply wJ;exact rfl;exact rfl;exact rfl;((exact rfl))))<;>(first|refine yH ?_|(refine Bd.mk ?_;(assumption))))))
            refine ⟨(j + 1, o2), ⟨by dsimp only; omega, hgl⟩, by dsimp only; omega, ?_⟩
            dsimp only
            refine Weak.of [(0, some 0), (1, some 1), (2, some 2)] rfl ?_ ?_ <;> (repeat' (first|exact trivial|exact rfl|apply And.intro|(apply cgI;(omega))|refine ⟨_,rfl,rfl,rfl,OW.one ?_⟩|refine oWs rfl rfl rfl ?_ ?_|(refine aIm ?_;(assumption))))
            all_goals first | exact wV _ | exact hsc2.imm | (congr 2; omega) | skip
        · have hx' : ¬ (x : Int) < ((2 ^ K : Nat) : Int) := by omega
          have hgl := got_last (es := es) (n := n) (j := j) (.inl (by rw [hKK.h]; exact hx))
          rw [← ho2] at hgl
          (repeat' (first|(apply xW;((exact Want.none_ rfl)))|(apply xF zI;exact rfl;exact rfl)|(((apply y6))<;>(first|exact rfl|refine yH ?_|omega))|(apply yX;exact rfl;exact rfl;((exact dF ‹_›));exact rfl;exact rfl)|(apply yY;(iterate 5 exact rfl);((exact dF ‹_›)))|apply zQ|apply AWp.Q|apply zG|apply AWp.G|apply AWp.X|apply zN|apply zH|apply zL|(apply AWp.F;exact rfl;((exact rfl)))|(((apply wJ;exact rfl;exact rfl;exact rfl;((exact rfl))))<;>(first|refine yH ?_|(refine Bd.mk ?_;(assumption))))))
          refine ⟨(j + 1, o2), ⟨by dsimp only; omega, hgl⟩, by dsimp only; omega, ?_⟩
          dsimp only
          refine Weak.of [(0, some 0), (1, some 1), (2, some 2)] rfl ?_ ?_ <;> (repeat' (first|exact trivial|exact rfl|apply And.intro|(apply cgI;(omega))|refine ⟨_,rfl,rfl,rfl,OW.one ?_⟩|refine oWs rfl rfl rfl ?_ ?_|(refine aIm ?_;(assumption))))
          all_goals first | exact wV _ | exact hsc2.imm | (congr 2; omega) | skip
    · have hge : ¬ (1 : Int) ≤ ((K - j : Nat) : Int) := by omega
      obtain rfl : j = K := by omega
      have hse : sug es b n = out := by rw [sug, hKK.h]; exact hout.symm
      rw [hse]
      (repeat' (first|(apply xW;((exact Want.none_ rfl)))|(apply xF zI;exact rfl;exact rfl)|apply zQ|apply AWp.Q|apply zG|apply AWp.G|apply AWp.X|apply AWp.R|apply zN|apply zL|(apply AWp.F;exact rfl;((exact dF ‹_›)))))
      (((refine zX _ [(0, some 2)] (.cons (zP rfl) (.cons (zP rfl) .nil)) ?_ rfl ?_)) <;> (repeat' (first|exact trivial|exact rfl|apply And.intro|refine oWs rfl rfl rfl ?_ ?_|(refine aIm ?_;(assumption)))))
      all_goals exact hsc.imm
end Go.Proofs.YtchpdclknbmdoaaGreatDoor
