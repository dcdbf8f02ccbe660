/- SuggestBriefs of the reference at valid arguments. -/
import Derived.Test.YtchpdclknbmdoaaGreatDoorSbD
namespace Go.Proofs.YtchpdclknbmdoaaGreatDoor
open Go Go.RowKit
set_option maxHeartbeats 8000000 in
theorem sgS_yes (es : List Ent) (w : List UInt8) (n : Nat) (hb : qQ es) (hw : w.length ≤ 1048576) (h : qR es w n = true) : PF Tryz.prog 49 [.agg (vE es), .c (str w), .c (int n)] [⟨3, 1, (sugL es (phN w) n).map yQ⟩] (.tup [.c (.ref 0 0 (sug es (phN w) n).length), .c (boo true)]) := by
  have h1 := l6Good_pf es hb
  have h2 := specPh_pf w hw
  have h3 := v8 n 0 50
  have hlt8 := phN_lt w
  rw [qR, Bool.and_eq_true, Bool.and_eq_true] at h
  obtain ⟨hd, hk, hn⟩ := h
  rw [hd] at h1
  rw [hk] at h2
  rw [hn] at h3
  rw [decide_eq_true_eq] at hk
  rw [inZ, decide_eq_true_eq] at hn
  generalize phN w = b at *
  have h4 := l2Keys_pf b hlt8
  have hK := kY b
  have hpK := pow23 hK
  have hfull : dep 23 b (2 ^ szK b - 1) = b := dep_full 23 b (by have : (2 : Nat) ^ 23 = 8388608 := by decide
                                                                 omega)
  have hp1 := xI (szK b)
  have hsk := nEl_sc (keys b)
  have hLk := vU (keys b)
  have hkp : (keys b).length = szK b := keys_pc b
  rw [hkp] at h4 hLk
  have hsug := sug_len es b n
  have hsL := sugL_len es b n
  obtain ⟨K, hKK⟩ : ∃ K, Bd (szK b = K) := ⟨_, ⟨rfl⟩⟩
  rw [hKK.h] at h4 hK hpK hfull hp1 hkp hLk
  have hJ0 : Bd (sugL es b n = allG es b (vP es b n K 0)) := ⟨by rw [sugL, hKK.h]⟩
  generalize keys b = KS at *
  obtain ⟨SL, hSL⟩ : ∃ SL, Bd ((sug es b n).length = SL) := ⟨_, ⟨rfl⟩⟩
  rw [hSL.h] at hsug ⊢
  have hsugB : Bd (SL = min n (sugL es b n).length) := ⟨hsug⟩
  have hsLB : Bd ((sugL es b n).length ≤ 200000000) := ⟨hsL⟩
  clear hsug hsL
  refine PF.enter (qS _ _ _) Tryz.func49 rfl (by kernel_rfl) _ _ rfl rfl rfl (fun w0 mu I0 β0 gi dis => ?_)
  (repeat' (first|(apply xW;(first|exact Want.none_ rfl|(refine zW rfl rfl rfl rfl ?_;((exact rfl)))))|(apply xF zI;exact rfl;exact rfl)|(((apply zS))<;>(first|exact zI|exact rfl|refine yH ?_))|(apply yX;exact rfl;exact rfl;((exact rfl));exact rfl;exact rfl)|apply zQ|apply AWp.Q|apply zG|apply AWp.G|apply AWp.B|apply AWp.J|(apply AWp.F;exact rfl;((exact rfl)))|(apply yC;(iterate 6 exact rfl);(iterate 2 (focus (repeat (first|exact VAs.nil|apply VAs.cons|apply VA.c|apply VA.agg|exact VCs.nil|apply VCs.cons|exact VC.imm (Imm.v _)|exact VC.imm (Imm.sl _)))));(first|exact h2|exact h1|exact h3|exact h4);(focus (repeat (first|exact trivial|exact Flat.v _|exact Flat.ref _ _ _|apply And.intro)));(first|apply yJ|(apply yK;(focus (repeat (first|exact trivial|apply And.intro|((assumption)))))));(first|exact xD _ _|exact xB _ _ _|exact xE _ _ _ _))))
  refine AWp.U (σ := Nat) (fun j => ⟨[(2, .c (int n)), (3, .c (.ptr 0 0 0)), (8, .c (int (b : Nat))), (10, .c (.ref 1 0 (allG es b j).length)), (11, .c (int ((K - j : Nat) : Int)))], [(0, some ⟨26, 1, [vE es]⟩), (1, some ⟨3, 1, (allG es b j).map yQ⟩)], 2⟩) (fun j => j ≤ K ∧ Bd (vP es b n (K - j) j = vP es b n K 0)) (fun j => K - j) 0 ⟨Nat.zero_le _, ⟨rfl⟩⟩ ?_ ?_
  · refine Weak.of [(0, some 0), (1, some 1)] rfl ?_ ?_ <;> (repeat' (first|exact trivial|exact rfl|apply And.intro|refine ⟨_,rfl,rfl,rfl,OW.one ?_⟩|refine oWs rfl rfl rfl ?_ ?_|(refine aIm ?_;(exact AllSc.nil))))
  · rintro j ⟨hj, hJ⟩
    have hsc := wP (allG es b j)
    have hLo : ((allG es b j).map yQ).length = (allG es b j).length := List.length_map _
    have hal := allG_len es b j
    by_cases hlt : j < K
    · have hgt : (0 : Int) < ((K - j : Nat) : Int) := by omega
      have hmem : Bd (∀ v ∈ allG es b j, ∃ x, x < 2 ^ szK b ∧ K - j < pc 24 x ∧ v = sbN b x ∧ wY es v = true) := ⟨fun v hv => by
        obtain ⟨x, q1, q2, q3, q4⟩ := allG_mem (by rw [hKK.h]; exact hj) hv
        rw [hKK.h] at q2
        exact ⟨x, q1, q2, q3, q4⟩⟩
      have hnext : Bd (allG es b (j + 1) = allG es b j ++ dn es b (K - j) 1) := ⟨by rw [dn_grp es b (by omega), allG, hKK.h]⟩
      have hdl : Bd (∀ a, (dn es b (K - j) a).length ≤ 2 ^ K - a) := ⟨by
        have h9 := dn_len es b (K - j)
        rw [hKK.h] at h9
        exact h9⟩
      have hdn : Bd (dn es b (K - j) (2 ^ K) = []) := ⟨by
        have h9 := dn_end es b (K - j)
        rw [hKK.h] at h9
        exact h9⟩
      obtain ⟨f, hf⟩ : ∃ f, K - j = f + 1 := ⟨K - j - 1, by omega⟩
      have hJ' : Bd ((if n ≤ (allG es b (j + 1)).length then j + 1 else vP es b n f (j + 1)) = vP es b n K 0) := ⟨by
        have := hJ.h
        rwa [hf, vP] at this⟩
      generalize hA : allG es b j = A at *
      have hm : Bd (K - j = f + 1) := ⟨hf⟩
      have hmb : K - j ≤ 23 := by omega
      generalize hmK : K - j = m at *
      (repeat' (first|(apply xW;((exact Want.none_ rfl)))|(apply xF zI;exact rfl;exact rfl)|apply zQ|apply AWp.Q|apply zG|apply AWp.G|apply AWp.B|apply AWp.J|(apply AWp.T;exact rfl;((exact dT ‹_›)))))
      refine AWp.U (σ := Nat) (fun x => ⟨[(2, .c (int n)), (3, .c (.ptr 0 0 0)), (8, .c (int (b : Nat))), (10, .c (.ref 1 0 (A ++ dn es b m (x + 1)).length)), (11, .c (int (m : Nat))), (12, .c (int (dep 23 b x : Nat)))], [(0, some ⟨26, 1, [vE es]⟩), (1, some ⟨3, 1, (A ++ dn es b m (x + 1)).map yQ⟩)], 2⟩) (fun x => x < 2 ^ K) (fun x => x) (2 ^ K - 1) (by omega) ?_ ?_
      · rw [show 2 ^ K - 1 + 1 = 2 ^ K by omega, hdn.h, List.append_nil, hfull]
        refine Weak.of [(0, some 0), (1, some 1)] rfl ?_ ?_ <;> (repeat' (first|exact trivial|exact rfl|apply And.intro|refine ⟨_,rfl,rfl,rfl,OW.one ?_⟩|refine oWs rfl rfl rfl ?_ ?_|(refine aIm ?_;(assumption))))
        all_goals first | exact hsc.imm | skip
      · intro x hx
        have hxs : Bd (x < 2 ^ szK b) := ⟨by rw [hKK.h]; exact hx⟩
        have hdx := hdl.h (x + 1)
        obtain ⟨D, hD⟩ : ∃ D, Bd (dn es b m (x + 1) = D) := ⟨_, ⟨rfl⟩⟩
        rw [hD.h] at hdx ⊢
        have hlen : (A ++ D).length = A.length + D.length := List.length_append
        have hscx := wP (A ++ D)
        have hLx : ((A ++ D).map yQ).length = (A ++ D).length := List.length_map _
        have h1x := ints1 (A ++ D)
        have happ : Bd (∀ q, A ++ D = q → A ++ dn es b m (x + 1) = q) := ⟨fun q hq => by rw [hD.h]; exact hq⟩
        obtain ⟨L, hLL⟩ : ∃ L, Bd (A ++ D = L) := ⟨_, ⟨rfl⟩⟩
        rw [hLL.h] at hlen hscx hLx h1x ⊢
        by_cases hx0 : 0 < x
        · have hpos := dep_pos (N := 23) (b := b) hx0 hxs.h
          have hne : ¬ ((dep 23 b x : Nat) : Int) = 0 := by omega
          have hne2 : ((dep 23 b x : Nat) : Int) ≠ 0 := by omega
          have hdb : Bd (bits .and .i64 (((dep 23 b x : Nat) : Int) - 1) (b : Int) = ((dep 23 b (x - 1) : Nat) : Int)) := ⟨dec_bits hx0 hxs.h hlt8⟩
          have hle := dep_le b x
          have h5 := l2Keys_pf (dep 23 b x) (by omega)
          have hsk5 := nEl_sc (keys (dep 23 b x))
          have hLk5 := vU (keys (dep 23 b x))
          rw [keys_pc, pc24 hxs.h] at h5 hLk5
          obtain ⟨p, hp⟩ : ∃ p, Bd (pc 24 x = p) := ⟨_, ⟨rfl⟩⟩
          rw [hp.h] at h5 hLk5
          have hfa : PF Tryz.prog 84 [.agg (vE es), .c (.sl [[int (dep 23 b x : Nat)]])] [] (.c (int (atE es [sbN b x]))) := l6At_pf es [sbN b x] hb (by simp)
          have hs1 : AllSc [[int (dep 23 b x : Nat)]] := wP [sbN b x]
          have hwk : ∀ e, sbN b e = ((dep 23 b e : Nat) : Int) := fun e => rfl
          generalize keys (dep 23 b x) = KX at *
          by_cases hpm : p = m
          · subst hpm
            have hpm' : ¬ ((p : Nat) : Int) ≠ ((p : Nat) : Int) := fun e => e rfl
            cases he : hasE es [sbN b x] with
            | true =>
              rw [show atE es [sbN b x] = ((idxE es [sbN b x] : Nat) : Int) by rw [atE, he]; rfl] at hfa
              have hst : Bd (A ++ dn es b p x = L) := ⟨by rw [dn_full hxs.h (by rw [wY, he]; simp), hD.h]; exact hLL.h⟩
              (repeat' (first|(apply xW;(first|exact Want.none_ rfl|(refine zW rfl rfl rfl rfl ?_;((exact dF ‹_›)))))|(apply xF zI;exact rfl;exact rfl)|((first|apply y6|apply zS)<;>(first|exact zI|exact rfl|refine yH ?_|omega))|(apply yX;exact rfl;exact rfl;((exact dF ‹_›));exact rfl;exact rfl)|apply zQ|apply AWp.Q|apply zG|apply AWp.G|apply AWp.B|apply AWp.J|apply AWp.X|apply zN|apply zL|(apply AWp.T;exact rfl;(first|exact dT ‹_›|exact rfl))|(apply yC;(iterate 6 exact rfl);(iterate 2 (focus (repeat (first|exact VAs.nil|apply VAs.cons|apply VA.c|apply VA.agg|exact VCs.nil|apply VCs.cons|exact VC.imm (Imm.v _)|exact VC.imm (Imm.sl _)|(apply zA;exact rfl;exact rfl;((exact rfl));exact rfl;((refine aIm ?_;assumption)))))));(first|exact h5|exact hfa);(focus (repeat (first|exact Flat.v _|exact Flat.ref _ _ _)));(first|apply yJ|(apply yK;(focus (repeat (first|exact trivial|apply And.intro|((assumption)))))));(first|exact xD _ _|exact xE _ _ _ _))))
              refine qO rfl rfl rfl hdb.h ?_
              (repeat' (first|(apply xW;((exact Want.none_ rfl)))|(apply xF zI;exact rfl;exact rfl)|apply zQ|apply zG))
              refine ⟨x - 1, by omega, by omega, ?_⟩
              rw [show x - 1 + 1 = x by omega, hst.h]
              refine Weak.of [(0, some 0), (1, some 1)] rfl ?_ ?_ <;> (repeat' (first|exact trivial|exact rfl|apply And.intro|refine ⟨_,rfl,rfl,rfl,OW.one ?_⟩|refine oWs rfl rfl rfl ?_ ?_|(refine aIm ?_;(assumption))))
              all_goals first | exact hscx.imm | skip
            | false =>
              rw [show atE es [sbN b x] = -1 by rw [atE, he]; rfl] at hfa
              have hst : Bd (dn es b p x = sbN b x :: D) := ⟨by rw [dn_hit hxs.h hp.h (by rw [wY, he]; rfl), hD.h]⟩
              have hDm : Bd (∀ v ∈ D, ∃ y, x + 1 ≤ y ∧ y < 2 ^ szK b ∧ pc 24 y = p ∧ v = sbN b y ∧ wY es v = true) := ⟨fun v hv => by rw [← hD.h] at hv; exact dn_mem hv⟩
              (repeat' (first|(apply xW;(first|exact Want.none_ rfl|(refine zW rfl rfl rfl rfl ?_;((exact dF ‹_›)))))|(apply xF zI;exact rfl;exact rfl)|(((apply zS))<;>(first|exact zI|exact rfl|refine yH ?_))|(apply yX;exact rfl;exact rfl;((exact dF ‹_›));exact rfl;exact rfl)|apply zQ|apply AWp.Q|apply zG|apply AWp.G|apply AWp.B|apply AWp.J|(apply AWp.T;exact rfl;((exact dT ‹_›)))|(apply AWp.F;exact rfl;((exact rfl)))|(apply yC;(iterate 6 exact rfl);(iterate 2 (focus (repeat (first|exact VAs.nil|apply VAs.cons|apply VA.c|apply VA.agg|exact VCs.nil|apply VCs.cons|exact VC.imm (Imm.v _)|exact VC.imm (Imm.sl _)|(apply zA;exact rfl;exact rfl;((exact rfl));exact rfl;((refine aIm ?_;assumption)))))));(first|exact h5|exact hfa);(focus (repeat (first|exact Flat.v _|exact Flat.ref _ _ _)));(first|apply yJ|(apply yK;(focus (repeat (first|exact trivial|apply And.intro|((assumption)))))));(first|exact xD _ _|exact xE _ _ _ _))))
              refine AWp.U (σ := Nat) (fun k => ⟨[(2, .c (int n)), (3, .c (.ptr 0 0 0)), (8, .c (int (b : Nat))), (10, .c (.ref 1 0 L.length)), (11, .c (int (p : Nat))), (12, .c (int (dep 23 b x : Nat))), (13, .c (int k))], [(0, some ⟨26, 1, [vE es]⟩), (1, some ⟨3, 1, L.map yQ⟩)], 2⟩) (fun k => A.length ≤ k ∧ k ≤ L.length) (fun k => k) L.length ⟨by omega, Nat.le_refl _⟩ ?_ ?_
              · refine Weak.of [(0, some 0), (1, some 1)] rfl ?_ ?_ <;> (repeat' (first|exact trivial|exact rfl|apply And.intro|refine ⟨_,rfl,rfl,rfl,OW.one ?_⟩|refine oWs rfl rfl rfl ?_ ?_|(refine aIm ?_;(assumption))))
                all_goals first | exact hscx.imm | skip
              · rintro k ⟨hk1, hk2⟩
                by_cases hkA : A.length < k
                · obtain ⟨v, hv⟩ := xQ (show k - 1 - A.length < D.length by omega)
                  obtain ⟨y, hy1, hy2, hy3, rfl, _⟩ := hDm.h v (List.mem_of_getElem? hv)
                  have hvL : L[k - 1]? = some (sbN b y) := by rw [← hLL.h, List.getElem?_append_right (by omega)]; exact hv
                  have hv' : (L.map yQ)[k - 1]? = some [int ((dep 23 b y : Nat) : Int)] := xM hvL
                  have hk3 : (k : Int) - 1 = ((k - 1 : Nat) : Int) := by omega
                  have hk0 : (0 : Int) < (k : Int) := by omega
                  have hmo := dep_mono 23 b x y hy1 hy2
                  have hley := dep_le b y
                  have h6 := l2Keys_pf (dep 23 b y) (by omega)
                  have hsk6 := nEl_sc (keys (dep 23 b y))
                  have hLk6 := vU (keys (dep 23 b y))
                  rw [keys_pc, pc24 hy2, hy3] at h6 hLk6
                  generalize keys (dep 23 b y) = KY at *
                  generalize dep 23 b y = sy at *
                  generalize dep 23 b x = sx at *
                  have hgt2 : (sy : Int) > (sx : Int) := by omega
                  have hpp : ((p : Nat) : Int) = ((p : Nat) : Int) := rfl
                  have hkb : (k : Int) ≤ 1000000000 := by omega
                  clear hy2 hy3 hv hvL hDm
                  (repeat' (first|(apply xW;(first|exact Want.none_ rfl|(refine zW rfl rfl rfl rfl ?_;((exact dT ‹_›)))))|(apply xF zI;exact rfl;exact rfl)|((first|apply y6|apply zT|(apply zR;exact rfl;exact rfl;exact zI;exact rfl;exact rfl))<;>(first|exact zI|exact Nat.zero_add _|exact rfl|refine yH ?_|assumption|omega))|(apply yX;exact rfl;exact rfl;((exact dT ‹_›));exact rfl;exact rfl)|apply zQ|apply AWp.Q|apply zG|apply AWp.G|apply AWp.B|apply AWp.J|apply zH|(apply AWp.T;exact rfl;((exact dT ‹_›)))|(apply yC;(iterate 6 exact rfl);(iterate 2 (focus (repeat (first|exact VAs.nil|apply VAs.cons|apply VA.c|exact VCs.nil|exact VC.imm (Imm.v _)))));((exact h6));(focus (repeat ((exact Flat.ref _ _ _))));((apply yK;(focus (repeat (first|exact trivial|apply And.intro|((assumption)))))));((exact xE _ _ _ _)))))
                  refine ⟨k - 1, ⟨by omega, by omega⟩, by omega, ?_⟩
                  refine Weak.of [(0, some 0), (1, some 1)] rfl ?_ ?_ <;> (repeat' (first|exact trivial|exact rfl|apply And.intro|(apply cgI;(omega))|refine ⟨_,rfl,rfl,rfl,OW.one ?_⟩|refine oWs rfl rfl rfl ?_ ?_|(refine aIm ?_;(assumption))))
                  all_goals first | exact hscx.imm | skip
                · have hkE : k = A.length := by omega
                  have hLd : Bd (L = A ++ D) := ⟨hLL.h.symm⟩
                  by_cases hkz : k = 0
                  · subst hkz
                    have hk0 : ¬ (0 : Int) < ((0 : Nat) : Int) := by omega
                    have hk00 : (0 : Nat) ≤ L.length := Nat.zero_le _
                    clear hfa h5 hxs hD happ hdn hdl hmem hnext hJ' hm hJ hJ0 hsugB hsLB
                    (repeat' (first|(apply xW;((exact Want.none_ rfl)))|(apply xF zI;exact rfl;exact rfl)|((first|apply y6|apply zS|(apply yO;exact rfl;exact rfl)|apply yZ)<;>(first|exact zI|exact Nat.zero_add _|exact rfl|refine yH ?_|assumption|omega|exact ⟨rfl⟩|exact ⟨rfl,_,_,rfl,rfl⟩|(refine Bd.mk ?_;first|assumption|(focus (simp;done))|(simp;omega))|exact yS rfl (by (simp;done))))|(apply yX;exact rfl;exact rfl;((exact dF ‹_›));exact rfl;exact rfl)|(apply yY;(iterate 5 exact rfl);((exact dF ‹_›)))|apply zQ|(refine y3 ?_ ?_;kernel_rfl)|apply AWp.Q|apply zG|apply AWp.G|apply AWp.X|apply zN|apply zH|apply zL|(refine AWp.D ?_ ?_;kernel_rfl)|(apply AWp.F;exact rfl;((exact dF ‹_›)))))
                    refine qO rfl rfl rfl hdb.h ?_
                    (repeat' (first|(apply xW;((exact Want.none_ rfl)))|(apply xF zI;exact rfl;exact rfl)|apply zQ|apply zG))
                    refine ⟨x - 1, by omega, by omega, ?_⟩
                    have hAe : A = [] := List.length_eq_zero_iff.1 hkE.symm
                    have hLD : L = D := by rw [hLd.h, hAe]; rfl
                    rw [show x - 1 + 1 = x by omega, hst.h, hAe]
                    refine Weak.of [(0, some 0), (1, some 6)] rfl ?_ ?_ <;> (repeat' (first|exact trivial|exact rfl|apply And.intro|refine ⟨_,rfl,rfl,rfl,OW.one ?_⟩|refine oWs rfl rfl rfl ?_ ?_))
                    all_goals first | (rw [hLD]; simp; done) | (rw [hLD]; simp; rfl) | exact (wP (sbN b x :: D)).imm | (rw [hLD]; simp; omega) | skip
                  · obtain ⟨v, hv⟩ := xQ (show k - 1 < A.length by omega)
                    obtain ⟨y, hy2, hy3, rfl, _⟩ := hmem.h v (List.mem_of_getElem? hv)
                    have hvL : L[k - 1]? = some (sbN b y) := by rw [← hLL.h, List.getElem?_append_left (by omega)]; exact hv
                    have hv' : (L.map yQ)[k - 1]? = some [int ((dep 23 b y : Nat) : Int)] := xM hvL
                    have hk3 : (k : Int) - 1 = ((k - 1 : Nat) : Int) := by omega
                    have hk0 : (0 : Int) < (k : Int) := by omega
                    have hkb : (k : Int) ≤ 1000000000 := by omega
                    have hley := dep_le b y
                    have h6 := l2Keys_pf (dep 23 b y) (by omega)
                    have hsk6 := nEl_sc (keys (dep 23 b y))
                    have hLk6 := vU (keys (dep 23 b y))
                    rw [keys_pc, pc24 hy2] at h6 hLk6
                    obtain ⟨py, hpy⟩ : ∃ py, Bd (pc 24 y = py) := ⟨_, ⟨rfl⟩⟩
                    rw [hpy.h] at h6 hLk6 hy3
                    have hpn : ¬ ((py : Nat) : Int) = ((p : Nat) : Int) := by omega
                    generalize keys (dep 23 b y) = KY at *
                    generalize dep 23 b y = sy at *
                    clear hy2 hv hvL hDm hpy
                    clear hfa h5 hxs hD happ hdn hdl hmem hnext hJ' hm hJ hJ0 hsugB hsLB
                    (repeat' (first|(apply xW;(first|exact Want.none_ rfl|(refine zW rfl rfl rfl rfl ?_;((exact dT ‹_›)))))|(apply xF zI;exact rfl;exact rfl)|((first|apply y6|apply zT|(apply zR;exact rfl;exact rfl;exact zI;exact rfl;exact rfl)|apply zS|(apply yO;exact rfl;exact rfl)|apply yZ)<;>(first|exact zI|exact Nat.zero_add _|exact rfl|refine yH ?_|assumption|omega|exact ⟨rfl⟩|exact ⟨rfl,_,_,rfl,rfl⟩|(refine Bd.mk ?_;first|(focus (simp;done))|(simp;omega))|exact xL ‹_›|(focus (simp;done))|exact yT rfl (by (simp only [lA,lB,lC,lD,lE];omega))))|(apply yX;exact rfl;exact rfl;(first|exact dT ‹_›|exact dF ‹_›);exact rfl;exact rfl)|(apply yY;(iterate 5 exact rfl);((exact dF ‹_›)))|apply zQ|(refine y3 ?_ ?_;kernel_rfl)|apply AWp.Q|apply zG|apply AWp.G|apply AWp.X|apply zN|apply zH|apply zL|(refine AWp.D ?_ ?_;kernel_rfl)|(apply AWp.F;exact rfl;((exact rfl)))|(apply yC;(iterate 6 exact rfl);(iterate 2 (focus (repeat (first|exact VAs.nil|apply VAs.cons|apply VA.c|exact VCs.nil|exact VC.imm (Imm.v _)))));((exact h6));(focus (repeat ((exact Flat.ref _ _ _))));((apply yK;(focus (repeat (first|exact trivial|apply And.intro|((assumption)))))));((exact xE _ _ _ _)))))
                    refine qO rfl rfl rfl hdb.h ?_
                    (repeat' (first|(apply xW;((exact Want.none_ rfl)))|(apply xF zI;exact rfl;exact rfl)|apply zQ|apply zG))
                    refine ⟨x - 1, by omega, by omega, ?_⟩
                    rw [show x - 1 + 1 = x by omega, hst.h]
                    refine Weak.of [(0, some 0), (1, some 7)] rfl ?_ ?_ <;> (repeat' (first|exact trivial|exact rfl|apply And.intro|refine ⟨_,rfl,rfl,rfl,OW.one ?_⟩|refine oWs rfl rfl rfl ?_ ?_))
                    all_goals first | exact mid2_len A D L k _ _ hLd.h hkE | exact mid2 A D L k _ _ hLd.h hkE | exact (wP _).imm | skip
          · have hpm' : ((p : Nat) : Int) ≠ ((m : Nat) : Int) := by omega
            have hst : Bd (A ++ dn es b m x = L) := ⟨by rw [dn_size hxs.h (by rw [hp.h]; exact hpm), hD.h]; exact hLL.h⟩
            (repeat' (first|(apply xW;((exact Want.none_ rfl)))|(apply xF zI;exact rfl;exact rfl)|(((apply y6))<;>(first|exact rfl|refine yH ?_|omega))|(apply yX;exact rfl;exact rfl;((exact dT ‹_›));exact rfl;exact rfl)|(apply yY;(iterate 5 exact rfl);((exact dT ‹_›)))|apply zQ|apply AWp.Q|apply zG|apply AWp.G|apply AWp.B|apply AWp.J|apply AWp.X|apply zN|apply zL|(apply AWp.T;exact rfl;(first|exact dT ‹_›|exact rfl))|(apply yC;(iterate 6 exact rfl);(iterate 2 (focus (repeat (first|exact VAs.nil|apply VAs.cons|apply VA.c|exact VCs.nil|exact VC.imm (Imm.v _)))));((exact h5));(focus (repeat ((exact Flat.ref _ _ _))));((apply yK;(focus (repeat (first|exact trivial|apply And.intro|((assumption)))))));((exact xE _ _ _ _)))))
            refine qO rfl rfl rfl hdb.h ?_
            (repeat' (first|(apply xW;((exact Want.none_ rfl)))|(apply xF zI;exact rfl;exact rfl)|apply zQ|apply zG))
            refine ⟨x - 1, by omega, by omega, ?_⟩
            rw [show x - 1 + 1 = x by omega, hst.h]
            refine Weak.of [(0, some 0), (1, some 1)] rfl ?_ ?_ <;> (repeat' (first|exact trivial|exact rfl|apply And.intro|refine ⟨_,rfl,rfl,rfl,OW.one ?_⟩|refine oWs rfl rfl rfl ?_ ?_|(refine aIm ?_;(assumption))))
            all_goals first | exact hscx.imm | skip
        · obtain rfl : x = 0 := by omega
          have hz : ((0 : Nat) : Int) = 0 := rfl
          have hz2 : ¬ (((0 : Nat) : Int) ≠ 0) := fun e => e rfl
          rw [dep_zero]
          have hnx : Bd (allG es b (j + 1) = L) := ⟨by
            have h9 := hD.h
            rw [Nat.zero_add] at h9
            rw [hnext.h, h9]; exact hLL.h⟩
          by_cases hge : n ≤ L.length
          · have hge' : (L.length : Int) ≥ (n : Int) := by omega
            have hL : Bd (sugL es b n = L) := ⟨by
              have := hJ'.h
              rw [hnx.h, if_pos hge] at this
              rw [hJ0.h, ← this, hnx.h]⟩
            have hsug := hsugB.h
            have hsL := hsLB.h
            rw [hL.h] at hsug hsL ⊢
            have hlm := l1LeastS_pf n L.length
            rw [show min (n : Int) (L.length : Int) = ((SL : Nat) : Int) by omega] at hlm
            have hsl : SL ≤ L.length := by omega
            (repeat' (first|(apply xW;((exact Want.none_ rfl)))|(apply xF zI;exact rfl;exact rfl)|(((apply yZ))<;>(first|exact zI|exact rfl|refine yH ?_|assumption|omega|exact ⟨rfl⟩|exact ⟨rfl,_,_,rfl,rfl⟩))|apply zQ|apply AWp.Q|apply zG|apply AWp.G|apply AWp.X|apply AWp.R|apply zN|apply zL|(refine zJ rfl ?_)|(apply AWp.T;exact rfl;((exact dT ‹_›)))|(apply AWp.F;exact rfl;((exact dF ‹_›)))|(apply yC;(iterate 6 exact rfl);(iterate 2 (focus (repeat (first|exact VAs.nil|apply VAs.cons|apply VA.c|exact VCs.nil|exact VC.imm (Imm.v _)))));((exact hlm));(focus (repeat ((exact Flat.v _))));((apply yJ));((exact xD _ _)))))
            (((refine zX _ [(0, some 1)] (.cons (zP rfl) (.cons (zP rfl) .nil)) ?_ rfl ?_)) <;> (repeat' (first|exact trivial|exact rfl|apply And.intro|refine oWs rfl rfl rfl ?_ ?_|(refine aIm ?_;(assumption)))))
            all_goals exact hscx.imm
          · have hge' : ¬ (L.length : Int) ≥ (n : Int) := by omega
            (repeat' (first|(apply xW;((exact Want.none_ rfl)))|(apply xF zI;exact rfl;exact rfl)|(((apply y6))<;>(first|exact rfl|refine yH ?_|omega))|apply zQ|apply AWp.Q|apply zG|apply AWp.G|apply AWp.J|apply AWp.X|apply zN|apply zH|apply zL|(apply AWp.F;exact rfl;((exact dF ‹_›)))))
            have h9 := hm.h
            refine ⟨j + 1, ⟨by omega, ⟨?_⟩⟩, by omega, ?_⟩
            · have := hJ'.h
              rw [hnx.h, if_neg hge] at this
              rw [show K - (j + 1) = f by omega]; exact this
            · rw [hnx.h]
              refine Weak.of [(0, some 0), (1, some 1)] rfl ?_ ?_ <;> (repeat' (first|exact trivial|exact rfl|apply And.intro|(apply cgI;(omega))|refine ⟨_,rfl,rfl,rfl,OW.one ?_⟩|refine oWs rfl rfl rfl ?_ ?_|(refine aIm ?_;(assumption))))
              all_goals first | exact hscx.imm | (congr 2; omega) | skip
    · have hgt : ¬ (0 : Int) < ((K - j : Nat) : Int) := by omega
      obtain rfl : j = K := by omega
      have hL : sugL es b n = allG es b j := by
        have := hJ.h
        rw [Nat.sub_self, vP] at this
        rw [hJ0.h, ← this]
      have hsug := hsugB.h
      have hsL := hsLB.h
      rw [hL] at hsug hsL ⊢
      have hlm := l1LeastS_pf n (allG es b j).length
      rw [show min (n : Int) ((allG es b j).length : Int) = ((SL : Nat) : Int) by omega] at hlm
      have hsl : SL ≤ (allG es b j).length := by omega
      clear hL
      (repeat' (first|(apply xW;((exact Want.none_ rfl)))|(apply xF zI;exact rfl;exact rfl)|(((apply yZ))<;>(first|exact zI|exact rfl|refine yH ?_|assumption|omega|exact ⟨rfl⟩|exact ⟨rfl,_,_,rfl,rfl⟩))|apply zQ|apply AWp.Q|apply zG|apply AWp.G|apply AWp.X|apply AWp.R|apply zN|apply zL|(apply AWp.F;exact rfl;((exact dF ‹_›)))|(apply yC;(iterate 6 exact rfl);(iterate 2 (focus (repeat (first|exact VAs.nil|apply VAs.cons|apply VA.c|exact VCs.nil|exact VC.imm (Imm.v _)))));((exact hlm));(focus (repeat ((exact Flat.v _))));((apply yJ));((exact xD _ _)))))
      (((refine zX _ [(0, some 1)] (.cons (zP rfl) (.cons (zP rfl) .nil)) ?_ rfl ?_)) <;> (repeat' (first|exact trivial|exact rfl|apply And.intro|refine oWs rfl rfl rfl ?_ ?_|(refine aIm ?_;(assumption)))))
      all_goals exact hsc.imm
end Go.Proofs.YtchpdclknbmdoaaGreatDoor
