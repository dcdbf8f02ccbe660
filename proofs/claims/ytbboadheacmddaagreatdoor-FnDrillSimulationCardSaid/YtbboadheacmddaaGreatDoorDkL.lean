/- LevelCounts of both programs. No conditions but bounds of lengths. -/
import Derived.Test.YtbboadheacmddaaGreatDoorDkE
import Derived.Test.YtbboadheacmddaaGreatDoorAbs4
namespace Go.Proofs.YtbboadheacmddaaGreatDoor
open Go Go.RowKit
def bump (l : List Int) (i : Nat) : List Int := l.set i (l.getD i 0 + 1)
def lv (cs : List CardD) : Nat → List Int
  | 0 => List.replicate 6 0
  | k + 1 => bump (lv cs k) ((cs[k]?.map fun c => c.level.toNat).getD 0)
def lvs (cs : List CardD) : List Int := lv cs cs.length
theorem bump_len (l : List Int) (i : Nat) : (bump l i).length = l.length := by simp [bump]
theorem lv_len (cs : List CardD) : ∀ k, (lv cs k).length = 6
  | 0 => by simp [lv]
  | k + 1 => by rw [lv, bump_len, lv_len cs k]
theorem lv_le (cs : List CardD) : ∀ (k : Nat) v, v ∈ lv cs k → 0 ≤ v ∧ v ≤ k
  | 0, v, h => by simp [lv] at h; omega
  | k + 1, v, h => by
    rw [lv, bump] at h
    generalize (cs[k]?.map fun c => c.level.toNat).getD 0 = i at h
    rcases List.mem_or_eq_of_mem_set h with h | h
    · have := lv_le cs k v h; omega
    · rcases Nat.lt_or_ge i (lv cs k).length with h2 | h2
      · have := lv_le cs k _ (List.getElem_mem h2)
        rw [List.getD_eq_getElem?_getD, List.getElem?_eq_getElem h2, Option.getD_some] at h
        omega
      · rw [List.getD_eq_getElem?_getD, List.getElem?_eq_none (by omega), Option.getD_none] at h
        omega
theorem lv_succ {cs : List CardD} {k m : Nat} {c : CardD} {v : Int} (hc : cs[k]? = some c) (hm : c.level = (m : Int)) (hv : (lv cs k)[m]? = some v) : ((lv cs k).map eInt).set m (eInt (v + 1)) = (lv cs (k + 1)).map eInt := by
  have e : (lv cs k).getD m 0 = v := by rw [List.getD_eq_getElem?_getD, hv, Option.getD_some]
  simp only [lv, hc, Option.map_some, Option.getD_some, hm, Int.toNat_natCast, bump, e, List.map_set]
theorem deckOk_at {cs : List CardD} (h : deckOk cs = true) {k : Nat} {c : CardD} (hc : cs[k]? = some c) : cardOk c = true := by
  rw [deckOk_eq] at h
  simp only [Bool.and_eq_true, List.all_eq_true] at h
  exact h.2.1 c (List.mem_of_getElem? hc)
theorem deckOk_len {cs : List CardD} (h : deckOk cs = true) : cs.length ≤ 40 := by
  rw [deckOk] at h
  simp only [Bool.and_eq_true, decide_eq_true_eq] at h
  omega
theorem cardOk_level {c : CardD} (h : cardOk c = true) : ∃ m : Nat, c.level = (m : Int) ∧ m ≤ 5 := by
  simp only [cardOk, inZ, Bool.and_eq_true, decide_eq_true_eq] at h
  exact ⟨c.level.toNat, by omega, by omega⟩
def lvObj (cs : List CardD) (k : Nat) : AObj := ⟨3, 1, (lv cs k).map eInt⟩
theorem implLevels_pf (cs : List CardD) (hb : DeckB cs) (hk : deckOk cs = true) : PF Tryz.prog 10 [.agg (encDeck cs)] [⟨3, 1, (lvs cs).map eInt⟩] (.tup [.c (.ref 0 0 (lvs cs).length), .c (boo true)]) := by
  refine PF.enter (enum1 _) Tryz.func10 rfl (by kernel_rfl) _ _ rfl rfl rfl (fun w0 mu I0 β0 gi dis => ?_)
  (repeat' (first|(apply xW;(first|exact Want.none_ rfl|(refine wantG rfl rfl rfl rfl ?_;(first|assumption|exact dT ‹_›|exact dF ‹_›|exact rfl))))|(apply xF tabOk;exact rfl;exact rfl)|((first|(apply rx_cat;exact rfl;exact rfl)|apply rx_add|(apply rx_subU8;exact rfl;exact rfl;exact rfl)|apply rx_sub|apply rx_mul|apply rx_quo|apply rx_rem|apply rx_neg|apply rx_ixS|(apply rx_ixSl;exact rfl;exact rfl)|apply rx_ixRef|(apply rx_load;exact rfl;exact rfl;exact tabOk;exact rfl;exact rfl)|apply rx_loadAgg|apply rx_build|apply rx_buildSlice|apply rx_alloc|apply rx_makeFunc|apply rx_makeSlice|(apply rx_appRef;exact rfl;exact rfl)|apply rx_appNil|(apply rx_sliceS;exact rfl;exact rfl)|(apply rx_sliceSl;exact rfl;exact rfl)|apply rx_sliceRef|apply rx_min|apply rx_max|apply rx_store)<;>(first|exact tabOk|exact Nat.zero_add _|exact rfl|refine rxid ?_|assumption|omega|exact ⟨rfl⟩|exact ⟨rfl,_,_,rfl,rfl⟩|exact lb rfl|(refine Bd.mk ?_;first|assumption|omega|(focus (simp;done))|(simp;omega)|decide)|exact set_at ‹_›|exact set_at (set_at ‹_›)|(focus (apply oI;exact rfl;exact rfl;assumption))|(focus (refine ⟨rfl,_,_,rfl,?_⟩;omega))|exact bdLens rfl|exact bdTd ‹_›|(focus (simp;done))|(simp;omega)|(simp only [lA,lB,lC,lD,lE];omega)|exact newsAll rfl (by first|rfl|(simp;done)|(simp only [lA,lB,lC,lD,lE];omega))|exact newsRef rfl (by first|assumption|omega|(simp only [lA,lB,lC,lD,lE];omega))))|(apply xPick;exact rfl;exact rfl;(first|assumption|exact dT ‹_›|exact dF ‹_›|exact rfl);exact rfl;exact rfl)|(apply xSkip;(iterate 5 exact rfl);(first|assumption|exact dT ‹_›|exact dF ‹_›|exact rfl))|(apply xSkipN;(iterate 5 exact rfl))|apply rx_end|(refine rx_endD ?_ ?_;kernel_rfl)|apply AWp.seq|apply thenK_normal|apply AWp.reg|apply AWp.block|apply AWp.skip|apply AWp.label|apply AWp.exit|apply AWp.ret|apply thenK_exit|apply thenK_ret|apply blockK_normal|apply blockK_ret|apply blockK_exit|(refine AWp.regD ?_ ?_;kernel_rfl)|(refine blockK_other rfl ?_)|(apply AWp.condT;exact rfl;(first|assumption|exact dT ‹_›|exact dF ‹_›|exact rfl))|(apply AWp.condF;exact rfl;(first|assumption|exact dT ‹_›|exact dF ‹_›|exact rfl))|(apply rx_callA;(iterate 6 exact rfl);(iterate 2 (focus (repeat (first|exact VAs.nil|apply VAs.cons|apply VA.c|apply VA.agg|exact VCs.nil|(apply VCs.same;assumption)|apply VCs.cons|exact VC.imm (Imm.v _)|exact VC.imm (Imm.sl _)|exact VC.imm (Imm.ip _)|exact VC.imm ‹_›|exact VC.nil|apply VC.fn|(refine VC.ptrA rfl rfl rfl rfl ?_;(repeat (first|assumption|exact imm_no|exact Imm.v _|exact Imm.sl _|exact Imm.ip _|exact Imm.nil|exact Imm.fn0 _|refine imm_cons ?_ ?_|refine Imm.fn _ _ ?_)))|(apply VC.refA;exact rfl;exact rfl;(first|exact rfl|(focus (simp;done))|omega|(focus (simp only [lA,lB,lC,lD,lE];omega)));exact rfl;(first|assumption|(refine AllSc.imm ?_;assumption)))|(apply VC.refP;exact rfl;exact rfl;(first|assumption|omega|(focus (simp only [lA,lB,lC,lD,lE];omega))|(focus (simp;done))|(focus (simp;omega)));exact rfl;(first|assumption|(refine AllSc.imm ?_;assumption)))|assumption))));(first|exact implValid_pf cs hb);(focus (repeat (first|exact trivial|exact Flat.v _|exact Flat.dead|exact Flat.ref _ _ _|exact Flat.nil|apply And.intro)));(first|apply callK0|(apply callK1;(focus (repeat (first|exact trivial|apply And.intro|(first|exact AllSc.nil|assumption))))));(first|exact sh_1 _ _|exact sh_2 _ _ _|exact sh_r _ _ _ _|exact sh_r1 _ _ _ _ _|exact sh_n _|exact sh_n1 _ _|exact sh_ar _ _ _ _|exact sh_ar1 _ _ _ _ _|exact sh_an1 _ _|exact sh_3 _ _ _ _|exact rfl))|((first|refine rx_splitP rfl rfl rfl ?_ ?_|refine rx_split rfl rfl rfl ?_ ?_)<;>intro hp<;>(try (exfalso;omega)))|((first|refine AWp.condP rfl ?_ ?_|refine AWp.cond _ rfl ?_ ?_)<;>intro hp<;>(try (exfalso;omega)))))
  · exfalso; simp_all
  have hL : (cs.map encCard).length = cs.length := List.length_map _
  have h40 := deckOk_len hk
  refine AWp.loop (σ := Nat) (fun k => ⟨[(4, .c (.ref 0 0 6)), (12, .c (.sl (cs.map encCard))), (13, .c (int cs.length)), (14, .c (int k))], [(0, some (lvObj cs k))], 1⟩) (fun k => k ≤ cs.length) (fun k => cs.length - k) 0 (Nat.zero_le _) ?_ ?_
  · refine Weak.of [(0, some 1)] rfl ?_ ?_ <;> (repeat' (first|exact trivial|exact rfl|exact Or.inr ⟨rfl,‹_›⟩|exact Or.inl ⟨rfl,trivial⟩|apply And.intro|exact congrArg (Value.int .i64) (by first|omega|(simp;done)|(simp;omega))|(refine natEq ?_;first|(focus (simp;done))|omega|(simp only [lA,lB,lC,lD,lE];omega))|(refine ⟨_,rfl,rfl,rfl,OW.one ?_⟩)|(refine ⟨_,rfl,rfl,rfl,OW.same ?_ ?_⟩)|refine vwB ?_|refine vwS ?_|refine vwI ?_|refine fwB ?_|refine fwS ?_|refine fwI ?_|(refine AllSc.imm ?_;first|exact AllSc.nil|assumption)))
    exact (ints_sc _).imm
  · intro k hkk
    by_cases hlt : k < cs.length
    · obtain ⟨c, hc⟩ := at_lt hlt
      have hc' : (cs.map encCard)[k]? = some (encCard c) := map_at hc
      have hlt' : (k : Int) < (cs.length : Int) := by omega
      obtain ⟨m, hm, hm5⟩ := cardOk_level (deckOk_at hk hc)
      obtain ⟨v, hv⟩ := at_lt (show m < (lv cs k).length by rw [lv_len]; omega)
      have hvb := lv_le cs k v (List.mem_of_getElem? hv)
      have hv' : ((lv cs k).map eInt)[m]? = some (eInt v) := map_at hv
      (repeat' (first|(apply xW;(first|exact Want.none_ rfl|(refine wantG rfl rfl rfl rfl ?_;(first|assumption|exact dT ‹_›|exact dF ‹_›|exact rfl))))|(apply xF tabOk;exact rfl;exact rfl)|((first|(apply rx_cat;exact rfl;exact rfl)|apply rx_add|(apply rx_subU8;exact rfl;exact rfl;exact rfl)|apply rx_sub|apply rx_mul|apply rx_quo|apply rx_rem|apply rx_neg|apply rx_ixS|(apply rx_ixSl;exact rfl;exact rfl)|apply rx_ixRef|(apply rx_load;exact rfl;exact rfl;exact tabOk;exact rfl;exact rfl)|apply rx_loadAgg|apply rx_build|apply rx_buildSlice|apply rx_alloc|apply rx_makeFunc|apply rx_makeSlice|(apply rx_appRef;exact rfl;exact rfl)|apply rx_appNil|(apply rx_sliceS;exact rfl;exact rfl)|(apply rx_sliceSl;exact rfl;exact rfl)|apply rx_sliceRef|apply rx_min|apply rx_max|apply rx_store)<;>(first|exact tabOk|exact Nat.zero_add _|exact rfl|refine rxid ?_|assumption|omega|exact ⟨rfl⟩|exact ⟨rfl,_,_,rfl,rfl⟩|exact lb rfl|(refine Bd.mk ?_;first|assumption|omega|(focus (simp;done))|(simp;omega)|decide)|exact set_at ‹_›|exact set_at (set_at ‹_›)|(focus (apply oI;exact rfl;exact rfl;assumption))|(focus (refine ⟨rfl,_,_,rfl,?_⟩;omega))|exact bdLens rfl|exact bdTd ‹_›|(focus (simp;done))|(simp;omega)|(simp only [lA,lB,lC,lD,lE];omega)|exact newsAll rfl (by first|rfl|(simp;done)|(simp only [lA,lB,lC,lD,lE];omega))|exact newsRef rfl (by first|assumption|omega|(simp only [lA,lB,lC,lD,lE];omega))))|(apply xPick;exact rfl;exact rfl;(first|assumption|exact dT ‹_›|exact dF ‹_›|exact rfl);exact rfl;exact rfl)|(apply xSkip;(iterate 5 exact rfl);(first|assumption|exact dT ‹_›|exact dF ‹_›|exact rfl))|(apply xSkipN;(iterate 5 exact rfl))|apply rx_end|(refine rx_endD ?_ ?_;kernel_rfl)|apply AWp.seq|apply thenK_normal|apply AWp.reg|apply AWp.block|apply AWp.skip|apply AWp.label|apply AWp.exit|apply AWp.ret|apply thenK_exit|apply thenK_ret|apply blockK_normal|apply blockK_ret|apply blockK_exit|(refine AWp.regD ?_ ?_;kernel_rfl)|(refine blockK_other rfl ?_)|(apply AWp.condT;exact rfl;(first|assumption|exact dT ‹_›|exact dF ‹_›|exact rfl))|(apply AWp.condF;exact rfl;(first|assumption|exact dT ‹_›|exact dF ‹_›|exact rfl))|((first|refine rx_splitP rfl rfl rfl ?_ ?_|refine rx_split rfl rfl rfl ?_ ?_)<;>intro hp<;>(try (exfalso;omega)))|((first|refine AWp.condP rfl ?_ ?_|refine AWp.cond _ rfl ?_ ?_)<;>intro hp<;>(try (exfalso;omega)))))
      refine ⟨k + 1, by omega, by omega, ?_⟩
      refine Weak.of [(0, some 0)] rfl ?_ ?_ <;> (repeat' (first|exact trivial|exact rfl|exact Or.inr ⟨rfl,‹_›⟩|exact Or.inl ⟨rfl,trivial⟩|apply And.intro|exact congrArg (Value.int .i64) (by first|omega|(simp;done)|(simp;omega))|(refine natEq ?_;first|(focus (simp;done))|omega|(simp only [lA,lB,lC,lD,lE];omega))|(refine ⟨_,rfl,rfl,rfl,OW.one ?_⟩)|(refine ⟨_,rfl,rfl,rfl,OW.same ?_ ?_⟩)|refine vwB ?_|refine vwS ?_|refine vwI ?_|refine fwB ?_|refine fwS ?_|refine fwI ?_|(refine AllSc.imm ?_;first|exact AllSc.nil|assumption)))
      · exact lv_succ hc hm hv
      · exact (ints_sc _).imm
    · have hlt' : ¬ (k : Int) < (cs.length : Int) := by omega
      (repeat (first|(apply xW;(first|exact Want.none_ rfl|(refine wantG rfl rfl rfl rfl ?_;(first|assumption|exact dT ‹_›|exact dF ‹_›|exact rfl))))|(apply xF tabOk;exact rfl;exact rfl)|((first|(apply rx_cat;exact rfl;exact rfl)|apply rx_add|(apply rx_subU8;exact rfl;exact rfl;exact rfl)|apply rx_sub|apply rx_mul|apply rx_quo|apply rx_rem|apply rx_neg|apply rx_ixS|(apply rx_ixSl;exact rfl;exact rfl)|apply rx_ixRef|(apply rx_load;exact rfl;exact rfl;exact tabOk;exact rfl;exact rfl)|apply rx_loadAgg|apply rx_build|apply rx_buildSlice|apply rx_alloc|apply rx_makeFunc|apply rx_makeSlice|(apply rx_appRef;exact rfl;exact rfl)|apply rx_appNil|(apply rx_sliceS;exact rfl;exact rfl)|(apply rx_sliceSl;exact rfl;exact rfl)|apply rx_sliceRef|apply rx_min|apply rx_max|apply rx_store)<;>(first|exact tabOk|exact Nat.zero_add _|exact rfl|refine rxid ?_|assumption|omega|exact ⟨rfl⟩|exact ⟨rfl,_,_,rfl,rfl⟩|exact lb rfl|(refine Bd.mk ?_;first|assumption|omega|(focus (simp;done))|(simp;omega)|decide)|exact set_at ‹_›|exact set_at (set_at ‹_›)|(focus (apply oI;exact rfl;exact rfl;assumption))|(focus (refine ⟨rfl,_,_,rfl,?_⟩;omega))|exact bdLens rfl|exact bdTd ‹_›|(focus (simp;done))|(simp;omega)|(simp only [lA,lB,lC,lD,lE];omega)|exact newsAll rfl (by first|rfl|(simp;done)|(simp only [lA,lB,lC,lD,lE];omega))|exact newsRef rfl (by first|assumption|omega|(simp only [lA,lB,lC,lD,lE];omega))))|(apply xPick;exact rfl;exact rfl;(first|assumption|exact dT ‹_›|exact dF ‹_›|exact rfl);exact rfl;exact rfl)|(apply xSkip;(iterate 5 exact rfl);(first|assumption|exact dT ‹_›|exact dF ‹_›|exact rfl))|(apply xSkipN;(iterate 5 exact rfl))|apply rx_end|(refine rx_endD ?_ ?_;kernel_rfl)|apply AWp.seq|apply thenK_normal|apply AWp.reg|apply AWp.block|apply AWp.skip|apply AWp.label|apply AWp.exit|apply AWp.ret|apply thenK_exit|apply thenK_ret|apply blockK_normal|apply blockK_ret|apply blockK_exit|(refine AWp.regD ?_ ?_;kernel_rfl)|(refine blockK_other rfl ?_)|(apply AWp.condT;exact rfl;(first|assumption|exact dT ‹_›|exact dF ‹_›|exact rfl))|(apply AWp.condF;exact rfl;(first|assumption|exact dT ‹_›|exact dF ‹_›|exact rfl))))
      have e : k = cs.length := by omega
      subst e
      ((first|refine ret_ret _ [(0, some 0)] (.cons (rv_tmp rfl) (.cons (rv_tmp rfl) .nil)) ?_ rfl ?_|refine ret_end _ [(0, some 0)] (.cons (rv_tmp rfl) (.cons (rv_tmp rfl) .nil)) ?_ rfl ?_) <;> (repeat' (first|exact trivial|exact rfl|exact Or.inr ⟨rfl,‹_›⟩|exact Or.inl ⟨rfl,trivial⟩|apply And.intro|exact congrArg (Value.int .i64) (by first|omega|(simp;done)|(simp;omega))|(refine natEq ?_;first|(focus (simp;done))|omega|(simp only [lA,lB,lC,lD,lE];omega))|(refine ⟨_,rfl,rfl,rfl,OW.one ?_⟩)|(refine ⟨_,rfl,rfl,rfl,OW.same ?_ ?_⟩)|refine vwB ?_|refine vwS ?_|refine vwI ?_|refine fwB ?_|refine fwS ?_|refine fwI ?_|(refine AllSc.imm ?_;first|exact AllSc.nil|assumption))))
      · exact (lv_len _ _).symm
      · exact (ints_sc _).imm
end Go.Proofs.YtbboadheacmddaaGreatDoor
