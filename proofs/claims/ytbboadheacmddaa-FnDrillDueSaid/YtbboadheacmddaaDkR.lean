/- ReviewCard of both programs. No conditions but bounds of lengths. -/
import Derived.Test.YtbboadheacmddaaDkL
import Derived.Test.YtbboadheacmddaaDkG
import Derived.Test.YtbboadheacmddaaAbs3
namespace Go.Proofs.Ytbboadheacmddaa
open Go Go.RowKit
def revC (c : CardD) (now : Int) (ok : Bool) : CardD :=
  let l : Int := if ok then min (c.level + 1) 5 else 0
  ⟨c.text, l, now + (2 ^ l.toNat : Nat)⟩
def revCs (cs : List CardD) (i : Nat) (now : Int) (ok : Bool) : List CardD := match cs[i]? with
  | some c => cs.set i (revC c now ok)
  | none => cs
theorem l1Least_pf (a b : Int) : PF Try.prog 71 [.c (int a), .c (int b)] [] (.c (int (min a b))) := by
  refine PF.enter (enum2 _ _) Try.func71 rfl (by kernel_rfl) _ _ rfl rfl rfl (fun w0 mu I0 β0 gi dis => ?_)
  (repeat' (first|(apply xW;(first|exact Want.none_ rfl|(refine wantG rfl rfl rfl rfl ?_;(first|assumption|exact dT ‹_›|exact dF ‹_›|exact rfl))))|(apply xF tabOk;exact rfl;exact rfl)|((first|(apply rx_cat;exact rfl;exact rfl)|apply rx_add|apply rx_sub|apply rx_mul|apply rx_quo|apply rx_rem|apply rx_neg|apply rx_ixS|(apply rx_ixSl;exact rfl;exact rfl)|apply rx_ixRef|(apply rx_load;exact rfl;exact rfl;exact tabOk;exact rfl;exact rfl)|apply rx_loadAgg|apply rx_build|apply rx_buildSlice|apply rx_alloc|apply rx_makeFunc|apply rx_makeSlice|(apply rx_appRef;exact rfl;exact rfl)|apply rx_appNil|(apply rx_sliceS;exact rfl;exact rfl)|(apply rx_sliceSl;exact rfl;exact rfl)|apply rx_sliceRef|apply rx_min|apply rx_max|apply rx_store)<;>(first|exact tabOk|exact Nat.zero_add _|exact rfl|refine rxid ?_|assumption|omega|exact ⟨rfl⟩|exact ⟨rfl,_,_,rfl,rfl⟩|exact lb rfl|(refine Bd.mk ?_;first|assumption|omega|(focus (simp;done))|(simp;omega)|decide)|exact set_at ‹_›|exact set_at (set_at ‹_›)|(focus (refine ⟨rfl,_,_,rfl,?_⟩;omega))|exact bdLens rfl|exact bdTd ‹_›|(focus (simp;done))|(simp;omega)|(simp only [lA,lB,lC,lD,lE];omega)|exact newsAll rfl (by first|rfl|(simp;done)|(simp only [lA,lB,lC,lD,lE];omega))|exact newsRef rfl (by first|assumption|omega|(simp only [lA,lB,lC,lD,lE];omega))))|(apply xPick;exact rfl;exact rfl;(first|assumption|exact dT ‹_›|exact dF ‹_›|exact rfl);exact rfl;exact rfl)|(apply xSkip;(iterate 5 exact rfl);(first|assumption|exact dT ‹_›|exact dF ‹_›|exact rfl))|(apply xSkipN;(iterate 5 exact rfl))|apply rx_end|(refine rx_endD ?_ ?_;kernel_rfl)|apply AWp.seq|apply thenK_normal|apply AWp.reg|apply AWp.block|apply AWp.skip|apply AWp.label|apply AWp.exit|apply AWp.ret|apply thenK_exit|apply thenK_ret|apply blockK_normal|apply blockK_ret|apply blockK_exit|(refine AWp.regD ?_ ?_;kernel_rfl)|(refine blockK_other rfl ?_)|(apply AWp.condT;exact rfl;(first|assumption|exact dT ‹_›|exact dF ‹_›|exact rfl))|(apply AWp.condF;exact rfl;(first|assumption|exact dT ‹_›|exact dF ‹_›|exact rfl))|((first|refine rx_splitP rfl rfl rfl ?_ ?_|refine rx_split rfl rfl rfl ?_ ?_)<;>intro hp<;>(try (exfalso;omega)))|((first|refine AWp.condP rfl ?_ ?_|refine AWp.cond _ rfl ?_ ?_)<;>intro hp<;>(try (exfalso;omega)))))
  all_goals
    ((first|refine ret_ret _ [] (.cons (rv_tmp rfl) .nil) ?_ rfl ?_|refine ret_end _ [] (.cons (rv_tmp rfl) .nil) ?_ rfl ?_) <;> (repeat' (first|exact trivial|exact rfl|exact Or.inr ⟨rfl,‹_›⟩|exact Or.inl ⟨rfl,trivial⟩|apply And.intro|exact congrArg (Value.int .i64) (by first|omega|(simp;done)|(simp;omega))|(refine natEq ?_;first|(focus (simp;done))|omega|(simp only [lA,lB,lC,lD,lE];omega))|(refine ⟨_,rfl,rfl,rfl,OW.one ?_⟩)|(refine ⟨_,rfl,rfl,rfl,OW.same ?_ ?_⟩)|refine vwB ?_|refine vwS ?_|refine vwI ?_|refine fwB ?_|refine fwS ?_|refine fwI ?_|(refine AllSc.imm ?_;first|exact AllSc.nil|assumption))))
    all_goals skip
theorem copyCards_pf (cs : List CardD) (hl : cs.length ≤ 40) : PF Try.prog 60 [.c (.sl (cs.map encCard))] [⟨40, 3, cs.map encCard⟩] (.c (.ref 0 0 cs.length)) := by
  refine PF.enter (enum1 _) Try.func60 rfl (by kernel_rfl) _ _ rfl rfl rfl (fun w0 mu I0 β0 gi dis => ?_)
  have hz : ∀ x ∈ cs.map encCard, x.length = 3 := by
    intro x hx
    obtain ⟨c, _, rfl⟩ := List.mem_map.1 hx
    rfl
  (repeat' (first|(apply xW;(first|exact Want.none_ rfl|(refine wantG rfl rfl rfl rfl ?_;(first|assumption|exact dT ‹_›|exact dF ‹_›|exact rfl))))|(apply xF tabOk;exact rfl;exact rfl)|((first|(apply rx_cat;exact rfl;exact rfl)|apply rx_add|apply rx_sub|apply rx_mul|apply rx_quo|apply rx_rem|apply rx_neg|apply rx_ixS|(apply rx_ixSl;exact rfl;exact rfl)|apply rx_ixRef|(apply rx_load;exact rfl;exact rfl;exact tabOk;exact rfl;exact rfl)|apply rx_loadAgg|apply rx_build|apply rx_buildSlice|apply rx_alloc|apply rx_makeFunc|apply rx_makeSlice|(apply rx_appRef;exact rfl;exact rfl)|apply rx_appNil|(apply rx_sliceS;exact rfl;exact rfl)|(apply rx_sliceSl;exact rfl;exact rfl)|apply rx_sliceRef|apply rx_min|apply rx_max|apply rx_store)<;>(first|exact tabOk|exact Nat.zero_add _|exact rfl|refine rxid ?_|assumption|omega|exact ⟨rfl⟩|exact ⟨rfl,_,_,rfl,rfl⟩|exact lb rfl|(refine Bd.mk ?_;first|assumption|omega|(focus (simp;done))|(simp;omega)|decide)|exact set_at ‹_›|exact set_at (set_at ‹_›)|(focus (refine ⟨rfl,_,_,rfl,?_⟩;omega))|exact bdLens rfl|exact bdTd ‹_›|(focus (simp;done))|(simp;omega)|(simp only [lA,lB,lC,lD,lE];omega)|exact newsAll rfl (by first|rfl|(simp;done)|(simp only [lA,lB,lC,lD,lE];omega))|exact newsRef rfl (by first|assumption|omega|(simp only [lA,lB,lC,lD,lE];omega))))|(apply xPick;exact rfl;exact rfl;(first|assumption|exact dT ‹_›|exact dF ‹_›|exact rfl);exact rfl;exact rfl)|(apply xSkip;(iterate 5 exact rfl);(first|assumption|exact dT ‹_›|exact dF ‹_›|exact rfl))|(apply xSkipN;(iterate 5 exact rfl))|apply rx_end|(refine rx_endD ?_ ?_;kernel_rfl)|apply AWp.seq|apply thenK_normal|apply AWp.reg|apply AWp.block|apply AWp.skip|apply AWp.label|apply AWp.exit|apply AWp.ret|apply thenK_exit|apply thenK_ret|apply blockK_normal|apply blockK_ret|apply blockK_exit|(refine AWp.regD ?_ ?_;kernel_rfl)|(refine blockK_other rfl ?_)|(apply AWp.condT;exact rfl;(first|assumption|exact dT ‹_›|exact dF ‹_›|exact rfl))|(apply AWp.condF;exact rfl;(first|assumption|exact dT ‹_›|exact dF ‹_›|exact rfl))|((first|refine rx_splitP rfl rfl rfl ?_ ?_|refine rx_split rfl rfl rfl ?_ ?_)<;>intro hp<;>(try (exfalso;omega)))|((first|refine AWp.condP rfl ?_ ?_|refine AWp.cond _ rfl ?_ ?_)<;>intro hp<;>(try (exfalso;omega)))))
  ((first|refine ret_ret _ [(0, some 1)] (.cons (rv_tmp rfl) .nil) ?_ rfl ?_|refine ret_end _ [(0, some 1)] (.cons (rv_tmp rfl) .nil) ?_ rfl ?_) <;> (repeat' (first|exact trivial|exact rfl|exact Or.inr ⟨rfl,‹_›⟩|exact Or.inl ⟨rfl,trivial⟩|apply And.intro|exact congrArg (Value.int .i64) (by first|omega|(simp;done)|(simp;omega))|(refine natEq ?_;first|(focus (simp;done))|omega|(simp only [lA,lB,lC,lD,lE];omega))|(refine ⟨_,rfl,rfl,rfl,OW.one ?_⟩)|(refine ⟨_,rfl,rfl,rfl,OW.same ?_ ?_⟩)|refine vwB ?_|refine vwS ?_|refine vwI ?_|refine fwB ?_|refine fwS ?_|refine fwI ?_|(refine AllSc.imm ?_;first|exact AllSc.nil|assumption))))
  exact (encCards_sc cs).imm
theorem wrap_u64 {m : Nat} (h : m ≤ 5) : IntKind.u64.wrap (m : Int) = (m : Int) := by
  match m, h with
  | 0, _ => rfl
  | 1, _ => rfl
  | 2, _ => rfl
  | 3, _ => rfl
  | 4, _ => rfl
  | 5, _ => rfl
theorem shl_one {m : Nat} (h : m ≤ 5) : IntKind.i64.wrap (1 * 2 ^ (min (m : Int).toNat IntKind.i64.bits)) = ((2 ^ m : Nat) : Int) := by
  match m, h with
  | 0, _ => rfl
  | 1, _ => rfl
  | 2, _ => rfl
  | 3, _ => rfl
  | 4, _ => rfl
  | 5, _ => rfl
theorem pow_le {m : Nat} (h : m ≤ 5) : 2 ^ m ≤ 32 ∧ 1 ≤ 2 ^ m := by
  match m, h with
  | 0, _ => decide
  | 1, _ => decide
  | 2, _ => decide
  | 3, _ => decide
  | 4, _ => decide
  | 5, _ => decide
theorem revLevel {c : CardD} (h : cardOk c = true) : ∃ m : Nat, min (c.level + 1) 5 = (m : Int) ∧ m ≤ 5 := by
  obtain ⟨m, h1, h2⟩ := cardOk_level h
  exact ⟨min (m + 1) 5, by omega, by omega⟩
theorem revC_true {c : CardD} {now : Int} {m : Nat} (h : min (c.level + 1) 5 = (m : Int)) : revC c now true = ⟨c.text, m, now + (2 ^ m : Nat)⟩ := by
  simp only [revC, if_true, h, Int.toNat_natCast]
theorem revC_false {c : CardD} {now : Int} : revC c now false = ⟨c.text, 0, now + 1⟩ := by
  simp [revC]
theorem revCs_eq {cs : List CardD} {i : Nat} {now : Int} {ok : Bool} {c : CardD} (h : cs[i]? = some c) : revCs cs i now ok = cs.set i (revC c now ok) := by simp [revCs, h]
theorem revCs_len (cs : List CardD) (i : Nat) (now : Int) (ok : Bool) : (revCs cs i now ok).length = cs.length := by
  unfold revCs
  split <;> simp
theorem card_len (cs : List CardD) : ∀ x ∈ cs.map encCard, x.length = 3 := by
  intro x hx
  obtain ⟨c, _, rfl⟩ := List.mem_map.1 hx
  rfl
theorem l18Review_pf (cs : List CardD) (i : Nat) (now : Int) (ok : Bool) (c : CardD) (hc : cs[i]? = some c) (hk : cardOk c = true) (hn : inZ now 0 1000000 = true) (h40 : cs.length ≤ 40) :
    PF Try.prog 62 [.agg (encDeck cs), .c (int i), .c (int now), .c (boo ok)] [⟨40, 3, (revCs cs i now ok).map encCard⟩] (.agg [.ref 0 0 (revCs cs i now ok).length]) := by
  have hz := card_len cs
  have hc' : (cs.map encCard)[i]? = some (encCard c) := map_at hc
  have hi := (List.getElem?_eq_some_iff.1 hc).1
  have hL : (cs.map encCard).length = cs.length := List.length_map _
  have hrl := revCs_len cs i now ok
  simp only [inZ, decide_eq_true_eq] at hn
  cases ok with
  | true =>
    obtain ⟨m, hm, hm5⟩ := revLevel hk
    obtain ⟨m0, hm0, hm05⟩ := cardOk_level hk
    have hp := pow_le hm5
    have h1 : PF Try.prog 71 [.c (int (c.level + 1)), .c (int 5)] [] (.c (int m)) := by rw [← hm]; exact l1Least_pf _ _
    refine PF.enter (enum4 _ _ _ _) Try.func62 rfl (by kernel_rfl) _ _ rfl rfl rfl (fun w0 mu I0 β0 gi dis => ?_)
    (repeat' (first|(apply xW;(first|exact Want.none_ rfl|(refine wantG rfl rfl rfl rfl ?_;(first|assumption|exact dT ‹_›|exact dF ‹_›|exact rfl))))|(apply xF tabOk;exact rfl;exact rfl)|((first|(apply rx_cat;exact rfl;exact rfl)|apply rx_add|apply rx_sub|apply rx_mul|apply rx_quo|apply rx_rem|apply rx_neg|apply rx_ixS|(apply rx_ixSl;exact rfl;exact rfl)|apply rx_ixRef|(apply rx_load;exact rfl;exact rfl;exact tabOk;exact rfl;exact rfl)|apply rx_loadAgg|apply rx_build|apply rx_buildSlice|apply rx_alloc|apply rx_makeFunc|apply rx_makeSlice|(apply rx_appRef;exact rfl;exact rfl)|apply rx_appNil|(apply rx_sliceS;exact rfl;exact rfl)|(apply rx_sliceSl;exact rfl;exact rfl)|apply rx_sliceRef|apply rx_min|apply rx_max|apply rx_store)<;>(first|exact tabOk|exact Nat.zero_add _|exact rfl|refine rxid ?_|assumption|omega|exact ⟨rfl⟩|exact ⟨rfl,_,_,rfl,rfl⟩|exact lb rfl|(refine Bd.mk ?_;first|assumption|omega|(focus (simp;done))|(simp;omega)|decide)|exact set_at ‹_›|exact set_at (set_at ‹_›)|(focus (refine ⟨rfl,_,_,rfl,?_⟩;omega))|exact bdLens rfl|exact bdTd ‹_›|(focus (simp;done))|(simp;omega)|(simp only [lA,lB,lC,lD,lE];omega)|exact newsAll rfl (by first|rfl|(simp;done)|(simp only [lA,lB,lC,lD,lE];omega))|exact newsRef rfl (by first|assumption|omega|(simp only [lA,lB,lC,lD,lE];omega))))|(apply xPick;exact rfl;exact rfl;(first|assumption|exact dT ‹_›|exact dF ‹_›|exact rfl);exact rfl;exact rfl)|(apply xSkip;(iterate 5 exact rfl);(first|assumption|exact dT ‹_›|exact dF ‹_›|exact rfl))|(apply xSkipN;(iterate 5 exact rfl))|apply rx_end|(refine rx_endD ?_ ?_;kernel_rfl)|apply AWp.seq|apply thenK_normal|apply AWp.reg|apply AWp.block|apply AWp.skip|apply AWp.label|apply AWp.exit|apply AWp.ret|apply thenK_exit|apply thenK_ret|apply blockK_normal|apply blockK_ret|apply blockK_exit|(refine AWp.regD ?_ ?_;kernel_rfl)|(refine blockK_other rfl ?_)|(apply AWp.condT;exact rfl;(first|assumption|exact dT ‹_›|exact dF ‹_›|exact rfl))|(apply AWp.condF;exact rfl;(first|assumption|exact dT ‹_›|exact dF ‹_›|exact rfl))|(apply rx_callA;(iterate 6 exact rfl);(iterate 2 (focus (repeat (first|exact VAs.nil|apply VAs.cons|apply VA.c|apply VA.agg|exact VCs.nil|(apply VCs.same;assumption)|apply VCs.cons|exact VC.imm (Imm.v _)|exact VC.imm (Imm.sl _)|exact VC.imm (Imm.ip _)|exact VC.imm ‹_›|exact VC.nil|apply VC.fn|(refine VC.ptrA rfl rfl rfl rfl ?_;(repeat (first|assumption|exact imm_no|exact Imm.v _|exact Imm.sl _|exact Imm.ip _|exact Imm.nil|exact Imm.fn0 _|refine imm_cons ?_ ?_|refine Imm.fn _ _ ?_)))|(apply VC.refA;exact rfl;exact rfl;(first|exact rfl|(focus (simp;done))|omega|(focus (simp only [lA,lB,lC,lD,lE];omega)));exact rfl;(first|assumption|(refine AllSc.imm ?_;assumption)))|assumption))));(first|exact h1);(focus (repeat (first|exact trivial|exact Flat.v _|exact Flat.ref _ _ _|exact Flat.nil|apply And.intro)));(first|apply callK0|(apply callK1;(focus (repeat (first|exact trivial|apply And.intro|(first|exact AllSc.nil|assumption))))));(first|exact sh_1 _ _|exact sh_2 _ _ _|exact sh_r _ _ _ _|exact sh_r1 _ _ _ _ _|exact sh_n _|exact sh_n1 _ _|exact sh_ar _ _ _ _|exact sh_ar1 _ _ _ _ _|exact sh_an1 _ _|exact sh_3 _ _ _ _|exact rfl))|((first|refine rx_splitP rfl rfl rfl ?_ ?_|refine rx_split rfl rfl rfl ?_ ?_)<;>intro hp<;>(try (exfalso;omega)))|((first|refine AWp.condP rfl ?_ ?_|refine AWp.cond _ rfl ?_ ?_)<;>intro hp<;>(try (exfalso;omega)))))
    rw [wrap_u64 hm5]
    apply rx_shl
    exact rfl
    exact rfl
    exact rfl
    exact Int.natCast_nonneg m
    rw [shl_one hm5]
    (repeat' (first|(apply xW;(first|exact Want.none_ rfl|(refine wantG rfl rfl rfl rfl ?_;(first|assumption|exact dT ‹_›|exact dF ‹_›|exact rfl))))|(apply xF tabOk;exact rfl;exact rfl)|((first|(apply rx_cat;exact rfl;exact rfl)|apply rx_add|apply rx_sub|apply rx_mul|apply rx_quo|apply rx_rem|apply rx_neg|apply rx_ixS|(apply rx_ixSl;exact rfl;exact rfl)|apply rx_ixRef|(apply rx_load;exact rfl;exact rfl;exact tabOk;exact rfl;exact rfl)|apply rx_loadAgg|apply rx_build|apply rx_buildSlice|apply rx_alloc|apply rx_makeFunc|apply rx_makeSlice|(apply rx_appRef;exact rfl;exact rfl)|apply rx_appNil|(apply rx_sliceS;exact rfl;exact rfl)|(apply rx_sliceSl;exact rfl;exact rfl)|apply rx_sliceRef|apply rx_min|apply rx_max|apply rx_store)<;>(first|exact tabOk|exact Nat.zero_add _|exact rfl|refine rxid ?_|assumption|omega|exact ⟨rfl⟩|exact ⟨rfl,_,_,rfl,rfl⟩|exact lb rfl|(refine Bd.mk ?_;first|assumption|omega|(focus (simp;done))|(simp;omega)|decide)|exact set_at ‹_›|exact set_at (set_at ‹_›)|(focus (refine ⟨rfl,_,_,rfl,?_⟩;omega))|exact bdLens rfl|exact bdTd ‹_›|(focus (simp;done))|(simp;omega)|(simp only [lA,lB,lC,lD,lE];omega)|exact newsAll rfl (by first|rfl|(simp;done)|(simp only [lA,lB,lC,lD,lE];omega))|exact newsRef rfl (by first|assumption|omega|(simp only [lA,lB,lC,lD,lE];omega))))|(apply xPick;exact rfl;exact rfl;(first|assumption|exact dT ‹_›|exact dF ‹_›|exact rfl);exact rfl;exact rfl)|(apply xSkip;(iterate 5 exact rfl);(first|assumption|exact dT ‹_›|exact dF ‹_›|exact rfl))|(apply xSkipN;(iterate 5 exact rfl))|apply rx_end|(refine rx_endD ?_ ?_;kernel_rfl)|apply AWp.seq|apply thenK_normal|apply AWp.reg|apply AWp.block|apply AWp.skip|apply AWp.label|apply AWp.exit|apply AWp.ret|apply thenK_exit|apply thenK_ret|apply blockK_normal|apply blockK_ret|apply blockK_exit|(refine AWp.regD ?_ ?_;kernel_rfl)|(refine blockK_other rfl ?_)|(apply AWp.condT;exact rfl;(first|assumption|exact dT ‹_›|exact dF ‹_›|exact rfl))|(apply AWp.condF;exact rfl;(first|assumption|exact dT ‹_›|exact dF ‹_›|exact rfl))|((first|refine rx_splitP rfl rfl rfl ?_ ?_|refine rx_split rfl rfl rfl ?_ ?_)<;>intro hp<;>(try (exfalso;omega)))|((first|refine AWp.condP rfl ?_ ?_|refine AWp.cond _ rfl ?_ ?_)<;>intro hp<;>(try (exfalso;omega)))))
    ((first|refine ret_ret _ [(0, some 3)] (.cons (rv_agg rfl rfl rfl tabOk rfl rfl rfl) .nil) ?_ rfl ?_|refine ret_end _ [(0, some 3)] (.cons (rv_agg rfl rfl rfl tabOk rfl rfl rfl) .nil) ?_ rfl ?_) <;> (repeat' (first|exact trivial|exact rfl|exact Or.inr ⟨rfl,‹_›⟩|exact Or.inl ⟨rfl,trivial⟩|apply And.intro|exact congrArg (Value.int .i64) (by first|omega|(simp;done)|(simp;omega))|(refine natEq ?_;first|(focus (simp;done))|omega|(simp only [lA,lB,lC,lD,lE];omega))|(refine ⟨_,rfl,rfl,rfl,OW.one ?_⟩)|(refine ⟨_,rfl,rfl,rfl,OW.same ?_ ?_⟩)|refine vwB ?_|refine vwS ?_|refine vwI ?_|refine fwB ?_|refine fwS ?_|refine fwI ?_|(refine AllSc.imm ?_;first|exact AllSc.nil|assumption))))
    · simp only [List.set_set, revCs_eq hc, revC_true hm, List.map_set]
      rfl
    · exact (encCards_sc _).imm
  | false =>
    refine PF.enter (enum4 _ _ _ _) Try.func62 rfl (by kernel_rfl) _ _ rfl rfl rfl (fun w0 mu I0 β0 gi dis => ?_)
    (repeat' (first|(apply xW;(first|exact Want.none_ rfl|(refine wantG rfl rfl rfl rfl ?_;(first|assumption|exact dT ‹_›|exact dF ‹_›|exact rfl))))|(apply xF tabOk;exact rfl;exact rfl)|((first|(apply rx_cat;exact rfl;exact rfl)|apply rx_add|apply rx_sub|apply rx_mul|apply rx_quo|apply rx_rem|apply rx_neg|apply rx_ixS|(apply rx_ixSl;exact rfl;exact rfl)|apply rx_ixRef|(apply rx_load;exact rfl;exact rfl;exact tabOk;exact rfl;exact rfl)|apply rx_loadAgg|apply rx_build|apply rx_buildSlice|apply rx_alloc|apply rx_makeFunc|apply rx_makeSlice|(apply rx_appRef;exact rfl;exact rfl)|apply rx_appNil|(apply rx_sliceS;exact rfl;exact rfl)|(apply rx_sliceSl;exact rfl;exact rfl)|apply rx_sliceRef|apply rx_min|apply rx_max|apply rx_store)<;>(first|exact tabOk|exact Nat.zero_add _|exact rfl|refine rxid ?_|assumption|omega|exact ⟨rfl⟩|exact ⟨rfl,_,_,rfl,rfl⟩|exact lb rfl|(refine Bd.mk ?_;first|assumption|omega|(focus (simp;done))|(simp;omega)|decide)|exact set_at ‹_›|exact set_at (set_at ‹_›)|(focus (refine ⟨rfl,_,_,rfl,?_⟩;omega))|exact bdLens rfl|exact bdTd ‹_›|(focus (simp;done))|(simp;omega)|(simp only [lA,lB,lC,lD,lE];omega)|exact newsAll rfl (by first|rfl|(simp;done)|(simp only [lA,lB,lC,lD,lE];omega))|exact newsRef rfl (by first|assumption|omega|(simp only [lA,lB,lC,lD,lE];omega))))|(apply xPick;exact rfl;exact rfl;(first|assumption|exact dT ‹_›|exact dF ‹_›|exact rfl);exact rfl;exact rfl)|(apply xSkip;(iterate 5 exact rfl);(first|assumption|exact dT ‹_›|exact dF ‹_›|exact rfl))|(apply xSkipN;(iterate 5 exact rfl))|apply rx_end|(refine rx_endD ?_ ?_;kernel_rfl)|apply AWp.seq|apply thenK_normal|apply AWp.reg|apply AWp.block|apply AWp.skip|apply AWp.label|apply AWp.exit|apply AWp.ret|apply thenK_exit|apply thenK_ret|apply blockK_normal|apply blockK_ret|apply blockK_exit|(refine AWp.regD ?_ ?_;kernel_rfl)|(refine blockK_other rfl ?_)|(apply AWp.condT;exact rfl;(first|assumption|exact dT ‹_›|exact dF ‹_›|exact rfl))|(apply AWp.condF;exact rfl;(first|assumption|exact dT ‹_›|exact dF ‹_›|exact rfl))|((first|refine rx_splitP rfl rfl rfl ?_ ?_|refine rx_split rfl rfl rfl ?_ ?_)<;>intro hp<;>(try (exfalso;omega)))|((first|refine AWp.condP rfl ?_ ?_|refine AWp.cond _ rfl ?_ ?_)<;>intro hp<;>(try (exfalso;omega)))))
    apply rx_shl
    exact rfl
    exact rfl
    exact rfl
    exact by decide
    rw [show IntKind.i64.wrap (1 * 2 ^ (min (IntKind.u64.wrap 0).toNat IntKind.i64.bits)) = 1 from rfl]
    (repeat' (first|(apply xW;(first|exact Want.none_ rfl|(refine wantG rfl rfl rfl rfl ?_;(first|assumption|exact dT ‹_›|exact dF ‹_›|exact rfl))))|(apply xF tabOk;exact rfl;exact rfl)|((first|(apply rx_cat;exact rfl;exact rfl)|apply rx_add|apply rx_sub|apply rx_mul|apply rx_quo|apply rx_rem|apply rx_neg|apply rx_ixS|(apply rx_ixSl;exact rfl;exact rfl)|apply rx_ixRef|(apply rx_load;exact rfl;exact rfl;exact tabOk;exact rfl;exact rfl)|apply rx_loadAgg|apply rx_build|apply rx_buildSlice|apply rx_alloc|apply rx_makeFunc|apply rx_makeSlice|(apply rx_appRef;exact rfl;exact rfl)|apply rx_appNil|(apply rx_sliceS;exact rfl;exact rfl)|(apply rx_sliceSl;exact rfl;exact rfl)|apply rx_sliceRef|apply rx_min|apply rx_max|apply rx_store)<;>(first|exact tabOk|exact Nat.zero_add _|exact rfl|refine rxid ?_|assumption|omega|exact ⟨rfl⟩|exact ⟨rfl,_,_,rfl,rfl⟩|exact lb rfl|(refine Bd.mk ?_;first|assumption|omega|(focus (simp;done))|(simp;omega)|decide)|exact set_at ‹_›|exact set_at (set_at ‹_›)|(focus (refine ⟨rfl,_,_,rfl,?_⟩;omega))|exact bdLens rfl|exact bdTd ‹_›|(focus (simp;done))|(simp;omega)|(simp only [lA,lB,lC,lD,lE];omega)|exact newsAll rfl (by first|rfl|(simp;done)|(simp only [lA,lB,lC,lD,lE];omega))|exact newsRef rfl (by first|assumption|omega|(simp only [lA,lB,lC,lD,lE];omega))))|(apply xPick;exact rfl;exact rfl;(first|assumption|exact dT ‹_›|exact dF ‹_›|exact rfl);exact rfl;exact rfl)|(apply xSkip;(iterate 5 exact rfl);(first|assumption|exact dT ‹_›|exact dF ‹_›|exact rfl))|(apply xSkipN;(iterate 5 exact rfl))|apply rx_end|(refine rx_endD ?_ ?_;kernel_rfl)|apply AWp.seq|apply thenK_normal|apply AWp.reg|apply AWp.block|apply AWp.skip|apply AWp.label|apply AWp.exit|apply AWp.ret|apply thenK_exit|apply thenK_ret|apply blockK_normal|apply blockK_ret|apply blockK_exit|(refine AWp.regD ?_ ?_;kernel_rfl)|(refine blockK_other rfl ?_)|(apply AWp.condT;exact rfl;(first|assumption|exact dT ‹_›|exact dF ‹_›|exact rfl))|(apply AWp.condF;exact rfl;(first|assumption|exact dT ‹_›|exact dF ‹_›|exact rfl))|((first|refine rx_splitP rfl rfl rfl ?_ ?_|refine rx_split rfl rfl rfl ?_ ?_)<;>intro hp<;>(try (exfalso;omega)))|((first|refine AWp.condP rfl ?_ ?_|refine AWp.cond _ rfl ?_ ?_)<;>intro hp<;>(try (exfalso;omega)))))
    ((first|refine ret_ret _ [(0, some 3)] (.cons (rv_agg rfl rfl rfl tabOk rfl rfl rfl) .nil) ?_ rfl ?_|refine ret_end _ [(0, some 3)] (.cons (rv_agg rfl rfl rfl tabOk rfl rfl rfl) .nil) ?_ rfl ?_) <;> (repeat' (first|exact trivial|exact rfl|exact Or.inr ⟨rfl,‹_›⟩|exact Or.inl ⟨rfl,trivial⟩|apply And.intro|exact congrArg (Value.int .i64) (by first|omega|(simp;done)|(simp;omega))|(refine natEq ?_;first|(focus (simp;done))|omega|(simp only [lA,lB,lC,lD,lE];omega))|(refine ⟨_,rfl,rfl,rfl,OW.one ?_⟩)|(refine ⟨_,rfl,rfl,rfl,OW.same ?_ ?_⟩)|refine vwB ?_|refine vwS ?_|refine vwI ?_|refine fwB ?_|refine fwS ?_|refine fwI ?_|(refine AllSc.imm ?_;first|exact AllSc.nil|assumption))))
    · simp only [List.set_set, revCs_eq hc, revC_false, List.map_set]
      rfl
    · exact (encCards_sc _).imm
end Go.Proofs.Ytbboadheacmddaa
