/- The order of texts. No conditions but bounds of lengths. -/
import Derived.Test.YtbboadheacmddaaGreatDoorDkA2
namespace Go.Proofs.YtbboadheacmddaaGreatDoor
open Go Go.RowKit
theorem drop_at {α : Type} {l : List α} {k : Nat} {x : α} (h : l[k]? = some x) : l.drop k = x :: l.drop (k + 1) := by
  obtain ⟨h1, h2⟩ := List.getElem?_eq_some_iff.1 h
  rw [List.drop_eq_getElem_cons h1, h2]
theorem less_at {a b : List UInt8} {k : Nat} {x y : UInt8} (h1 : a[k]? = some x) (h2 : b[k]? = some y) :
    Op.bytesLess (a.drop k) (b.drop k) = (decide ((x.toNat : Int) < (y.toNat : Int)) || (decide ((x.toNat : Int) = (y.toNat : Int)) && Op.bytesLess (a.drop (k + 1)) (b.drop (k + 1)))) := by
  rw [drop_at h1, drop_at h2, Op.bytesLess]
  have e1 : decide (x < y) = decide ((x.toNat : Int) < (y.toNat : Int)) := by
    have : x < y ↔ (x.toNat : Int) < (y.toNat : Int) := by rw [UInt8.lt_iff_toNat_lt]; omega
    simp [this]
  have e2 : (x == y) = decide ((x.toNat : Int) = (y.toNat : Int)) := by
    have : x = y ↔ (x.toNat : Int) = (y.toNat : Int) := by rw [← UInt8.toNat_inj]; omega
    by_cases h : x = y <;> simp [h, ← this]
  rw [e1, e2]
theorem less_end {a b : List UInt8} {k : Nat} (h1 : k ≤ a.length) (h2 : k ≤ b.length) (h : ¬ (k < a.length ∧ k < b.length)) :
    Op.bytesLess (a.drop k) (b.drop k) = decide ((a.length : Int) < (b.length : Int)) := by
  by_cases hb : k < b.length
  · have ha : a.length ≤ k := by omega
    rw [List.drop_eq_nil_of_le ha, List.drop_eq_getElem_cons hb]
    simp [Op.bytesLess]; omega
  · rw [show b.drop k = [] from List.drop_eq_nil_of_le (by omega)]
    cases a.drop k <;> simp [Op.bytesLess] <;> omega
theorem l18Less_pf (a b : List UInt8) (ha : a.length ≤ 4000000) (hb : b.length ≤ 4000000) : PF Tryz.prog 45 [.c (str a), .c (str b)] [] (.c (boo (Op.bytesLess a b))) := by
  refine PF.enter (enum2 _ _) Tryz.func45 rfl (by kernel_rfl) _ _ rfl rfl rfl (fun w0 mu I0 β0 gi dis => ?_)
  (repeat (first|(apply xW;(first|exact Want.none_ rfl|(refine wantG rfl rfl rfl rfl ?_;(first|assumption|exact dT ‹_›|exact dF ‹_›|exact rfl))))|(apply xF tabOk;exact rfl;exact rfl)|((first|(apply rx_cat;exact rfl;exact rfl)|apply rx_add|(apply rx_subU8;exact rfl;exact rfl;exact rfl)|apply rx_sub|apply rx_mul|apply rx_quo|apply rx_rem|apply rx_neg|apply rx_ixS|(apply rx_ixSl;exact rfl;exact rfl)|apply rx_ixRef|(apply rx_load;exact rfl;exact rfl;exact tabOk;exact rfl;exact rfl)|apply rx_loadAgg|apply rx_build|apply rx_buildSlice|apply rx_alloc|apply rx_makeFunc|apply rx_makeSlice|(apply rx_appRef;exact rfl;exact rfl)|apply rx_appNil|(apply rx_sliceS;exact rfl;exact rfl)|(apply rx_sliceSl;exact rfl;exact rfl)|apply rx_sliceRef|apply rx_min|apply rx_max|apply rx_store)<;>(first|exact tabOk|exact Nat.zero_add _|exact rfl|refine rxid ?_|assumption|omega|exact ⟨rfl⟩|exact ⟨rfl,_,_,rfl,rfl⟩|exact lb rfl|(refine Bd.mk ?_;first|assumption|omega|(focus (simp;done))|(simp;omega)|decide)|exact set_at ‹_›|exact set_at (set_at ‹_›)|(focus (apply oI;exact rfl;exact rfl;assumption))|(focus (refine ⟨rfl,_,_,rfl,?_⟩;omega))|exact bdLens rfl|exact bdTd ‹_›|(focus (simp;done))|(simp;omega)|(simp only [lA,lB,lC,lD,lE];omega)|exact newsAll rfl (by first|rfl|(simp;done)|(simp only [lA,lB,lC,lD,lE];omega))|exact newsRef rfl (by first|assumption|omega|(simp only [lA,lB,lC,lD,lE];omega))))|(apply xPick;exact rfl;exact rfl;(first|assumption|exact dT ‹_›|exact dF ‹_›|exact rfl);exact rfl;exact rfl)|(apply xSkip;(iterate 5 exact rfl);(first|assumption|exact dT ‹_›|exact dF ‹_›|exact rfl))|(apply xSkipN;(iterate 5 exact rfl))|apply rx_end|(refine rx_endD ?_ ?_;kernel_rfl)|apply AWp.seq|apply thenK_normal|apply AWp.reg|apply AWp.block|apply AWp.skip|apply AWp.label|apply AWp.exit|apply AWp.ret|apply thenK_exit|apply thenK_ret|apply blockK_normal|apply blockK_ret|apply blockK_exit|(refine AWp.regD ?_ ?_;kernel_rfl)|(refine blockK_other rfl ?_)|(apply AWp.condT;exact rfl;(first|assumption|exact dT ‹_›|exact dF ‹_›|exact rfl))|(apply AWp.condF;exact rfl;(first|assumption|exact dT ‹_›|exact dF ‹_›|exact rfl))))
  refine AWp.loop (σ := Nat) (fun k => ⟨[(0, .c (str a)), (1, .c (str b)), (5, .c (int k))], [], 0⟩) (fun k => k ≤ a.length ∧ k ≤ b.length ∧ Op.bytesLess a b = Op.bytesLess (a.drop k) (b.drop k)) (fun k => a.length - k) 0 ⟨Nat.zero_le _, Nat.zero_le _, rfl⟩ ?_ ?_
  · refine Weak.of [] rfl ?_ ?_ <;> (repeat' (first|exact trivial|exact rfl|exact Or.inr ⟨rfl,‹_›⟩|exact Or.inl ⟨rfl,trivial⟩|apply And.intro|exact congrArg (Value.int .i64) (by first|omega|(simp;done)|(simp;omega))|(refine natEq ?_;first|(focus (simp;done))|omega|(simp only [lA,lB,lC,lD,lE];omega))|(refine ⟨_,rfl,rfl,rfl,OW.one ?_⟩)|(refine ⟨_,rfl,rfl,rfl,OW.same ?_ ?_⟩)|refine vwB ?_|refine vwS ?_|refine vwI ?_|refine fwB ?_|refine fwS ?_|refine fwI ?_|(refine AllSc.imm ?_;first|exact AllSc.nil|assumption)))
  · rintro k ⟨hk, hk2, hall⟩
    by_cases hlt : k < a.length ∧ k < b.length
    · obtain ⟨x, hx⟩ := at_lt hlt.1
      obtain ⟨y, hy⟩ := at_lt hlt.2
      have h1' : (k : Int) < (a.length : Int) := by omega
      have h2' : (k : Int) < (b.length : Int) := by omega
      rw [less_at hx hy] at hall
      (repeat' (first|(apply xW;(first|exact Want.none_ rfl|(refine wantG rfl rfl rfl rfl ?_;(first|assumption|exact dT ‹_›|exact dF ‹_›|exact rfl))))|(apply xF tabOk;exact rfl;exact rfl)|((first|(apply rx_cat;exact rfl;exact rfl)|apply rx_add|(apply rx_subU8;exact rfl;exact rfl;exact rfl)|apply rx_sub|apply rx_mul|apply rx_quo|apply rx_rem|apply rx_neg|apply rx_ixS|(apply rx_ixSl;exact rfl;exact rfl)|apply rx_ixRef|(apply rx_load;exact rfl;exact rfl;exact tabOk;exact rfl;exact rfl)|apply rx_loadAgg|apply rx_build|apply rx_buildSlice|apply rx_alloc|apply rx_makeFunc|apply rx_makeSlice|(apply rx_appRef;exact rfl;exact rfl)|apply rx_appNil|(apply rx_sliceS;exact rfl;exact rfl)|(apply rx_sliceSl;exact rfl;exact rfl)|apply rx_sliceRef|apply rx_min|apply rx_max|apply rx_store)<;>(first|exact tabOk|exact Nat.zero_add _|exact rfl|refine rxid ?_|assumption|omega|exact ⟨rfl⟩|exact ⟨rfl,_,_,rfl,rfl⟩|exact lb rfl|(refine Bd.mk ?_;first|assumption|omega|(focus (simp;done))|(simp;omega)|decide)|exact set_at ‹_›|exact set_at (set_at ‹_›)|(focus (apply oI;exact rfl;exact rfl;assumption))|(focus (refine ⟨rfl,_,_,rfl,?_⟩;omega))|exact bdLens rfl|exact bdTd ‹_›|(focus (simp;done))|(simp;omega)|(simp only [lA,lB,lC,lD,lE];omega)|exact newsAll rfl (by first|rfl|(simp;done)|(simp only [lA,lB,lC,lD,lE];omega))|exact newsRef rfl (by first|assumption|omega|(simp only [lA,lB,lC,lD,lE];omega))))|(apply xPick;exact rfl;exact rfl;(first|assumption|exact dT ‹_›|exact dF ‹_›|exact rfl);exact rfl;exact rfl)|(apply xSkip;(iterate 5 exact rfl);(first|assumption|exact dT ‹_›|exact dF ‹_›|exact rfl))|(apply xSkipN;(iterate 5 exact rfl))|apply rx_end|(refine rx_endD ?_ ?_;kernel_rfl)|apply AWp.seq|apply thenK_normal|apply AWp.reg|apply AWp.block|apply AWp.skip|apply AWp.label|apply AWp.exit|apply AWp.ret|apply thenK_exit|apply thenK_ret|apply blockK_normal|apply blockK_ret|apply blockK_exit|(refine AWp.regD ?_ ?_;kernel_rfl)|(refine blockK_other rfl ?_)|(apply AWp.condT;exact rfl;(first|assumption|exact dT ‹_›|exact dF ‹_›|exact rfl))|(apply AWp.condF;exact rfl;(first|assumption|exact dT ‹_›|exact dF ‹_›|exact rfl))|((first|refine rx_splitP rfl rfl rfl ?_ ?_|refine rx_split rfl rfl rfl ?_ ?_)<;>intro hp<;>(try (exfalso;omega)))|((first|refine AWp.condP rfl ?_ ?_|refine AWp.cond _ rfl ?_ ?_)<;>intro hp<;>(try (exfalso;omega)))))
      · refine ret_ret _ [] (.cons (rv_tmp rfl) .nil) ?_ rfl trivial
        simp only [VW, FW, FWs, CW, CWs, mkRes, boo, int, str, and_true, true_and]
        simp only [hall]
        by_cases h : (x.toNat : Int) < (y.toNat : Int) <;> simp [h]
        omega
      · refine ⟨k + 1, ⟨by omega, by omega, ?_⟩, by omega, ?_⟩
        · rw [hall]
          have e : (x.toNat : Int) = (y.toNat : Int) := by omega
          simp [e]
        refine Weak.of [] rfl ?_ ?_ <;> (repeat' (first|exact trivial|exact rfl|exact Or.inr ⟨rfl,‹_›⟩|exact Or.inl ⟨rfl,trivial⟩|apply And.intro|exact congrArg (Value.int .i64) (by first|omega|(simp;done)|(simp;omega))|(refine natEq ?_;first|(focus (simp;done))|omega|(simp only [lA,lB,lC,lD,lE];omega))|(refine ⟨_,rfl,rfl,rfl,OW.one ?_⟩)|(refine ⟨_,rfl,rfl,rfl,OW.same ?_ ?_⟩)|refine vwB ?_|refine vwS ?_|refine vwI ?_|refine fwB ?_|refine fwS ?_|refine fwI ?_|(refine AllSc.imm ?_;first|exact AllSc.nil|assumption)))
    · rw [less_end hk hk2 hlt] at hall
      (repeat' (first|(apply xW;(first|exact Want.none_ rfl|(refine wantG rfl rfl rfl rfl ?_;(first|assumption|exact dT ‹_›|exact dF ‹_›|exact rfl))))|(apply xF tabOk;exact rfl;exact rfl)|((first|(apply rx_cat;exact rfl;exact rfl)|apply rx_add|(apply rx_subU8;exact rfl;exact rfl;exact rfl)|apply rx_sub|apply rx_mul|apply rx_quo|apply rx_rem|apply rx_neg|apply rx_ixS|(apply rx_ixSl;exact rfl;exact rfl)|apply rx_ixRef|(apply rx_load;exact rfl;exact rfl;exact tabOk;exact rfl;exact rfl)|apply rx_loadAgg|apply rx_build|apply rx_buildSlice|apply rx_alloc|apply rx_makeFunc|apply rx_makeSlice|(apply rx_appRef;exact rfl;exact rfl)|apply rx_appNil|(apply rx_sliceS;exact rfl;exact rfl)|(apply rx_sliceSl;exact rfl;exact rfl)|apply rx_sliceRef|apply rx_min|apply rx_max|apply rx_store)<;>(first|exact tabOk|exact Nat.zero_add _|exact rfl|refine rxid ?_|assumption|omega|exact ⟨rfl⟩|exact ⟨rfl,_,_,rfl,rfl⟩|exact lb rfl|(refine Bd.mk ?_;first|assumption|omega|(focus (simp;done))|(simp;omega)|decide)|exact set_at ‹_›|exact set_at (set_at ‹_›)|(focus (apply oI;exact rfl;exact rfl;assumption))|(focus (refine ⟨rfl,_,_,rfl,?_⟩;omega))|exact bdLens rfl|exact bdTd ‹_›|(focus (simp;done))|(simp;omega)|(simp only [lA,lB,lC,lD,lE];omega)|exact newsAll rfl (by first|rfl|(simp;done)|(simp only [lA,lB,lC,lD,lE];omega))|exact newsRef rfl (by first|assumption|omega|(simp only [lA,lB,lC,lD,lE];omega))))|(apply xPick;exact rfl;exact rfl;(first|assumption|exact dT ‹_›|exact dF ‹_›|exact rfl);exact rfl;exact rfl)|(apply xSkip;(iterate 5 exact rfl);(first|assumption|exact dT ‹_›|exact dF ‹_›|exact rfl))|(apply xSkipN;(iterate 5 exact rfl))|apply rx_end|(refine rx_endD ?_ ?_;kernel_rfl)|apply AWp.seq|apply thenK_normal|apply AWp.reg|apply AWp.block|apply AWp.skip|apply AWp.label|apply AWp.exit|apply AWp.ret|apply thenK_exit|apply thenK_ret|apply blockK_normal|apply blockK_ret|apply blockK_exit|(refine AWp.regD ?_ ?_;kernel_rfl)|(refine blockK_other rfl ?_)|(apply AWp.condT;exact rfl;(first|assumption|exact dT ‹_›|exact dF ‹_›|exact rfl))|(apply AWp.condF;exact rfl;(first|assumption|exact dT ‹_›|exact dF ‹_›|exact rfl))|((first|refine rx_splitP rfl rfl rfl ?_ ?_|refine rx_split rfl rfl rfl ?_ ?_)<;>intro hp<;>(try (exfalso;omega)))|((first|refine AWp.condP rfl ?_ ?_|refine AWp.cond _ rfl ?_ ?_)<;>intro hp<;>(try (exfalso;omega)))))
      all_goals
        refine ret_ret _ [] (.cons (rv_tmp rfl) .nil) ?_ rfl trivial
        simp only [VW, FW, FWs, CW, CWs, mkRes, boo, int, str, and_true, true_and]
        simp only [hall]
end Go.Proofs.YtbboadheacmddaaGreatDoor
