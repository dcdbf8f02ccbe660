/- Texts and numbers compared, as Go's library does it. No conditions. -/
import Derived.Test.YtbboadheacmddaaGreatDoorDkE
import Derived.Test.YtbboadheacmddaaGreatDoorStabS
namespace Go.Proofs.YtbboadheacmddaaGreatDoor
open Go Go.RowKit
theorem bytesLess_irr : ∀ a : List UInt8, Op.bytesLess a a = false
  | [] => rfl
  | x :: a => by
    have ih := bytesLess_irr a
    have h : ¬ x < x := fun h => by rw [UInt8.lt_iff_toNat_lt] at h; omega
    simp [Op.bytesLess, ih, h]
theorem bytesLess_nil (a : List UInt8) : Op.bytesLess a [] = false := by cases a <;> rfl
theorem bytesLess_tr : ∀ a b c : List UInt8, Op.bytesLess a b = true → Op.bytesLess b c = true → Op.bytesLess a c = true
  | a, b, [], _, h => by rw [bytesLess_nil] at h; cases h
  | a, [], z :: c, h, _ => by rw [bytesLess_nil] at h; cases h
  | [], y :: b, z :: c, _, _ => by simp [Op.bytesLess]
  | x :: a, y :: b, z :: c, h1, h2 => by
    have ih := bytesLess_tr a b c
    simp only [Op.bytesLess, Bool.or_eq_true, decide_eq_true_eq, Bool.and_eq_true, beq_iff_eq] at *
    simp only [UInt8.lt_iff_toNat_lt] at *
    rcases h1 with h1 | ⟨rfl, h1⟩
    · rcases h2 with h2 | ⟨rfl, h2⟩
      · exact .inl (by omega)
      · exact .inl h1
    · rcases h2 with h2 | ⟨rfl, h2⟩
      · exact .inl h2
      · exact .inr ⟨rfl, ih h1 h2⟩
theorem bytesLess_wk : Wk Op.bytesLess := ⟨bytesLess_irr, bytesLess_tr, fun a b c h => by
  cases h1 : Op.bytesLess a b with
  | true => exact .inl rfl
  | false =>
    right
    rw [less_tot] at h1
    have h2 : Op.bytesLess b a = true ∨ b = a := by
      simp only [Bool.not_eq_false', Bool.or_eq_true, beq_iff_eq] at h1; exact h1
    rcases h2 with h2 | rfl
    · exact bytesLess_tr _ _ _ h2 h
    · exact h⟩
theorem isNaN_pf (x : Int) : PF Tryz.prog 41 [.c (int x)] [] (.c (boo false)) := by
  refine PF.enter (enum1 _) Tryz.func41 rfl (by kernel_rfl) _ _ rfl rfl rfl (fun w0 mu I0 β0 gi dis => ?_)
  (repeat' (first|(apply xW;(first|exact Want.none_ rfl|(refine wantG rfl rfl rfl rfl ?_;(first|assumption|exact dT ‹_›|exact dF ‹_›|exact rfl))))|(apply xF tabOk;exact rfl;exact rfl)|((first|(apply rx_cat;exact rfl;exact rfl)|apply rx_add|(apply rx_subU8;exact rfl;exact rfl;exact rfl)|apply rx_sub|apply rx_mul|apply rx_quo|apply rx_rem|apply rx_neg|apply rx_ixS|(apply rx_ixSl;exact rfl;exact rfl)|apply rx_ixRef|(apply rx_load;exact rfl;exact rfl;exact tabOk;exact rfl;exact rfl)|apply rx_loadAgg|apply rx_build|apply rx_buildSlice|apply rx_alloc|apply rx_makeFunc|apply rx_makeSlice|(apply rx_appRef;exact rfl;exact rfl)|apply rx_appNil|(apply rx_sliceS;exact rfl;exact rfl)|(apply rx_sliceSl;exact rfl;exact rfl)|apply rx_sliceRef|apply rx_min|apply rx_max|apply rx_store)<;>(first|exact tabOk|exact Nat.zero_add _|exact rfl|refine rxid ?_|assumption|omega|exact ⟨rfl⟩|exact ⟨rfl,_,_,rfl,rfl⟩|exact lb rfl|(refine Bd.mk ?_;first|assumption|omega|(focus (simp;done))|(simp;omega)|decide)|exact set_at ‹_›|exact set_at (set_at ‹_›)|(focus (apply oI;exact rfl;exact rfl;assumption))|(focus (refine ⟨rfl,_,_,rfl,?_⟩;omega))|exact bdLens rfl|exact bdTd ‹_›|(focus (simp;done))|(simp;omega)|(simp only [lA,lB,lC,lD,lE];omega)|exact newsAll rfl (by first|rfl|(simp;done)|(simp only [lA,lB,lC,lD,lE];omega))|exact newsRef rfl (by first|assumption|omega|(simp only [lA,lB,lC,lD,lE];omega))))|(apply xPick;exact rfl;exact rfl;(first|assumption|exact dT ‹_›|exact dF ‹_›|exact rfl);exact rfl;exact rfl)|(apply xSkip;(iterate 5 exact rfl);(first|assumption|exact dT ‹_›|exact dF ‹_›|exact rfl))|(apply xSkipN;(iterate 5 exact rfl))|apply rx_end|(refine rx_endD ?_ ?_;kernel_rfl)|apply AWp.seq|apply thenK_normal|apply AWp.reg|apply AWp.block|apply AWp.skip|apply AWp.label|apply AWp.exit|apply AWp.ret|apply thenK_exit|apply thenK_ret|apply blockK_normal|apply blockK_ret|apply blockK_exit|(refine AWp.regD ?_ ?_;kernel_rfl)|(refine blockK_other rfl ?_)|(apply AWp.condT;exact rfl;(first|assumption|exact dT ‹_›|exact dF ‹_›|exact rfl))|(apply AWp.condF;exact rfl;(first|assumption|exact dT ‹_›|exact dF ‹_›|exact rfl))|((first|refine rx_splitP rfl rfl rfl ?_ ?_|refine rx_split rfl rfl rfl ?_ ?_)<;>intro hp<;>(try (exfalso;omega)))|((first|refine AWp.condP rfl ?_ ?_|refine AWp.cond _ rfl ?_ ?_)<;>intro hp<;>(try (exfalso;omega)))))
  ((first|refine ret_ret _ [] (.cons (rv_tmp rfl) .nil) ?_ rfl ?_|refine ret_end _ [] (.cons (rv_tmp rfl) .nil) ?_ rfl ?_) <;> (repeat' (first|exact trivial|exact rfl|exact Or.inr ⟨rfl,‹_›⟩|exact Or.inl ⟨rfl,trivial⟩|apply And.intro|exact congrArg (Value.int .i64) (by first|omega|(simp;done)|(simp;omega))|(refine natEq ?_;first|(focus (simp;done))|omega|(simp only [lA,lB,lC,lD,lE];omega))|(refine ⟨_,rfl,rfl,rfl,OW.one ?_⟩)|(refine ⟨_,rfl,rfl,rfl,OW.same ?_ ?_⟩)|refine vwB ?_|refine vwS ?_|refine vwI ?_|refine fwB ?_|refine fwS ?_|refine fwI ?_|(refine AllSc.imm ?_;first|exact AllSc.nil|assumption))))
  simp
def sgn (x y : Int) : Int := if x < y then -1 else if y < x then 1 else 0
theorem cmpInt_pf (x y : Int) : PF Tryz.prog 22 [.c (int x), .c (int y)] [] (.c (int (sgn x y))) := by
  refine PF.enter (enum2 _ _) Tryz.func22 rfl (by kernel_rfl) _ _ rfl rfl rfl (fun w0 mu I0 β0 gi dis => ?_)
  (repeat' (first|(apply xW;(first|exact Want.none_ rfl|(refine wantG rfl rfl rfl rfl ?_;(first|assumption|exact dT ‹_›|exact dF ‹_›|exact rfl))))|(apply xF tabOk;exact rfl;exact rfl)|((first|(apply rx_cat;exact rfl;exact rfl)|apply rx_add|(apply rx_subU8;exact rfl;exact rfl;exact rfl)|apply rx_sub|apply rx_mul|apply rx_quo|apply rx_rem|apply rx_neg|apply rx_ixS|(apply rx_ixSl;exact rfl;exact rfl)|apply rx_ixRef|(apply rx_load;exact rfl;exact rfl;exact tabOk;exact rfl;exact rfl)|apply rx_loadAgg|apply rx_build|apply rx_buildSlice|apply rx_alloc|apply rx_makeFunc|apply rx_makeSlice|(apply rx_appRef;exact rfl;exact rfl)|apply rx_appNil|(apply rx_sliceS;exact rfl;exact rfl)|(apply rx_sliceSl;exact rfl;exact rfl)|apply rx_sliceRef|apply rx_min|apply rx_max|apply rx_store)<;>(first|exact tabOk|exact Nat.zero_add _|exact rfl|refine rxid ?_|assumption|omega|exact ⟨rfl⟩|exact ⟨rfl,_,_,rfl,rfl⟩|exact lb rfl|(refine Bd.mk ?_;first|assumption|omega|(focus (simp;done))|(simp;omega)|decide)|exact set_at ‹_›|exact set_at (set_at ‹_›)|(focus (apply oI;exact rfl;exact rfl;assumption))|(focus (refine ⟨rfl,_,_,rfl,?_⟩;omega))|exact bdLens rfl|exact bdTd ‹_›|(focus (simp;done))|(simp;omega)|(simp only [lA,lB,lC,lD,lE];omega)|exact newsAll rfl (by first|rfl|(simp;done)|(simp only [lA,lB,lC,lD,lE];omega))|exact newsRef rfl (by first|assumption|omega|(simp only [lA,lB,lC,lD,lE];omega))))|(apply xPick;exact rfl;exact rfl;(first|assumption|exact dT ‹_›|exact dF ‹_›|exact rfl);exact rfl;exact rfl)|(apply xSkip;(iterate 5 exact rfl);(first|assumption|exact dT ‹_›|exact dF ‹_›|exact rfl))|(apply xSkipN;(iterate 5 exact rfl))|apply rx_end|(refine rx_endD ?_ ?_;kernel_rfl)|apply AWp.seq|apply thenK_normal|apply AWp.reg|apply AWp.block|apply AWp.skip|apply AWp.label|apply AWp.exit|apply AWp.ret|apply thenK_exit|apply thenK_ret|apply blockK_normal|apply blockK_ret|apply blockK_exit|(refine AWp.regD ?_ ?_;kernel_rfl)|(refine blockK_other rfl ?_)|(apply AWp.condT;exact rfl;(first|assumption|exact dT ‹_›|exact dF ‹_›|exact rfl))|(apply AWp.condF;exact rfl;(first|assumption|exact dT ‹_›|exact dF ‹_›|exact rfl))|(apply rx_callA;(iterate 6 exact rfl);(iterate 2 (focus (repeat (first|exact VAs.nil|apply VAs.cons|apply VA.c|apply VA.agg|exact VCs.nil|(apply VCs.same;assumption)|apply VCs.cons|exact VC.imm (Imm.v _)|exact VC.imm (Imm.sl _)|exact VC.imm (Imm.ip _)|exact VC.imm ‹_›|exact VC.nil|apply VC.fn|(refine VC.ptrA rfl rfl rfl rfl ?_;(repeat (first|assumption|exact imm_no|exact Imm.v _|exact Imm.sl _|exact Imm.ip _|exact Imm.nil|exact Imm.fn0 _|refine imm_cons ?_ ?_|refine Imm.fn _ _ ?_)))|(apply VC.refA;exact rfl;exact rfl;(first|exact rfl|(focus (simp;done))|omega|(focus (simp only [lA,lB,lC,lD,lE];omega)));exact rfl;(first|assumption|(refine AllSc.imm ?_;assumption)))|(apply VC.refP;exact rfl;exact rfl;(first|assumption|omega|(focus (simp only [lA,lB,lC,lD,lE];omega))|(focus (simp;done))|(focus (simp;omega)));exact rfl;(first|assumption|(refine AllSc.imm ?_;assumption)))|assumption))));(first|exact isNaN_pf x|exact isNaN_pf y);(focus (repeat (first|exact trivial|exact Flat.v _|exact Flat.dead|exact Flat.ref _ _ _|exact Flat.nil|apply And.intro)));(first|apply callK0|(apply callK1;(focus (repeat (first|exact trivial|apply And.intro|(first|exact AllSc.nil|assumption))))));(first|exact sh_1 _ _|exact sh_2 _ _ _|exact sh_r _ _ _ _|exact sh_r1 _ _ _ _ _|exact sh_n _|exact sh_n1 _ _|exact sh_ar _ _ _ _|exact sh_ar1 _ _ _ _ _|exact sh_an1 _ _|exact sh_3 _ _ _ _|exact rfl))|((first|refine rx_splitP rfl rfl rfl ?_ ?_|refine rx_split rfl rfl rfl ?_ ?_)<;>intro hp<;>(try (exfalso;omega)))|((first|refine AWp.condP rfl ?_ ?_|refine AWp.cond _ rfl ?_ ?_)<;>intro hp<;>(try (exfalso;omega)))))
  all_goals
    rw [sgn]
    first | rw [if_pos (by assumption)] | rw [if_neg (by assumption), if_pos (by assumption)] | rw [if_neg (by assumption), if_neg (by assumption)]
    ((first|refine ret_ret _ [] (.cons (rv_tmp rfl) .nil) ?_ rfl ?_|refine ret_end _ [] (.cons (rv_tmp rfl) .nil) ?_ rfl ?_) <;> (repeat' (first|exact trivial|exact rfl|exact Or.inr ⟨rfl,‹_›⟩|exact Or.inl ⟨rfl,trivial⟩|apply And.intro|exact congrArg (Value.int .i64) (by first|omega|(simp;done)|(simp;omega))|(refine natEq ?_;first|(focus (simp;done))|omega|(simp only [lA,lB,lC,lD,lE];omega))|(refine ⟨_,rfl,rfl,rfl,OW.one ?_⟩)|(refine ⟨_,rfl,rfl,rfl,OW.same ?_ ?_⟩)|refine vwB ?_|refine vwS ?_|refine vwI ?_|refine fwB ?_|refine fwS ?_|refine fwI ?_|(refine AllSc.imm ?_;first|exact AllSc.nil|assumption))))
theorem sgn_neg (x y : Int) : decide (x < y) = true ↔ sgn x y < 0 := by
  unfold sgn
  by_cases h : x < y
  · simp [h]
  · rw [if_neg h]
    by_cases h2 : y < x <;> simp [h, h2]
/-- cards by their texts -/
def ltT (a b : CardD) : Bool := Op.bytesLess a.text b.text
theorem ltT_wk : Wk ltT := ⟨fun a => bytesLess_wk.irr _, fun a b c => bytesLess_wk.tr _ _ _, fun a b c => bytesLess_wk.nt _ _ _⟩
end Go.Proofs.YtbboadheacmddaaGreatDoor
