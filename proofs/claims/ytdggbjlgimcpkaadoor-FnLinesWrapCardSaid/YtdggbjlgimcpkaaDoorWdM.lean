/- Words and widths that are drawn. No conditions but bounds. -/
import Derived.Test.YtdggbjlgimcpkaaDoorCur
import Derived.Test.YtdggbjlgimcpkaaDoorWdB
namespace Go.Proofs.YtdggbjlgimcpkaaDoor
open Go Go.RowKit
def l8 : List (List UInt8) := [[97], [111, 102], [116, 104, 101], [119, 111, 114, 100], [115, 116, 101, 110, 111], [107, 101, 121, 115], [73], [116, 114, 97, 110, 115, 108, 97, 116, 101]]
def l3 : List (List UInt8) := [[], [120, 32, 121], [1]]
/-- one word -/
def dwC (code : List UInt8) (c : Cur) : Cur := if pkV code (pkC code c 8) 60 = 0 then pkC code (pkC code (pkC code c 8) 60) 3 else pkC code (pkC code c 8) 60
def dwS (code : List UInt8) (c : Cur) : List UInt8 := if pkV code (pkC code c 8) 60 = 0 then ofV code (pkC code (pkC code c 8) 60) l3 else ofV code c l8
def dwCs (code : List UInt8) (c : Cur) : Nat → Cur
  | 0 => c
  | k + 1 => dwC code (dwCs code c k)
def dwL (code : List UInt8) (c : Cur) : Nat → List (List UInt8)
  | 0 => []
  | k + 1 => dwL code c k ++ [dwS code (dwCs code c k)]
theorem dwL_len (code : List UInt8) (c : Cur) : ∀ k, (dwL code c k).length = k
  | 0 => rfl
  | k + 1 => by rw [dwL, List.length_append, dwL_len code c k]; rfl
theorem dwC_a (code : List UInt8) (c : Cur) : (dwC code c).a ≤ c.a + 3 := by
  have h1 := pkC_a code c 8
  have h2 := pkC_a code (pkC code c 8) 60
  have h3 := pkC_a code (pkC code (pkC code c 8) 60) 3
  unfold dwC
  split <;> omega
theorem dwCs_a (code : List UInt8) (c : Cur) : ∀ k, (dwCs code c k).a ≤ c.a + 3 * k
  | 0 => Nat.le_refl _
  | k + 1 => by
    have h1 := dwCs_a code c k
    have h2 := dwC_a code (dwCs code c k)
    rw [dwCs]; omega
theorem ofV_le {code : List UInt8} {c : Cur} {l : List (List UInt8)} (h : ∀ x ∈ l, x.length ≤ 9) : (ofV code c l).length ≤ 9 := by
  unfold ofV
  cases hx : l[(pkV code c l.length).toNat]? with
  | none => simp
  | some x => exact h x (List.mem_of_getElem? hx)
theorem dwS_le (code : List UInt8) (c : Cur) : (dwS code c).length ≤ 9 := by
  unfold dwS
  split
  · exact ofV_le (by decide)
  · exact ofV_le (by decide)
theorem dwL_le (code : List UInt8) (c : Cur) : ∀ k, ∀ l ∈ dwL code c k, l.length ≤ 9
  | 0, l, h => by simp [dwL] at h
  | k + 1, l, h => by
    rw [dwL, List.mem_append] at h
    rcases h with h | h
    · exact dwL_le code c k l h
    · simp at h; subst h; exact dwS_le _ _
/-- how many words, and the cursor behind that draw -/
def dnC (code : List UInt8) (c : Cur) : Cur := if pkV code (pkC code c 9) 40 = 0 then pkC code (pkC code (pkC code c 9) 40) 2 else pkC code (pkC code c 9) 40
def dnV (code : List UInt8) (c : Cur) : Nat := if pkV code (pkC code c 9) 40 = 0 then 40 + (pkV code (pkC code (pkC code c 9) 40) 2).toNat else (pkV code c 9).toNat
theorem dnV_le (code : List UInt8) (c : Cur) : dnV code c ≤ 41 := by
  have h1 := pkV_in code c (n := 9) (by omega)
  have h2 := pkV_in code (pkC code (pkC code c 9) 40) (n := 2) (by omega)
  unfold dnV
  split <;> omega
theorem dnC_a (code : List UInt8) (c : Cur) : (dnC code c).a ≤ c.a + 3 := by
  have h1 := pkC_a code c 9
  have h2 := pkC_a code (pkC code c 9) 40
  have h3 := pkC_a code (pkC code (pkC code c 9) 40) 2
  unfold dnC
  split <;> omega
def drC (code : List UInt8) (c : Cur) : Cur := dwCs code (dnC code c) (dnV code c)
def drL (code : List UInt8) (c : Cur) : List (List UInt8) := dwL code (dnC code c) (dnV code c)
theorem drC_a (code : List UInt8) (c : Cur) : (drC code c).a ≤ c.a + 200 := by
  have h1 := dnC_a code c
  have h2 := dnV_le code c
  have h3 := dwCs_a code (dnC code c) (dnV code c)
  rw [drC]; omega
theorem l19DrawWords_pfm (code : List UInt8) (c : Cur) (hl : code.length ≤ 65536) (hc : c.a ≤ 10000000) :
    PFM Tryd.prog 58 [curO code c] [.c (.ptr 0 0 0)] [some (curO code (drC code c)), some ⟨9, 1, (drL code c).map eStr⟩] (.c (.ref 1 0 (drL code c).length)) := by
  have a1 := pkC_a code c 9
  have a2 := pkC_a code (pkC code c 9) 40
  have a3 := pkC_a code (pkC code (pkC code c 9) 40) 2
  have v1 := pkV_in code c (n := 9) (by omega)
  have v3 := pkV_in code (pkC code (pkC code c 9) 40) (n := 2) (by omega)
  have i1 := imO2 (curO_im code (pkC code c 9))
  have i2 := imO2 (curO_im code (pkC code (pkC code c 9) 40))
  have i3 := imO2 (curO_im code (pkC code (pkC code (pkC code c 9) 40) 2))
  have j0 := iiP1 (curO_im code c)
  have j1 := iiP1 (curO_im code (pkC code c 9))
  have j2 := iiP1 (curO_im code (pkC code (pkC code c 9) 40))
  have hdn := dnV_le code c
  have hda := dnC_a code c
  have p1 := pick_pfm code c hl (by omega) 9 (by omega)
  have p2 := one_pfm code (pkC code c 9) hl (by omega) 40 (by omega)
  have p3 := pick_pfm code (pkC code (pkC code c 9) 40) hl (by omega) 2 (by omega)
  refine PFM.enterT (enum1 _) (enumM1 _) rfl Tryd.func58 rfl (by kernel_rfl) _ _ rfl rfl rfl (fun w0 mu I0 β0 gi dis => ?_)
  (repeat' (first|(apply xW;(first|exact Want.none_ rfl|(refine wantG rfl rfl rfl rfl ?_;(first|assumption|exact dT ‹_›|exact dF ‹_›|exact rfl))))|(apply xF tabOk;exact rfl;exact rfl)|((first|(apply rx_cat;exact rfl;exact rfl)|apply rx_add|(apply rx_subU8;exact rfl;exact rfl;exact rfl)|apply rx_sub|apply rx_mul|apply rx_quo|apply rx_rem|apply rx_neg|apply rx_ixS|(apply rx_ixSl;exact rfl;exact rfl)|apply rx_ixRef|(apply rx_load;exact rfl;exact rfl;exact tabOk;exact rfl;exact rfl)|apply rx_loadAgg|apply rx_build|apply rx_buildSlice|apply rx_alloc|apply rx_makeFunc|apply rx_makeSlice|(apply rx_appRef;exact rfl;exact rfl)|apply rx_appNil|(apply rx_sliceS;exact rfl;exact rfl)|(apply rx_sliceSl;exact rfl;exact rfl)|apply rx_sliceRef|apply rx_min|apply rx_max|apply rx_store)<;>(first|exact tabOk|exact Nat.zero_add _|exact rfl|refine rxid ?_|assumption|omega|exact ⟨rfl⟩|exact ⟨rfl,_,_,rfl,rfl⟩|exact lb rfl|(refine Bd.mk ?_;first|assumption|omega|(focus (simp;done))|(simp;omega)|decide)|exact set_at ‹_›|exact set_at (set_at ‹_›)|(focus (apply oI;exact rfl;exact rfl;assumption))|(focus (refine ⟨rfl,_,_,rfl,?_⟩;omega))|exact bdLens rfl|exact bdTd ‹_›|(focus (simp;done))|(simp;omega)|(simp only [lA,lB,lC,lD,lE];omega)|exact newsAll rfl (by first|rfl|(simp;done)|(simp only [lA,lB,lC,lD,lE];omega))|exact newsRef rfl (by first|assumption|omega|(simp only [lA,lB,lC,lD,lE];omega))))|(apply xPick;exact rfl;exact rfl;(first|assumption|exact dT ‹_›|exact dF ‹_›|exact rfl);exact rfl;exact rfl)|(apply xSkip;(iterate 5 exact rfl);(first|assumption|exact dT ‹_›|exact dF ‹_›|exact rfl))|(apply xSkipN;(iterate 5 exact rfl))|apply rx_end|(refine rx_endD ?_ ?_;kernel_rfl)|apply AWp.seq|apply thenK_normal|apply AWp.reg|apply AWp.block|apply AWp.skip|apply AWp.label|apply AWp.exit|apply AWp.ret|apply thenK_exit|apply thenK_ret|apply blockK_normal|apply blockK_ret|apply blockK_exit|(refine AWp.regD ?_ ?_;kernel_rfl)|(refine blockK_other rfl ?_)|(apply AWp.condT;exact rfl;(first|assumption|exact dT ‹_›|exact dF ‹_›|exact rfl))|(apply AWp.condF;exact rfl;(first|assumption|exact dT ‹_›|exact dF ‹_›|exact rfl))|(apply (rx_callMR (p1));(iterate 7 exact rfl);(focus (repeat (first|exact All2.nil|refine All2.cons rfl ?_)));exact rfl;(focus (repeat (first|exact MC.vc (VC.imm (Imm.fn0 _))|exact MC.vc (VC.imm (Imm.fn _ _ ‹_›))|exact MAs.nil|apply MAs.cons|apply MA.c|apply MA.agg|exact MCs.nil|apply MCs.cons|exact MC.ref rfl|exact MC.ptr rfl|exact MC.vc (VC.imm (Imm.v _))|exact MC.vc (VC.imm (Imm.sl _))|exact MC.vc (VC.imm (Imm.ip _))|exact MC.vc VC.nil)));(first|assumption|(apply imO1;assumption)|(apply imO2;assumption));(first|exact imI0|assumption|(apply imI1;assumption));exact rfl;exact rfl)|(apply (rx_callMR (p2));(iterate 7 exact rfl);(focus (repeat (first|exact All2.nil|refine All2.cons rfl ?_)));exact rfl;(focus (repeat (first|exact MC.vc (VC.imm (Imm.fn0 _))|exact MC.vc (VC.imm (Imm.fn _ _ ‹_›))|exact MAs.nil|apply MAs.cons|apply MA.c|apply MA.agg|exact MCs.nil|apply MCs.cons|exact MC.ref rfl|exact MC.ptr rfl|exact MC.vc (VC.imm (Imm.v _))|exact MC.vc (VC.imm (Imm.sl _))|exact MC.vc (VC.imm (Imm.ip _))|exact MC.vc VC.nil)));(first|assumption|(apply imO1;assumption)|(apply imO2;assumption));(first|exact imI0|assumption|(apply imI1;assumption));exact rfl;exact rfl)|(apply (rx_callMR (p3));(iterate 7 exact rfl);(focus (repeat (first|exact All2.nil|refine All2.cons rfl ?_)));exact rfl;(focus (repeat (first|exact MC.vc (VC.imm (Imm.fn0 _))|exact MC.vc (VC.imm (Imm.fn _ _ ‹_›))|exact MAs.nil|apply MAs.cons|apply MA.c|apply MA.agg|exact MCs.nil|apply MCs.cons|exact MC.ref rfl|exact MC.ptr rfl|exact MC.vc (VC.imm (Imm.v _))|exact MC.vc (VC.imm (Imm.sl _))|exact MC.vc (VC.imm (Imm.ip _))|exact MC.vc VC.nil)));(first|assumption|(apply imO1;assumption)|(apply imO2;assumption));(first|exact imI0|assumption|(apply imI1;assumption));exact rfl;exact rfl)|((first|refine rx_splitP rfl rfl rfl ?_ ?_|refine rx_split rfl rfl rfl ?_ ?_)<;>intro hp<;>(try (exfalso;omega)))|((first|refine AWp.condP rfl ?_ ?_|refine AWp.cond _ rfl ?_ ?_)<;>intro hp<;>(try (exfalso;omega)))))
  · have e1 : (dnV code c : Int) = 40 + pkV code (pkC code (pkC code c 9) 40) 2 := by rw [dnV, if_pos hp]; omega
    have e2 : dnC code c = pkC code (pkC code (pkC code c 9) 40) 2 := by rw [dnC, if_pos hp]
    refine AWp.loop (σ := Nat) (fun k => ⟨[(0, .c (.ptr 0 0 0)), (3, .c (.ref 1 0 k)), (4, .c (int (dnV code c))), (5, .c (int k))], [(0, some (curO code (dwCs code (dnC code c) k))), (1, some ⟨9, 1, (dwL code (dnC code c) k).map eStr⟩)], 2⟩) (fun k => k ≤ dnV code c) (fun k => dnV code c - k) 0 (Nat.zero_le _) ?_ ?_
    · simp only [dwCs, e2]
      refine Weak.of [(0, some 0), (1, some 1)] rfl ?_ ?_ <;> (repeat' (first|exact trivial|exact rfl|exact Or.inr ⟨rfl,‹_›⟩|exact Or.inl ⟨rfl,trivial⟩|apply And.intro|exact congrArg (Value.int .i64) (by first|omega|(simp;done)|(simp;omega))|(refine natEq ?_;first|(focus (simp;done))|omega|(simp only [lA,lB,lC,lD,lE];omega))|(refine ⟨_,rfl,rfl,rfl,OW.one ?_⟩)|(refine ⟨_,rfl,rfl,rfl,OW.same ?_ ?_⟩)|refine vwB ?_|refine vwS ?_|refine vwI ?_|refine fwB ?_|refine fwS ?_|refine fwI ?_|(refine AllSc.imm ?_;first|exact AllSc.nil|assumption)))
      all_goals exact curO_im _ _
    · rintro k hk
      by_cases hlt : k < dnV code c
      · have hlt' : (k : Int) < (dnV code c : Int) := by omega
        have ha := dwCs_a code (dnC code c) k
        have hll := dwL_len code (dnC code c) k
        have hnx : dwCs code (dnC code c) (k + 1) = dwC code (dwCs code (dnC code c) k) := rfl
        have hnl : dwL code (dnC code c) (k + 1) = dwL code (dnC code c) k ++ [dwS code (dwCs code (dnC code c) k)] := rfl
        generalize dwCs code (dnC code c) k = d at ha hnx hnl
        generalize dwL code (dnC code c) k = ls at hll hnl
        have b1 := pkC_a code d 8
        have b2 := pkC_a code (pkC code d 8) 60
        have q1 := of_pfm code d hl (by omega) l8 (by decide)
        have q2 := one_pfm code (pkC code d 8) hl (by omega) 60 (by omega)
        have q3 := of_pfm code (pkC code (pkC code d 8) 60) hl (by omega) l3 (by decide)
        have k1 := imP2 (b := ⟨9, 1, l8.map eStr⟩) (curO_im code (pkC code d 8)) (strs_sc l8).imm
        have k2 := imO2 (curO_im code (pkC code (pkC code d 8) 60))
        have k3 := imP2 (b := ⟨9, 1, l3.map eStr⟩) (curO_im code (pkC code (pkC code (pkC code d 8) 60) 3)) (strs_sc l3).imm
        have m1 := iiP2 (b := ⟨9, 1, l8.map eStr⟩) (curO_im code d) (strs_sc l8).imm
        have m2 := iiP1 (curO_im code (pkC code d 8))
        have m3 := iiP2 (b := ⟨9, 1, l3.map eStr⟩) (curO_im code (pkC code (pkC code d 8) 60)) (strs_sc l3).imm
        (repeat' (first|(apply xW;(first|exact Want.none_ rfl|(refine wantG rfl rfl rfl rfl ?_;(first|assumption|exact dT ‹_›|exact dF ‹_›|exact rfl))))|(apply xF tabOk;exact rfl;exact rfl)|((first|(apply rx_cat;exact rfl;exact rfl)|apply rx_add|(apply rx_subU8;exact rfl;exact rfl;exact rfl)|apply rx_sub|apply rx_mul|apply rx_quo|apply rx_rem|apply rx_neg|apply rx_ixS|(apply rx_ixSl;exact rfl;exact rfl)|apply rx_ixRef|(apply rx_load;exact rfl;exact rfl;exact tabOk;exact rfl;exact rfl)|apply rx_loadAgg|apply rx_build|apply rx_buildSlice|apply rx_alloc|apply rx_makeFunc|apply rx_makeSlice|(apply rx_appRef;exact rfl;exact rfl)|apply rx_appNil|(apply rx_sliceS;exact rfl;exact rfl)|(apply rx_sliceSl;exact rfl;exact rfl)|apply rx_sliceRef|apply rx_min|apply rx_max|apply rx_store)<;>(first|exact tabOk|exact Nat.zero_add _|exact rfl|refine rxid ?_|assumption|omega|exact ⟨rfl⟩|exact ⟨rfl,_,_,rfl,rfl⟩|exact lb rfl|(refine Bd.mk ?_;first|assumption|omega|(focus (simp;done))|(simp;omega)|decide)|exact set_at ‹_›|exact set_at (set_at ‹_›)|(focus (apply oI;exact rfl;exact rfl;assumption))|(focus (refine ⟨rfl,_,_,rfl,?_⟩;omega))|exact bdLens rfl|exact bdTd ‹_›|(focus (simp;done))|(simp;omega)|(simp only [lA,lB,lC,lD,lE];omega)|exact newsAll rfl (by first|rfl|(simp;done)|(simp only [lA,lB,lC,lD,lE];omega))|exact newsRef rfl (by first|assumption|omega|(simp only [lA,lB,lC,lD,lE];omega))))|(apply xPick;exact rfl;exact rfl;(first|assumption|exact dT ‹_›|exact dF ‹_›|exact rfl);exact rfl;exact rfl)|(apply xSkip;(iterate 5 exact rfl);(first|assumption|exact dT ‹_›|exact dF ‹_›|exact rfl))|(apply xSkipN;(iterate 5 exact rfl))|apply rx_end|(refine rx_endD ?_ ?_;kernel_rfl)|apply AWp.seq|apply thenK_normal|apply AWp.reg|apply AWp.block|apply AWp.skip|apply AWp.label|apply AWp.exit|apply AWp.ret|apply thenK_exit|apply thenK_ret|apply blockK_normal|apply blockK_ret|apply blockK_exit|(refine AWp.regD ?_ ?_;kernel_rfl)|(refine blockK_other rfl ?_)|(apply AWp.condT;exact rfl;(first|assumption|exact dT ‹_›|exact dF ‹_›|exact rfl))|(apply AWp.condF;exact rfl;(first|assumption|exact dT ‹_›|exact dF ‹_›|exact rfl))|(apply (rx_callMR (q1));(iterate 7 exact rfl);(focus (repeat (first|exact All2.nil|refine All2.cons rfl ?_)));exact rfl;(focus (repeat (first|exact MC.vc (VC.imm (Imm.fn0 _))|exact MC.vc (VC.imm (Imm.fn _ _ ‹_›))|exact MAs.nil|apply MAs.cons|apply MA.c|apply MA.agg|exact MCs.nil|apply MCs.cons|exact MC.ref rfl|exact MC.ptr rfl|exact MC.vc (VC.imm (Imm.v _))|exact MC.vc (VC.imm (Imm.sl _))|exact MC.vc (VC.imm (Imm.ip _))|exact MC.vc VC.nil)));(first|assumption|(apply imO1;assumption)|(apply imO2;assumption));(first|exact imI0|assumption|(apply imI1;assumption));exact rfl;exact rfl)|(apply (rx_callMR (q2));(iterate 7 exact rfl);(focus (repeat (first|exact All2.nil|refine All2.cons rfl ?_)));exact rfl;(focus (repeat (first|exact MC.vc (VC.imm (Imm.fn0 _))|exact MC.vc (VC.imm (Imm.fn _ _ ‹_›))|exact MAs.nil|apply MAs.cons|apply MA.c|apply MA.agg|exact MCs.nil|apply MCs.cons|exact MC.ref rfl|exact MC.ptr rfl|exact MC.vc (VC.imm (Imm.v _))|exact MC.vc (VC.imm (Imm.sl _))|exact MC.vc (VC.imm (Imm.ip _))|exact MC.vc VC.nil)));(first|assumption|(apply imO1;assumption)|(apply imO2;assumption));(first|exact imI0|assumption|(apply imI1;assumption));exact rfl;exact rfl)|(apply (rx_callMR (q3));(iterate 7 exact rfl);(focus (repeat (first|exact All2.nil|refine All2.cons rfl ?_)));exact rfl;(focus (repeat (first|exact MC.vc (VC.imm (Imm.fn0 _))|exact MC.vc (VC.imm (Imm.fn _ _ ‹_›))|exact MAs.nil|apply MAs.cons|apply MA.c|apply MA.agg|exact MCs.nil|apply MCs.cons|exact MC.ref rfl|exact MC.ptr rfl|exact MC.vc (VC.imm (Imm.v _))|exact MC.vc (VC.imm (Imm.sl _))|exact MC.vc (VC.imm (Imm.ip _))|exact MC.vc VC.nil)));(first|assumption|(apply imO1;assumption)|(apply imO2;assumption));(first|exact imI0|assumption|(apply imI1;assumption));exact rfl;exact rfl)|((first|refine rx_splitP rfl rfl rfl ?_ ?_|refine rx_split rfl rfl rfl ?_ ?_)<;>intro hp<;>(try (exfalso;omega)))|((first|refine AWp.condP rfl ?_ ?_|refine AWp.cond _ rfl ?_ ?_)<;>intro hp<;>(try (exfalso;omega)))))
        · refine ⟨k + 1, by omega, by omega, ?_⟩
          rw [dwC, if_pos hp] at hnx
          rw [dwS, if_pos hp] at hnl
          simp only [hnx, hnl]
          refine Weak.of [(0, some 0), (1, some 5)] rfl ?_ ?_ <;> (repeat' (first|exact trivial|exact rfl|exact Or.inr ⟨rfl,‹_›⟩|exact Or.inl ⟨rfl,trivial⟩|apply And.intro|exact congrArg (Value.int .i64) (by first|omega|(simp;done)|(simp;omega))|(refine natEq ?_;first|(focus (simp;done))|omega|(simp only [lA,lB,lC,lD,lE];omega))|(refine ⟨_,rfl,rfl,rfl,OW.one ?_⟩)|(refine ⟨_,rfl,rfl,rfl,OW.same ?_ ?_⟩)|refine vwB ?_|refine vwS ?_|refine vwI ?_|refine fwB ?_|refine fwS ?_|refine fwI ?_|(refine AllSc.imm ?_;first|exact AllSc.nil|assumption)))
          all_goals first | exact curO_im _ _ | exact (strs_sc _).imm | (simp [eStr, hll]; done) | (simp [eStr, hll]; exact rfl)
        · refine ⟨k + 1, by omega, by omega, ?_⟩
          rw [dwC, if_neg hp] at hnx
          rw [dwS, if_neg hp] at hnl
          simp only [hnx, hnl]
          refine Weak.of [(0, some 0), (1, some 4)] rfl ?_ ?_ <;> (repeat' (first|exact trivial|exact rfl|exact Or.inr ⟨rfl,‹_›⟩|exact Or.inl ⟨rfl,trivial⟩|apply And.intro|exact congrArg (Value.int .i64) (by first|omega|(simp;done)|(simp;omega))|(refine natEq ?_;first|(focus (simp;done))|omega|(simp only [lA,lB,lC,lD,lE];omega))|(refine ⟨_,rfl,rfl,rfl,OW.one ?_⟩)|(refine ⟨_,rfl,rfl,rfl,OW.same ?_ ?_⟩)|refine vwB ?_|refine vwS ?_|refine vwI ?_|refine fwB ?_|refine fwS ?_|refine fwI ?_|(refine AllSc.imm ?_;first|exact AllSc.nil|assumption)))
          all_goals first | exact curO_im _ _ | exact (strs_sc _).imm | (simp [eStr, hll]; done) | (simp [eStr, hll]; exact rfl)
      · have hlt' : ¬ (k : Int) < (dnV code c : Int) := by omega
        obtain rfl : k = dnV code c := by omega
        have hll := dwL_len code (dnC code c) (dnV code c)
        (repeat (first|(apply xW;(first|exact Want.none_ rfl|(refine wantG rfl rfl rfl rfl ?_;(first|assumption|exact dT ‹_›|exact dF ‹_›|exact rfl))))|(apply xF tabOk;exact rfl;exact rfl)|((first|(apply rx_cat;exact rfl;exact rfl)|apply rx_add|(apply rx_subU8;exact rfl;exact rfl;exact rfl)|apply rx_sub|apply rx_mul|apply rx_quo|apply rx_rem|apply rx_neg|apply rx_ixS|(apply rx_ixSl;exact rfl;exact rfl)|apply rx_ixRef|(apply rx_load;exact rfl;exact rfl;exact tabOk;exact rfl;exact rfl)|apply rx_loadAgg|apply rx_build|apply rx_buildSlice|apply rx_alloc|apply rx_makeFunc|apply rx_makeSlice|(apply rx_appRef;exact rfl;exact rfl)|apply rx_appNil|(apply rx_sliceS;exact rfl;exact rfl)|(apply rx_sliceSl;exact rfl;exact rfl)|apply rx_sliceRef|apply rx_min|apply rx_max|apply rx_store)<;>(first|exact tabOk|exact Nat.zero_add _|exact rfl|refine rxid ?_|assumption|omega|exact ⟨rfl⟩|exact ⟨rfl,_,_,rfl,rfl⟩|exact lb rfl|(refine Bd.mk ?_;first|assumption|omega|(focus (simp;done))|(simp;omega)|decide)|exact set_at ‹_›|exact set_at (set_at ‹_›)|(focus (apply oI;exact rfl;exact rfl;assumption))|(focus (refine ⟨rfl,_,_,rfl,?_⟩;omega))|exact bdLens rfl|exact bdTd ‹_›|(focus (simp;done))|(simp;omega)|(simp only [lA,lB,lC,lD,lE];omega)|exact newsAll rfl (by first|rfl|(simp;done)|(simp only [lA,lB,lC,lD,lE];omega))|exact newsRef rfl (by first|assumption|omega|(simp only [lA,lB,lC,lD,lE];omega))))|(apply xPick;exact rfl;exact rfl;(first|assumption|exact dT ‹_›|exact dF ‹_›|exact rfl);exact rfl;exact rfl)|(apply xSkip;(iterate 5 exact rfl);(first|assumption|exact dT ‹_›|exact dF ‹_›|exact rfl))|(apply xSkipN;(iterate 5 exact rfl))|apply rx_end|(refine rx_endD ?_ ?_;kernel_rfl)|apply AWp.seq|apply thenK_normal|apply AWp.reg|apply AWp.block|apply AWp.skip|apply AWp.label|apply AWp.exit|apply AWp.ret|apply thenK_exit|apply thenK_ret|apply blockK_normal|apply blockK_ret|apply blockK_exit|(refine AWp.regD ?_ ?_;kernel_rfl)|(refine blockK_other rfl ?_)|(apply AWp.condT;exact rfl;(first|assumption|exact dT ‹_›|exact dF ‹_›|exact rfl))|(apply AWp.condF;exact rfl;(first|assumption|exact dT ‹_›|exact dF ‹_›|exact rfl))))
        rw [drC, drL]
        ((first|refine ret_ret _ [(0, some 0), (1, some 1)] (.cons (rv_tmp rfl) .nil) ?_ rfl ?_|refine ret_end _ [(0, some 0), (1, some 1)] (.cons (rv_tmp rfl) .nil) ?_ rfl ?_) <;> (repeat' (first|exact trivial|exact rfl|exact Or.inr ⟨rfl,‹_›⟩|exact Or.inl ⟨rfl,trivial⟩|apply And.intro|exact congrArg (Value.int .i64) (by first|omega|(simp;done)|(simp;omega))|(refine natEq ?_;first|(focus (simp;done))|omega|(simp only [lA,lB,lC,lD,lE];omega))|(refine ⟨_,rfl,rfl,rfl,OW.one ?_⟩)|(refine ⟨_,rfl,rfl,rfl,OW.same ?_ ?_⟩)|refine vwB ?_|refine vwS ?_|refine vwI ?_|refine fwB ?_|refine fwS ?_|refine fwI ?_|(refine AllSc.imm ?_;first|exact AllSc.nil|assumption))))
        all_goals first | exact curO_im _ _ | exact (strs_sc _).imm
  · have e1 : (dnV code c : Int) = pkV code c 9 := by rw [dnV, if_neg hp]; omega
    have e2 : dnC code c = pkC code (pkC code c 9) 40 := by rw [dnC, if_neg hp]
    refine AWp.loop (σ := Nat) (fun k => ⟨[(0, .c (.ptr 0 0 0)), (3, .c (.ref 1 0 k)), (4, .c (int (dnV code c))), (5, .c (int k))], [(0, some (curO code (dwCs code (dnC code c) k))), (1, some ⟨9, 1, (dwL code (dnC code c) k).map eStr⟩)], 2⟩) (fun k => k ≤ dnV code c) (fun k => dnV code c - k) 0 (Nat.zero_le _) ?_ ?_
    · simp only [dwCs, e2]
      refine Weak.of [(0, some 0), (1, some 1)] rfl ?_ ?_ <;> (repeat' (first|exact trivial|exact rfl|exact Or.inr ⟨rfl,‹_›⟩|exact Or.inl ⟨rfl,trivial⟩|apply And.intro|exact congrArg (Value.int .i64) (by first|omega|(simp;done)|(simp;omega))|(refine natEq ?_;first|(focus (simp;done))|omega|(simp only [lA,lB,lC,lD,lE];omega))|(refine ⟨_,rfl,rfl,rfl,OW.one ?_⟩)|(refine ⟨_,rfl,rfl,rfl,OW.same ?_ ?_⟩)|refine vwB ?_|refine vwS ?_|refine vwI ?_|refine fwB ?_|refine fwS ?_|refine fwI ?_|(refine AllSc.imm ?_;first|exact AllSc.nil|assumption)))
      all_goals exact curO_im _ _
    · rintro k hk
      by_cases hlt : k < dnV code c
      · have hlt' : (k : Int) < (dnV code c : Int) := by omega
        have ha := dwCs_a code (dnC code c) k
        have hll := dwL_len code (dnC code c) k
        have hnx : dwCs code (dnC code c) (k + 1) = dwC code (dwCs code (dnC code c) k) := rfl
        have hnl : dwL code (dnC code c) (k + 1) = dwL code (dnC code c) k ++ [dwS code (dwCs code (dnC code c) k)] := rfl
        generalize dwCs code (dnC code c) k = d at ha hnx hnl
        generalize dwL code (dnC code c) k = ls at hll hnl
        have b1 := pkC_a code d 8
        have b2 := pkC_a code (pkC code d 8) 60
        have q1 := of_pfm code d hl (by omega) l8 (by decide)
        have q2 := one_pfm code (pkC code d 8) hl (by omega) 60 (by omega)
        have q3 := of_pfm code (pkC code (pkC code d 8) 60) hl (by omega) l3 (by decide)
        have k1 := imP2 (b := ⟨9, 1, l8.map eStr⟩) (curO_im code (pkC code d 8)) (strs_sc l8).imm
        have k2 := imO2 (curO_im code (pkC code (pkC code d 8) 60))
        have k3 := imP2 (b := ⟨9, 1, l3.map eStr⟩) (curO_im code (pkC code (pkC code (pkC code d 8) 60) 3)) (strs_sc l3).imm
        have m1 := iiP2 (b := ⟨9, 1, l8.map eStr⟩) (curO_im code d) (strs_sc l8).imm
        have m2 := iiP1 (curO_im code (pkC code d 8))
        have m3 := iiP2 (b := ⟨9, 1, l3.map eStr⟩) (curO_im code (pkC code (pkC code d 8) 60)) (strs_sc l3).imm
        (repeat' (first|(apply xW;(first|exact Want.none_ rfl|(refine wantG rfl rfl rfl rfl ?_;(first|assumption|exact dT ‹_›|exact dF ‹_›|exact rfl))))|(apply xF tabOk;exact rfl;exact rfl)|((first|(apply rx_cat;exact rfl;exact rfl)|apply rx_add|(apply rx_subU8;exact rfl;exact rfl;exact rfl)|apply rx_sub|apply rx_mul|apply rx_quo|apply rx_rem|apply rx_neg|apply rx_ixS|(apply rx_ixSl;exact rfl;exact rfl)|apply rx_ixRef|(apply rx_load;exact rfl;exact rfl;exact tabOk;exact rfl;exact rfl)|apply rx_loadAgg|apply rx_build|apply rx_buildSlice|apply rx_alloc|apply rx_makeFunc|apply rx_makeSlice|(apply rx_appRef;exact rfl;exact rfl)|apply rx_appNil|(apply rx_sliceS;exact rfl;exact rfl)|(apply rx_sliceSl;exact rfl;exact rfl)|apply rx_sliceRef|apply rx_min|apply rx_max|apply rx_store)<;>(first|exact tabOk|exact Nat.zero_add _|exact rfl|refine rxid ?_|assumption|omega|exact ⟨rfl⟩|exact ⟨rfl,_,_,rfl,rfl⟩|exact lb rfl|(refine Bd.mk ?_;first|assumption|omega|(focus (simp;done))|(simp;omega)|decide)|exact set_at ‹_›|exact set_at (set_at ‹_›)|(focus (apply oI;exact rfl;exact rfl;assumption))|(focus (refine ⟨rfl,_,_,rfl,?_⟩;omega))|exact bdLens rfl|exact bdTd ‹_›|(focus (simp;done))|(simp;omega)|(simp only [lA,lB,lC,lD,lE];omega)|exact newsAll rfl (by first|rfl|(simp;done)|(simp only [lA,lB,lC,lD,lE];omega))|exact newsRef rfl (by first|assumption|omega|(simp only [lA,lB,lC,lD,lE];omega))))|(apply xPick;exact rfl;exact rfl;(first|assumption|exact dT ‹_›|exact dF ‹_›|exact rfl);exact rfl;exact rfl)|(apply xSkip;(iterate 5 exact rfl);(first|assumption|exact dT ‹_›|exact dF ‹_›|exact rfl))|(apply xSkipN;(iterate 5 exact rfl))|apply rx_end|(refine rx_endD ?_ ?_;kernel_rfl)|apply AWp.seq|apply thenK_normal|apply AWp.reg|apply AWp.block|apply AWp.skip|apply AWp.label|apply AWp.exit|apply AWp.ret|apply thenK_exit|apply thenK_ret|apply blockK_normal|apply blockK_ret|apply blockK_exit|(refine AWp.regD ?_ ?_;kernel_rfl)|(refine blockK_other rfl ?_)|(apply AWp.condT;exact rfl;(first|assumption|exact dT ‹_›|exact dF ‹_›|exact rfl))|(apply AWp.condF;exact rfl;(first|assumption|exact dT ‹_›|exact dF ‹_›|exact rfl))|(apply (rx_callMR (q1));(iterate 7 exact rfl);(focus (repeat (first|exact All2.nil|refine All2.cons rfl ?_)));exact rfl;(focus (repeat (first|exact MC.vc (VC.imm (Imm.fn0 _))|exact MC.vc (VC.imm (Imm.fn _ _ ‹_›))|exact MAs.nil|apply MAs.cons|apply MA.c|apply MA.agg|exact MCs.nil|apply MCs.cons|exact MC.ref rfl|exact MC.ptr rfl|exact MC.vc (VC.imm (Imm.v _))|exact MC.vc (VC.imm (Imm.sl _))|exact MC.vc (VC.imm (Imm.ip _))|exact MC.vc VC.nil)));(first|assumption|(apply imO1;assumption)|(apply imO2;assumption));(first|exact imI0|assumption|(apply imI1;assumption));exact rfl;exact rfl)|(apply (rx_callMR (q2));(iterate 7 exact rfl);(focus (repeat (first|exact All2.nil|refine All2.cons rfl ?_)));exact rfl;(focus (repeat (first|exact MC.vc (VC.imm (Imm.fn0 _))|exact MC.vc (VC.imm (Imm.fn _ _ ‹_›))|exact MAs.nil|apply MAs.cons|apply MA.c|apply MA.agg|exact MCs.nil|apply MCs.cons|exact MC.ref rfl|exact MC.ptr rfl|exact MC.vc (VC.imm (Imm.v _))|exact MC.vc (VC.imm (Imm.sl _))|exact MC.vc (VC.imm (Imm.ip _))|exact MC.vc VC.nil)));(first|assumption|(apply imO1;assumption)|(apply imO2;assumption));(first|exact imI0|assumption|(apply imI1;assumption));exact rfl;exact rfl)|(apply (rx_callMR (q3));(iterate 7 exact rfl);(focus (repeat (first|exact All2.nil|refine All2.cons rfl ?_)));exact rfl;(focus (repeat (first|exact MC.vc (VC.imm (Imm.fn0 _))|exact MC.vc (VC.imm (Imm.fn _ _ ‹_›))|exact MAs.nil|apply MAs.cons|apply MA.c|apply MA.agg|exact MCs.nil|apply MCs.cons|exact MC.ref rfl|exact MC.ptr rfl|exact MC.vc (VC.imm (Imm.v _))|exact MC.vc (VC.imm (Imm.sl _))|exact MC.vc (VC.imm (Imm.ip _))|exact MC.vc VC.nil)));(first|assumption|(apply imO1;assumption)|(apply imO2;assumption));(first|exact imI0|assumption|(apply imI1;assumption));exact rfl;exact rfl)|((first|refine rx_splitP rfl rfl rfl ?_ ?_|refine rx_split rfl rfl rfl ?_ ?_)<;>intro hp<;>(try (exfalso;omega)))|((first|refine AWp.condP rfl ?_ ?_|refine AWp.cond _ rfl ?_ ?_)<;>intro hp<;>(try (exfalso;omega)))))
        · refine ⟨k + 1, by omega, by omega, ?_⟩
          rw [dwC, if_pos hp] at hnx
          rw [dwS, if_pos hp] at hnl
          simp only [hnx, hnl]
          refine Weak.of [(0, some 0), (1, some 5)] rfl ?_ ?_ <;> (repeat' (first|exact trivial|exact rfl|exact Or.inr ⟨rfl,‹_›⟩|exact Or.inl ⟨rfl,trivial⟩|apply And.intro|exact congrArg (Value.int .i64) (by first|omega|(simp;done)|(simp;omega))|(refine natEq ?_;first|(focus (simp;done))|omega|(simp only [lA,lB,lC,lD,lE];omega))|(refine ⟨_,rfl,rfl,rfl,OW.one ?_⟩)|(refine ⟨_,rfl,rfl,rfl,OW.same ?_ ?_⟩)|refine vwB ?_|refine vwS ?_|refine vwI ?_|refine fwB ?_|refine fwS ?_|refine fwI ?_|(refine AllSc.imm ?_;first|exact AllSc.nil|assumption)))
          all_goals first | exact curO_im _ _ | exact (strs_sc _).imm | (simp [eStr, hll]; done) | (simp [eStr, hll]; exact rfl)
        · refine ⟨k + 1, by omega, by omega, ?_⟩
          rw [dwC, if_neg hp] at hnx
          rw [dwS, if_neg hp] at hnl
          simp only [hnx, hnl]
          refine Weak.of [(0, some 0), (1, some 4)] rfl ?_ ?_ <;> (repeat' (first|exact trivial|exact rfl|exact Or.inr ⟨rfl,‹_›⟩|exact Or.inl ⟨rfl,trivial⟩|apply And.intro|exact congrArg (Value.int .i64) (by first|omega|(simp;done)|(simp;omega))|(refine natEq ?_;first|(focus (simp;done))|omega|(simp only [lA,lB,lC,lD,lE];omega))|(refine ⟨_,rfl,rfl,rfl,OW.one ?_⟩)|(refine ⟨_,rfl,rfl,rfl,OW.same ?_ ?_⟩)|refine vwB ?_|refine vwS ?_|refine vwI ?_|refine fwB ?_|refine fwS ?_|refine fwI ?_|(refine AllSc.imm ?_;first|exact AllSc.nil|assumption)))
          all_goals first | exact curO_im _ _ | exact (strs_sc _).imm | (simp [eStr, hll]; done) | (simp [eStr, hll]; exact rfl)
      · have hlt' : ¬ (k : Int) < (dnV code c : Int) := by omega
        obtain rfl : k = dnV code c := by omega
        have hll := dwL_len code (dnC code c) (dnV code c)
        (repeat (first|(apply xW;(first|exact Want.none_ rfl|(refine wantG rfl rfl rfl rfl ?_;(first|assumption|exact dT ‹_›|exact dF ‹_›|exact rfl))))|(apply xF tabOk;exact rfl;exact rfl)|((first|(apply rx_cat;exact rfl;exact rfl)|apply rx_add|(apply rx_subU8;exact rfl;exact rfl;exact rfl)|apply rx_sub|apply rx_mul|apply rx_quo|apply rx_rem|apply rx_neg|apply rx_ixS|(apply rx_ixSl;exact rfl;exact rfl)|apply rx_ixRef|(apply rx_load;exact rfl;exact rfl;exact tabOk;exact rfl;exact rfl)|apply rx_loadAgg|apply rx_build|apply rx_buildSlice|apply rx_alloc|apply rx_makeFunc|apply rx_makeSlice|(apply rx_appRef;exact rfl;exact rfl)|apply rx_appNil|(apply rx_sliceS;exact rfl;exact rfl)|(apply rx_sliceSl;exact rfl;exact rfl)|apply rx_sliceRef|apply rx_min|apply rx_max|apply rx_store)<;>(first|exact tabOk|exact Nat.zero_add _|exact rfl|refine rxid ?_|assumption|omega|exact ⟨rfl⟩|exact ⟨rfl,_,_,rfl,rfl⟩|exact lb rfl|(refine Bd.mk ?_;first|assumption|omega|(focus (simp;done))|(simp;omega)|decide)|exact set_at ‹_›|exact set_at (set_at ‹_›)|(focus (apply oI;exact rfl;exact rfl;assumption))|(focus (refine ⟨rfl,_,_,rfl,?_⟩;omega))|exact bdLens rfl|exact bdTd ‹_›|(focus (simp;done))|(simp;omega)|(simp only [lA,lB,lC,lD,lE];omega)|exact newsAll rfl (by first|rfl|(simp;done)|(simp only [lA,lB,lC,lD,lE];omega))|exact newsRef rfl (by first|assumption|omega|(simp only [lA,lB,lC,lD,lE];omega))))|(apply xPick;exact rfl;exact rfl;(first|assumption|exact dT ‹_›|exact dF ‹_›|exact rfl);exact rfl;exact rfl)|(apply xSkip;(iterate 5 exact rfl);(first|assumption|exact dT ‹_›|exact dF ‹_›|exact rfl))|(apply xSkipN;(iterate 5 exact rfl))|apply rx_end|(refine rx_endD ?_ ?_;kernel_rfl)|apply AWp.seq|apply thenK_normal|apply AWp.reg|apply AWp.block|apply AWp.skip|apply AWp.label|apply AWp.exit|apply AWp.ret|apply thenK_exit|apply thenK_ret|apply blockK_normal|apply blockK_ret|apply blockK_exit|(refine AWp.regD ?_ ?_;kernel_rfl)|(refine blockK_other rfl ?_)|(apply AWp.condT;exact rfl;(first|assumption|exact dT ‹_›|exact dF ‹_›|exact rfl))|(apply AWp.condF;exact rfl;(first|assumption|exact dT ‹_›|exact dF ‹_›|exact rfl))))
        rw [drC, drL]
        ((first|refine ret_ret _ [(0, some 0), (1, some 1)] (.cons (rv_tmp rfl) .nil) ?_ rfl ?_|refine ret_end _ [(0, some 0), (1, some 1)] (.cons (rv_tmp rfl) .nil) ?_ rfl ?_) <;> (repeat' (first|exact trivial|exact rfl|exact Or.inr ⟨rfl,‹_›⟩|exact Or.inl ⟨rfl,trivial⟩|apply And.intro|exact congrArg (Value.int .i64) (by first|omega|(simp;done)|(simp;omega))|(refine natEq ?_;first|(focus (simp;done))|omega|(simp only [lA,lB,lC,lD,lE];omega))|(refine ⟨_,rfl,rfl,rfl,OW.one ?_⟩)|(refine ⟨_,rfl,rfl,rfl,OW.same ?_ ?_⟩)|refine vwB ?_|refine vwS ?_|refine vwI ?_|refine fwB ?_|refine fwS ?_|refine fwI ?_|(refine AllSc.imm ?_;first|exact AllSc.nil|assumption))))
        all_goals first | exact curO_im _ _ | exact (strs_sc _).imm
end Go.Proofs.YtdggbjlgimcpkaaDoor
