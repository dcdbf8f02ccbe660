/- The least raggedness: the reference's table and lines. No conditions but bounds of lengths. -/
import Derived.Test.YtfebalahfhkeaaaWdD
namespace Go.Proofs.Ytfebalahfhkeaaa
open Go Go.RowKit
/-- a table of n entries -/
def tab1 (n : Nat) (f : Nat → Int) : List Int := (List.range n).map f
theorem tab1_len (n : Nat) (f : Nat → Int) : (tab1 n f).length = n := by simp [tab1]
theorem tab1_at {n j : Nat} {f : Nat → Int} (h : j < n) : (tab1 n f)[j]? = some (f j) := by simp [tab1, h]
theorem tab1_set {n i : Nat} {f g : Nat → Int} (h : ∀ j, j < n → j ≠ i → g j = f j) (hi : i < n) : (tab1 n f).set i (g i) = tab1 n g := by
  refine List.ext_getElem? fun j => ?_
  by_cases hj : j < n
  · rw [tab1_at hj]
    by_cases e : i = j
    · subst e
      rw [List.getElem?_set_self (by rw [tab1_len]; exact hi)]
    · rw [List.getElem?_set_ne e, tab1_at hj, h j hj (fun e' => e e'.symm)]
  · rw [List.getElem?_eq_none (by rw [List.length_set, tab1_len]; omega), List.getElem?_eq_none (by rw [tab1_len]; omega)]
theorem tab1_congr {n : Nat} {f g : Nat → Int} (h : ∀ j, j < n → f j = g j) : tab1 n f = tab1 n g := by
  refine List.map_congr_left fun j hj => h j (by simpa using hj)
theorem replicate_tab (n : Nat) : List.replicate n [int 0] = (tab1 n fun _ => 0).map eInt := by
  refine List.ext_getElem? fun j => ?_
  simp only [tab1, List.getElem?_replicate, List.getElem?_map]
  by_cases h : j < n
  · rw [if_pos h, List.getElem?_range h]; rfl
  · rw [if_neg h, List.getElem?_eq_none (by simp; omega)]; rfl
theorem set_eInt (l : List Int) (i : Nat) (a b : Int) : ((l.set i a).map eInt).set i (eInt b) = (l.set i b).map eInt := by
  rw [← List.map_set, List.set_set]
theorem at_set {l : List Int} {i : Nat} (a : Int) (h : i < l.length) : ((l.set i a).map eInt)[i]? = some (eInt a) := by
  rw [List.getElem?_map, List.getElem?_set_self h]; rfl
theorem at_ne {l : List Int} {i k : Nat} {b : Int} (a : Int) (h : i ≠ k) (hk : l[k]? = some b) : ((l.set i a).map eInt)[k]? = some (eInt b) := by
  rw [List.getElem?_map, List.getElem?_set_ne h, hk]; rfl
/-- the table behind d rounds -/
def tD (ls : List Nat) (w d : Nat) (j : Nat) : Int := if ls.length ≤ j + d then bB ls w j else 0
section
variable {ls : List Nat} {w : Nat}
theorem tD_zero (j : Nat) (hj : j < ls.length + 1) : tD ls w 0 j = 0 := by
  unfold tD
  split
  · obtain rfl : j = ls.length := by omega
    exact bB_end
  · rfl
theorem tD_all (j : Nat) : tD ls w ls.length j = bB ls w j := by rw [tD, if_pos (by omega)]
theorem tD_next {d i : Nat} (hi : i + (d + 1) = ls.length) : (tab1 (ls.length + 1) (tD ls w d)).set i (bB ls w i) = tab1 (ls.length + 1) (tD ls w (d + 1)) := by
  have e : bB ls w i = tD ls w (d + 1) i := by rw [tD, if_pos (by omega)]
  rw [e]
  refine tab1_set (fun j hj hne => ?_) (by omega)
  unfold tD
  by_cases h : ls.length ≤ j + d
  · rw [if_pos h, if_pos (by omega)]
  · rw [if_neg h, if_neg (by omega)]
end
theorem l19Best_pf (ws : List (List UInt8)) (hb : WB ws) (w : Nat) (hw : w ≤ 80) : PF Try.prog 65 [.c (.sl (ws.map eStr)), .c (int w)] [⟨3, 1, (tab1 (ws.length + 1) (bB (lens ws) w)).map eInt⟩] (.c (.ref 0 0 (ws.length + 1))) := by
  have h40 := hb.cnt
  have hL : (ws.map eStr).length = ws.length := List.length_map _
  have hLl : (lens ws).length = ws.length := List.length_map _
  refine PF.enter (enum2 _ _) Try.func65 rfl (by kernel_rfl) _ _ rfl rfl rfl (fun w0 mu I0 β0 => ?_)
  have hmk : ((ws.map eStr).length : Int) + 1 = ((ws.length + 1 : Nat) : Int) := by omega
  (repeat' (first|(apply xW;(first|exact Want.none_ rfl|(refine wantG rfl rfl rfl rfl ?_;(first|assumption|exact dT ‹_›|exact dF ‹_›|exact rfl))))|(apply xF tabOk;exact rfl;exact rfl)|((first|(apply rx_cat;exact rfl;exact rfl)|apply rx_add|apply rx_sub|apply rx_mul|apply rx_quo|apply rx_rem|apply rx_neg|apply rx_ixS|(apply rx_ixSl;exact rfl;exact rfl)|apply rx_ixRef|(apply rx_load;exact rfl;exact rfl;exact tabOk;exact rfl;exact rfl)|apply rx_loadAgg|apply rx_build|apply rx_buildSlice|apply rx_alloc|apply rx_makeFunc|apply rx_makeSlice|(apply rx_appRef;exact rfl;exact rfl)|apply rx_appNil|(apply rx_sliceS;exact rfl;exact rfl)|(apply rx_sliceSl;exact rfl;exact rfl)|apply rx_sliceRef|apply rx_min|apply rx_max|apply rx_store)<;>(first|exact tabOk|exact Nat.zero_add _|exact rfl|refine rxid ?_|assumption|omega|exact ⟨rfl⟩|exact ⟨rfl,_,_,rfl,rfl⟩|exact lb rfl|(refine Bd.mk ?_;first|assumption|omega|(focus (simp;done))|(simp;omega)|decide)|exact set_at ‹_›|exact set_at (set_at ‹_›)|(focus (refine ⟨rfl,_,_,rfl,?_⟩;omega))|(focus (simp;done))|(simp;omega)|(simp only [lA,lB,lC,lD,lE];omega)|exact newsAll rfl (by first|rfl|(simp;done)|(simp only [lA,lB,lC,lD,lE];omega))))|(apply xPick;exact rfl;exact rfl;(first|assumption|exact dT ‹_›|exact dF ‹_›|exact rfl);exact rfl;exact rfl)|(apply xSkip;(iterate 5 exact rfl);(first|assumption|exact dT ‹_›|exact dF ‹_›|exact rfl))|(apply xSkipN;(iterate 5 exact rfl))|apply rx_end|(refine rx_endD ?_ ?_;kernel_rfl)|apply AWp.seq|apply thenK_normal|apply AWp.reg|apply AWp.block|apply AWp.skip|apply AWp.label|apply AWp.exit|apply AWp.ret|apply thenK_exit|apply thenK_ret|apply blockK_normal|apply blockK_ret|apply blockK_exit|(refine AWp.regD ?_ ?_;kernel_rfl)|(refine blockK_other rfl ?_)|(apply AWp.condT;exact rfl;(first|assumption|exact dT ‹_›|exact dF ‹_›|exact rfl))|(apply AWp.condF;exact rfl;(first|assumption|exact dT ‹_›|exact dF ‹_›|exact rfl))|((first|refine rx_splitP rfl rfl rfl ?_ ?_|refine rx_split rfl rfl rfl ?_ ?_)<;>intro hp<;>(try (exfalso;omega)))|((first|refine AWp.condP rfl ?_ ?_|refine AWp.cond _ rfl ?_ ?_)<;>intro hp<;>(try (exfalso;omega)))))
  refine AWp.loop (σ := Nat) (fun d => ⟨[(0, .c (.sl (ws.map eStr))), (1, .c (int w)), (5, .c (.ref 0 0 (ws.length + 1))), (6, .c (int ((ws.length : Int) - 1 - d)))], [(0, some ⟨3, 1, (tab1 (ws.length + 1) (tD (lens ws) w d)).map eInt⟩)], 1⟩) (fun d => d ≤ ws.length) (fun d => ws.length - d) 0 (Nat.zero_le _) ?_ ?_
  · have e : tab1 (ws.length + 1) (tD (lens ws) w 0) = tab1 (ws.length + 1) fun _ => 0 := tab1_congr fun j hj => tD_zero j (by omega)
    simp only [e]
    refine Weak.of [(0, some 0)] rfl ?_ ?_ <;> (repeat' (first|exact trivial|exact rfl|exact Or.inr ⟨rfl,‹_›⟩|apply And.intro|exact congrArg (Value.int .i64) (by first|omega|(simp;done)|(simp;omega))|(refine natEq ?_;first|(focus (simp;done))|omega|(simp only [lA,lB,lC,lD,lE];omega))|(refine ⟨_,rfl,rfl,rfl,OW.one ?_⟩)|(refine ⟨_,rfl,rfl,rfl,OW.same ?_ ?_⟩)|refine vwB ?_|refine vwS ?_|refine vwI ?_|refine fwB ?_|refine fwS ?_|refine fwI ?_|(refine AllSc.imm ?_;first|exact AllSc.nil|assumption)))
    · show List.replicate ((ws.map eStr).length + 1) [int 0] = _
      rw [hL]; exact replicate_tab _
    · exact (ints_sc _).imm
  · intro d hd
    by_cases hlt : d < ws.length
    · obtain ⟨i, hi⟩ : ∃ i, i + (d + 1) = ws.length := ⟨ws.length - (d + 1), by omega⟩
      have hiz : (ws.length : Int) - 1 - d = (i : Int) := by omega
      rw [hiz]
      have h0 : (0 : Int) ≤ (i : Int) := by omega
      have hv0 : ((tab1 (ws.length + 1) (tD (lens ws) w d)).map eInt)[i]? = some (eInt (tD (lens ws) w d i)) := map_at (tab1_at (by omega))
      (repeat' (first|(apply xW;(first|exact Want.none_ rfl|(refine wantG rfl rfl rfl rfl ?_;(first|assumption|exact dT ‹_›|exact dF ‹_›|exact rfl))))|(apply xF tabOk;exact rfl;exact rfl)|((first|(apply rx_cat;exact rfl;exact rfl)|apply rx_add|apply rx_sub|apply rx_mul|apply rx_quo|apply rx_rem|apply rx_neg|apply rx_ixS|(apply rx_ixSl;exact rfl;exact rfl)|apply rx_ixRef|(apply rx_load;exact rfl;exact rfl;exact tabOk;exact rfl;exact rfl)|apply rx_loadAgg|apply rx_build|apply rx_buildSlice|apply rx_alloc|apply rx_makeFunc|apply rx_makeSlice|(apply rx_appRef;exact rfl;exact rfl)|apply rx_appNil|(apply rx_sliceS;exact rfl;exact rfl)|(apply rx_sliceSl;exact rfl;exact rfl)|apply rx_sliceRef|apply rx_min|apply rx_max|apply rx_store)<;>(first|exact tabOk|exact Nat.zero_add _|exact rfl|refine rxid ?_|assumption|omega|exact ⟨rfl⟩|exact ⟨rfl,_,_,rfl,rfl⟩|exact lb rfl|(refine Bd.mk ?_;first|assumption|omega|(focus (simp;done))|(simp;omega)|decide)|exact set_at ‹_›|exact set_at (set_at ‹_›)|(focus (refine ⟨rfl,_,_,rfl,?_⟩;omega))|(focus (simp;done))|(simp;omega)|(simp only [lA,lB,lC,lD,lE];omega)|exact newsAll rfl (by first|rfl|(simp;done)|(simp only [lA,lB,lC,lD,lE];omega))))|(apply xPick;exact rfl;exact rfl;(first|assumption|exact dT ‹_›|exact dF ‹_›|exact rfl);exact rfl;exact rfl)|(apply xSkip;(iterate 5 exact rfl);(first|assumption|exact dT ‹_›|exact dF ‹_›|exact rfl))|(apply xSkipN;(iterate 5 exact rfl))|apply rx_end|(refine rx_endD ?_ ?_;kernel_rfl)|apply AWp.seq|apply thenK_normal|apply AWp.reg|apply AWp.block|apply AWp.skip|apply AWp.label|apply AWp.exit|apply AWp.ret|apply thenK_exit|apply thenK_ret|apply blockK_normal|apply blockK_ret|apply blockK_exit|(refine AWp.regD ?_ ?_;kernel_rfl)|(refine blockK_other rfl ?_)|(apply AWp.condT;exact rfl;(first|assumption|exact dT ‹_›|exact dF ‹_›|exact rfl))|(apply AWp.condF;exact rfl;(first|assumption|exact dT ‹_›|exact dF ‹_›|exact rfl))|((first|refine rx_splitP rfl rfl rfl ?_ ?_|refine rx_split rfl rfl rfl ?_ ?_)<;>intro hp<;>(try (exfalso;omega)))|((first|refine AWp.condP rfl ?_ ?_|refine AWp.cond _ rfl ?_ ?_)<;>intro hp<;>(try (exfalso;omega)))))
      refine AWp.loop (σ := Nat) (fun c => ⟨[(0, .c (.sl (ws.map eStr))), (1, .c (int w)), (5, .c (.ref 0 0 (ws.length + 1))), (6, .c (int i)), (7, .c (int (i + 1 + c : Nat)))], [(0, some ⟨3, 1, ((tab1 (ws.length + 1) (tD (lens ws) w d)).set i (inS (lens ws) w (bB (lens ws) w) i c)).map eInt⟩)], 1⟩) (fun c => c ≤ ws.length - i) (fun c => ws.length - i - c) 0 (Nat.zero_le _) ?_ ?_
      · refine Weak.of [(0, some 0)] rfl ?_ ?_ <;> (repeat' (first|exact trivial|exact rfl|exact Or.inr ⟨rfl,‹_›⟩|apply And.intro|exact congrArg (Value.int .i64) (by first|omega|(simp;done)|(simp;omega))|(refine natEq ?_;first|(focus (simp;done))|omega|(simp only [lA,lB,lC,lD,lE];omega))|(refine ⟨_,rfl,rfl,rfl,OW.one ?_⟩)|(refine ⟨_,rfl,rfl,rfl,OW.same ?_ ?_⟩)|refine vwB ?_|refine vwS ?_|refine vwI ?_|refine fwB ?_|refine fwS ?_|refine fwI ?_|(refine AllSc.imm ?_;first|exact AllSc.nil|assumption)))
        · rw [List.map_set]; rfl
        · exact (ints_sc _).imm
      · intro c hc
        by_cases hlc : c < ws.length - i
        · have hc1 : ((i + 1 + c : Nat) : Int) ≤ ((ws.map eStr).length : Int) := by omega
          have hx := lineC_le (ls := lens ws) (i := i) (j := i + 1 + c) hw
          have hbk := bB_le (ls := lens ws) hw (i + 1 + c)
          have hin := inS_le (ls := lens ws) hw (M := 256000) (by omega) (f := bB (lens ws) w) (fun k => by have := bB_le (ls := lens ws) hw k; omega) i c
          have h1 := at_set (l := tab1 (ws.length + 1) (tD (lens ws) w d)) (inS (lens ws) w (bB (lens ws) w) i c) (show i < _ by rw [tab1_len]; omega)
          have htk : tD (lens ws) w d (i + 1 + c) = bB (lens ws) w (i + 1 + c) := by rw [tD, if_pos (by omega)]
          have h2 := at_ne (k := i + 1 + c) (l := tab1 (ws.length + 1) (tD (lens ws) w d)) (inS (lens ws) w (bB (lens ws) w) i c) (show i ≠ i + 1 + c by omega) (tab1_at (by omega))
          rw [htk] at h2
          have hup : 0 ≤ lineC (lens ws) w i (i + 1 + c) ∧ (inS (lens ws) w (bB (lens ws) w) i c < 0 ∨ lineC (lens ws) w i (i + 1 + c) + bB (lens ws) w (i + 1 + c) < inS (lens ws) w (bB (lens ws) w) i c) → inS (lens ws) w (bB (lens ws) w) i (c + 1) = lineC (lens ws) w i (i + 1 + c) + bB (lens ws) w (i + 1 + c) := fun h => by rw [inS, if_pos h]
          have hno : ¬ (0 ≤ lineC (lens ws) w i (i + 1 + c) ∧ (inS (lens ws) w (bB (lens ws) w) i c < 0 ∨ lineC (lens ws) w i (i + 1 + c) + bB (lens ws) w (i + 1 + c) < inS (lens ws) w (bB (lens ws) w) i c)) → inS (lens ws) w (bB (lens ws) w) i (c + 1) = inS (lens ws) w (bB (lens ws) w) i c := fun h => by rw [inS, if_neg h]
          (repeat' (first|(apply xW;(first|exact Want.none_ rfl|(refine wantG rfl rfl rfl rfl ?_;(first|assumption|exact dT ‹_›|exact dF ‹_›|exact rfl))))|(apply xF tabOk;exact rfl;exact rfl)|((first|(apply rx_cat;exact rfl;exact rfl)|apply rx_add|apply rx_sub|apply rx_mul|apply rx_quo|apply rx_rem|apply rx_neg|apply rx_ixS|(apply rx_ixSl;exact rfl;exact rfl)|apply rx_ixRef|(apply rx_load;exact rfl;exact rfl;exact tabOk;exact rfl;exact rfl)|apply rx_loadAgg|apply rx_build|apply rx_buildSlice|apply rx_alloc|apply rx_makeFunc|apply rx_makeSlice|(apply rx_appRef;exact rfl;exact rfl)|apply rx_appNil|(apply rx_sliceS;exact rfl;exact rfl)|(apply rx_sliceSl;exact rfl;exact rfl)|apply rx_sliceRef|apply rx_min|apply rx_max|apply rx_store)<;>(first|exact tabOk|exact Nat.zero_add _|exact rfl|refine rxid ?_|assumption|omega|exact ⟨rfl⟩|exact ⟨rfl,_,_,rfl,rfl⟩|exact lb rfl|(refine Bd.mk ?_;first|assumption|omega|(focus (simp;done))|(simp;omega)|decide)|exact set_at ‹_›|exact set_at (set_at ‹_›)|(focus (refine ⟨rfl,_,_,rfl,?_⟩;omega))|(focus (simp;done))|(simp;omega)|(simp only [lA,lB,lC,lD,lE];omega)|exact newsAll rfl (by first|rfl|(simp;done)|(simp only [lA,lB,lC,lD,lE];omega))))|(apply xPick;exact rfl;exact rfl;(first|assumption|exact dT ‹_›|exact dF ‹_›|exact rfl);exact rfl;exact rfl)|(apply xSkip;(iterate 5 exact rfl);(first|assumption|exact dT ‹_›|exact dF ‹_›|exact rfl))|(apply xSkipN;(iterate 5 exact rfl))|apply rx_end|(refine rx_endD ?_ ?_;kernel_rfl)|apply AWp.seq|apply thenK_normal|apply AWp.reg|apply AWp.block|apply AWp.skip|apply AWp.label|apply AWp.exit|apply AWp.ret|apply thenK_exit|apply thenK_ret|apply blockK_normal|apply blockK_ret|apply blockK_exit|(refine AWp.regD ?_ ?_;kernel_rfl)|(refine blockK_other rfl ?_)|(apply AWp.condT;exact rfl;(first|assumption|exact dT ‹_›|exact dF ‹_›|exact rfl))|(apply AWp.condF;exact rfl;(first|assumption|exact dT ‹_›|exact dF ‹_›|exact rfl))|(apply rx_callA;(iterate 6 exact rfl);(iterate 2 (focus (repeat (first|exact VAs.nil|apply VAs.cons|apply VA.c|apply VA.agg|exact VCs.nil|(apply VCs.same;assumption)|apply VCs.cons|exact VC.imm (Imm.v _)|exact VC.imm (Imm.sl _)|exact VC.imm (Imm.ip _)|exact VC.imm ‹_›|exact VC.nil|apply VC.fn|(refine VC.ptrA rfl rfl rfl rfl ?_;(repeat (first|assumption|exact imm_no|exact Imm.v _|exact Imm.sl _|exact Imm.ip _|exact Imm.nil|exact Imm.fn0 _|refine imm_cons ?_ ?_|refine Imm.fn _ _ ?_)))|(apply VC.refA;exact rfl;exact rfl;(first|exact rfl|(focus (simp;done))|omega|(focus (simp only [lA,lB,lC,lD,lE];omega)));exact rfl;(first|assumption|(refine AllSc.imm ?_;assumption)))|assumption))));(first|exact l19Line_pf ws hb w i (i + 1 + c) _ _ rfl rfl hw (by omega) (by omega));(focus (repeat (first|exact trivial|exact Flat.v _|exact Flat.ref _ _ _|exact Flat.nil|apply And.intro)));(first|apply callK0|(apply callK1;(focus (repeat (first|exact trivial|apply And.intro|(first|exact AllSc.nil|assumption))))));(first|exact sh_1 _ _|exact sh_2 _ _ _|exact sh_r _ _ _ _|exact sh_r1 _ _ _ _ _|exact sh_n _|exact sh_n1 _ _|exact sh_ar _ _ _ _|exact sh_ar1 _ _ _ _ _|exact sh_an1 _ _|exact sh_3 _ _ _ _|exact rfl))|((first|refine rx_splitP rfl rfl rfl ?_ ?_|refine rx_split rfl rfl rfl ?_ ?_)<;>intro hp<;>(try (exfalso;omega)))|((first|refine AWp.condP rfl ?_ ?_|refine AWp.cond _ rfl ?_ ?_)<;>intro hp<;>(try (exfalso;omega)))))
          all_goals
            refine ⟨c + 1, by omega, by omega, ?_⟩
            first
              | simp only [hup (by omega)]
              | simp only [hno (by omega)]
            refine Weak.of [(0, some 0)] rfl ?_ ?_ <;> (repeat' (first|exact trivial|exact rfl|exact Or.inr ⟨rfl,‹_›⟩|apply And.intro|exact congrArg (Value.int .i64) (by first|omega|(simp;done)|(simp;omega))|(refine natEq ?_;first|(focus (simp;done))|omega|(simp only [lA,lB,lC,lD,lE];omega))|(refine ⟨_,rfl,rfl,rfl,OW.one ?_⟩)|(refine ⟨_,rfl,rfl,rfl,OW.same ?_ ?_⟩)|refine vwB ?_|refine vwS ?_|refine vwI ?_|refine fwB ?_|refine fwS ?_|refine fwI ?_|(refine AllSc.imm ?_;first|exact AllSc.nil|assumption)))
            all_goals first | exact set_eInt _ _ _ _ | exact (ints_sc _).imm
        · have hc1 : ¬ ((i + 1 + c : Nat) : Int) ≤ ((ws.map eStr).length : Int) := by omega
          obtain rfl : c = ws.length - i := by omega
          (repeat' (first|(apply xW;(first|exact Want.none_ rfl|(refine wantG rfl rfl rfl rfl ?_;(first|assumption|exact dT ‹_›|exact dF ‹_›|exact rfl))))|(apply xF tabOk;exact rfl;exact rfl)|((first|(apply rx_cat;exact rfl;exact rfl)|apply rx_add|apply rx_sub|apply rx_mul|apply rx_quo|apply rx_rem|apply rx_neg|apply rx_ixS|(apply rx_ixSl;exact rfl;exact rfl)|apply rx_ixRef|(apply rx_load;exact rfl;exact rfl;exact tabOk;exact rfl;exact rfl)|apply rx_loadAgg|apply rx_build|apply rx_buildSlice|apply rx_alloc|apply rx_makeFunc|apply rx_makeSlice|(apply rx_appRef;exact rfl;exact rfl)|apply rx_appNil|(apply rx_sliceS;exact rfl;exact rfl)|(apply rx_sliceSl;exact rfl;exact rfl)|apply rx_sliceRef|apply rx_min|apply rx_max|apply rx_store)<;>(first|exact tabOk|exact Nat.zero_add _|exact rfl|refine rxid ?_|assumption|omega|exact ⟨rfl⟩|exact ⟨rfl,_,_,rfl,rfl⟩|exact lb rfl|(refine Bd.mk ?_;first|assumption|omega|(focus (simp;done))|(simp;omega)|decide)|exact set_at ‹_›|exact set_at (set_at ‹_›)|(focus (refine ⟨rfl,_,_,rfl,?_⟩;omega))|(focus (simp;done))|(simp;omega)|(simp only [lA,lB,lC,lD,lE];omega)|exact newsAll rfl (by first|rfl|(simp;done)|(simp only [lA,lB,lC,lD,lE];omega))))|(apply xPick;exact rfl;exact rfl;(first|assumption|exact dT ‹_›|exact dF ‹_›|exact rfl);exact rfl;exact rfl)|(apply xSkip;(iterate 5 exact rfl);(first|assumption|exact dT ‹_›|exact dF ‹_›|exact rfl))|(apply xSkipN;(iterate 5 exact rfl))|apply rx_end|(refine rx_endD ?_ ?_;kernel_rfl)|apply AWp.seq|apply thenK_normal|apply AWp.reg|apply AWp.block|apply AWp.skip|apply AWp.label|apply AWp.exit|apply AWp.ret|apply thenK_exit|apply thenK_ret|apply blockK_normal|apply blockK_ret|apply blockK_exit|(refine AWp.regD ?_ ?_;kernel_rfl)|(refine blockK_other rfl ?_)|(apply AWp.condT;exact rfl;(first|assumption|exact dT ‹_›|exact dF ‹_›|exact rfl))|(apply AWp.condF;exact rfl;(first|assumption|exact dT ‹_›|exact dF ‹_›|exact rfl))|((first|refine rx_splitP rfl rfl rfl ?_ ?_|refine rx_split rfl rfl rfl ?_ ?_)<;>intro hp<;>(try (exfalso;omega)))|((first|refine AWp.condP rfl ?_ ?_|refine AWp.cond _ rfl ?_ ?_)<;>intro hp<;>(try (exfalso;omega)))))
          refine ⟨d + 1, by omega, by omega, ?_⟩
          have e := tD_next (w := w) (ls := lens ws) (d := d) (i := i) (by omega)
          rw [bB_rec (by omega), hLl] at e
          simp only [← e]
          refine Weak.of [(0, some 0)] rfl ?_ ?_ <;> (repeat' (first|exact trivial|exact rfl|exact Or.inr ⟨rfl,‹_›⟩|apply And.intro|exact congrArg (Value.int .i64) (by first|omega|(simp;done)|(simp;omega))|(refine natEq ?_;first|(focus (simp;done))|omega|(simp only [lA,lB,lC,lD,lE];omega))|(refine ⟨_,rfl,rfl,rfl,OW.one ?_⟩)|(refine ⟨_,rfl,rfl,rfl,OW.same ?_ ?_⟩)|refine vwB ?_|refine vwS ?_|refine vwI ?_|refine fwB ?_|refine fwS ?_|refine fwI ?_|(refine AllSc.imm ?_;first|exact AllSc.nil|assumption)))
          exact (ints_sc _).imm
    · have h0 : ¬ (0 : Int) ≤ (ws.length : Int) - 1 - d := by omega
      obtain rfl : d = ws.length := by omega
      (repeat' (first|(apply xW;(first|exact Want.none_ rfl|(refine wantG rfl rfl rfl rfl ?_;(first|assumption|exact dT ‹_›|exact dF ‹_›|exact rfl))))|(apply xF tabOk;exact rfl;exact rfl)|((first|(apply rx_cat;exact rfl;exact rfl)|apply rx_add|apply rx_sub|apply rx_mul|apply rx_quo|apply rx_rem|apply rx_neg|apply rx_ixS|(apply rx_ixSl;exact rfl;exact rfl)|apply rx_ixRef|(apply rx_load;exact rfl;exact rfl;exact tabOk;exact rfl;exact rfl)|apply rx_loadAgg|apply rx_build|apply rx_buildSlice|apply rx_alloc|apply rx_makeFunc|apply rx_makeSlice|(apply rx_appRef;exact rfl;exact rfl)|apply rx_appNil|(apply rx_sliceS;exact rfl;exact rfl)|(apply rx_sliceSl;exact rfl;exact rfl)|apply rx_sliceRef|apply rx_min|apply rx_max|apply rx_store)<;>(first|exact tabOk|exact Nat.zero_add _|exact rfl|refine rxid ?_|assumption|omega|exact ⟨rfl⟩|exact ⟨rfl,_,_,rfl,rfl⟩|exact lb rfl|(refine Bd.mk ?_;first|assumption|omega|(focus (simp;done))|(simp;omega)|decide)|exact set_at ‹_›|exact set_at (set_at ‹_›)|(focus (refine ⟨rfl,_,_,rfl,?_⟩;omega))|(focus (simp;done))|(simp;omega)|(simp only [lA,lB,lC,lD,lE];omega)|exact newsAll rfl (by first|rfl|(simp;done)|(simp only [lA,lB,lC,lD,lE];omega))))|(apply xPick;exact rfl;exact rfl;(first|assumption|exact dT ‹_›|exact dF ‹_›|exact rfl);exact rfl;exact rfl)|(apply xSkip;(iterate 5 exact rfl);(first|assumption|exact dT ‹_›|exact dF ‹_›|exact rfl))|(apply xSkipN;(iterate 5 exact rfl))|apply rx_end|(refine rx_endD ?_ ?_;kernel_rfl)|apply AWp.seq|apply thenK_normal|apply AWp.reg|apply AWp.block|apply AWp.skip|apply AWp.label|apply AWp.exit|apply AWp.ret|apply thenK_exit|apply thenK_ret|apply blockK_normal|apply blockK_ret|apply blockK_exit|(refine AWp.regD ?_ ?_;kernel_rfl)|(refine blockK_other rfl ?_)|(apply AWp.condT;exact rfl;(first|assumption|exact dT ‹_›|exact dF ‹_›|exact rfl))|(apply AWp.condF;exact rfl;(first|assumption|exact dT ‹_›|exact dF ‹_›|exact rfl))|((first|refine rx_splitP rfl rfl rfl ?_ ?_|refine rx_split rfl rfl rfl ?_ ?_)<;>intro hp<;>(try (exfalso;omega)))|((first|refine AWp.condP rfl ?_ ?_|refine AWp.cond _ rfl ?_ ?_)<;>intro hp<;>(try (exfalso;omega)))))
      have e : tab1 (ws.length + 1) (bB (lens ws) w) = tab1 (ws.length + 1) (tD (lens ws) w ws.length) := tab1_congr fun j hj => by rw [← hLl, tD_all]
      simp only [e]
      ((first|refine ret_ret _ [(0, some 0)] (.cons (rv_tmp rfl) .nil) ?_ rfl ?_|refine ret_end _ [(0, some 0)] (.cons (rv_tmp rfl) .nil) ?_ rfl ?_) <;> (repeat' (first|exact trivial|exact rfl|exact Or.inr ⟨rfl,‹_›⟩|apply And.intro|exact congrArg (Value.int .i64) (by first|omega|(simp;done)|(simp;omega))|(refine natEq ?_;first|(focus (simp;done))|omega|(simp only [lA,lB,lC,lD,lE];omega))|(refine ⟨_,rfl,rfl,rfl,OW.one ?_⟩)|(refine ⟨_,rfl,rfl,rfl,OW.same ?_ ?_⟩)|refine vwB ?_|refine vwS ?_|refine vwI ?_|refine fwB ?_|refine fwS ?_|refine fwI ?_|(refine AllSc.imm ?_;first|exact AllSc.nil|assumption))))
      exact (ints_sc _).imm
end Go.Proofs.Ytfebalahfhkeaaa
