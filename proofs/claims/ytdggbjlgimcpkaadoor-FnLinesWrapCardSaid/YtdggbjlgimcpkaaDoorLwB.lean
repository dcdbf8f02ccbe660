/- FnLinesWrap: its draws and what wrapping keeps. No conditions but bounds. -/
import Derived.Test.YtdggbjlgimcpkaaDoorLwA
import Derived.Test.YtdggbjlgimcpkaaDoorCur3
import Derived.Test.YtdggbjlgimcpkaaDoorWdH
namespace Go.Proofs.YtdggbjlgimcpkaaDoor
open Go Go.RowKit
def wf (ws : List (List UInt8)) : List UInt8 := ws.flatMap fun x => x ++ [32]
theorem wf_cons (x : List UInt8) (ws : List (List UInt8)) : wf (x :: ws) = x ++ [32] ++ wf ws := rfl
theorem wf_app (a b : List (List UInt8)) : wf (a ++ b) = wf a ++ wf b := by simp [wf]
theorem wf_spl : ∀ l : List UInt8, (wf (spl 32 l)).length = l.length + 1
  | [] => rfl
  | c :: r => by
    have ih := wf_spl r
    rw [spl]
    split
    · rw [wf_cons, List.length_append, ih]; simp; omega
    · cases h : spl 32 r with
      | nil => have := (spl_len 32 r).1; rw [h] at this; simp at this
      | cons x t =>
        rw [h, wf_cons, List.length_append, List.length_append] at ih
        show (wf (([c] ++ x) :: t)).length = _
        rw [wf_cons, List.length_append, List.length_append, List.length_append, List.length_cons]
        simp only [List.length_cons, List.length_nil] at ih ⊢
        omega
theorem wf_filter (p : List UInt8 → Bool) : ∀ ws : List (List UInt8), (wf (ws.filter p)).length ≤ (wf ws).length
  | [] => Nat.le_refl _
  | x :: ws => by
    have ih := wf_filter p ws
    rw [List.filter_cons]
    split
    · simp only [wf_cons, List.length_append]; omega
    · simp only [wf_cons, List.length_append]; omega
theorem wf_wsOf (l : List UInt8) : (wf (wsOf l)).length ≤ l.length + 1 := by
  have := wf_filter neP (spl 32 l)
  rw [wf_spl] at this
  exact this
theorem wf_last {ws : List (List UInt8)} (h : ws ≠ []) : (wf ws).getLast? = some 32 := by
  have e : ws = ws.dropLast ++ [ws.getLast h] := (List.dropLast_concat_getLast h).symm
  rw [e, wf_app, wf_cons, show wf [] = [] from rfl, List.append_nil, ← List.append_assoc]
  exact List.getLast?_concat
theorem cut_wf (l : List UInt8) : (cutEnd (wf (wsOf l))).length ≤ l.length := by
  have h1 := wf_wsOf l
  by_cases h : wsOf l = []
  · rw [h]; exact Nat.zero_le _
  · rw [cutEnd, if_pos (wf_last h), List.length_dropLast]; omega
theorem join_wf : ∀ {l : List (List UInt8)}, l ≠ [] → Lib.join l [32] ++ [32] = wf l
  | [], h => absurd rfl h
  | [x], _ => by rw [Lib.join_one, wf_cons, show wf [] = [] from rfl, List.append_nil]
  | x :: y :: r, _ => by
    have ih := join_wf (l := y :: r) (by simp)
    have e : Lib.join (x :: y :: r) [32] = x ++ 32 :: Lib.join (y :: r) [32] := by simp [Lib.join]
    rw [e, wf_cons, ← ih]
    simp
theorem flat_eq {ws : List (List UInt8)} {n : Nat} (hf : fitsOk ws n = true) : (wrT ws n).map flat1 = wf ws := by
  obtain ⟨hwo, n', hnn, _, _, hfx⟩ := fitsOk_parts hf
  obtain rfl := Int.ofNat.inj hnn
  have hLl : (lens ws).length = ws.length := List.length_map _
  have hasc : Asc (path (lens ws) n) ws.length := by rw [← hLl]; exact path_asc (fits_all hfx)
  have hwd : ∀ x ∈ ws, x ≠ [] ∧ (32 : UInt8) ∉ x ∧ (10 : UInt8) ∉ x := fun x hx => by
    simp only [wordsOk, Bool.and_eq_true, List.all_eq_true] at hwo
    exact wordOk_plain (hwo.2 x hx)
  rw [wrT]
  generalize path (lens ws) n = ks at hasc
  have hsub : ∀ l ∈ lns ws ks ks.length, l ≠ [] ∧ ∀ x ∈ l, x ∈ ws := by
    intro l hl
    simp only [lns, List.mem_map, List.mem_range] at hl
    obtain ⟨j, hj, rfl⟩ := hl
    obtain ⟨s, hs⟩ := at_lt hj
    obtain ⟨he1, he2⟩ := hasc.end hs
    rw [lnAt, segW, hs, Option.getD_some]
    refine ⟨fun e => ?_, fun x hx => List.mem_of_mem_drop (List.mem_of_mem_take hx)⟩
    have := congrArg List.length e
    simp only [List.length_take, List.length_drop, List.length_nil] at this
    omega
  have hfl := seg_flat hasc _ (Nat.le_refl _)
  rw [if_neg (by omega)] at hfl
  have hall : (lns ws ks ks.length).flatten = ws := by
    rw [hfl]
    split
    · rename_i e
      subst e
      rcases hasc.zero with h | h
      · have : ws = [] := List.length_eq_zero_iff.1 h
        rw [this]; rfl
      · simp at h
    · exact List.take_length
  have key : ∀ ls : List (List (List UInt8)), (∀ l ∈ ls, l ≠ [] ∧ ∀ x ∈ l, x ∈ ws) → ((ls.map fun l => Lib.join l [32]).flatMap fun x => x ++ [10]).map flat1 = wf ls.flatten := by
    intro ls
    induction ls with
    | nil => intro _; rfl
    | cons l ls ih =>
      intro h
      obtain ⟨h1, h2⟩ := h l (by simp)
      rw [List.map_cons, List.flatMap_cons, List.map_append, ih (fun m hm => h m (by simp [hm])), List.map_append, flat_no (join_no10 fun x hx => (hwd x (h2 x hx)).2.2), List.flatten_cons, wf_app, ← join_wf h1]
      rfl
  have := key _ hsub
  rw [hall] at this
  rw [wrK, List.take_of_length_le (by rw [jls_len]; exact Nat.le_refl _), jls]
  exact this
def sepT : List (List UInt8) := [[32], [32], [32, 32]]
theorem drawSW_ex (code : List UInt8) (hl : code.length ≤ 65536) : ∃ l : List UInt8, l.length ≤ 10000 ∧ PF Tryd.prog 55 [.c (.sl (code.map byteC))] [] (.c (str l)) := by
  have a0 : c00.a = 0 := rfl
  have ha := drC_a code c00
  have p1 := l19DrawWords_pfm code c00 hl (by omega)
  have hB : (drL code c00).length ≤ 41 ∧ ∀ x ∈ drL code c00, x.length ≤ 9 := by
    rw [drL]
    exact ⟨by rw [dwL_len]; exact dnV_le code c00, dwL_le code _ _⟩
  have k1 := imP2 (b := ⟨9, 1, (drL code c00).map eStr⟩) (curO_im code (drC code c00)) (strs_sc (drL code c00)).imm
  generalize drC code c00 = c1 at ha p1 k1
  generalize drL code c00 = ws at p1 hB k1
  have m1 := iiP1 (curO_im code c00)
  obtain ⟨cs, xs, hc0, hcs⟩ := seq_ex (X := List UInt8) (fun c c' x => x.length ≤ 2 ∧ PFM Tryd.prog 92 [curO code c, ⟨9, 1, sepT.map eStr⟩] [.c (.ptr 0 0 0), .c (.ref 1 0 sepT.length)] [some (curO code c'), some ⟨9, 1, sepT.map eStr⟩] (.c (str x))) 1 1000000
    (fun c hc => by
      obtain ⟨c', x, h1, h2, h3⟩ := of_ex code c hl (by omega) sepT (by decide)
      have all : ∀ x ∈ sepT, x.length ≤ 2 := by decide
      exact ⟨c', x, h1, all x h2, h3⟩) c1 ws.length (by omega)
  subst hc0
  obtain ⟨o, ho0, hoS, hoL⟩ : ∃ o : Nat → List UInt8, o 0 = [] ∧ (∀ j x, ws[j]? = some x → o (j + 1) = o j ++ x ++ xs j) ∧ ∀ j, j ≤ ws.length → (o j).length ≤ 11 * j := by
    refine ⟨fun j => (List.range j).flatMap fun i => (ws[i]?).getD [] ++ xs i, rfl, fun j x hx => ?_, fun j hj => ?_⟩
    · simp only [List.range_succ, List.flatMap_append, List.flatMap_cons, List.flatMap_nil, List.append_nil, hx, Option.getD_some, List.append_assoc]
    · induction j with
      | zero => exact Nat.le_refl _
      | succ j ih =>
        obtain ⟨x, hx⟩ := at_lt (show j < ws.length by omega)
        have h1 := hB.2 x (List.mem_of_getElem? hx)
        have h2 := (hcs j (by omega)).2.2.1
        have h3 := ih (by omega)
        simp only [List.range_succ, List.flatMap_append, List.flatMap_cons, List.flatMap_nil, List.append_nil, hx, Option.getD_some, List.length_append] at h3 ⊢
        omega
  have aN := (hcs ws.length (Nat.le_refl _)).1
  have lN := hoL ws.length (Nat.le_refl _)
  obtain ⟨c2, b, a2, p2⟩ := one_ex code (cs ws.length) hl (by omega) 15 (by omega)
  obtain ⟨c3, s, a3, hs3, p3⟩ := spoilt_ex code c2 hl (by omega) (o ws.length) [32, 97, 10] (by omega) (by decide)
  have i2 := imO2 (curO_im code c2)
  have i3 := imO2 (curO_im code c3)
  have j2 := iiP1 (curO_im code (cs ws.length))
  have j3 := iiP1 (curO_im code c2)
  have hLw : (ws.map eStr).length = ws.length := List.length_map _
  refine ⟨if b then s else o ws.length, by split <;> omega, ?_⟩
  refine PF.enter (enum1 _) Tryd.func55 rfl (by kernel_rfl) _ _ rfl rfl rfl (fun w0 mu I0 β0 gi dis => ?_)
  (repeat' (first|(apply xW;(first|exact Want.none_ rfl|(refine wantG rfl rfl rfl rfl ?_;(first|assumption|exact dT ‹_›|exact dF ‹_›|exact rfl))))|(apply xF tabOk;exact rfl;exact rfl)|((first|(apply rx_cat;exact rfl;exact rfl)|apply rx_add|(apply rx_subU8;exact rfl;exact rfl;exact rfl)|apply rx_sub|apply rx_mul|apply rx_quo|apply rx_rem|apply rx_neg|apply rx_ixS|(apply rx_ixSl;exact rfl;exact rfl)|apply rx_ixRef|(apply rx_load;exact rfl;exact rfl;exact tabOk;exact rfl;exact rfl)|apply rx_loadAgg|apply rx_build|apply rx_buildSlice|apply rx_alloc|apply rx_makeFunc|apply rx_makeSlice|(apply rx_appRef;exact rfl;exact rfl)|apply rx_appNil|(apply rx_sliceS;exact rfl;exact rfl)|(apply rx_sliceSl;exact rfl;exact rfl)|apply rx_sliceRef|apply rx_min|apply rx_max|apply rx_store)<;>(first|exact tabOk|exact Nat.zero_add _|exact rfl|refine rxid ?_|assumption|omega|exact ⟨rfl⟩|exact ⟨rfl,_,_,rfl,rfl⟩|exact lb rfl|(refine Bd.mk ?_;first|assumption|omega|(focus (simp;done))|(simp;omega)|decide)|exact set_at ‹_›|exact set_at (set_at ‹_›)|(focus (apply oI;exact rfl;exact rfl;assumption))|(focus (refine ⟨rfl,_,_,rfl,?_⟩;omega))|exact bdLens rfl|exact bdTd ‹_›|(focus (simp;done))|(simp;omega)|(simp only [lA,lB,lC,lD,lE];omega)|exact newsAll rfl (by first|rfl|(simp;done)|(simp only [lA,lB,lC,lD,lE];omega))|exact newsRef rfl (by first|assumption|omega|(simp only [lA,lB,lC,lD,lE];omega))))|(apply xPick;exact rfl;exact rfl;(first|assumption|exact dT ‹_›|exact dF ‹_›|exact rfl);exact rfl;exact rfl)|(apply xSkip;(iterate 5 exact rfl);(first|assumption|exact dT ‹_›|exact dF ‹_›|exact rfl))|(apply xSkipN;(iterate 5 exact rfl))|apply rx_end|(refine rx_endD ?_ ?_;kernel_rfl)|apply AWp.seq|apply thenK_normal|apply AWp.reg|apply AWp.block|apply AWp.skip|apply AWp.label|apply AWp.exit|apply AWp.ret|apply thenK_exit|apply thenK_ret|apply blockK_normal|apply blockK_ret|apply blockK_exit|(refine AWp.regD ?_ ?_;kernel_rfl)|(refine blockK_other rfl ?_)|(apply AWp.condT;exact rfl;(first|assumption|exact dT ‹_›|exact dF ‹_›|exact rfl))|(apply AWp.condF;exact rfl;(first|assumption|exact dT ‹_›|exact dF ‹_›|exact rfl))|(apply (rx_callMR (p1));(iterate 7 exact rfl);(focus (repeat (first|exact All2.nil|refine All2.cons rfl ?_)));exact rfl;(focus (repeat (first|exact MC.vc (VC.imm (Imm.fn0 _))|exact MC.vc (VC.imm (Imm.fn _ _ ‹_›))|exact MAs.nil|apply MAs.cons|apply MA.c|apply MA.agg|exact MCs.nil|apply MCs.cons|exact MC.ref rfl|exact MC.ptr rfl|exact MC.vc (VC.imm (Imm.v _))|exact MC.vc (VC.imm (Imm.sl _))|exact MC.vc (VC.imm (Imm.ip _))|exact MC.vc VC.nil)));(first|assumption|(apply imO1;assumption)|(apply imO2;assumption));(first|exact imI0|assumption|(apply imI1;assumption));exact rfl;exact rfl)|((first|refine rx_splitP rfl rfl rfl ?_ ?_|refine rx_split rfl rfl rfl ?_ ?_)<;>intro hp<;>(try (exfalso;omega)))|((first|refine AWp.condP rfl ?_ ?_|refine AWp.cond _ rfl ?_ ?_)<;>intro hp<;>(try (exfalso;omega)))))
  refine AWp.loop (σ := Nat) (fun j => ⟨[(3, .c (.ptr 0 0 0)), (4, .c (str (o j))), (5, .c (.ref 1 0 ws.length)), (6, .c (int j))], [(0, some (curO code (cs j))), (1, some ⟨9, 1, ws.map eStr⟩)], 2⟩) (fun j => j ≤ ws.length) (fun j => ws.length - j) 0 (Nat.zero_le _) ?_ ?_
  · rw [ho0]
    refine Weak.of [(0, some 0), (1, some 1)] rfl ?_ ?_ <;> (repeat' (first|exact trivial|exact rfl|exact Or.inr ⟨rfl,‹_›⟩|exact Or.inl ⟨rfl,trivial⟩|apply And.intro|exact congrArg (Value.int .i64) (by first|omega|(simp;done)|(simp;omega))|(refine natEq ?_;first|(focus (simp;done))|omega|(simp only [lA,lB,lC,lD,lE];omega))|(refine ⟨_,rfl,rfl,rfl,OW.one ?_⟩)|(refine ⟨_,rfl,rfl,rfl,OW.same ?_ ?_⟩)|refine vwB ?_|refine vwS ?_|refine vwI ?_|refine fwB ?_|refine fwS ?_|refine fwI ?_|(refine AllSc.imm ?_;first|exact AllSc.nil|assumption)))
    all_goals first | exact curO_im _ _ | exact (strs_sc _).imm
  · intro j hj
    obtain ⟨ha, hb, hx2, hpf⟩ := hcs j hj
    have hol := hoL j hj
    by_cases hlt : j < ws.length
    · obtain ⟨x, hx⟩ := at_lt hlt
      have hx' : (ws.map eStr)[j]? = some (eStr x) := map_at hx
      have hxl := hB.2 x (List.mem_of_getElem? hx)
      have hlt' : (j : Int) < (ws.length : Int) := by omega
      have k1 := imP2 (b := ⟨9, 1, sepT.map eStr⟩) (curO_im code (cs (j + 1))) (strs_sc sepT).imm
      have m1 := iiP2 (b := ⟨9, 1, sepT.map eStr⟩) (curO_im code (cs j)) (strs_sc sepT).imm
      have hs := hoS j x hx
      (repeat' (first|(apply xW;(first|exact Want.none_ rfl|(refine wantG rfl rfl rfl rfl ?_;(first|assumption|exact dT ‹_›|exact dF ‹_›|exact rfl))))|(apply xF tabOk;exact rfl;exact rfl)|((first|(apply rx_cat;exact rfl;exact rfl)|apply rx_add|(apply rx_subU8;exact rfl;exact rfl;exact rfl)|apply rx_sub|apply rx_mul|apply rx_quo|apply rx_rem|apply rx_neg|apply rx_ixS|(apply rx_ixSl;exact rfl;exact rfl)|apply rx_ixRef|(apply rx_load;exact rfl;exact rfl;exact tabOk;exact rfl;exact rfl)|apply rx_loadAgg|apply rx_build|apply rx_buildSlice|apply rx_alloc|apply rx_makeFunc|apply rx_makeSlice|(apply rx_appRef;exact rfl;exact rfl)|apply rx_appNil|(apply rx_sliceS;exact rfl;exact rfl)|(apply rx_sliceSl;exact rfl;exact rfl)|apply rx_sliceRef|apply rx_min|apply rx_max|apply rx_store)<;>(first|exact tabOk|exact Nat.zero_add _|exact rfl|refine rxid ?_|assumption|omega|exact ⟨rfl⟩|exact ⟨rfl,_,_,rfl,rfl⟩|exact lb rfl|(refine Bd.mk ?_;first|assumption|omega|(focus (simp;done))|(simp;omega)|decide)|exact set_at ‹_›|exact set_at (set_at ‹_›)|(focus (apply oI;exact rfl;exact rfl;assumption))|(focus (refine ⟨rfl,_,_,rfl,?_⟩;omega))|exact bdLens rfl|exact bdTd ‹_›|(focus (simp;done))|(simp;omega)|(simp only [lA,lB,lC,lD,lE];omega)|exact newsAll rfl (by first|rfl|(simp;done)|(simp only [lA,lB,lC,lD,lE];omega))|exact newsRef rfl (by first|assumption|omega|(simp only [lA,lB,lC,lD,lE];omega))))|(apply xPick;exact rfl;exact rfl;(first|assumption|exact dT ‹_›|exact dF ‹_›|exact rfl);exact rfl;exact rfl)|(apply xSkip;(iterate 5 exact rfl);(first|assumption|exact dT ‹_›|exact dF ‹_›|exact rfl))|(apply xSkipN;(iterate 5 exact rfl))|apply rx_end|(refine rx_endD ?_ ?_;kernel_rfl)|apply AWp.seq|apply thenK_normal|apply AWp.reg|apply AWp.block|apply AWp.skip|apply AWp.label|apply AWp.exit|apply AWp.ret|apply thenK_exit|apply thenK_ret|apply blockK_normal|apply blockK_ret|apply blockK_exit|(refine AWp.regD ?_ ?_;kernel_rfl)|(refine blockK_other rfl ?_)|(apply AWp.condT;exact rfl;(first|assumption|exact dT ‹_›|exact dF ‹_›|exact rfl))|(apply AWp.condF;exact rfl;(first|assumption|exact dT ‹_›|exact dF ‹_›|exact rfl))|(apply (rx_callMR (hpf));(iterate 7 exact rfl);(focus (repeat (first|exact All2.nil|refine All2.cons rfl ?_)));exact rfl;(focus (repeat (first|exact MC.vc (VC.imm (Imm.fn0 _))|exact MC.vc (VC.imm (Imm.fn _ _ ‹_›))|exact MAs.nil|apply MAs.cons|apply MA.c|apply MA.agg|exact MCs.nil|apply MCs.cons|exact MC.ref rfl|exact MC.ptr rfl|exact MC.vc (VC.imm (Imm.v _))|exact MC.vc (VC.imm (Imm.sl _))|exact MC.vc (VC.imm (Imm.ip _))|exact MC.vc VC.nil)));(first|assumption|(apply imO1;assumption)|(apply imO2;assumption));(first|exact imI0|assumption|(apply imI1;assumption));exact rfl;exact rfl)|((first|refine rx_splitP rfl rfl rfl ?_ ?_|refine rx_split rfl rfl rfl ?_ ?_)<;>intro hp<;>(try (exfalso;omega)))|((first|refine AWp.condP rfl ?_ ?_|refine AWp.cond _ rfl ?_ ?_)<;>intro hp<;>(try (exfalso;omega)))))
      refine ⟨j + 1, by omega, by omega, ?_⟩
      rw [hs]
      refine Weak.of [(0, some 0), (1, some 1)] rfl ?_ ?_ <;> (repeat' (first|exact trivial|exact rfl|exact Or.inr ⟨rfl,‹_›⟩|exact Or.inl ⟨rfl,trivial⟩|apply And.intro|exact congrArg (Value.int .i64) (by first|omega|(simp;done)|(simp;omega))|(refine natEq ?_;first|(focus (simp;done))|omega|(simp only [lA,lB,lC,lD,lE];omega))|(refine ⟨_,rfl,rfl,rfl,OW.one ?_⟩)|(refine ⟨_,rfl,rfl,rfl,OW.same ?_ ?_⟩)|refine vwB ?_|refine vwS ?_|refine vwI ?_|refine fwB ?_|refine fwS ?_|refine fwI ?_|(refine AllSc.imm ?_;first|exact AllSc.nil|assumption)))
      all_goals first | exact curO_im _ _ | exact (strs_sc _).imm
    · have hlt' : ¬ (j : Int) < (ws.length : Int) := by omega
      obtain rfl : j = ws.length := by omega
      cases b
      · (repeat' (first|(apply xW;(first|exact Want.none_ rfl|(refine wantG rfl rfl rfl rfl ?_;(first|assumption|exact dT ‹_›|exact dF ‹_›|exact rfl))))|(apply xF tabOk;exact rfl;exact rfl)|((first|(apply rx_cat;exact rfl;exact rfl)|apply rx_add|(apply rx_subU8;exact rfl;exact rfl;exact rfl)|apply rx_sub|apply rx_mul|apply rx_quo|apply rx_rem|apply rx_neg|apply rx_ixS|(apply rx_ixSl;exact rfl;exact rfl)|apply rx_ixRef|(apply rx_load;exact rfl;exact rfl;exact tabOk;exact rfl;exact rfl)|apply rx_loadAgg|apply rx_build|apply rx_buildSlice|apply rx_alloc|apply rx_makeFunc|apply rx_makeSlice|(apply rx_appRef;exact rfl;exact rfl)|apply rx_appNil|(apply rx_sliceS;exact rfl;exact rfl)|(apply rx_sliceSl;exact rfl;exact rfl)|apply rx_sliceRef|apply rx_min|apply rx_max|apply rx_store)<;>(first|exact tabOk|exact Nat.zero_add _|exact rfl|refine rxid ?_|assumption|omega|exact ⟨rfl⟩|exact ⟨rfl,_,_,rfl,rfl⟩|exact lb rfl|(refine Bd.mk ?_;first|assumption|omega|(focus (simp;done))|(simp;omega)|decide)|exact set_at ‹_›|exact set_at (set_at ‹_›)|(focus (apply oI;exact rfl;exact rfl;assumption))|(focus (refine ⟨rfl,_,_,rfl,?_⟩;omega))|exact bdLens rfl|exact bdTd ‹_›|(focus (simp;done))|(simp;omega)|(simp only [lA,lB,lC,lD,lE];omega)|exact newsAll rfl (by first|rfl|(simp;done)|(simp only [lA,lB,lC,lD,lE];omega))|exact newsRef rfl (by first|assumption|omega|(simp only [lA,lB,lC,lD,lE];omega))))|(apply xPick;exact rfl;exact rfl;(first|assumption|exact dT ‹_›|exact dF ‹_›|exact rfl);exact rfl;exact rfl)|(apply xSkip;(iterate 5 exact rfl);(first|assumption|exact dT ‹_›|exact dF ‹_›|exact rfl))|(apply xSkipN;(iterate 5 exact rfl))|apply rx_end|(refine rx_endD ?_ ?_;kernel_rfl)|apply AWp.seq|apply thenK_normal|apply AWp.reg|apply AWp.block|apply AWp.skip|apply AWp.label|apply AWp.exit|apply AWp.ret|apply thenK_exit|apply thenK_ret|apply blockK_normal|apply blockK_ret|apply blockK_exit|(refine AWp.regD ?_ ?_;kernel_rfl)|(refine blockK_other rfl ?_)|(apply AWp.condT;exact rfl;(first|assumption|exact dT ‹_›|exact dF ‹_›|exact rfl))|(apply AWp.condF;exact rfl;(first|assumption|exact dT ‹_›|exact dF ‹_›|exact rfl))|(apply (rx_callMR (p2));(iterate 7 exact rfl);(focus (repeat (first|exact All2.nil|refine All2.cons rfl ?_)));exact rfl;(focus (repeat (first|exact MC.vc (VC.imm (Imm.fn0 _))|exact MC.vc (VC.imm (Imm.fn _ _ ‹_›))|exact MAs.nil|apply MAs.cons|apply MA.c|apply MA.agg|exact MCs.nil|apply MCs.cons|exact MC.ref rfl|exact MC.ptr rfl|exact MC.vc (VC.imm (Imm.v _))|exact MC.vc (VC.imm (Imm.sl _))|exact MC.vc (VC.imm (Imm.ip _))|exact MC.vc VC.nil)));(first|assumption|(apply imO1;assumption)|(apply imO2;assumption));(first|exact imI0|assumption|(apply imI1;assumption));exact rfl;exact rfl)|((first|refine rx_splitP rfl rfl rfl ?_ ?_|refine rx_split rfl rfl rfl ?_ ?_)<;>intro hp<;>(try (exfalso;omega)))|((first|refine AWp.condP rfl ?_ ?_|refine AWp.cond _ rfl ?_ ?_)<;>intro hp<;>(try (exfalso;omega)))))
        ((first|refine ret_ret _ [] (.cons (rv_tmp rfl) .nil) ?_ rfl ?_|refine ret_end _ [] (.cons (rv_tmp rfl) .nil) ?_ rfl ?_) <;> (repeat' (first|exact trivial|exact rfl|exact Or.inr ⟨rfl,‹_›⟩|exact Or.inl ⟨rfl,trivial⟩|apply And.intro|exact congrArg (Value.int .i64) (by first|omega|(simp;done)|(simp;omega))|(refine natEq ?_;first|(focus (simp;done))|omega|(simp only [lA,lB,lC,lD,lE];omega))|(refine ⟨_,rfl,rfl,rfl,OW.one ?_⟩)|(refine ⟨_,rfl,rfl,rfl,OW.same ?_ ?_⟩)|refine vwB ?_|refine vwS ?_|refine vwI ?_|refine fwB ?_|refine fwS ?_|refine fwI ?_|(refine AllSc.imm ?_;first|exact AllSc.nil|assumption))))
      · (repeat' (first|(apply xW;(first|exact Want.none_ rfl|(refine wantG rfl rfl rfl rfl ?_;(first|assumption|exact dT ‹_›|exact dF ‹_›|exact rfl))))|(apply xF tabOk;exact rfl;exact rfl)|((first|(apply rx_cat;exact rfl;exact rfl)|apply rx_add|(apply rx_subU8;exact rfl;exact rfl;exact rfl)|apply rx_sub|apply rx_mul|apply rx_quo|apply rx_rem|apply rx_neg|apply rx_ixS|(apply rx_ixSl;exact rfl;exact rfl)|apply rx_ixRef|(apply rx_load;exact rfl;exact rfl;exact tabOk;exact rfl;exact rfl)|apply rx_loadAgg|apply rx_build|apply rx_buildSlice|apply rx_alloc|apply rx_makeFunc|apply rx_makeSlice|(apply rx_appRef;exact rfl;exact rfl)|apply rx_appNil|(apply rx_sliceS;exact rfl;exact rfl)|(apply rx_sliceSl;exact rfl;exact rfl)|apply rx_sliceRef|apply rx_min|apply rx_max|apply rx_store)<;>(first|exact tabOk|exact Nat.zero_add _|exact rfl|refine rxid ?_|assumption|omega|exact ⟨rfl⟩|exact ⟨rfl,_,_,rfl,rfl⟩|exact lb rfl|(refine Bd.mk ?_;first|assumption|omega|(focus (simp;done))|(simp;omega)|decide)|exact set_at ‹_›|exact set_at (set_at ‹_›)|(focus (apply oI;exact rfl;exact rfl;assumption))|(focus (refine ⟨rfl,_,_,rfl,?_⟩;omega))|exact bdLens rfl|exact bdTd ‹_›|(focus (simp;done))|(simp;omega)|(simp only [lA,lB,lC,lD,lE];omega)|exact newsAll rfl (by first|rfl|(simp;done)|(simp only [lA,lB,lC,lD,lE];omega))|exact newsRef rfl (by first|assumption|omega|(simp only [lA,lB,lC,lD,lE];omega))))|(apply xPick;exact rfl;exact rfl;(first|assumption|exact dT ‹_›|exact dF ‹_›|exact rfl);exact rfl;exact rfl)|(apply xSkip;(iterate 5 exact rfl);(first|assumption|exact dT ‹_›|exact dF ‹_›|exact rfl))|(apply xSkipN;(iterate 5 exact rfl))|apply rx_end|(refine rx_endD ?_ ?_;kernel_rfl)|apply AWp.seq|apply thenK_normal|apply AWp.reg|apply AWp.block|apply AWp.skip|apply AWp.label|apply AWp.exit|apply AWp.ret|apply thenK_exit|apply thenK_ret|apply blockK_normal|apply blockK_ret|apply blockK_exit|(refine AWp.regD ?_ ?_;kernel_rfl)|(refine blockK_other rfl ?_)|(apply AWp.condT;exact rfl;(first|assumption|exact dT ‹_›|exact dF ‹_›|exact rfl))|(apply AWp.condF;exact rfl;(first|assumption|exact dT ‹_›|exact dF ‹_›|exact rfl))|(apply (rx_callMR (p2));(iterate 7 exact rfl);(focus (repeat (first|exact All2.nil|refine All2.cons rfl ?_)));exact rfl;(focus (repeat (first|exact MC.vc (VC.imm (Imm.fn0 _))|exact MC.vc (VC.imm (Imm.fn _ _ ‹_›))|exact MAs.nil|apply MAs.cons|apply MA.c|apply MA.agg|exact MCs.nil|apply MCs.cons|exact MC.ref rfl|exact MC.ptr rfl|exact MC.vc (VC.imm (Imm.v _))|exact MC.vc (VC.imm (Imm.sl _))|exact MC.vc (VC.imm (Imm.ip _))|exact MC.vc VC.nil)));(first|assumption|(apply imO1;assumption)|(apply imO2;assumption));(first|exact imI0|assumption|(apply imI1;assumption));exact rfl;exact rfl)|(apply (rx_callMR (p3));(iterate 7 exact rfl);(focus (repeat (first|exact All2.nil|refine All2.cons rfl ?_)));exact rfl;(focus (repeat (first|exact MC.vc (VC.imm (Imm.fn0 _))|exact MC.vc (VC.imm (Imm.fn _ _ ‹_›))|exact MAs.nil|apply MAs.cons|apply MA.c|apply MA.agg|exact MCs.nil|apply MCs.cons|exact MC.ref rfl|exact MC.ptr rfl|exact MC.vc (VC.imm (Imm.v _))|exact MC.vc (VC.imm (Imm.sl _))|exact MC.vc (VC.imm (Imm.ip _))|exact MC.vc VC.nil)));(first|assumption|(apply imO1;assumption)|(apply imO2;assumption));(first|exact imI0|assumption|(apply imI1;assumption));exact rfl;exact rfl)|((first|refine rx_splitP rfl rfl rfl ?_ ?_|refine rx_split rfl rfl rfl ?_ ?_)<;>intro hp<;>(try (exfalso;omega)))|((first|refine AWp.condP rfl ?_ ?_|refine AWp.cond _ rfl ?_ ?_)<;>intro hp<;>(try (exfalso;omega)))))
        ((first|refine ret_ret _ [] (.cons (rv_tmp rfl) .nil) ?_ rfl ?_|refine ret_end _ [] (.cons (rv_tmp rfl) .nil) ?_ rfl ?_) <;> (repeat' (first|exact trivial|exact rfl|exact Or.inr ⟨rfl,‹_›⟩|exact Or.inl ⟨rfl,trivial⟩|apply And.intro|exact congrArg (Value.int .i64) (by first|omega|(simp;done)|(simp;omega))|(refine natEq ?_;first|(focus (simp;done))|omega|(simp only [lA,lB,lC,lD,lE];omega))|(refine ⟨_,rfl,rfl,rfl,OW.one ?_⟩)|(refine ⟨_,rfl,rfl,rfl,OW.same ?_ ?_⟩)|refine vwB ?_|refine vwS ?_|refine vwI ?_|refine fwB ?_|refine fwS ?_|refine fwI ?_|(refine AllSc.imm ?_;first|exact AllSc.nil|assumption))))
theorem drawWT_ex (code : List UInt8) (hl : code.length ≤ 65536) : ∃ (l : List UInt8) (w : Int), l.length ≤ 10000 ∧ PF Tryd.prog 21 [.c (.sl (code.map byteC))] [] (.tup [.c (str l), .c (int w)]) := by
  have a0 : c00.a = 0 := rfl
  obtain ⟨l, h1, h2⟩ := drawSW_ex code hl
  have a1 := pkC_a code c00 4
  have p1 := pick_pfm code c00 hl (by omega) 4 (by omega)
  have p2 := l19DrawWidth_pfm code (pkC code c00 4) hl (by omega)
  have i1 := imO2 (curO_im code (pkC code c00 4))
  have i2 := imO2 (curO_im code (wiC code (pkC code c00 4)))
  have j1 := iiP1 (curO_im code c00)
  have j2 := iiP1 (curO_im code (pkC code c00 4))
  refine ⟨l, wiV code (pkC code c00 4), h1, ?_⟩
  refine PF.enter (enum1 _) Tryd.func21 rfl (by kernel_rfl) _ _ rfl rfl rfl (fun w0 mu I0 β0 gi dis => ?_)
  (repeat' (first|(apply xW;(first|exact Want.none_ rfl|(refine wantG rfl rfl rfl rfl ?_;(first|assumption|exact dT ‹_›|exact dF ‹_›|exact rfl))))|(apply xF tabOk;exact rfl;exact rfl)|((first|(apply rx_cat;exact rfl;exact rfl)|apply rx_add|(apply rx_subU8;exact rfl;exact rfl;exact rfl)|apply rx_sub|apply rx_mul|apply rx_quo|apply rx_rem|apply rx_neg|apply rx_ixS|(apply rx_ixSl;exact rfl;exact rfl)|apply rx_ixRef|(apply rx_load;exact rfl;exact rfl;exact tabOk;exact rfl;exact rfl)|apply rx_loadAgg|apply rx_build|apply rx_buildSlice|apply rx_alloc|apply rx_makeFunc|apply rx_makeSlice|(apply rx_appRef;exact rfl;exact rfl)|apply rx_appNil|(apply rx_sliceS;exact rfl;exact rfl)|(apply rx_sliceSl;exact rfl;exact rfl)|apply rx_sliceRef|apply rx_min|apply rx_max|apply rx_store)<;>(first|exact tabOk|exact Nat.zero_add _|exact rfl|refine rxid ?_|assumption|omega|exact ⟨rfl⟩|exact ⟨rfl,_,_,rfl,rfl⟩|exact lb rfl|(refine Bd.mk ?_;first|assumption|omega|(focus (simp;done))|(simp;omega)|decide)|exact set_at ‹_›|exact set_at (set_at ‹_›)|(focus (apply oI;exact rfl;exact rfl;assumption))|(focus (refine ⟨rfl,_,_,rfl,?_⟩;omega))|exact bdLens rfl|exact bdTd ‹_›|(focus (simp;done))|(simp;omega)|(simp only [lA,lB,lC,lD,lE];omega)|exact newsAll rfl (by first|rfl|(simp;done)|(simp only [lA,lB,lC,lD,lE];omega))|exact newsRef rfl (by first|assumption|omega|(simp only [lA,lB,lC,lD,lE];omega))))|(apply xPick;exact rfl;exact rfl;(first|assumption|exact dT ‹_›|exact dF ‹_›|exact rfl);exact rfl;exact rfl)|(apply xSkip;(iterate 5 exact rfl);(first|assumption|exact dT ‹_›|exact dF ‹_›|exact rfl))|(apply xSkipN;(iterate 5 exact rfl))|apply rx_end|(refine rx_endD ?_ ?_;kernel_rfl)|apply AWp.seq|apply thenK_normal|apply AWp.reg|apply AWp.block|apply AWp.skip|apply AWp.label|apply AWp.exit|apply AWp.ret|apply thenK_exit|apply thenK_ret|apply blockK_normal|apply blockK_ret|apply blockK_exit|(refine AWp.regD ?_ ?_;kernel_rfl)|(refine blockK_other rfl ?_)|(apply AWp.condT;exact rfl;(first|assumption|exact dT ‹_›|exact dF ‹_›|exact rfl))|(apply AWp.condF;exact rfl;(first|assumption|exact dT ‹_›|exact dF ‹_›|exact rfl))|(apply (rx_callMR (p1));(iterate 7 exact rfl);(focus (repeat (first|exact All2.nil|refine All2.cons rfl ?_)));exact rfl;(focus (repeat (first|exact MC.vc (VC.imm (Imm.fn0 _))|exact MC.vc (VC.imm (Imm.fn _ _ ‹_›))|exact MAs.nil|apply MAs.cons|apply MA.c|apply MA.agg|exact MCs.nil|apply MCs.cons|exact MC.ref rfl|exact MC.ptr rfl|exact MC.vc (VC.imm (Imm.v _))|exact MC.vc (VC.imm (Imm.sl _))|exact MC.vc (VC.imm (Imm.ip _))|exact MC.vc VC.nil)));(first|assumption|(apply imO1;assumption)|(apply imO2;assumption));(first|exact imI0|assumption|(apply imI1;assumption));exact rfl;exact rfl)|(apply (rx_callMR (p2));(iterate 7 exact rfl);(focus (repeat (first|exact All2.nil|refine All2.cons rfl ?_)));exact rfl;(focus (repeat (first|exact MC.vc (VC.imm (Imm.fn0 _))|exact MC.vc (VC.imm (Imm.fn _ _ ‹_›))|exact MAs.nil|apply MAs.cons|apply MA.c|apply MA.agg|exact MCs.nil|apply MCs.cons|exact MC.ref rfl|exact MC.ptr rfl|exact MC.vc (VC.imm (Imm.v _))|exact MC.vc (VC.imm (Imm.sl _))|exact MC.vc (VC.imm (Imm.ip _))|exact MC.vc VC.nil)));(first|assumption|(apply imO1;assumption)|(apply imO2;assumption));(first|exact imI0|assumption|(apply imI1;assumption));exact rfl;exact rfl)|(apply rx_callA;(iterate 6 exact rfl);(iterate 2 (focus (repeat (first|exact VAs.nil|apply VAs.cons|apply VA.c|apply VA.agg|exact VCs.nil|(apply VCs.same;assumption)|apply VCs.cons|exact VC.imm (Imm.v _)|exact VC.imm (Imm.sl _)|exact VC.imm (Imm.ip _)|exact VC.imm ‹_›|exact VC.nil|apply VC.fn|(refine VC.ptrA rfl rfl rfl rfl ?_;(repeat (first|assumption|exact imm_no|exact Imm.v _|exact Imm.sl _|exact Imm.ip _|exact Imm.nil|exact Imm.fn0 _|refine imm_cons ?_ ?_|refine Imm.fn _ _ ?_)))|(apply VC.refA;exact rfl;exact rfl;(first|exact rfl|(focus (simp;done))|omega|(focus (simp only [lA,lB,lC,lD,lE];omega)));exact rfl;(first|assumption|(refine AllSc.imm ?_;assumption)))|(apply VC.refP;exact rfl;exact rfl;(first|assumption|omega|(focus (simp only [lA,lB,lC,lD,lE];omega))|(focus (simp;done))|(focus (simp;omega)));exact rfl;(first|assumption|(refine AllSc.imm ?_;assumption)))|assumption))));(first|exact h2);(focus (repeat (first|exact trivial|exact Flat.v _|exact Flat.dead|exact Flat.ref _ _ _|exact Flat.nil|apply And.intro)));(first|apply callK0|(apply callK1;(focus (repeat (first|exact trivial|apply And.intro|(first|exact AllSc.nil|assumption))))));(first|exact sh_1 _ _|exact sh_2 _ _ _|exact sh_r _ _ _ _|exact sh_r1 _ _ _ _ _|exact sh_n _|exact sh_n1 _ _|exact sh_ar _ _ _ _|exact sh_ar1 _ _ _ _ _|exact sh_an1 _ _|exact sh_3 _ _ _ _|exact rfl))|((first|refine rx_splitP rfl rfl rfl ?_ ?_|refine rx_split rfl rfl rfl ?_ ?_)<;>intro hp<;>(try (exfalso;omega)))|((first|refine AWp.condP rfl ?_ ?_|refine AWp.cond _ rfl ?_ ?_)<;>intro hp<;>(try (exfalso;omega)))))
  ((first|refine ret_ret _ [] (.cons (rv_tmp rfl) (.cons (rv_tmp rfl) .nil)) ?_ rfl ?_|refine ret_end _ [] (.cons (rv_tmp rfl) (.cons (rv_tmp rfl) .nil)) ?_ rfl ?_) <;> (repeat' (first|exact trivial|exact rfl|exact Or.inr ⟨rfl,‹_›⟩|exact Or.inl ⟨rfl,trivial⟩|apply And.intro|exact congrArg (Value.int .i64) (by first|omega|(simp;done)|(simp;omega))|(refine natEq ?_;first|(focus (simp;done))|omega|(simp only [lA,lB,lC,lD,lE];omega))|(refine ⟨_,rfl,rfl,rfl,OW.one ?_⟩)|(refine ⟨_,rfl,rfl,rfl,OW.same ?_ ?_⟩)|refine vwB ?_|refine vwS ?_|refine vwI ?_|refine fwB ?_|refine fwS ?_|refine fwI ?_|(refine AllSc.imm ?_;first|exact AllSc.nil|assumption))))
theorem drawBa_ex (code : List UInt8) (hl : code.length ≤ 65536) : ∃ (ws : List (List UInt8)) (n : Int), StrB ws ∧ PF Tryd.prog 22 [.c (.sl (code.map byteC))] [⟨9, 1, ws.map eStr⟩] (.tup [.c (.ref 0 0 ws.length), .c (int n)]) := by
  have hca : (c00).a = 0 := rfl
  have ha := drC_a code c00
  have p1 := l19DrawWords_pfm code c00 hl (by omega)
  have p2 := pick_pfm code (drC code c00) hl (by omega) 7 (by omega)
  have m1 := iiP1 (curO_im code c00)
  have m2 := iiP1 (curO_im code (drC code c00))
  have k1 := imP2 (b := ⟨9, 1, (drL code c00).map eStr⟩) (curO_im code (drC code c00)) (strs_sc (drL code c00)).imm
  have k2 := imO2 (curO_im code (pkC code (drC code c00) 7))
  have hB : StrB (drL code c00) := by
    rw [drL]
    exact ⟨by rw [dwL_len]; have := dnV_le code c00; omega, fun x hx => by have := dwL_le code _ _ x hx; omega⟩
  refine ⟨drL code c00, pkV code (drC code c00) 7, hB, ?_⟩
  refine PF.enter (enum1 _) Tryd.func22 rfl (by kernel_rfl) _ _ rfl rfl rfl (fun w0 mu I0 β0 gi dis => ?_)
  (repeat' (first|(apply xW;(first|exact Want.none_ rfl|(refine wantG rfl rfl rfl rfl ?_;(first|assumption|exact dT ‹_›|exact dF ‹_›|exact rfl))))|(apply xF tabOk;exact rfl;exact rfl)|((first|(apply rx_cat;exact rfl;exact rfl)|apply rx_add|(apply rx_subU8;exact rfl;exact rfl;exact rfl)|apply rx_sub|apply rx_mul|apply rx_quo|apply rx_rem|apply rx_neg|apply rx_ixS|(apply rx_ixSl;exact rfl;exact rfl)|apply rx_ixRef|(apply rx_load;exact rfl;exact rfl;exact tabOk;exact rfl;exact rfl)|apply rx_loadAgg|apply rx_build|apply rx_buildSlice|apply rx_alloc|apply rx_makeFunc|apply rx_makeSlice|(apply rx_appRef;exact rfl;exact rfl)|apply rx_appNil|(apply rx_sliceS;exact rfl;exact rfl)|(apply rx_sliceSl;exact rfl;exact rfl)|apply rx_sliceRef|apply rx_min|apply rx_max|apply rx_store)<;>(first|exact tabOk|exact Nat.zero_add _|exact rfl|refine rxid ?_|assumption|omega|exact ⟨rfl⟩|exact ⟨rfl,_,_,rfl,rfl⟩|exact lb rfl|(refine Bd.mk ?_;first|assumption|omega|(focus (simp;done))|(simp;omega)|decide)|exact set_at ‹_›|exact set_at (set_at ‹_›)|(focus (apply oI;exact rfl;exact rfl;assumption))|(focus (refine ⟨rfl,_,_,rfl,?_⟩;omega))|exact bdLens rfl|exact bdTd ‹_›|(focus (simp;done))|(simp;omega)|(simp only [lA,lB,lC,lD,lE];omega)|exact newsAll rfl (by first|rfl|(simp;done)|(simp only [lA,lB,lC,lD,lE];omega))|exact newsRef rfl (by first|assumption|omega|(simp only [lA,lB,lC,lD,lE];omega))))|(apply xPick;exact rfl;exact rfl;(first|assumption|exact dT ‹_›|exact dF ‹_›|exact rfl);exact rfl;exact rfl)|(apply xSkip;(iterate 5 exact rfl);(first|assumption|exact dT ‹_›|exact dF ‹_›|exact rfl))|(apply xSkipN;(iterate 5 exact rfl))|apply rx_end|(refine rx_endD ?_ ?_;kernel_rfl)|apply AWp.seq|apply thenK_normal|apply AWp.reg|apply AWp.block|apply AWp.skip|apply AWp.label|apply AWp.exit|apply AWp.ret|apply thenK_exit|apply thenK_ret|apply blockK_normal|apply blockK_ret|apply blockK_exit|(refine AWp.regD ?_ ?_;kernel_rfl)|(refine blockK_other rfl ?_)|(apply AWp.condT;exact rfl;(first|assumption|exact dT ‹_›|exact dF ‹_›|exact rfl))|(apply AWp.condF;exact rfl;(first|assumption|exact dT ‹_›|exact dF ‹_›|exact rfl))|(apply (rx_callMR (p1));(iterate 7 exact rfl);(focus (repeat (first|exact All2.nil|refine All2.cons rfl ?_)));exact rfl;(focus (repeat (first|exact MC.vc (VC.imm (Imm.fn0 _))|exact MC.vc (VC.imm (Imm.fn _ _ ‹_›))|exact MAs.nil|apply MAs.cons|apply MA.c|apply MA.agg|exact MCs.nil|apply MCs.cons|exact MC.ref rfl|exact MC.ptr rfl|exact MC.vc (VC.imm (Imm.v _))|exact MC.vc (VC.imm (Imm.sl _))|exact MC.vc (VC.imm (Imm.ip _))|exact MC.vc VC.nil)));(first|assumption|(apply imO1;assumption)|(apply imO2;assumption));(first|exact imI0|assumption|(apply imI1;assumption));exact rfl;exact rfl)|(apply (rx_callMR (p2));(iterate 7 exact rfl);(focus (repeat (first|exact All2.nil|refine All2.cons rfl ?_)));exact rfl;(focus (repeat (first|exact MC.vc (VC.imm (Imm.fn0 _))|exact MC.vc (VC.imm (Imm.fn _ _ ‹_›))|exact MAs.nil|apply MAs.cons|apply MA.c|apply MA.agg|exact MCs.nil|apply MCs.cons|exact MC.ref rfl|exact MC.ptr rfl|exact MC.vc (VC.imm (Imm.v _))|exact MC.vc (VC.imm (Imm.sl _))|exact MC.vc (VC.imm (Imm.ip _))|exact MC.vc VC.nil)));(first|assumption|(apply imO1;assumption)|(apply imO2;assumption));(first|exact imI0|assumption|(apply imI1;assumption));exact rfl;exact rfl)|((first|refine rx_splitP rfl rfl rfl ?_ ?_|refine rx_split rfl rfl rfl ?_ ?_)<;>intro hp<;>(try (exfalso;omega)))|((first|refine AWp.condP rfl ?_ ?_|refine AWp.cond _ rfl ?_ ?_)<;>intro hp<;>(try (exfalso;omega)))))
  ((first|refine ret_ret _ [(0, some 1)] (.cons (rv_tmp rfl) (.cons (rv_tmp rfl) .nil)) ?_ rfl ?_|refine ret_end _ [(0, some 1)] (.cons (rv_tmp rfl) (.cons (rv_tmp rfl) .nil)) ?_ rfl ?_) <;> (repeat' (first|exact trivial|exact rfl|exact Or.inr ⟨rfl,‹_›⟩|exact Or.inl ⟨rfl,trivial⟩|apply And.intro|exact congrArg (Value.int .i64) (by first|omega|(simp;done)|(simp;omega))|(refine natEq ?_;first|(focus (simp;done))|omega|(simp only [lA,lB,lC,lD,lE];omega))|(refine ⟨_,rfl,rfl,rfl,OW.one ?_⟩)|(refine ⟨_,rfl,rfl,rfl,OW.same ?_ ?_⟩)|refine vwB ?_|refine vwS ?_|refine vwI ?_|refine fwB ?_|refine fwS ?_|refine fwI ?_|(refine AllSc.imm ?_;first|exact AllSc.nil|assumption))))
  all_goals first | exact (strs_sc _).imm | skip
end Go.Proofs.YtdggbjlgimcpkaaDoor
