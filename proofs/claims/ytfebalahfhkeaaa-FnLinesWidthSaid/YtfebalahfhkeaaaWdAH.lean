/- FnLinesWidth returns true. No conditions but the bounds that every argument keeps. -/
import Derived.Test.YtfebalahfhkeaaaWdN
import Derived.Test.YtfebalahfhkeaaaWdH
import Derived.Test.YtfebalahfhkeaaaWdT
import Derived.Test.YtfebalahfhkeaaaWdW
namespace Go.Proofs.Ytfebalahfhkeaaa
open Go Go.RowKit
theorem nI_stOk {ks : List Nat} {n : Nat} (h : Asc ks n) : stOk (nI ks) n = true := by
  rcases h.zero with h0 | h0
  · subst h0
    have hc := h.cnt
    have e : ks = [] := List.length_eq_zero_iff.1 (by omega)
    subst e
    rfl
  · have hn : 0 < n := h.lt 0 0 h0 |> fun x => by omega
    have hne : (n == 0) = false := by simp; omega
    rw [stOk, hne, cond_false, Bool.and_eq_true]
    refine ⟨?_, ?_⟩
    · cases ks with
      | nil => simp at h0
      | cons a r => simp at h0; subst h0; rfl
    · rw [rise, List.all_eq_true]
      intro j hj
      have hjl : j < ks.length := by simpa [nI] using hj
      have hx : (nI ks)[j]? = some ((ks[j] : Nat) : Int) := by simp [nI, hjl]
      have h1 := h.lt j ks[j] (List.getElem?_eq_getElem hjl)
      cases j with
      | zero => rw [riseAt_zero hx]; simp; omega
      | succ j =>
        have hy : (nI ks)[j]? = some ((ks[j] : Nat) : Int) := by simp [nI, show j < ks.length by omega]
        have h2 := h.asc j ks[j] ks[j + 1] (List.getElem?_eq_getElem (by omega)) (List.getElem?_eq_getElem hjl)
        rw [riseAt_succ hx hy]
        simp; omega
theorem drL_len (code : List UInt8) (c : Cur) : (drL code c).length ≤ 41 := by
  have h := dnV_le code c
  rw [drL, dwL_len]; exact h
theorem drL_B (code : List UInt8) (c : Cur) : StrB (drL code c) := by
  have h := drL_len code c
  refine ⟨by omega, fun l hl => ?_⟩
  have := dwL_le code _ _ l (by rw [drL] at hl; exact hl)
  omega
theorem jls_at {ws : List (List UInt8)} {ks : List Nat} {j : Nat} (h : j < ks.length) : (jls ws ks ks.length)[j]? = some (Lib.join (lnAt ws ks j) [32]) := by
  rw [jls, List.getElem?_map, lns_at h]; rfl
/-! the least width, and the starts of lines of the most even lengths -/
theorem mwF_some {ws : List (List UInt8)} {n : Int} : ∀ {c a m : Nat}, mwF ws n c a = some m → a ≤ m ∧ m < a + c ∧ goodW ws n m = true ∧ ∀ v, a ≤ v → v < m → goodW ws n v = false
  | 0, a, m, h => by simp [mwF] at h
  | c + 1, a, m, h => by
    rw [mwF] at h
    split at h
    · rename_i hg
      cases h
      exact ⟨Nat.le_refl _, by omega, hg, fun v h1 h2 => by omega⟩
    · rename_i hg
      obtain ⟨h1, h2, h3, h4⟩ := mwF_some h
      refine ⟨by omega, by omega, h3, fun v h5 h6 => ?_⟩
      rcases Nat.eq_or_lt_of_le h5 with rfl | h5
      · simpa using hg
      · exact h4 v (by omega) h6
theorem endAt_cons {a : Nat} {ks : List Nat} {n j : Nat} : endAt (a :: ks) n (j + 1) = endAt ks n j := by rw [endAt, endAt, List.getElem?_cons_succ]
theorem bal_ok {ls : List Nat} {L : Nat} : ∀ {l a : Nat}, a < ls.length → Sp ls L (l + 1) a → (∀ (j k : Nat), (a :: bal ls L l a)[j]? = some k → k < ls.length) ∧ (∀ (j x y : Nat), (a :: bal ls L l a)[j]? = some x → (a :: bal ls L l a)[j + 1]? = some y → x < y) ∧ (∀ (j k : Nat), (a :: bal ls L l a)[j]? = some k → len ls k (endAt (a :: bal ls L l a) ls.length j) ≤ L)
  | 0, a, ha, h => by
    obtain ⟨k, k1, k2, k3, k4⟩ := h
    have e : k = ls.length := k4
    subst e
    refine ⟨fun j k hk => ?_, fun j x y _ hy => ?_, fun j k hk => ?_⟩
    · cases j with
      | zero => cases hk; exact ha
      | succ j => simp [bal] at hk
    · simp [bal] at hy
    · cases j with
      | zero => cases hk; rw [endAt_last (by simp [bal])]; exact k3
      | succ j => simp [bal] at hk
  | l + 1, a, ha, h => by
    obtain ⟨h1, h2, h3, h4, _⟩ := nb_spec h
    have ih := bal_ok (l := l) h2 h4
    rw [bal]
    generalize nb ls L (l + 1) a = b at h1 h2 h3 h4 ih
    obtain ⟨i1, i2, i3⟩ := ih
    refine ⟨fun j k hk => ?_, fun j x y hx hy => ?_, fun j k hk => ?_⟩
    · cases j with
      | zero => cases hk; exact ha
      | succ j => exact i1 j k (by simpa using hk)
    · cases j with
      | zero => cases hx; simp at hy; omega
      | succ j => exact i2 j x y (by simpa using hx) (by simpa using hy)
    · cases j with
      | zero => cases hk; rw [endAt_next (b := b) (by simp)]; exact h3
      | succ j => rw [endAt_cons]; exact i3 j k (by simpa using hk)
theorem bal_asc {ls : List Nat} {L N : Nat} (hn : N < ls.length) (h : Sp ls L (N + 1) 0) : Asc (0 :: bal ls L N 0) ls.length := by
  obtain ⟨h1, h2, _⟩ := bal_ok (l := N) (a := 0) (by omega) h
  exact ⟨h1, h2, by rw [List.length_cons, bal_len]; omega, .inr rfl⟩
theorem bal_fit {ws : List (List UInt8)} {L N j : Nat} (hn : N < ws.length) (h : Sp (lens ws) L (N + 1) 0) (hj : j < N + 1) : (Lib.join (lnAt ws (0 :: bal (lens ws) L N 0) j) [32]).length ≤ L := by
  have hLl : (lens ws).length = ws.length := List.length_map _
  obtain ⟨_, _, h3⟩ := bal_ok (l := N) (a := 0) (by omega) h
  have hjl : j < (0 :: bal (lens ws) L N 0).length := by rw [List.length_cons, bal_len]; omega
  have hk := List.getElem?_eq_getElem hjl
  have h4 := h3 j _ hk
  rw [join_length, lnAt, lens_segW, hk]
  rw [hLl] at h4
  exact h4
theorem drawMW_pf (code : List UInt8) (hl : code.length ≤ 65536) :
    PF Try.prog 35 [.c (.sl (code.map byteC))] [⟨9, 1, (drL code c00).map eStr⟩] (.tup [.c (.ref 0 0 (drL code c00).length), .c (int (pkV code (drC code c00) 6))]) := by
  have hca : (c00).a = 0 := rfl
  have ha := drC_a code c00
  have p1 := l19DrawWords_pfm code c00 hl (by omega)
  have p2 := pick_pfm code (drC code c00) hl (by omega) 6 (by omega)
  have m1 := iiP1 (curO_im code c00)
  have m2 := iiP1 (curO_im code (drC code c00))
  have k1 := imP2 (b := ⟨9, 1, (drL code c00).map eStr⟩) (curO_im code (drC code c00)) (strs_sc (drL code c00)).imm
  have k2 := imO2 (curO_im code (pkC code (drC code c00) 6))
  refine PF.enter (enum1 _) Try.func35 rfl (by kernel_rfl) _ _ rfl rfl rfl (fun w0 mu I0 β0 => ?_)
  (repeat' (first|(apply xW;(first|exact Want.none_ rfl|(refine wantG rfl rfl rfl rfl ?_;(first|assumption|exact dT ‹_›|exact dF ‹_›|exact rfl))))|(apply xF tabOk;exact rfl;exact rfl)|((first|(apply rx_cat;exact rfl;exact rfl)|apply rx_add|apply rx_sub|apply rx_mul|apply rx_quo|apply rx_rem|apply rx_neg|apply rx_ixS|(apply rx_ixSl;exact rfl;exact rfl)|apply rx_ixRef|(apply rx_load;exact rfl;exact rfl;exact tabOk;exact rfl;exact rfl)|apply rx_loadAgg|apply rx_build|apply rx_buildSlice|apply rx_alloc|apply rx_makeFunc|apply rx_makeSlice|(apply rx_appRef;exact rfl;exact rfl)|apply rx_appNil|(apply rx_sliceS;exact rfl;exact rfl)|(apply rx_sliceSl;exact rfl;exact rfl)|apply rx_sliceRef|apply rx_min|apply rx_max|apply rx_store)<;>(first|exact tabOk|exact Nat.zero_add _|exact rfl|refine rxid ?_|assumption|omega|exact ⟨rfl⟩|exact ⟨rfl,_,_,rfl,rfl⟩|exact lb rfl|(refine Bd.mk ?_;first|assumption|omega|(focus (simp;done))|(simp;omega)|decide)|exact set_at ‹_›|exact set_at (set_at ‹_›)|(focus (refine ⟨rfl,_,_,rfl,?_⟩;omega))|(focus (simp;done))|(simp;omega)|(simp only [lA,lB,lC,lD,lE];omega)|exact newsAll rfl (by first|rfl|(simp;done)|(simp only [lA,lB,lC,lD,lE];omega))))|(apply xPick;exact rfl;exact rfl;(first|assumption|exact dT ‹_›|exact dF ‹_›|exact rfl);exact rfl;exact rfl)|(apply xSkip;(iterate 5 exact rfl);(first|assumption|exact dT ‹_›|exact dF ‹_›|exact rfl))|(apply xSkipN;(iterate 5 exact rfl))|apply rx_end|(refine rx_endD ?_ ?_;kernel_rfl)|apply AWp.seq|apply thenK_normal|apply AWp.reg|apply AWp.block|apply AWp.skip|apply AWp.label|apply AWp.exit|apply AWp.ret|apply thenK_exit|apply thenK_ret|apply blockK_normal|apply blockK_ret|apply blockK_exit|(refine AWp.regD ?_ ?_;kernel_rfl)|(refine blockK_other rfl ?_)|(apply AWp.condT;exact rfl;(first|assumption|exact dT ‹_›|exact dF ‹_›|exact rfl))|(apply AWp.condF;exact rfl;(first|assumption|exact dT ‹_›|exact dF ‹_›|exact rfl))|(apply (rx_callMR (p1));(iterate 7 exact rfl);(focus (repeat (first|exact All2.nil|refine All2.cons rfl ?_)));exact rfl;(focus (repeat (first|exact MAs.nil|apply MAs.cons|apply MA.c|apply MA.agg|exact MCs.nil|apply MCs.cons|exact MC.ref rfl|exact MC.ptr rfl|exact MC.vc (VC.imm (Imm.v _))|exact MC.vc (VC.imm (Imm.sl _))|exact MC.vc (VC.imm (Imm.ip _))|exact MC.vc VC.nil)));(first|assumption|(apply imO1;assumption)|(apply imO2;assumption));(first|exact imI0|assumption|(apply imI1;assumption));exact rfl;exact rfl)|(apply (rx_callMR (p2));(iterate 7 exact rfl);(focus (repeat (first|exact All2.nil|refine All2.cons rfl ?_)));exact rfl;(focus (repeat (first|exact MAs.nil|apply MAs.cons|apply MA.c|apply MA.agg|exact MCs.nil|apply MCs.cons|exact MC.ref rfl|exact MC.ptr rfl|exact MC.vc (VC.imm (Imm.v _))|exact MC.vc (VC.imm (Imm.sl _))|exact MC.vc (VC.imm (Imm.ip _))|exact MC.vc VC.nil)));(first|assumption|(apply imO1;assumption)|(apply imO2;assumption));(first|exact imI0|assumption|(apply imI1;assumption));exact rfl;exact rfl)|((first|refine rx_splitP rfl rfl rfl ?_ ?_|refine rx_split rfl rfl rfl ?_ ?_)<;>intro hp<;>(try (exfalso;omega)))|((first|refine AWp.condP rfl ?_ ?_|refine AWp.cond _ rfl ?_ ?_)<;>intro hp<;>(try (exfalso;omega)))))
  ((first|refine ret_ret _ [(0, some 1)] (.cons (rv_tmp rfl) (.cons (rv_tmp rfl) .nil)) ?_ rfl ?_|refine ret_end _ [(0, some 1)] (.cons (rv_tmp rfl) (.cons (rv_tmp rfl) .nil)) ?_ rfl ?_) <;> (repeat' (first|exact trivial|exact rfl|exact Or.inr ⟨rfl,‹_›⟩|apply And.intro|exact congrArg (Value.int .i64) (by first|omega|(simp;done)|(simp;omega))|(refine natEq ?_;first|(focus (simp;done))|omega|(simp only [lA,lB,lC,lD,lE];omega))|(refine ⟨_,rfl,rfl,rfl,OW.one ?_⟩)|(refine ⟨_,rfl,rfl,rfl,OW.same ?_ ?_⟩)|refine vwB ?_|refine vwS ?_|refine vwI ?_|refine fwB ?_|refine fwS ?_|refine fwI ?_|(refine AllSc.imm ?_;first|exact AllSc.nil|assumption))))
  all_goals first | exact (strs_sc _).imm | skip
section
variable (code : List UInt8)
theorem lwi_big (hc : code.length ≤ 9223372036854775807) (hb : 65536 < code.length) : PF Try.prog 9 [.c (.sl (code.map byteC))] [] (.c (boo true)) := by
  have h1 := rBig_pf code hc
  rw [decide_eq_true (by omega)] at h1
  refine PF.enter (enum1 _) Try.func9 rfl (by kernel_rfl) _ _ rfl rfl rfl (fun w0 mu I0 β0 => ?_)
  (repeat' (first|(apply xW;(first|exact Want.none_ rfl|(refine wantG rfl rfl rfl rfl ?_;(first|assumption|exact dT ‹_›|exact dF ‹_›|exact rfl))))|(apply xF tabOk;exact rfl;exact rfl)|((first|(apply rx_cat;exact rfl;exact rfl)|apply rx_add|apply rx_sub|apply rx_mul|apply rx_quo|apply rx_rem|apply rx_neg|apply rx_ixS|(apply rx_ixSl;exact rfl;exact rfl)|apply rx_ixRef|(apply rx_load;exact rfl;exact rfl;exact tabOk;exact rfl;exact rfl)|apply rx_loadAgg|apply rx_build|apply rx_buildSlice|apply rx_alloc|apply rx_makeFunc|apply rx_makeSlice|(apply rx_appRef;exact rfl;exact rfl)|apply rx_appNil|(apply rx_sliceS;exact rfl;exact rfl)|(apply rx_sliceSl;exact rfl;exact rfl)|apply rx_sliceRef|apply rx_min|apply rx_max|apply rx_store)<;>(first|exact tabOk|exact Nat.zero_add _|exact rfl|refine rxid ?_|assumption|omega|exact ⟨rfl⟩|exact ⟨rfl,_,_,rfl,rfl⟩|exact lb rfl|(refine Bd.mk ?_;first|assumption|omega|(focus (simp;done))|(simp;omega)|decide)|exact set_at ‹_›|exact set_at (set_at ‹_›)|(focus (refine ⟨rfl,_,_,rfl,?_⟩;omega))|(focus (simp;done))|(simp;omega)|(simp only [lA,lB,lC,lD,lE];omega)|exact newsAll rfl (by first|rfl|(simp;done)|(simp only [lA,lB,lC,lD,lE];omega))))|(apply xPick;exact rfl;exact rfl;(first|assumption|exact dT ‹_›|exact dF ‹_›|exact rfl);exact rfl;exact rfl)|(apply xSkip;(iterate 5 exact rfl);(first|assumption|exact dT ‹_›|exact dF ‹_›|exact rfl))|(apply xSkipN;(iterate 5 exact rfl))|apply rx_end|(refine rx_endD ?_ ?_;kernel_rfl)|apply AWp.seq|apply thenK_normal|apply AWp.reg|apply AWp.block|apply AWp.skip|apply AWp.label|apply AWp.exit|apply AWp.ret|apply thenK_exit|apply thenK_ret|apply blockK_normal|apply blockK_ret|apply blockK_exit|(refine AWp.regD ?_ ?_;kernel_rfl)|(refine blockK_other rfl ?_)|(apply AWp.condT;exact rfl;(first|assumption|exact dT ‹_›|exact dF ‹_›|exact rfl))|(apply AWp.condF;exact rfl;(first|assumption|exact dT ‹_›|exact dF ‹_›|exact rfl))|(apply rx_callA;(iterate 6 exact rfl);(iterate 2 (focus (repeat (first|exact VAs.nil|apply VAs.cons|apply VA.c|apply VA.agg|exact VCs.nil|(apply VCs.same;assumption)|apply VCs.cons|exact VC.imm (Imm.v _)|exact VC.imm (Imm.sl _)|exact VC.imm (Imm.ip _)|exact VC.imm ‹_›|exact VC.nil|apply VC.fn|(refine VC.ptrA rfl rfl rfl rfl ?_;(repeat (first|assumption|exact imm_no|exact Imm.v _|exact Imm.sl _|exact Imm.ip _|exact Imm.nil|exact Imm.fn0 _|refine imm_cons ?_ ?_|refine Imm.fn _ _ ?_)))|(apply VC.refA;exact rfl;exact rfl;(first|exact rfl|(focus (simp;done))|omega|(focus (simp only [lA,lB,lC,lD,lE];omega)));exact rfl;(first|assumption|(refine AllSc.imm ?_;assumption)))|assumption))));(first|exact h1);(focus (repeat (first|exact trivial|exact Flat.v _|exact Flat.ref _ _ _|exact Flat.nil|apply And.intro)));(first|apply callK0|(apply callK1;(focus (repeat (first|exact trivial|apply And.intro|(first|exact AllSc.nil|assumption))))));(first|exact sh_1 _ _|exact sh_2 _ _ _|exact sh_r _ _ _ _|exact sh_r1 _ _ _ _ _|exact sh_n _|exact sh_n1 _ _|exact sh_ar _ _ _ _|exact sh_ar1 _ _ _ _ _|exact sh_an1 _ _|exact sh_3 _ _ _ _|exact rfl))|((first|refine rx_splitP rfl rfl rfl ?_ ?_|refine rx_split rfl rfl rfl ?_ ?_)<;>intro hp<;>(try (exfalso;omega)))|((first|refine AWp.condP rfl ?_ ?_|refine AWp.cond _ rfl ?_ ?_)<;>intro hp<;>(try (exfalso;omega)))))
  ((first|refine ret_ret _ [] (.cons (rv_tmp rfl) .nil) ?_ rfl ?_|refine ret_end _ [] (.cons (rv_tmp rfl) .nil) ?_ rfl ?_) <;> (repeat' (first|exact trivial|exact rfl|exact Or.inr ⟨rfl,‹_›⟩|apply And.intro|exact congrArg (Value.int .i64) (by first|omega|(simp;done)|(simp;omega))|(refine natEq ?_;first|(focus (simp;done))|omega|(simp only [lA,lB,lC,lD,lE];omega))|(refine ⟨_,rfl,rfl,rfl,OW.one ?_⟩)|(refine ⟨_,rfl,rfl,rfl,OW.same ?_ ?_⟩)|refine vwB ?_|refine vwS ?_|refine vwI ?_|refine fwB ?_|refine fwS ?_|refine fwI ?_|(refine AllSc.imm ?_;first|exact AllSc.nil|assumption))))
variable (hl : code.length ≤ 65536) (ws : List (List UInt8)) (n : Int) (hB : StrB ws) (hd : PF Try.prog 35 [.c (.sl (code.map byteC))] [⟨9, 1, ws.map eStr⟩] (.tup [.c (.ref 0 0 ws.length), .c (int n)]))
include hl hB hd
omit hB in
theorem lwi_no (v : Int) (hA : PF Try.prog 18 [.c (.sl (ws.map eStr)), .c (int n)] [] (.tup [.c (int v), .c (boo false)])) (hI : PF Try.prog 19 [.c (.sl (ws.map eStr)), .c (int n)] [] (.tup [.c (int v), .c (boo false)])) :
    PF Try.prog 9 [.c (.sl (code.map byteC))] [] (.c (boo true)) := by
  have h1 := rBig_pf code (by omega)
  rw [decide_eq_false (by omega)] at h1
  have hsc := strs_sc ws
  refine PF.enter (enum1 _) Try.func9 rfl (by kernel_rfl) _ _ rfl rfl rfl (fun w0 mu I0 β0 => ?_)
  (repeat' (first|(apply xW;(first|exact Want.none_ rfl|(refine wantG rfl rfl rfl rfl ?_;(first|assumption|exact dT ‹_›|exact dF ‹_›|exact rfl))))|(apply xF tabOk;exact rfl;exact rfl)|((first|(apply rx_cat;exact rfl;exact rfl)|apply rx_add|apply rx_sub|apply rx_mul|apply rx_quo|apply rx_rem|apply rx_neg|apply rx_ixS|(apply rx_ixSl;exact rfl;exact rfl)|apply rx_ixRef|(apply rx_load;exact rfl;exact rfl;exact tabOk;exact rfl;exact rfl)|apply rx_loadAgg|apply rx_build|apply rx_buildSlice|apply rx_alloc|apply rx_makeFunc|apply rx_makeSlice|(apply rx_appRef;exact rfl;exact rfl)|apply rx_appNil|(apply rx_sliceS;exact rfl;exact rfl)|(apply rx_sliceSl;exact rfl;exact rfl)|apply rx_sliceRef|apply rx_min|apply rx_max|apply rx_store)<;>(first|exact tabOk|exact Nat.zero_add _|exact rfl|refine rxid ?_|assumption|omega|exact ⟨rfl⟩|exact ⟨rfl,_,_,rfl,rfl⟩|exact lb rfl|(refine Bd.mk ?_;first|assumption|omega|(focus (simp;done))|(simp;omega)|decide)|exact set_at ‹_›|exact set_at (set_at ‹_›)|(focus (refine ⟨rfl,_,_,rfl,?_⟩;omega))|(focus (simp;done))|(simp;omega)|(simp only [lA,lB,lC,lD,lE];omega)|exact newsAll rfl (by first|rfl|(simp;done)|(simp only [lA,lB,lC,lD,lE];omega))))|(apply xPick;exact rfl;exact rfl;(first|assumption|exact dT ‹_›|exact dF ‹_›|exact rfl);exact rfl;exact rfl)|(apply xSkip;(iterate 5 exact rfl);(first|assumption|exact dT ‹_›|exact dF ‹_›|exact rfl))|(apply xSkipN;(iterate 5 exact rfl))|apply rx_end|(refine rx_endD ?_ ?_;kernel_rfl)|apply AWp.seq|apply thenK_normal|apply AWp.reg|apply AWp.block|apply AWp.skip|apply AWp.label|apply AWp.exit|apply AWp.ret|apply thenK_exit|apply thenK_ret|apply blockK_normal|apply blockK_ret|apply blockK_exit|(refine AWp.regD ?_ ?_;kernel_rfl)|(refine blockK_other rfl ?_)|(apply AWp.condT;exact rfl;(first|assumption|exact dT ‹_›|exact dF ‹_›|exact rfl))|(apply AWp.condF;exact rfl;(first|assumption|exact dT ‹_›|exact dF ‹_›|exact rfl))|(apply rx_callA;(iterate 6 exact rfl);(iterate 2 (focus (repeat (first|exact VAs.nil|apply VAs.cons|apply VA.c|apply VA.agg|exact VCs.nil|(apply VCs.same;assumption)|apply VCs.cons|exact VC.imm (Imm.v _)|exact VC.imm (Imm.sl _)|exact VC.imm (Imm.ip _)|exact VC.imm ‹_›|exact VC.nil|apply VC.fn|(refine VC.ptrA rfl rfl rfl rfl ?_;(repeat (first|assumption|exact imm_no|exact Imm.v _|exact Imm.sl _|exact Imm.ip _|exact Imm.nil|exact Imm.fn0 _|refine imm_cons ?_ ?_|refine Imm.fn _ _ ?_)))|(apply VC.refA;exact rfl;exact rfl;(first|exact rfl|(focus (simp;done))|omega|(focus (simp only [lA,lB,lC,lD,lE];omega)));exact rfl;(first|assumption|(refine AllSc.imm ?_;assumption)))|assumption))));(first|exact h1|exact hd|exact hA|exact hI);(focus (repeat (first|exact trivial|exact Flat.v _|exact Flat.ref _ _ _|exact Flat.nil|apply And.intro)));(first|apply callK0|(apply callK1;(focus (repeat (first|exact trivial|apply And.intro|(first|exact AllSc.nil|assumption))))));(first|exact sh_1 _ _|exact sh_2 _ _ _|exact sh_r _ _ _ _|exact sh_r1 _ _ _ _ _|exact sh_n _|exact sh_n1 _ _|exact sh_ar _ _ _ _|exact sh_ar1 _ _ _ _ _|exact sh_an1 _ _|exact sh_3 _ _ _ _|exact rfl))|((first|refine rx_splitP rfl rfl rfl ?_ ?_|refine rx_split rfl rfl rfl ?_ ?_)<;>intro hp<;>(try (exfalso;omega)))|((first|refine AWp.condP rfl ?_ ?_|refine AWp.cond _ rfl ?_ ?_)<;>intro hp<;>(try (exfalso;omega)))))
  all_goals first | (exfalso; simp at *; done) | skip
  all_goals
    ((first|refine ret_ret _ [] (.cons (rv_tmp rfl) .nil) ?_ rfl ?_|refine ret_end _ [] (.cons (rv_tmp rfl) .nil) ?_ rfl ?_) <;> (repeat' (first|exact trivial|exact rfl|exact Or.inr ⟨rfl,‹_›⟩|apply And.intro|exact congrArg (Value.int .i64) (by first|omega|(simp;done)|(simp;omega))|(refine natEq ?_;first|(focus (simp;done))|omega|(simp only [lA,lB,lC,lD,lE];omega))|(refine ⟨_,rfl,rfl,rfl,OW.one ?_⟩)|(refine ⟨_,rfl,rfl,rfl,OW.same ?_ ?_⟩)|refine vwB ?_|refine vwS ?_|refine vwI ?_|refine fwB ?_|refine fwS ?_|refine fwI ?_|(refine AllSc.imm ?_;first|exact AllSc.nil|assumption))))
variable (m : Nat) (hA : PF Try.prog 18 [.c (.sl (ws.map eStr)), .c (int n)] [] (.tup [.c (int m), .c (boo true)])) (hI : PF Try.prog 19 [.c (.sl (ws.map eStr)), .c (int n)] [] (.tup [.c (int m), .c (boo true)]))
  (hm1 : 1 ≤ m) (hm2 : m ≤ 80) (hk : fitsOk ws m = true) (hle : ((greedy (lens ws) m).length : Int) ≤ n)
include hA hI hm1 hm2 hk hle
omit hm1 hm2 in
theorem lwi_a_no (hm : m = 1) (hbl : blOk ws n = false) : PF Try.prog 9 [.c (.sl (code.map byteC))] [] (.c (boo true)) := by
  have h1 := rBig_pf code (by omega)
  rw [decide_eq_false (by omega)] at h1
  have hsc := strs_sc ws
  have hs1 := ints_sc (nI (greedy (lens ws) m))
  have hle' : ¬ (((greedy (lens ws) m).length : Int) > n) := by omega
  have hm' : ¬ ((m : Int) > 1) := by omega
  refine PF.enter (enum1 _) Try.func9 rfl (by kernel_rfl) _ _ rfl rfl rfl (fun w0 mu I0 β0 => ?_)
  (repeat' (first|(apply xW;(first|exact Want.none_ rfl|(refine wantG rfl rfl rfl rfl ?_;(first|assumption|exact dT ‹_›|exact dF ‹_›|exact rfl))))|(apply xF tabOk;exact rfl;exact rfl)|((first|(apply rx_cat;exact rfl;exact rfl)|apply rx_add|apply rx_sub|apply rx_mul|apply rx_quo|apply rx_rem|apply rx_neg|apply rx_ixS|(apply rx_ixSl;exact rfl;exact rfl)|apply rx_ixRef|(apply rx_load;exact rfl;exact rfl;exact tabOk;exact rfl;exact rfl)|apply rx_loadAgg|apply rx_build|apply rx_buildSlice|apply rx_alloc|apply rx_makeFunc|apply rx_makeSlice|(apply rx_appRef;exact rfl;exact rfl)|apply rx_appNil|(apply rx_sliceS;exact rfl;exact rfl)|(apply rx_sliceSl;exact rfl;exact rfl)|apply rx_sliceRef|apply rx_min|apply rx_max|apply rx_store)<;>(first|exact tabOk|exact Nat.zero_add _|exact rfl|refine rxid ?_|assumption|omega|exact ⟨rfl⟩|exact ⟨rfl,_,_,rfl,rfl⟩|exact lb rfl|(refine Bd.mk ?_;first|assumption|omega|(focus (simp;done))|(simp;omega)|decide)|exact set_at ‹_›|exact set_at (set_at ‹_›)|(focus (refine ⟨rfl,_,_,rfl,?_⟩;omega))|(focus (simp;done))|(simp;omega)|(simp only [lA,lB,lC,lD,lE];omega)|exact newsAll rfl (by first|rfl|(simp;done)|(simp only [lA,lB,lC,lD,lE];omega))))|(apply xPick;exact rfl;exact rfl;(first|assumption|exact dT ‹_›|exact dF ‹_›|exact rfl);exact rfl;exact rfl)|(apply xSkip;(iterate 5 exact rfl);(first|assumption|exact dT ‹_›|exact dF ‹_›|exact rfl))|(apply xSkipN;(iterate 5 exact rfl))|apply rx_end|(refine rx_endD ?_ ?_;kernel_rfl)|apply AWp.seq|apply thenK_normal|apply AWp.reg|apply AWp.block|apply AWp.skip|apply AWp.label|apply AWp.exit|apply AWp.ret|apply thenK_exit|apply thenK_ret|apply blockK_normal|apply blockK_ret|apply blockK_exit|(refine AWp.regD ?_ ?_;kernel_rfl)|(refine blockK_other rfl ?_)|(apply AWp.condT;exact rfl;(first|assumption|exact dT ‹_›|exact dF ‹_›|exact rfl))|(apply AWp.condF;exact rfl;(first|assumption|exact dT ‹_›|exact dF ‹_›|exact rfl))|(apply rx_callA;(iterate 6 exact rfl);(iterate 2 (focus (repeat (first|exact VAs.nil|apply VAs.cons|apply VA.c|apply VA.agg|exact VCs.nil|(apply VCs.same;assumption)|apply VCs.cons|exact VC.imm (Imm.v _)|exact VC.imm (Imm.sl _)|exact VC.imm (Imm.ip _)|exact VC.imm ‹_›|exact VC.nil|apply VC.fn|(refine VC.ptrA rfl rfl rfl rfl ?_;(repeat (first|assumption|exact imm_no|exact Imm.v _|exact Imm.sl _|exact Imm.ip _|exact Imm.nil|exact Imm.fn0 _|refine imm_cons ?_ ?_|refine Imm.fn _ _ ?_)))|(apply VC.refA;exact rfl;exact rfl;(first|exact rfl|(focus (simp;done))|omega|(focus (simp only [lA,lB,lC,lD,lE];omega)));exact rfl;(first|assumption|(refine AllSc.imm ?_;assumption)))|assumption))));(first|exact h1|exact hd|exact hA|exact hI|exact implGreedy_yes ws hB m hk|exact implBa_no ws n hB hbl);(focus (repeat (first|exact trivial|exact Flat.v _|exact Flat.ref _ _ _|exact Flat.nil|apply And.intro)));(first|apply callK0|(apply callK1;(focus (repeat (first|exact trivial|apply And.intro|(first|exact AllSc.nil|assumption))))));(first|exact sh_1 _ _|exact sh_2 _ _ _|exact sh_r _ _ _ _|exact sh_r1 _ _ _ _ _|exact sh_n _|exact sh_n1 _ _|exact sh_ar _ _ _ _|exact sh_ar1 _ _ _ _ _|exact sh_an1 _ _|exact sh_3 _ _ _ _|exact rfl))|((first|refine rx_splitP rfl rfl rfl ?_ ?_|refine rx_split rfl rfl rfl ?_ ?_)<;>intro hp<;>(try (exfalso;omega)))|((first|refine AWp.condP rfl ?_ ?_|refine AWp.cond _ rfl ?_ ?_)<;>intro hp<;>(try (exfalso;omega)))))
  all_goals first | (exfalso; simp at *; done) | skip
  all_goals
    ((first|refine ret_ret _ [] (.cons (rv_tmp rfl) .nil) ?_ rfl ?_|refine ret_end _ [] (.cons (rv_tmp rfl) .nil) ?_ rfl ?_) <;> (repeat' (first|exact trivial|exact rfl|exact Or.inr ⟨rfl,‹_›⟩|apply And.intro|exact congrArg (Value.int .i64) (by first|omega|(simp;done)|(simp;omega))|(refine natEq ?_;first|(focus (simp;done))|omega|(simp only [lA,lB,lC,lD,lE];omega))|(refine ⟨_,rfl,rfl,rfl,OW.one ?_⟩)|(refine ⟨_,rfl,rfl,rfl,OW.same ?_ ?_⟩)|refine vwB ?_|refine vwS ?_|refine vwI ?_|refine fwB ?_|refine fwS ?_|refine fwI ?_|(refine AllSc.imm ?_;first|exact AllSc.nil|assumption))))
omit hm1 hm2 in
theorem lwi_a_yes (hm : m = 1) (N : Nat) (hn : n = (N + 1 : Nat)) (hN : N < ws.length) : PF Try.prog 9 [.c (.sl (code.map byteC))] [] (.c (boo true)) := by
  subst hn
  have h1 := rBig_pf code (by omega)
  rw [decide_eq_false (by omega)] at h1
  have hsc := strs_sc ws
  have hs1 := ints_sc (nI (greedy (lens ws) m))
  have hle' : ¬ (((greedy (lens ws) m).length : Int) > (N + 1 : Nat)) := by omega
  have hm' : ¬ ((m : Int) > 1) := by omega
  have hLl : (lens ws).length = ws.length := List.length_map _
  obtain ⟨hwo, _, hnn, _, _, hfx⟩ := fitsOk_parts hk
  obtain rfl := Int.ofNat.inj hnn
  have h40 := (wordsOk_WB hwo).cnt
  have hsp := (canSplit_iff (by omega)).1 (show canSplit (lens ws) (N + 1) m from ⟨by omega, hfx, by omega⟩)
  have hpos : ∀ x ∈ lens ws, 1 ≤ x := fun x hx => by
    obtain ⟨l, hl, rfl⟩ := List.mem_map.1 hx
    exact wordsOk_pos hwo l hl
  obtain ⟨_, _, hiff⟩ := bL_spec (ls := lens ws) (n := N) (by omega) hpos
  have hLm := (hiff m).2 hsp
  have hsp2 := (hiff _).1 (Nat.le_refl _)
  have hasc : Asc (0 :: bal (lens ws) (bL (lens ws) N) N 0) ws.length := by
    have := bal_asc (by omega) hsp2
    rwa [hLl] at this
  have hfit := fun (j : Nat) (hj : j < N + 1) => Nat.le_trans (bal_fit hN hsp2 hj) hLm
  have hba := implBa_yes ws N hB hwo hN
  have hla : laOk ws (nI (0 :: bal (lens ws) (bL (lens ws) N) N 0)) = true := by rw [laOk, hwo, nI_stOk hasc]; rfl
  have hkl : (0 :: bal (lens ws) (bL (lens ws) N) N 0).length = N + 1 := by rw [List.length_cons, bal_len]
  generalize 0 :: bal (lens ws) (bL (lens ws) N) N 0 = ks at hasc hfit hba hla hkl
  have hnl : (nI ks).length = ks.length := List.length_map _
  have hjl := jls_len ws ks ks.length
  have hja := fun (j : Nat) (hj : j < ks.length) => jls_at (ws := ws) hj
  have hli := implLA_yes ws ks hB (by omega) hla hasc
  rw [hkl] at hjl hja hli
  have hs3 := ints_sc (nI ks)
  have hs4 := strs_sc (jls ws ks (N + 1))
  refine PF.enter (enum1 _) Try.func9 rfl (by kernel_rfl) _ _ rfl rfl rfl (fun w0 mu I0 β0 => ?_)
  (repeat' (first|(apply xW;(first|exact Want.none_ rfl|(refine wantG rfl rfl rfl rfl ?_;(first|assumption|exact dT ‹_›|exact dF ‹_›|exact rfl))))|(apply xF tabOk;exact rfl;exact rfl)|((first|(apply rx_cat;exact rfl;exact rfl)|apply rx_add|apply rx_sub|apply rx_mul|apply rx_quo|apply rx_rem|apply rx_neg|apply rx_ixS|(apply rx_ixSl;exact rfl;exact rfl)|apply rx_ixRef|(apply rx_load;exact rfl;exact rfl;exact tabOk;exact rfl;exact rfl)|apply rx_loadAgg|apply rx_build|apply rx_buildSlice|apply rx_alloc|apply rx_makeFunc|apply rx_makeSlice|(apply rx_appRef;exact rfl;exact rfl)|apply rx_appNil|(apply rx_sliceS;exact rfl;exact rfl)|(apply rx_sliceSl;exact rfl;exact rfl)|apply rx_sliceRef|apply rx_min|apply rx_max|apply rx_store)<;>(first|exact tabOk|exact Nat.zero_add _|exact rfl|refine rxid ?_|assumption|omega|exact ⟨rfl⟩|exact ⟨rfl,_,_,rfl,rfl⟩|exact lb rfl|(refine Bd.mk ?_;first|assumption|omega|(focus (simp;done))|(simp;omega)|decide)|exact set_at ‹_›|exact set_at (set_at ‹_›)|(focus (refine ⟨rfl,_,_,rfl,?_⟩;omega))|(focus (simp;done))|(simp;omega)|(simp only [lA,lB,lC,lD,lE];omega)|exact newsAll rfl (by first|rfl|(simp;done)|(simp only [lA,lB,lC,lD,lE];omega))))|(apply xPick;exact rfl;exact rfl;(first|assumption|exact dT ‹_›|exact dF ‹_›|exact rfl);exact rfl;exact rfl)|(apply xSkip;(iterate 5 exact rfl);(first|assumption|exact dT ‹_›|exact dF ‹_›|exact rfl))|(apply xSkipN;(iterate 5 exact rfl))|apply rx_end|(refine rx_endD ?_ ?_;kernel_rfl)|apply AWp.seq|apply thenK_normal|apply AWp.reg|apply AWp.block|apply AWp.skip|apply AWp.label|apply AWp.exit|apply AWp.ret|apply thenK_exit|apply thenK_ret|apply blockK_normal|apply blockK_ret|apply blockK_exit|(refine AWp.regD ?_ ?_;kernel_rfl)|(refine blockK_other rfl ?_)|(apply AWp.condT;exact rfl;(first|assumption|exact dT ‹_›|exact dF ‹_›|exact rfl))|(apply AWp.condF;exact rfl;(first|assumption|exact dT ‹_›|exact dF ‹_›|exact rfl))|(apply rx_callA;(iterate 6 exact rfl);(iterate 2 (focus (repeat (first|exact VAs.nil|apply VAs.cons|apply VA.c|apply VA.agg|exact VCs.nil|(apply VCs.same;assumption)|apply VCs.cons|exact VC.imm (Imm.v _)|exact VC.imm (Imm.sl _)|exact VC.imm (Imm.ip _)|exact VC.imm ‹_›|exact VC.nil|apply VC.fn|(refine VC.ptrA rfl rfl rfl rfl ?_;(repeat (first|assumption|exact imm_no|exact Imm.v _|exact Imm.sl _|exact Imm.ip _|exact Imm.nil|exact Imm.fn0 _|refine imm_cons ?_ ?_|refine Imm.fn _ _ ?_)))|(apply VC.refA;exact rfl;exact rfl;(first|exact rfl|(focus (simp;done))|omega|(focus (simp only [lA,lB,lC,lD,lE];omega)));exact rfl;(first|assumption|(refine AllSc.imm ?_;assumption)))|assumption))));(first|exact h1|exact hd|exact hA|exact hI|exact implGreedy_yes ws hB m hk|exact hba|exact hli);(focus (repeat (first|exact trivial|exact Flat.v _|exact Flat.ref _ _ _|exact Flat.nil|apply And.intro)));(first|apply callK0|(apply callK1;(focus (repeat (first|exact trivial|apply And.intro|(first|exact AllSc.nil|assumption))))));(first|exact sh_1 _ _|exact sh_2 _ _ _|exact sh_r _ _ _ _|exact sh_r1 _ _ _ _ _|exact sh_n _|exact sh_n1 _ _|exact sh_ar _ _ _ _|exact sh_ar1 _ _ _ _ _|exact sh_an1 _ _|exact sh_3 _ _ _ _|exact rfl))|((first|refine rx_splitP rfl rfl rfl ?_ ?_|refine rx_split rfl rfl rfl ?_ ?_)<;>intro hp<;>(try (exfalso;omega)))|((first|refine AWp.condP rfl ?_ ?_|refine AWp.cond _ rfl ?_ ?_)<;>intro hp<;>(try (exfalso;omega)))))
  all_goals first | (exfalso; simp at *; done) | skip
  refine AWp.loop (σ := Nat) (fun k => ⟨[(4, .c (int (N + 1 : Nat))), (5, .c (int m)), (15, .c (.ref 0 0 (N + 1))), (16, .c (boo true)), (17, .c (int k))], [(0, some ⟨9, 1, (jls ws ks (N + 1)).map eStr⟩)], 1⟩) (fun k => k ≤ N + 1) (fun k => N + 1 - k) 0 (Nat.zero_le _) ?_ ?_
  · refine Weak.of [(0, some 3)] rfl ?_ ?_ <;> (repeat' (first|exact trivial|exact rfl|exact Or.inr ⟨rfl,‹_›⟩|apply And.intro|exact congrArg (Value.int .i64) (by first|omega|(simp;done)|(simp;omega))|(refine natEq ?_;first|(focus (simp;done))|omega|(simp only [lA,lB,lC,lD,lE];omega))|(refine ⟨_,rfl,rfl,rfl,OW.one ?_⟩)|(refine ⟨_,rfl,rfl,rfl,OW.same ?_ ?_⟩)|refine vwB ?_|refine vwS ?_|refine vwI ?_|refine fwB ?_|refine fwS ?_|refine fwI ?_|(refine AllSc.imm ?_;first|exact AllSc.nil|assumption)))
  · rintro k hk'
    by_cases hlt : k < N + 1
    · have hlt' : (k : Int) < ((N + 1 : Nat) : Int) := by omega
      have hx := hja k hlt
      have hx' := map_at (f := eStr) hx
      have hf2 := hfit k hlt
      generalize Lib.join (lnAt ws ks k) [32] = x at hx hx' hf2
      have hf3 : ¬ ((m : Int) < (x.length : Int)) := by omega
      (repeat' (first|(apply xW;(first|exact Want.none_ rfl|(refine wantG rfl rfl rfl rfl ?_;(first|assumption|exact dT ‹_›|exact dF ‹_›|exact rfl))))|(apply xF tabOk;exact rfl;exact rfl)|((first|(apply rx_cat;exact rfl;exact rfl)|apply rx_add|apply rx_sub|apply rx_mul|apply rx_quo|apply rx_rem|apply rx_neg|apply rx_ixS|(apply rx_ixSl;exact rfl;exact rfl)|apply rx_ixRef|(apply rx_load;exact rfl;exact rfl;exact tabOk;exact rfl;exact rfl)|apply rx_loadAgg|apply rx_build|apply rx_buildSlice|apply rx_alloc|apply rx_makeFunc|apply rx_makeSlice|(apply rx_appRef;exact rfl;exact rfl)|apply rx_appNil|(apply rx_sliceS;exact rfl;exact rfl)|(apply rx_sliceSl;exact rfl;exact rfl)|apply rx_sliceRef|apply rx_min|apply rx_max|apply rx_store)<;>(first|exact tabOk|exact Nat.zero_add _|exact rfl|refine rxid ?_|assumption|omega|exact ⟨rfl⟩|exact ⟨rfl,_,_,rfl,rfl⟩|exact lb rfl|(refine Bd.mk ?_;first|assumption|omega|(focus (simp;done))|(simp;omega)|decide)|exact set_at ‹_›|exact set_at (set_at ‹_›)|(focus (refine ⟨rfl,_,_,rfl,?_⟩;omega))|(focus (simp;done))|(simp;omega)|(simp only [lA,lB,lC,lD,lE];omega)|exact newsAll rfl (by first|rfl|(simp;done)|(simp only [lA,lB,lC,lD,lE];omega))))|(apply xPick;exact rfl;exact rfl;(first|assumption|exact dT ‹_›|exact dF ‹_›|exact rfl);exact rfl;exact rfl)|(apply xSkip;(iterate 5 exact rfl);(first|assumption|exact dT ‹_›|exact dF ‹_›|exact rfl))|(apply xSkipN;(iterate 5 exact rfl))|apply rx_end|(refine rx_endD ?_ ?_;kernel_rfl)|apply AWp.seq|apply thenK_normal|apply AWp.reg|apply AWp.block|apply AWp.skip|apply AWp.label|apply AWp.exit|apply AWp.ret|apply thenK_exit|apply thenK_ret|apply blockK_normal|apply blockK_ret|apply blockK_exit|(refine AWp.regD ?_ ?_;kernel_rfl)|(refine blockK_other rfl ?_)|(apply AWp.condT;exact rfl;(first|assumption|exact dT ‹_›|exact dF ‹_›|exact rfl))|(apply AWp.condF;exact rfl;(first|assumption|exact dT ‹_›|exact dF ‹_›|exact rfl))|((first|refine rx_splitP rfl rfl rfl ?_ ?_|refine rx_split rfl rfl rfl ?_ ?_)<;>intro hp<;>(try (exfalso;omega)))|((first|refine AWp.condP rfl ?_ ?_|refine AWp.cond _ rfl ?_ ?_)<;>intro hp<;>(try (exfalso;omega)))))
      refine ⟨k + 1, by omega, by omega, ?_⟩
      refine Weak.of [(0, some 0)] rfl ?_ ?_ <;> (repeat' (first|exact trivial|exact rfl|exact Or.inr ⟨rfl,‹_›⟩|apply And.intro|exact congrArg (Value.int .i64) (by first|omega|(simp;done)|(simp;omega))|(refine natEq ?_;first|(focus (simp;done))|omega|(simp only [lA,lB,lC,lD,lE];omega))|(refine ⟨_,rfl,rfl,rfl,OW.one ?_⟩)|(refine ⟨_,rfl,rfl,rfl,OW.same ?_ ?_⟩)|refine vwB ?_|refine vwS ?_|refine vwI ?_|refine fwB ?_|refine fwS ?_|refine fwI ?_|(refine AllSc.imm ?_;first|exact AllSc.nil|assumption)))
    · have hlt' : ¬ (k : Int) < ((N + 1 : Nat) : Int) := by omega
      (repeat' (first|(apply xW;(first|exact Want.none_ rfl|(refine wantG rfl rfl rfl rfl ?_;(first|assumption|exact dT ‹_›|exact dF ‹_›|exact rfl))))|(apply xF tabOk;exact rfl;exact rfl)|((first|(apply rx_cat;exact rfl;exact rfl)|apply rx_add|apply rx_sub|apply rx_mul|apply rx_quo|apply rx_rem|apply rx_neg|apply rx_ixS|(apply rx_ixSl;exact rfl;exact rfl)|apply rx_ixRef|(apply rx_load;exact rfl;exact rfl;exact tabOk;exact rfl;exact rfl)|apply rx_loadAgg|apply rx_build|apply rx_buildSlice|apply rx_alloc|apply rx_makeFunc|apply rx_makeSlice|(apply rx_appRef;exact rfl;exact rfl)|apply rx_appNil|(apply rx_sliceS;exact rfl;exact rfl)|(apply rx_sliceSl;exact rfl;exact rfl)|apply rx_sliceRef|apply rx_min|apply rx_max|apply rx_store)<;>(first|exact tabOk|exact Nat.zero_add _|exact rfl|refine rxid ?_|assumption|omega|exact ⟨rfl⟩|exact ⟨rfl,_,_,rfl,rfl⟩|exact lb rfl|(refine Bd.mk ?_;first|assumption|omega|(focus (simp;done))|(simp;omega)|decide)|exact set_at ‹_›|exact set_at (set_at ‹_›)|(focus (refine ⟨rfl,_,_,rfl,?_⟩;omega))|(focus (simp;done))|(simp;omega)|(simp only [lA,lB,lC,lD,lE];omega)|exact newsAll rfl (by first|rfl|(simp;done)|(simp only [lA,lB,lC,lD,lE];omega))))|(apply xPick;exact rfl;exact rfl;(first|assumption|exact dT ‹_›|exact dF ‹_›|exact rfl);exact rfl;exact rfl)|(apply xSkip;(iterate 5 exact rfl);(first|assumption|exact dT ‹_›|exact dF ‹_›|exact rfl))|(apply xSkipN;(iterate 5 exact rfl))|apply rx_end|(refine rx_endD ?_ ?_;kernel_rfl)|apply AWp.seq|apply thenK_normal|apply AWp.reg|apply AWp.block|apply AWp.skip|apply AWp.label|apply AWp.exit|apply AWp.ret|apply thenK_exit|apply thenK_ret|apply blockK_normal|apply blockK_ret|apply blockK_exit|(refine AWp.regD ?_ ?_;kernel_rfl)|(refine blockK_other rfl ?_)|(apply AWp.condT;exact rfl;(first|assumption|exact dT ‹_›|exact dF ‹_›|exact rfl))|(apply AWp.condF;exact rfl;(first|assumption|exact dT ‹_›|exact dF ‹_›|exact rfl))|((first|refine rx_splitP rfl rfl rfl ?_ ?_|refine rx_split rfl rfl rfl ?_ ?_)<;>intro hp<;>(try (exfalso;omega)))|((first|refine AWp.condP rfl ?_ ?_|refine AWp.cond _ rfl ?_ ?_)<;>intro hp<;>(try (exfalso;omega)))))
      ((first|refine ret_ret _ [] (.cons (rv_tmp rfl) .nil) ?_ rfl ?_|refine ret_end _ [] (.cons (rv_tmp rfl) .nil) ?_ rfl ?_) <;> (repeat' (first|exact trivial|exact rfl|exact Or.inr ⟨rfl,‹_›⟩|apply And.intro|exact congrArg (Value.int .i64) (by first|omega|(simp;done)|(simp;omega))|(refine natEq ?_;first|(focus (simp;done))|omega|(simp only [lA,lB,lC,lD,lE];omega))|(refine ⟨_,rfl,rfl,rfl,OW.one ?_⟩)|(refine ⟨_,rfl,rfl,rfl,OW.same ?_ ?_⟩)|refine vwB ?_|refine vwS ?_|refine vwI ?_|refine fwB ?_|refine fwS ?_|refine fwI ?_|(refine AllSc.imm ?_;first|exact AllSc.nil|assumption))))
      all_goals exact decide_eq_true rfl
theorem lwi_b_no (hm : 1 < m) (hk1 : fitsOk ws ((m : Int) - 1) = false) (hbl : blOk ws n = false) : PF Try.prog 9 [.c (.sl (code.map byteC))] [] (.c (boo true)) := by
  have h1 := rBig_pf code (by omega)
  rw [decide_eq_false (by omega)] at h1
  have hsc := strs_sc ws
  have hs1 := ints_sc (nI (greedy (lens ws) m))
  have hle' : ¬ (((greedy (lens ws) m).length : Int) > n) := by omega
  have hm' : (m : Int) > 1 := by omega
  refine PF.enter (enum1 _) Try.func9 rfl (by kernel_rfl) _ _ rfl rfl rfl (fun w0 mu I0 β0 => ?_)
  (repeat' (first|(apply xW;(first|exact Want.none_ rfl|(refine wantG rfl rfl rfl rfl ?_;(first|assumption|exact dT ‹_›|exact dF ‹_›|exact rfl))))|(apply xF tabOk;exact rfl;exact rfl)|((first|(apply rx_cat;exact rfl;exact rfl)|apply rx_add|apply rx_sub|apply rx_mul|apply rx_quo|apply rx_rem|apply rx_neg|apply rx_ixS|(apply rx_ixSl;exact rfl;exact rfl)|apply rx_ixRef|(apply rx_load;exact rfl;exact rfl;exact tabOk;exact rfl;exact rfl)|apply rx_loadAgg|apply rx_build|apply rx_buildSlice|apply rx_alloc|apply rx_makeFunc|apply rx_makeSlice|(apply rx_appRef;exact rfl;exact rfl)|apply rx_appNil|(apply rx_sliceS;exact rfl;exact rfl)|(apply rx_sliceSl;exact rfl;exact rfl)|apply rx_sliceRef|apply rx_min|apply rx_max|apply rx_store)<;>(first|exact tabOk|exact Nat.zero_add _|exact rfl|refine rxid ?_|assumption|omega|exact ⟨rfl⟩|exact ⟨rfl,_,_,rfl,rfl⟩|exact lb rfl|(refine Bd.mk ?_;first|assumption|omega|(focus (simp;done))|(simp;omega)|decide)|exact set_at ‹_›|exact set_at (set_at ‹_›)|(focus (refine ⟨rfl,_,_,rfl,?_⟩;omega))|(focus (simp;done))|(simp;omega)|(simp only [lA,lB,lC,lD,lE];omega)|exact newsAll rfl (by first|rfl|(simp;done)|(simp only [lA,lB,lC,lD,lE];omega))))|(apply xPick;exact rfl;exact rfl;(first|assumption|exact dT ‹_›|exact dF ‹_›|exact rfl);exact rfl;exact rfl)|(apply xSkip;(iterate 5 exact rfl);(first|assumption|exact dT ‹_›|exact dF ‹_›|exact rfl))|(apply xSkipN;(iterate 5 exact rfl))|apply rx_end|(refine rx_endD ?_ ?_;kernel_rfl)|apply AWp.seq|apply thenK_normal|apply AWp.reg|apply AWp.block|apply AWp.skip|apply AWp.label|apply AWp.exit|apply AWp.ret|apply thenK_exit|apply thenK_ret|apply blockK_normal|apply blockK_ret|apply blockK_exit|(refine AWp.regD ?_ ?_;kernel_rfl)|(refine blockK_other rfl ?_)|(apply AWp.condT;exact rfl;(first|assumption|exact dT ‹_›|exact dF ‹_›|exact rfl))|(apply AWp.condF;exact rfl;(first|assumption|exact dT ‹_›|exact dF ‹_›|exact rfl))|(apply rx_callA;(iterate 6 exact rfl);(iterate 2 (focus (repeat (first|exact VAs.nil|apply VAs.cons|apply VA.c|apply VA.agg|exact VCs.nil|(apply VCs.same;assumption)|apply VCs.cons|exact VC.imm (Imm.v _)|exact VC.imm (Imm.sl _)|exact VC.imm (Imm.ip _)|exact VC.imm ‹_›|exact VC.nil|apply VC.fn|(refine VC.ptrA rfl rfl rfl rfl ?_;(repeat (first|assumption|exact imm_no|exact Imm.v _|exact Imm.sl _|exact Imm.ip _|exact Imm.nil|exact Imm.fn0 _|refine imm_cons ?_ ?_|refine Imm.fn _ _ ?_)))|(apply VC.refA;exact rfl;exact rfl;(first|exact rfl|(focus (simp;done))|omega|(focus (simp only [lA,lB,lC,lD,lE];omega)));exact rfl;(first|assumption|(refine AllSc.imm ?_;assumption)))|assumption))));(first|exact h1|exact hd|exact hA|exact hI|exact implGreedy_yes ws hB m hk|exact implBa_no ws n hB hbl|exact implGreedy_no ws hB ((m : Int) - 1) hk1);(focus (repeat (first|exact trivial|exact Flat.v _|exact Flat.ref _ _ _|exact Flat.nil|apply And.intro)));(first|apply callK0|(apply callK1;(focus (repeat (first|exact trivial|apply And.intro|(first|exact AllSc.nil|assumption))))));(first|exact sh_1 _ _|exact sh_2 _ _ _|exact sh_r _ _ _ _|exact sh_r1 _ _ _ _ _|exact sh_n _|exact sh_n1 _ _|exact sh_ar _ _ _ _|exact sh_ar1 _ _ _ _ _|exact sh_an1 _ _|exact sh_3 _ _ _ _|exact rfl))|((first|refine rx_splitP rfl rfl rfl ?_ ?_|refine rx_split rfl rfl rfl ?_ ?_)<;>intro hp<;>(try (exfalso;omega)))|((first|refine AWp.condP rfl ?_ ?_|refine AWp.cond _ rfl ?_ ?_)<;>intro hp<;>(try (exfalso;omega)))))
  all_goals first | (exfalso; simp at *; done) | skip
  all_goals
    ((first|refine ret_ret _ [] (.cons (rv_tmp rfl) .nil) ?_ rfl ?_|refine ret_end _ [] (.cons (rv_tmp rfl) .nil) ?_ rfl ?_) <;> (repeat' (first|exact trivial|exact rfl|exact Or.inr ⟨rfl,‹_›⟩|apply And.intro|exact congrArg (Value.int .i64) (by first|omega|(simp;done)|(simp;omega))|(refine natEq ?_;first|(focus (simp;done))|omega|(simp only [lA,lB,lC,lD,lE];omega))|(refine ⟨_,rfl,rfl,rfl,OW.one ?_⟩)|(refine ⟨_,rfl,rfl,rfl,OW.same ?_ ?_⟩)|refine vwB ?_|refine vwS ?_|refine vwI ?_|refine fwB ?_|refine fwS ?_|refine fwI ?_|(refine AllSc.imm ?_;first|exact AllSc.nil|assumption))))
theorem lwi_b_yes (hm : 1 < m) (hk1 : fitsOk ws ((m : Int) - 1) = false) (N : Nat) (hn : n = (N + 1 : Nat)) (hN : N < ws.length) : PF Try.prog 9 [.c (.sl (code.map byteC))] [] (.c (boo true)) := by
  subst hn
  have h1 := rBig_pf code (by omega)
  rw [decide_eq_false (by omega)] at h1
  have hsc := strs_sc ws
  have hs1 := ints_sc (nI (greedy (lens ws) m))
  have hle' : ¬ (((greedy (lens ws) m).length : Int) > (N + 1 : Nat)) := by omega
  have hm' : (m : Int) > 1 := by omega
  have hLl : (lens ws).length = ws.length := List.length_map _
  obtain ⟨hwo, _, hnn, _, _, hfx⟩ := fitsOk_parts hk
  obtain rfl := Int.ofNat.inj hnn
  have h40 := (wordsOk_WB hwo).cnt
  have hsp := (canSplit_iff (by omega)).1 (show canSplit (lens ws) (N + 1) m from ⟨by omega, hfx, by omega⟩)
  have hpos : ∀ x ∈ lens ws, 1 ≤ x := fun x hx => by
    obtain ⟨l, hl, rfl⟩ := List.mem_map.1 hx
    exact wordsOk_pos hwo l hl
  obtain ⟨_, _, hiff⟩ := bL_spec (ls := lens ws) (n := N) (by omega) hpos
  have hLm := (hiff m).2 hsp
  have hsp2 := (hiff _).1 (Nat.le_refl _)
  have hasc : Asc (0 :: bal (lens ws) (bL (lens ws) N) N 0) ws.length := by
    have := bal_asc (by omega) hsp2
    rwa [hLl] at this
  have hfit := fun (j : Nat) (hj : j < N + 1) => Nat.le_trans (bal_fit hN hsp2 hj) hLm
  have hba := implBa_yes ws N hB hwo hN
  have hla : laOk ws (nI (0 :: bal (lens ws) (bL (lens ws) N) N 0)) = true := by rw [laOk, hwo, nI_stOk hasc]; rfl
  have hkl : (0 :: bal (lens ws) (bL (lens ws) N) N 0).length = N + 1 := by rw [List.length_cons, bal_len]
  generalize 0 :: bal (lens ws) (bL (lens ws) N) N 0 = ks at hasc hfit hba hla hkl
  have hnl : (nI ks).length = ks.length := List.length_map _
  have hjl := jls_len ws ks ks.length
  have hja := fun (j : Nat) (hj : j < ks.length) => jls_at (ws := ws) hj
  have hli := implLA_yes ws ks hB (by omega) hla hasc
  rw [hkl] at hjl hja hli
  have hs3 := ints_sc (nI ks)
  have hs4 := strs_sc (jls ws ks (N + 1))
  refine PF.enter (enum1 _) Try.func9 rfl (by kernel_rfl) _ _ rfl rfl rfl (fun w0 mu I0 β0 => ?_)
  (repeat' (first|(apply xW;(first|exact Want.none_ rfl|(refine wantG rfl rfl rfl rfl ?_;(first|assumption|exact dT ‹_›|exact dF ‹_›|exact rfl))))|(apply xF tabOk;exact rfl;exact rfl)|((first|(apply rx_cat;exact rfl;exact rfl)|apply rx_add|apply rx_sub|apply rx_mul|apply rx_quo|apply rx_rem|apply rx_neg|apply rx_ixS|(apply rx_ixSl;exact rfl;exact rfl)|apply rx_ixRef|(apply rx_load;exact rfl;exact rfl;exact tabOk;exact rfl;exact rfl)|apply rx_loadAgg|apply rx_build|apply rx_buildSlice|apply rx_alloc|apply rx_makeFunc|apply rx_makeSlice|(apply rx_appRef;exact rfl;exact rfl)|apply rx_appNil|(apply rx_sliceS;exact rfl;exact rfl)|(apply rx_sliceSl;exact rfl;exact rfl)|apply rx_sliceRef|apply rx_min|apply rx_max|apply rx_store)<;>(first|exact tabOk|exact Nat.zero_add _|exact rfl|refine rxid ?_|assumption|omega|exact ⟨rfl⟩|exact ⟨rfl,_,_,rfl,rfl⟩|exact lb rfl|(refine Bd.mk ?_;first|assumption|omega|(focus (simp;done))|(simp;omega)|decide)|exact set_at ‹_›|exact set_at (set_at ‹_›)|(focus (refine ⟨rfl,_,_,rfl,?_⟩;omega))|(focus (simp;done))|(simp;omega)|(simp only [lA,lB,lC,lD,lE];omega)|exact newsAll rfl (by first|rfl|(simp;done)|(simp only [lA,lB,lC,lD,lE];omega))))|(apply xPick;exact rfl;exact rfl;(first|assumption|exact dT ‹_›|exact dF ‹_›|exact rfl);exact rfl;exact rfl)|(apply xSkip;(iterate 5 exact rfl);(first|assumption|exact dT ‹_›|exact dF ‹_›|exact rfl))|(apply xSkipN;(iterate 5 exact rfl))|apply rx_end|(refine rx_endD ?_ ?_;kernel_rfl)|apply AWp.seq|apply thenK_normal|apply AWp.reg|apply AWp.block|apply AWp.skip|apply AWp.label|apply AWp.exit|apply AWp.ret|apply thenK_exit|apply thenK_ret|apply blockK_normal|apply blockK_ret|apply blockK_exit|(refine AWp.regD ?_ ?_;kernel_rfl)|(refine blockK_other rfl ?_)|(apply AWp.condT;exact rfl;(first|assumption|exact dT ‹_›|exact dF ‹_›|exact rfl))|(apply AWp.condF;exact rfl;(first|assumption|exact dT ‹_›|exact dF ‹_›|exact rfl))|(apply rx_callA;(iterate 6 exact rfl);(iterate 2 (focus (repeat (first|exact VAs.nil|apply VAs.cons|apply VA.c|apply VA.agg|exact VCs.nil|(apply VCs.same;assumption)|apply VCs.cons|exact VC.imm (Imm.v _)|exact VC.imm (Imm.sl _)|exact VC.imm (Imm.ip _)|exact VC.imm ‹_›|exact VC.nil|apply VC.fn|(refine VC.ptrA rfl rfl rfl rfl ?_;(repeat (first|assumption|exact imm_no|exact Imm.v _|exact Imm.sl _|exact Imm.ip _|exact Imm.nil|exact Imm.fn0 _|refine imm_cons ?_ ?_|refine Imm.fn _ _ ?_)))|(apply VC.refA;exact rfl;exact rfl;(first|exact rfl|(focus (simp;done))|omega|(focus (simp only [lA,lB,lC,lD,lE];omega)));exact rfl;(first|assumption|(refine AllSc.imm ?_;assumption)))|assumption))));(first|exact h1|exact hd|exact hA|exact hI|exact implGreedy_yes ws hB m hk|exact hba|exact hli|exact implGreedy_no ws hB ((m : Int) - 1) hk1);(focus (repeat (first|exact trivial|exact Flat.v _|exact Flat.ref _ _ _|exact Flat.nil|apply And.intro)));(first|apply callK0|(apply callK1;(focus (repeat (first|exact trivial|apply And.intro|(first|exact AllSc.nil|assumption))))));(first|exact sh_1 _ _|exact sh_2 _ _ _|exact sh_r _ _ _ _|exact sh_r1 _ _ _ _ _|exact sh_n _|exact sh_n1 _ _|exact sh_ar _ _ _ _|exact sh_ar1 _ _ _ _ _|exact sh_an1 _ _|exact sh_3 _ _ _ _|exact rfl))|((first|refine rx_splitP rfl rfl rfl ?_ ?_|refine rx_split rfl rfl rfl ?_ ?_)<;>intro hp<;>(try (exfalso;omega)))|((first|refine AWp.condP rfl ?_ ?_|refine AWp.cond _ rfl ?_ ?_)<;>intro hp<;>(try (exfalso;omega)))))
  all_goals first | (exfalso; simp at *; done) | skip
  refine AWp.loop (σ := Nat) (fun k => ⟨[(4, .c (int (N + 1 : Nat))), (5, .c (int m)), (15, .c (.ref 0 0 (N + 1))), (16, .c (boo true)), (17, .c (int k))], [(0, some ⟨9, 1, (jls ws ks (N + 1)).map eStr⟩)], 1⟩) (fun k => k ≤ N + 1) (fun k => N + 1 - k) 0 (Nat.zero_le _) ?_ ?_
  · refine Weak.of [(0, some 3)] rfl ?_ ?_ <;> (repeat' (first|exact trivial|exact rfl|exact Or.inr ⟨rfl,‹_›⟩|apply And.intro|exact congrArg (Value.int .i64) (by first|omega|(simp;done)|(simp;omega))|(refine natEq ?_;first|(focus (simp;done))|omega|(simp only [lA,lB,lC,lD,lE];omega))|(refine ⟨_,rfl,rfl,rfl,OW.one ?_⟩)|(refine ⟨_,rfl,rfl,rfl,OW.same ?_ ?_⟩)|refine vwB ?_|refine vwS ?_|refine vwI ?_|refine fwB ?_|refine fwS ?_|refine fwI ?_|(refine AllSc.imm ?_;first|exact AllSc.nil|assumption)))
  · rintro k hk'
    by_cases hlt : k < N + 1
    · have hlt' : (k : Int) < ((N + 1 : Nat) : Int) := by omega
      have hx := hja k hlt
      have hx' := map_at (f := eStr) hx
      have hf2 := hfit k hlt
      generalize Lib.join (lnAt ws ks k) [32] = x at hx hx' hf2
      have hf3 : ¬ ((m : Int) < (x.length : Int)) := by omega
      (repeat' (first|(apply xW;(first|exact Want.none_ rfl|(refine wantG rfl rfl rfl rfl ?_;(first|assumption|exact dT ‹_›|exact dF ‹_›|exact rfl))))|(apply xF tabOk;exact rfl;exact rfl)|((first|(apply rx_cat;exact rfl;exact rfl)|apply rx_add|apply rx_sub|apply rx_mul|apply rx_quo|apply rx_rem|apply rx_neg|apply rx_ixS|(apply rx_ixSl;exact rfl;exact rfl)|apply rx_ixRef|(apply rx_load;exact rfl;exact rfl;exact tabOk;exact rfl;exact rfl)|apply rx_loadAgg|apply rx_build|apply rx_buildSlice|apply rx_alloc|apply rx_makeFunc|apply rx_makeSlice|(apply rx_appRef;exact rfl;exact rfl)|apply rx_appNil|(apply rx_sliceS;exact rfl;exact rfl)|(apply rx_sliceSl;exact rfl;exact rfl)|apply rx_sliceRef|apply rx_min|apply rx_max|apply rx_store)<;>(first|exact tabOk|exact Nat.zero_add _|exact rfl|refine rxid ?_|assumption|omega|exact ⟨rfl⟩|exact ⟨rfl,_,_,rfl,rfl⟩|exact lb rfl|(refine Bd.mk ?_;first|assumption|omega|(focus (simp;done))|(simp;omega)|decide)|exact set_at ‹_›|exact set_at (set_at ‹_›)|(focus (refine ⟨rfl,_,_,rfl,?_⟩;omega))|(focus (simp;done))|(simp;omega)|(simp only [lA,lB,lC,lD,lE];omega)|exact newsAll rfl (by first|rfl|(simp;done)|(simp only [lA,lB,lC,lD,lE];omega))))|(apply xPick;exact rfl;exact rfl;(first|assumption|exact dT ‹_›|exact dF ‹_›|exact rfl);exact rfl;exact rfl)|(apply xSkip;(iterate 5 exact rfl);(first|assumption|exact dT ‹_›|exact dF ‹_›|exact rfl))|(apply xSkipN;(iterate 5 exact rfl))|apply rx_end|(refine rx_endD ?_ ?_;kernel_rfl)|apply AWp.seq|apply thenK_normal|apply AWp.reg|apply AWp.block|apply AWp.skip|apply AWp.label|apply AWp.exit|apply AWp.ret|apply thenK_exit|apply thenK_ret|apply blockK_normal|apply blockK_ret|apply blockK_exit|(refine AWp.regD ?_ ?_;kernel_rfl)|(refine blockK_other rfl ?_)|(apply AWp.condT;exact rfl;(first|assumption|exact dT ‹_›|exact dF ‹_›|exact rfl))|(apply AWp.condF;exact rfl;(first|assumption|exact dT ‹_›|exact dF ‹_›|exact rfl))|((first|refine rx_splitP rfl rfl rfl ?_ ?_|refine rx_split rfl rfl rfl ?_ ?_)<;>intro hp<;>(try (exfalso;omega)))|((first|refine AWp.condP rfl ?_ ?_|refine AWp.cond _ rfl ?_ ?_)<;>intro hp<;>(try (exfalso;omega)))))
      refine ⟨k + 1, by omega, by omega, ?_⟩
      refine Weak.of [(0, some 0)] rfl ?_ ?_ <;> (repeat' (first|exact trivial|exact rfl|exact Or.inr ⟨rfl,‹_›⟩|apply And.intro|exact congrArg (Value.int .i64) (by first|omega|(simp;done)|(simp;omega))|(refine natEq ?_;first|(focus (simp;done))|omega|(simp only [lA,lB,lC,lD,lE];omega))|(refine ⟨_,rfl,rfl,rfl,OW.one ?_⟩)|(refine ⟨_,rfl,rfl,rfl,OW.same ?_ ?_⟩)|refine vwB ?_|refine vwS ?_|refine vwI ?_|refine fwB ?_|refine fwS ?_|refine fwI ?_|(refine AllSc.imm ?_;first|exact AllSc.nil|assumption)))
    · have hlt' : ¬ (k : Int) < ((N + 1 : Nat) : Int) := by omega
      (repeat' (first|(apply xW;(first|exact Want.none_ rfl|(refine wantG rfl rfl rfl rfl ?_;(first|assumption|exact dT ‹_›|exact dF ‹_›|exact rfl))))|(apply xF tabOk;exact rfl;exact rfl)|((first|(apply rx_cat;exact rfl;exact rfl)|apply rx_add|apply rx_sub|apply rx_mul|apply rx_quo|apply rx_rem|apply rx_neg|apply rx_ixS|(apply rx_ixSl;exact rfl;exact rfl)|apply rx_ixRef|(apply rx_load;exact rfl;exact rfl;exact tabOk;exact rfl;exact rfl)|apply rx_loadAgg|apply rx_build|apply rx_buildSlice|apply rx_alloc|apply rx_makeFunc|apply rx_makeSlice|(apply rx_appRef;exact rfl;exact rfl)|apply rx_appNil|(apply rx_sliceS;exact rfl;exact rfl)|(apply rx_sliceSl;exact rfl;exact rfl)|apply rx_sliceRef|apply rx_min|apply rx_max|apply rx_store)<;>(first|exact tabOk|exact Nat.zero_add _|exact rfl|refine rxid ?_|assumption|omega|exact ⟨rfl⟩|exact ⟨rfl,_,_,rfl,rfl⟩|exact lb rfl|(refine Bd.mk ?_;first|assumption|omega|(focus (simp;done))|(simp;omega)|decide)|exact set_at ‹_›|exact set_at (set_at ‹_›)|(focus (refine ⟨rfl,_,_,rfl,?_⟩;omega))|(focus (simp;done))|(simp;omega)|(simp only [lA,lB,lC,lD,lE];omega)|exact newsAll rfl (by first|rfl|(simp;done)|(simp only [lA,lB,lC,lD,lE];omega))))|(apply xPick;exact rfl;exact rfl;(first|assumption|exact dT ‹_›|exact dF ‹_›|exact rfl);exact rfl;exact rfl)|(apply xSkip;(iterate 5 exact rfl);(first|assumption|exact dT ‹_›|exact dF ‹_›|exact rfl))|(apply xSkipN;(iterate 5 exact rfl))|apply rx_end|(refine rx_endD ?_ ?_;kernel_rfl)|apply AWp.seq|apply thenK_normal|apply AWp.reg|apply AWp.block|apply AWp.skip|apply AWp.label|apply AWp.exit|apply AWp.ret|apply thenK_exit|apply thenK_ret|apply blockK_normal|apply blockK_ret|apply blockK_exit|(refine AWp.regD ?_ ?_;kernel_rfl)|(refine blockK_other rfl ?_)|(apply AWp.condT;exact rfl;(first|assumption|exact dT ‹_›|exact dF ‹_›|exact rfl))|(apply AWp.condF;exact rfl;(first|assumption|exact dT ‹_›|exact dF ‹_›|exact rfl))|((first|refine rx_splitP rfl rfl rfl ?_ ?_|refine rx_split rfl rfl rfl ?_ ?_)<;>intro hp<;>(try (exfalso;omega)))|((first|refine AWp.condP rfl ?_ ?_|refine AWp.cond _ rfl ?_ ?_)<;>intro hp<;>(try (exfalso;omega)))))
      ((first|refine ret_ret _ [] (.cons (rv_tmp rfl) .nil) ?_ rfl ?_|refine ret_end _ [] (.cons (rv_tmp rfl) .nil) ?_ rfl ?_) <;> (repeat' (first|exact trivial|exact rfl|exact Or.inr ⟨rfl,‹_›⟩|apply And.intro|exact congrArg (Value.int .i64) (by first|omega|(simp;done)|(simp;omega))|(refine natEq ?_;first|(focus (simp;done))|omega|(simp only [lA,lB,lC,lD,lE];omega))|(refine ⟨_,rfl,rfl,rfl,OW.one ?_⟩)|(refine ⟨_,rfl,rfl,rfl,OW.same ?_ ?_⟩)|refine vwB ?_|refine vwS ?_|refine vwI ?_|refine fwB ?_|refine fwS ?_|refine fwI ?_|(refine AllSc.imm ?_;first|exact AllSc.nil|assumption))))
      all_goals exact decide_eq_true rfl
theorem lwi_c_no (m' : Nat) (hm : m = m' + 1) (hm1' : 1 ≤ m') (hk1 : fitsOk ws m' = true) (hgt : n < ((greedy (lens ws) m').length : Int)) (hbl : blOk ws n = false) : PF Try.prog 9 [.c (.sl (code.map byteC))] [] (.c (boo true)) := by
  have h1 := rBig_pf code (by omega)
  rw [decide_eq_false (by omega)] at h1
  have hsc := strs_sc ws
  have hs1 := ints_sc (nI (greedy (lens ws) m))
  have hle' : ¬ (((greedy (lens ws) m).length : Int) > n) := by omega
  have hm' : (m : Int) > 1 := by omega
  have hgt' : ¬ (((greedy (lens ws) m').length : Int) ≤ _) := Int.not_le.2 hgt
  have hmm : (m : Int) - 1 = (m' : Int) := by omega
  have hg2 := implGreedy_yes ws hB m' hk1
  rw [← hmm] at hg2
  have hs2 := ints_sc (nI (greedy (lens ws) m'))
  refine PF.enter (enum1 _) Try.func9 rfl (by kernel_rfl) _ _ rfl rfl rfl (fun w0 mu I0 β0 => ?_)
  (repeat' (first|(apply xW;(first|exact Want.none_ rfl|(refine wantG rfl rfl rfl rfl ?_;(first|assumption|exact dT ‹_›|exact dF ‹_›|exact rfl))))|(apply xF tabOk;exact rfl;exact rfl)|((first|(apply rx_cat;exact rfl;exact rfl)|apply rx_add|apply rx_sub|apply rx_mul|apply rx_quo|apply rx_rem|apply rx_neg|apply rx_ixS|(apply rx_ixSl;exact rfl;exact rfl)|apply rx_ixRef|(apply rx_load;exact rfl;exact rfl;exact tabOk;exact rfl;exact rfl)|apply rx_loadAgg|apply rx_build|apply rx_buildSlice|apply rx_alloc|apply rx_makeFunc|apply rx_makeSlice|(apply rx_appRef;exact rfl;exact rfl)|apply rx_appNil|(apply rx_sliceS;exact rfl;exact rfl)|(apply rx_sliceSl;exact rfl;exact rfl)|apply rx_sliceRef|apply rx_min|apply rx_max|apply rx_store)<;>(first|exact tabOk|exact Nat.zero_add _|exact rfl|refine rxid ?_|assumption|omega|exact ⟨rfl⟩|exact ⟨rfl,_,_,rfl,rfl⟩|exact lb rfl|(refine Bd.mk ?_;first|assumption|omega|(focus (simp;done))|(simp;omega)|decide)|exact set_at ‹_›|exact set_at (set_at ‹_›)|(focus (refine ⟨rfl,_,_,rfl,?_⟩;omega))|(focus (simp;done))|(simp;omega)|(simp only [lA,lB,lC,lD,lE];omega)|exact newsAll rfl (by first|rfl|(simp;done)|(simp only [lA,lB,lC,lD,lE];omega))))|(apply xPick;exact rfl;exact rfl;(first|assumption|exact dT ‹_›|exact dF ‹_›|exact rfl);exact rfl;exact rfl)|(apply xSkip;(iterate 5 exact rfl);(first|assumption|exact dT ‹_›|exact dF ‹_›|exact rfl))|(apply xSkipN;(iterate 5 exact rfl))|apply rx_end|(refine rx_endD ?_ ?_;kernel_rfl)|apply AWp.seq|apply thenK_normal|apply AWp.reg|apply AWp.block|apply AWp.skip|apply AWp.label|apply AWp.exit|apply AWp.ret|apply thenK_exit|apply thenK_ret|apply blockK_normal|apply blockK_ret|apply blockK_exit|(refine AWp.regD ?_ ?_;kernel_rfl)|(refine blockK_other rfl ?_)|(apply AWp.condT;exact rfl;(first|assumption|exact dT ‹_›|exact dF ‹_›|exact rfl))|(apply AWp.condF;exact rfl;(first|assumption|exact dT ‹_›|exact dF ‹_›|exact rfl))|(apply rx_callA;(iterate 6 exact rfl);(iterate 2 (focus (repeat (first|exact VAs.nil|apply VAs.cons|apply VA.c|apply VA.agg|exact VCs.nil|(apply VCs.same;assumption)|apply VCs.cons|exact VC.imm (Imm.v _)|exact VC.imm (Imm.sl _)|exact VC.imm (Imm.ip _)|exact VC.imm ‹_›|exact VC.nil|apply VC.fn|(refine VC.ptrA rfl rfl rfl rfl ?_;(repeat (first|assumption|exact imm_no|exact Imm.v _|exact Imm.sl _|exact Imm.ip _|exact Imm.nil|exact Imm.fn0 _|refine imm_cons ?_ ?_|refine Imm.fn _ _ ?_)))|(apply VC.refA;exact rfl;exact rfl;(first|exact rfl|(focus (simp;done))|omega|(focus (simp only [lA,lB,lC,lD,lE];omega)));exact rfl;(first|assumption|(refine AllSc.imm ?_;assumption)))|assumption))));(first|exact h1|exact hd|exact hA|exact hI|exact implGreedy_yes ws hB m hk|exact implBa_no ws n hB hbl|exact hg2);(focus (repeat (first|exact trivial|exact Flat.v _|exact Flat.ref _ _ _|exact Flat.nil|apply And.intro)));(first|apply callK0|(apply callK1;(focus (repeat (first|exact trivial|apply And.intro|(first|exact AllSc.nil|assumption))))));(first|exact sh_1 _ _|exact sh_2 _ _ _|exact sh_r _ _ _ _|exact sh_r1 _ _ _ _ _|exact sh_n _|exact sh_n1 _ _|exact sh_ar _ _ _ _|exact sh_ar1 _ _ _ _ _|exact sh_an1 _ _|exact sh_3 _ _ _ _|exact rfl))|((first|refine rx_splitP rfl rfl rfl ?_ ?_|refine rx_split rfl rfl rfl ?_ ?_)<;>intro hp<;>(try (exfalso;omega)))|((first|refine AWp.condP rfl ?_ ?_|refine AWp.cond _ rfl ?_ ?_)<;>intro hp<;>(try (exfalso;omega)))))
  all_goals first | (exfalso; simp at *; done) | skip
  all_goals
    ((first|refine ret_ret _ [] (.cons (rv_tmp rfl) .nil) ?_ rfl ?_|refine ret_end _ [] (.cons (rv_tmp rfl) .nil) ?_ rfl ?_) <;> (repeat' (first|exact trivial|exact rfl|exact Or.inr ⟨rfl,‹_›⟩|apply And.intro|exact congrArg (Value.int .i64) (by first|omega|(simp;done)|(simp;omega))|(refine natEq ?_;first|(focus (simp;done))|omega|(simp only [lA,lB,lC,lD,lE];omega))|(refine ⟨_,rfl,rfl,rfl,OW.one ?_⟩)|(refine ⟨_,rfl,rfl,rfl,OW.same ?_ ?_⟩)|refine vwB ?_|refine vwS ?_|refine vwI ?_|refine fwB ?_|refine fwS ?_|refine fwI ?_|(refine AllSc.imm ?_;first|exact AllSc.nil|assumption))))
theorem lwi_c_yes (m' : Nat) (hm : m = m' + 1) (hm1' : 1 ≤ m') (hk1 : fitsOk ws m' = true) (hgt : n < ((greedy (lens ws) m').length : Int)) (N : Nat) (hn : n = (N + 1 : Nat)) (hN : N < ws.length) : PF Try.prog 9 [.c (.sl (code.map byteC))] [] (.c (boo true)) := by
  subst hn
  have h1 := rBig_pf code (by omega)
  rw [decide_eq_false (by omega)] at h1
  have hsc := strs_sc ws
  have hs1 := ints_sc (nI (greedy (lens ws) m))
  have hle' : ¬ (((greedy (lens ws) m).length : Int) > (N + 1 : Nat)) := by omega
  have hm' : (m : Int) > 1 := by omega
  have hgt' : ¬ (((greedy (lens ws) m').length : Int) ≤ _) := Int.not_le.2 hgt
  have hmm : (m : Int) - 1 = (m' : Int) := by omega
  have hg2 := implGreedy_yes ws hB m' hk1
  rw [← hmm] at hg2
  have hs2 := ints_sc (nI (greedy (lens ws) m'))
  have hLl : (lens ws).length = ws.length := List.length_map _
  obtain ⟨hwo, _, hnn, _, _, hfx⟩ := fitsOk_parts hk
  obtain rfl := Int.ofNat.inj hnn
  have h40 := (wordsOk_WB hwo).cnt
  have hsp := (canSplit_iff (by omega)).1 (show canSplit (lens ws) (N + 1) m from ⟨by omega, hfx, by omega⟩)
  have hpos : ∀ x ∈ lens ws, 1 ≤ x := fun x hx => by
    obtain ⟨l, hl, rfl⟩ := List.mem_map.1 hx
    exact wordsOk_pos hwo l hl
  obtain ⟨_, _, hiff⟩ := bL_spec (ls := lens ws) (n := N) (by omega) hpos
  have hLm := (hiff m).2 hsp
  have hsp2 := (hiff _).1 (Nat.le_refl _)
  have hasc : Asc (0 :: bal (lens ws) (bL (lens ws) N) N 0) ws.length := by
    have := bal_asc (by omega) hsp2
    rwa [hLl] at this
  have hfit := fun (j : Nat) (hj : j < N + 1) => Nat.le_trans (bal_fit hN hsp2 hj) hLm
  have hba := implBa_yes ws N hB hwo hN
  have hla : laOk ws (nI (0 :: bal (lens ws) (bL (lens ws) N) N 0)) = true := by rw [laOk, hwo, nI_stOk hasc]; rfl
  have hkl : (0 :: bal (lens ws) (bL (lens ws) N) N 0).length = N + 1 := by rw [List.length_cons, bal_len]
  generalize 0 :: bal (lens ws) (bL (lens ws) N) N 0 = ks at hasc hfit hba hla hkl
  have hnl : (nI ks).length = ks.length := List.length_map _
  have hjl := jls_len ws ks ks.length
  have hja := fun (j : Nat) (hj : j < ks.length) => jls_at (ws := ws) hj
  have hli := implLA_yes ws ks hB (by omega) hla hasc
  rw [hkl] at hjl hja hli
  have hs3 := ints_sc (nI ks)
  have hs4 := strs_sc (jls ws ks (N + 1))
  refine PF.enter (enum1 _) Try.func9 rfl (by kernel_rfl) _ _ rfl rfl rfl (fun w0 mu I0 β0 => ?_)
  (repeat' (first|(apply xW;(first|exact Want.none_ rfl|(refine wantG rfl rfl rfl rfl ?_;(first|assumption|exact dT ‹_›|exact dF ‹_›|exact rfl))))|(apply xF tabOk;exact rfl;exact rfl)|((first|(apply rx_cat;exact rfl;exact rfl)|apply rx_add|apply rx_sub|apply rx_mul|apply rx_quo|apply rx_rem|apply rx_neg|apply rx_ixS|(apply rx_ixSl;exact rfl;exact rfl)|apply rx_ixRef|(apply rx_load;exact rfl;exact rfl;exact tabOk;exact rfl;exact rfl)|apply rx_loadAgg|apply rx_build|apply rx_buildSlice|apply rx_alloc|apply rx_makeFunc|apply rx_makeSlice|(apply rx_appRef;exact rfl;exact rfl)|apply rx_appNil|(apply rx_sliceS;exact rfl;exact rfl)|(apply rx_sliceSl;exact rfl;exact rfl)|apply rx_sliceRef|apply rx_min|apply rx_max|apply rx_store)<;>(first|exact tabOk|exact Nat.zero_add _|exact rfl|refine rxid ?_|assumption|omega|exact ⟨rfl⟩|exact ⟨rfl,_,_,rfl,rfl⟩|exact lb rfl|(refine Bd.mk ?_;first|assumption|omega|(focus (simp;done))|(simp;omega)|decide)|exact set_at ‹_›|exact set_at (set_at ‹_›)|(focus (refine ⟨rfl,_,_,rfl,?_⟩;omega))|(focus (simp;done))|(simp;omega)|(simp only [lA,lB,lC,lD,lE];omega)|exact newsAll rfl (by first|rfl|(simp;done)|(simp only [lA,lB,lC,lD,lE];omega))))|(apply xPick;exact rfl;exact rfl;(first|assumption|exact dT ‹_›|exact dF ‹_›|exact rfl);exact rfl;exact rfl)|(apply xSkip;(iterate 5 exact rfl);(first|assumption|exact dT ‹_›|exact dF ‹_›|exact rfl))|(apply xSkipN;(iterate 5 exact rfl))|apply rx_end|(refine rx_endD ?_ ?_;kernel_rfl)|apply AWp.seq|apply thenK_normal|apply AWp.reg|apply AWp.block|apply AWp.skip|apply AWp.label|apply AWp.exit|apply AWp.ret|apply thenK_exit|apply thenK_ret|apply blockK_normal|apply blockK_ret|apply blockK_exit|(refine AWp.regD ?_ ?_;kernel_rfl)|(refine blockK_other rfl ?_)|(apply AWp.condT;exact rfl;(first|assumption|exact dT ‹_›|exact dF ‹_›|exact rfl))|(apply AWp.condF;exact rfl;(first|assumption|exact dT ‹_›|exact dF ‹_›|exact rfl))|(apply rx_callA;(iterate 6 exact rfl);(iterate 2 (focus (repeat (first|exact VAs.nil|apply VAs.cons|apply VA.c|apply VA.agg|exact VCs.nil|(apply VCs.same;assumption)|apply VCs.cons|exact VC.imm (Imm.v _)|exact VC.imm (Imm.sl _)|exact VC.imm (Imm.ip _)|exact VC.imm ‹_›|exact VC.nil|apply VC.fn|(refine VC.ptrA rfl rfl rfl rfl ?_;(repeat (first|assumption|exact imm_no|exact Imm.v _|exact Imm.sl _|exact Imm.ip _|exact Imm.nil|exact Imm.fn0 _|refine imm_cons ?_ ?_|refine Imm.fn _ _ ?_)))|(apply VC.refA;exact rfl;exact rfl;(first|exact rfl|(focus (simp;done))|omega|(focus (simp only [lA,lB,lC,lD,lE];omega)));exact rfl;(first|assumption|(refine AllSc.imm ?_;assumption)))|assumption))));(first|exact h1|exact hd|exact hA|exact hI|exact implGreedy_yes ws hB m hk|exact hba|exact hli|exact hg2);(focus (repeat (first|exact trivial|exact Flat.v _|exact Flat.ref _ _ _|exact Flat.nil|apply And.intro)));(first|apply callK0|(apply callK1;(focus (repeat (first|exact trivial|apply And.intro|(first|exact AllSc.nil|assumption))))));(first|exact sh_1 _ _|exact sh_2 _ _ _|exact sh_r _ _ _ _|exact sh_r1 _ _ _ _ _|exact sh_n _|exact sh_n1 _ _|exact sh_ar _ _ _ _|exact sh_ar1 _ _ _ _ _|exact sh_an1 _ _|exact sh_3 _ _ _ _|exact rfl))|((first|refine rx_splitP rfl rfl rfl ?_ ?_|refine rx_split rfl rfl rfl ?_ ?_)<;>intro hp<;>(try (exfalso;omega)))|((first|refine AWp.condP rfl ?_ ?_|refine AWp.cond _ rfl ?_ ?_)<;>intro hp<;>(try (exfalso;omega)))))
  all_goals first | (exfalso; simp at *; done) | skip
  refine AWp.loop (σ := Nat) (fun k => ⟨[(4, .c (int (N + 1 : Nat))), (5, .c (int m)), (15, .c (.ref 0 0 (N + 1))), (16, .c (boo true)), (17, .c (int k))], [(0, some ⟨9, 1, (jls ws ks (N + 1)).map eStr⟩)], 1⟩) (fun k => k ≤ N + 1) (fun k => N + 1 - k) 0 (Nat.zero_le _) ?_ ?_
  · refine Weak.of [(0, some 4)] rfl ?_ ?_ <;> (repeat' (first|exact trivial|exact rfl|exact Or.inr ⟨rfl,‹_›⟩|apply And.intro|exact congrArg (Value.int .i64) (by first|omega|(simp;done)|(simp;omega))|(refine natEq ?_;first|(focus (simp;done))|omega|(simp only [lA,lB,lC,lD,lE];omega))|(refine ⟨_,rfl,rfl,rfl,OW.one ?_⟩)|(refine ⟨_,rfl,rfl,rfl,OW.same ?_ ?_⟩)|refine vwB ?_|refine vwS ?_|refine vwI ?_|refine fwB ?_|refine fwS ?_|refine fwI ?_|(refine AllSc.imm ?_;first|exact AllSc.nil|assumption)))
  · rintro k hk'
    by_cases hlt : k < N + 1
    · have hlt' : (k : Int) < ((N + 1 : Nat) : Int) := by omega
      have hx := hja k hlt
      have hx' := map_at (f := eStr) hx
      have hf2 := hfit k hlt
      generalize Lib.join (lnAt ws ks k) [32] = x at hx hx' hf2
      have hf3 : ¬ ((m : Int) < (x.length : Int)) := by omega
      (repeat' (first|(apply xW;(first|exact Want.none_ rfl|(refine wantG rfl rfl rfl rfl ?_;(first|assumption|exact dT ‹_›|exact dF ‹_›|exact rfl))))|(apply xF tabOk;exact rfl;exact rfl)|((first|(apply rx_cat;exact rfl;exact rfl)|apply rx_add|apply rx_sub|apply rx_mul|apply rx_quo|apply rx_rem|apply rx_neg|apply rx_ixS|(apply rx_ixSl;exact rfl;exact rfl)|apply rx_ixRef|(apply rx_load;exact rfl;exact rfl;exact tabOk;exact rfl;exact rfl)|apply rx_loadAgg|apply rx_build|apply rx_buildSlice|apply rx_alloc|apply rx_makeFunc|apply rx_makeSlice|(apply rx_appRef;exact rfl;exact rfl)|apply rx_appNil|(apply rx_sliceS;exact rfl;exact rfl)|(apply rx_sliceSl;exact rfl;exact rfl)|apply rx_sliceRef|apply rx_min|apply rx_max|apply rx_store)<;>(first|exact tabOk|exact Nat.zero_add _|exact rfl|refine rxid ?_|assumption|omega|exact ⟨rfl⟩|exact ⟨rfl,_,_,rfl,rfl⟩|exact lb rfl|(refine Bd.mk ?_;first|assumption|omega|(focus (simp;done))|(simp;omega)|decide)|exact set_at ‹_›|exact set_at (set_at ‹_›)|(focus (refine ⟨rfl,_,_,rfl,?_⟩;omega))|(focus (simp;done))|(simp;omega)|(simp only [lA,lB,lC,lD,lE];omega)|exact newsAll rfl (by first|rfl|(simp;done)|(simp only [lA,lB,lC,lD,lE];omega))))|(apply xPick;exact rfl;exact rfl;(first|assumption|exact dT ‹_›|exact dF ‹_›|exact rfl);exact rfl;exact rfl)|(apply xSkip;(iterate 5 exact rfl);(first|assumption|exact dT ‹_›|exact dF ‹_›|exact rfl))|(apply xSkipN;(iterate 5 exact rfl))|apply rx_end|(refine rx_endD ?_ ?_;kernel_rfl)|apply AWp.seq|apply thenK_normal|apply AWp.reg|apply AWp.block|apply AWp.skip|apply AWp.label|apply AWp.exit|apply AWp.ret|apply thenK_exit|apply thenK_ret|apply blockK_normal|apply blockK_ret|apply blockK_exit|(refine AWp.regD ?_ ?_;kernel_rfl)|(refine blockK_other rfl ?_)|(apply AWp.condT;exact rfl;(first|assumption|exact dT ‹_›|exact dF ‹_›|exact rfl))|(apply AWp.condF;exact rfl;(first|assumption|exact dT ‹_›|exact dF ‹_›|exact rfl))|((first|refine rx_splitP rfl rfl rfl ?_ ?_|refine rx_split rfl rfl rfl ?_ ?_)<;>intro hp<;>(try (exfalso;omega)))|((first|refine AWp.condP rfl ?_ ?_|refine AWp.cond _ rfl ?_ ?_)<;>intro hp<;>(try (exfalso;omega)))))
      refine ⟨k + 1, by omega, by omega, ?_⟩
      refine Weak.of [(0, some 0)] rfl ?_ ?_ <;> (repeat' (first|exact trivial|exact rfl|exact Or.inr ⟨rfl,‹_›⟩|apply And.intro|exact congrArg (Value.int .i64) (by first|omega|(simp;done)|(simp;omega))|(refine natEq ?_;first|(focus (simp;done))|omega|(simp only [lA,lB,lC,lD,lE];omega))|(refine ⟨_,rfl,rfl,rfl,OW.one ?_⟩)|(refine ⟨_,rfl,rfl,rfl,OW.same ?_ ?_⟩)|refine vwB ?_|refine vwS ?_|refine vwI ?_|refine fwB ?_|refine fwS ?_|refine fwI ?_|(refine AllSc.imm ?_;first|exact AllSc.nil|assumption)))
    · have hlt' : ¬ (k : Int) < ((N + 1 : Nat) : Int) := by omega
      (repeat' (first|(apply xW;(first|exact Want.none_ rfl|(refine wantG rfl rfl rfl rfl ?_;(first|assumption|exact dT ‹_›|exact dF ‹_›|exact rfl))))|(apply xF tabOk;exact rfl;exact rfl)|((first|(apply rx_cat;exact rfl;exact rfl)|apply rx_add|apply rx_sub|apply rx_mul|apply rx_quo|apply rx_rem|apply rx_neg|apply rx_ixS|(apply rx_ixSl;exact rfl;exact rfl)|apply rx_ixRef|(apply rx_load;exact rfl;exact rfl;exact tabOk;exact rfl;exact rfl)|apply rx_loadAgg|apply rx_build|apply rx_buildSlice|apply rx_alloc|apply rx_makeFunc|apply rx_makeSlice|(apply rx_appRef;exact rfl;exact rfl)|apply rx_appNil|(apply rx_sliceS;exact rfl;exact rfl)|(apply rx_sliceSl;exact rfl;exact rfl)|apply rx_sliceRef|apply rx_min|apply rx_max|apply rx_store)<;>(first|exact tabOk|exact Nat.zero_add _|exact rfl|refine rxid ?_|assumption|omega|exact ⟨rfl⟩|exact ⟨rfl,_,_,rfl,rfl⟩|exact lb rfl|(refine Bd.mk ?_;first|assumption|omega|(focus (simp;done))|(simp;omega)|decide)|exact set_at ‹_›|exact set_at (set_at ‹_›)|(focus (refine ⟨rfl,_,_,rfl,?_⟩;omega))|(focus (simp;done))|(simp;omega)|(simp only [lA,lB,lC,lD,lE];omega)|exact newsAll rfl (by first|rfl|(simp;done)|(simp only [lA,lB,lC,lD,lE];omega))))|(apply xPick;exact rfl;exact rfl;(first|assumption|exact dT ‹_›|exact dF ‹_›|exact rfl);exact rfl;exact rfl)|(apply xSkip;(iterate 5 exact rfl);(first|assumption|exact dT ‹_›|exact dF ‹_›|exact rfl))|(apply xSkipN;(iterate 5 exact rfl))|apply rx_end|(refine rx_endD ?_ ?_;kernel_rfl)|apply AWp.seq|apply thenK_normal|apply AWp.reg|apply AWp.block|apply AWp.skip|apply AWp.label|apply AWp.exit|apply AWp.ret|apply thenK_exit|apply thenK_ret|apply blockK_normal|apply blockK_ret|apply blockK_exit|(refine AWp.regD ?_ ?_;kernel_rfl)|(refine blockK_other rfl ?_)|(apply AWp.condT;exact rfl;(first|assumption|exact dT ‹_›|exact dF ‹_›|exact rfl))|(apply AWp.condF;exact rfl;(first|assumption|exact dT ‹_›|exact dF ‹_›|exact rfl))|((first|refine rx_splitP rfl rfl rfl ?_ ?_|refine rx_split rfl rfl rfl ?_ ?_)<;>intro hp<;>(try (exfalso;omega)))|((first|refine AWp.condP rfl ?_ ?_|refine AWp.cond _ rfl ?_ ?_)<;>intro hp<;>(try (exfalso;omega)))))
      ((first|refine ret_ret _ [] (.cons (rv_tmp rfl) .nil) ?_ rfl ?_|refine ret_end _ [] (.cons (rv_tmp rfl) .nil) ?_ rfl ?_) <;> (repeat' (first|exact trivial|exact rfl|exact Or.inr ⟨rfl,‹_›⟩|apply And.intro|exact congrArg (Value.int .i64) (by first|omega|(simp;done)|(simp;omega))|(refine natEq ?_;first|(focus (simp;done))|omega|(simp only [lA,lB,lC,lD,lE];omega))|(refine ⟨_,rfl,rfl,rfl,OW.one ?_⟩)|(refine ⟨_,rfl,rfl,rfl,OW.same ?_ ?_⟩)|refine vwB ?_|refine vwS ?_|refine vwI ?_|refine fwB ?_|refine fwS ?_|refine fwI ?_|(refine AllSc.imm ?_;first|exact AllSc.nil|assumption))))
      all_goals exact decide_eq_true rfl
end
theorem lawLinesWidth_pf (code : List UInt8) (hc : code.length ≤ 9223372036854775807) : PF Try.prog 9 [.c (.sl (code.map byteC))] [] (.c (boo true)) := by
  by_cases hb : 65536 < code.length
  · exact lwi_big code hc hb
  · have hd := drawMW_pf code (by omega)
    have hB := drL_B code c00
    generalize drL code c00 = ws at hd hB
    generalize pkV code (drC code c00) 6 = n at hd
    have hA := specMin_pf ws n hB
    have hI := implMin_pf ws n hB
    cases hm : mwB ws n with
    | false =>
      rw [hm] at hA hI
      exact lwi_no code (by omega) ws n hd _ hA hI
    | true =>
      rw [hm] at hA hI
      simp only [mwB, Bool.and_eq_true] at hm
      obtain ⟨hok, hs⟩ := hm
      obtain ⟨m, hmw⟩ := Option.isSome_iff_exists.1 hs
      have hv : mwV ws n = (m : Int) := by rw [mwV, hok, if_pos rfl, hmw]; rfl
      rw [hv] at hA hI
      obtain ⟨h1, h2, h3, h4⟩ := mwF_some hmw
      simp only [mwOk, Bool.and_eq_true, decide_eq_true_eq] at hok
      obtain ⟨hwo, hn1⟩ := hok
      simp only [goodW, Bool.and_eq_true, decide_eq_true_eq] at h3
      obtain ⟨h5, h6⟩ := h3
      have hk : fitsOk ws m = true := by
        simp only [fitsOk, hwo, h5, inZ, Bool.true_and, Bool.and_true, decide_eq_true_eq]; omega
      have hbl : blOk ws n = false ∨ ∃ N : Nat, n = (N + 1 : Nat) ∧ N < ws.length := by
        by_cases h : n ≤ ws.length
        · exact .inr ⟨n.toNat - 1, by omega, by omega⟩
        · left
          simp only [blOk, hwo, Bool.true_and, inZ, decide_eq_false_iff_not]; omega
      have h80 : m ≤ 80 := by omega
      rcases Nat.eq_or_lt_of_le h1 with hm1 | hm1
      · rcases hbl with hbl | ⟨N, hn, hN⟩
        · exact lwi_a_no code (by omega) ws n hB hd m hA hI hk h6 hm1.symm hbl
        · exact lwi_a_yes code (by omega) ws n hB hd m hA hI hk h6 hm1.symm N hn hN
      · cases hk1 : fitsOk ws ((m : Int) - 1) with
        | false =>
          rcases hbl with hbl | ⟨N, hn, hN⟩
          · exact lwi_b_no code (by omega) ws n hB hd m hA hI h1 h80 hk h6 hm1 hk1 hbl
          · exact lwi_b_yes code (by omega) ws n hB hd m hA hI h1 h80 hk h6 hm1 hk1 N hn hN
        | true =>
          have hmm : (m : Int) - 1 = ((m - 1 : Nat) : Int) := by omega
          rw [hmm] at hk1
          have hgt : n < ((greedy (lens ws) (m - 1)).length : Int) := by
            have h7 := h4 (m - 1) (by omega) (by omega)
            have h8 := hk1
            simp only [fitsOk, Bool.and_eq_true] at h8
            simp only [goodW, h8.2, Bool.true_and, decide_eq_false_iff_not] at h7
            omega
          rcases hbl with hbl | ⟨N, hn, hN⟩
          · exact lwi_c_no code (by omega) ws n hB hd m hA hI h1 h80 hk h6 (m - 1) (by omega) (by omega) hk1 hgt hbl
          · exact lwi_c_yes code (by omega) ws n hB hd m hA hI h1 h80 hk h6 (m - 1) (by omega) (by omega) hk1 hgt N hn hN
end Go.Proofs.Ytfebalahfhkeaaa
