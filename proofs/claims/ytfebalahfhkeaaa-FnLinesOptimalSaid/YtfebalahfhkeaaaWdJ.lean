/- FnLinesGreedy returns true; and what first fit keeps. No conditions but the bounds that every argument keeps. -/
import Derived.Test.YtfebalahfhkeaaaWdN
import Derived.Test.YtfebalahfhkeaaaWdF
import Derived.Test.YtfebalahfhkeaaaWdR
namespace Go.Proofs.Ytfebalahfhkeaaa
open Go Go.RowKit
section
variable {ls : List Nat} {w : Nat}
theorem gr_zero : ∀ i, (gr ls w (i + 1))[0]? = some 0
  | 0 => by simp [gr]
  | i + 1 => by
    have ih := gr_zero i
    rw [gr]
    split
    · rw [List.getElem?_append_left (by have := (List.getElem?_eq_some_iff.1 ih).1; omega)]; exact ih
    · exact ih
theorem gr_lt : ∀ i (j k : Nat), (gr ls w i)[j]? = some k → k < i
  | 0, j, k, h => by simp [gr] at h
  | i + 1, j, k, h => by
    have ih := gr_lt i j k
    rw [gr] at h
    split at h
    · rcases Nat.lt_or_ge j (gr ls w i).length with hj | hj
      · rw [List.getElem?_append_left hj] at h
        have := ih h; omega
      · rw [List.getElem?_append_right hj] at h
        have h2 := List.mem_of_getElem? h
        simp at h2; omega
    · have := ih h; omega
theorem gr_asc : ∀ i (j a b : Nat), (gr ls w i)[j]? = some a → (gr ls w i)[j + 1]? = some b → a < b
  | 0, j, a, b, h, _ => by simp [gr] at h
  | i + 1, j, a, b, h, h' => by
    have ih := gr_asc i j a b
    rw [gr] at h h'
    split at h
    · rename_i hc
      rw [if_pos hc] at h'
      rcases Nat.lt_or_ge (j + 1) (gr ls w i).length with hj | hj
      · rw [List.getElem?_append_left hj] at h'
        rw [List.getElem?_append_left (by omega)] at h
        exact ih h h'
      · rw [List.getElem?_append_right hj] at h'
        have h2 := List.mem_of_getElem? h'
        have hl := (List.getElem?_eq_some_iff.1 h').1
        simp at h2 hl
        rw [List.getElem?_append_left (by omega)] at h
        have := gr_lt i j a h
        omega
    · rename_i hc
      rw [if_neg hc] at h'
      exact ih h h'
theorem greedy_asc : Asc (greedy ls w) ls.length := by
  refine ⟨gr_lt _, gr_asc _, gr_len _, ?_⟩
  rcases Nat.eq_zero_or_pos ls.length with h | h
  · exact .inl h
  · right
    obtain ⟨n, hn⟩ : ∃ n, ls.length = n + 1 := ⟨ls.length - 1, by omega⟩
    rw [greedy, hn]
    exact gr_zero n
/-- each line of the first i words fits -/
theorem gr_fits (hf : ∀ j, j < ls.length → len ls j (j + 1) ≤ w) : ∀ i, i ≤ ls.length → ∀ j k, (gr ls w i)[j]? = some k → len ls k (endAt (gr ls w i) i j) ≤ w
  | 0, _, j, k, h => by simp [gr] at h
  | i + 1, hi, j, k, h => by
    have ih := gr_fits hf i (by omega) j k
    rw [gr] at h ⊢
    split at h
    · rename_i hc
      rw [if_pos hc]
      rcases Nat.lt_or_ge j (gr ls w i).length with hj | hj
      · rw [List.getElem?_append_left hj] at h
        have h1 := ih h
        rcases Nat.lt_or_ge (j + 1) (gr ls w i).length with hj2 | hj2
        · have e : endAt (gr ls w i ++ [i]) (i + 1) j = endAt (gr ls w i) i j := by
            rw [endAt, endAt, List.getElem?_append_left hj2, List.getElem?_eq_getElem hj2]; rfl
          rw [e]; exact h1
        · have e2 : j + 1 = (gr ls w i).length := by omega
          have e : endAt (gr ls w i ++ [i]) (i + 1) j = i := by
            rw [endAt, e2, List.getElem?_append_right (Nat.le_refl _)]; simp
          rw [e]
          rw [endAt_last hj2] at h1
          exact h1
      · rw [List.getElem?_append_right hj] at h
        have hl := (List.getElem?_eq_some_iff.1 h).1
        simp at hl
        have e : j = (gr ls w i).length := by omega
        subst e
        simp at h
        subst h
        rw [endAt_last (by simp)]
        exact hf i (by omega)
    · rename_i hc
      rw [if_neg hc]
      have h1 := ih h
      have hjl := (List.getElem?_eq_some_iff.1 h).1
      rcases Nat.lt_or_ge (j + 1) (gr ls w i).length with hj2 | hj2
      · have e : endAt (gr ls w i) (i + 1) j = endAt (gr ls w i) i j := by
          rw [endAt, endAt, List.getElem?_eq_getElem hj2]; rfl
        rw [e]; exact h1
      · rw [endAt_last hj2]
        have hl : (gr ls w i).getLastD 0 = k := by
          have e3 : (gr ls w i).length = j + 1 := by omega
          have := last_at e3
          rw [h] at this
          exact (Option.some.inj this).symm
        rw [hl] at hc
        omega
theorem greedy_fits (hf : ∀ j, j < ls.length → len ls j (j + 1) ≤ w) {j k : Nat} (h : (greedy ls w)[j]? = some k) : len ls k (endAt (greedy ls w) ls.length j) ≤ w := gr_fits hf _ (Nat.le_refl _) j k h
/-- a break that fits, from word i on -/
theorem run_sp (hf : ∀ j, j < ls.length → len ls j (j + 1) ≤ w) : ∀ {f i : Nat}, i < ls.length → ls.length ≤ i + f → Sp ls w (run ls w f i).length i := by
  intro f
  induction f with
  | zero => intro i h1 h2; omega
  | succ f ih =>
    intro i hi hfi
    obtain ⟨h1, h2, h3, _⟩ := nx_spec hf hi
    rw [run_lt hi, List.length_cons]
    have hw : len ls i (nx ls w i) ≤ w := by
      rw [goodK, Bool.and_eq_true, decide_eq_true_eq] at h3
      have h4 := h3.1
      rw [lineC] at h4
      split at h4
      · omega
      · omega
    refine ⟨nx ls w i, h1, h2, hw, ?_⟩
    rcases Nat.lt_or_ge (nx ls w i) ls.length with h | h
    · exact ih h (by omega)
    · rw [run_ge (by omega)]
      show nx ls w i = ls.length
      omega
theorem path_sp (hf : ∀ j, j < ls.length → len ls j (j + 1) ≤ w) : Sp ls w (path ls w).length 0 := by
  rcases Nat.eq_zero_or_pos ls.length with h | h
  · rw [path, run_ge (by omega)]; exact h.symm
  · exact run_sp hf h (by omega)
/-- first fit is fewest -/
theorem greedy_least (hf : ∀ j, j < ls.length → len ls j (j + 1) ≤ w) {m : Nat} (h : Sp ls w m 0) : (greedy ls w).length ≤ m := by
  rcases Nat.eq_zero_or_pos ls.length with h0 | h0
  · rw [greedy, h0]; exact Nat.zero_le _
  · obtain ⟨s, hs⟩ := h.br h0
    have := gr_best (Nat.le_refl _) hs
    rw [greedy]
    omega
theorem greedy_path (hf : ∀ j, j < ls.length → len ls j (j + 1) ≤ w) : (greedy ls w).length ≤ (path ls w).length := greedy_least hf (path_sp hf)
theorem nI_stOk {ks : List Nat} {n : Nat} (h : Asc ks n) : stOk (nI ks) n = true := by
  rcases h.zero with h0 | h0
  · subst h0
    have hc := h.cnt
    have e : ks = [] := List.length_eq_zero_iff.1 (by omega)
    subst e
    rfl
  · have hn : 0 < n := h.lt 0 0 h0 |> fun x => by omega
    have hne : (n == 0) = false := by simp; omega
    rw [stOk, hne, cond_false, Bool.and_eq_true]
    refine ⟨?_, ?_⟩
    · cases ks with
      | nil => simp at h0
      | cons a r => simp at h0; subst h0; rfl
    · rw [rise, List.all_eq_true]
      intro j hj
      have hjl : j < ks.length := by simpa [nI] using hj
      have hx : (nI ks)[j]? = some ((ks[j] : Nat) : Int) := by simp [nI, hjl]
      have h1 := h.lt j ks[j] (List.getElem?_eq_getElem hjl)
      cases j with
      | zero => rw [riseAt_zero hx]; simp; omega
      | succ j =>
        have hy : (nI ks)[j]? = some ((ks[j] : Nat) : Int) := by simp [nI, show j < ks.length by omega]
        have h2 := h.asc j ks[j] ks[j + 1] (List.getElem?_eq_getElem (by omega)) (List.getElem?_eq_getElem hjl)
        rw [riseAt_succ hx hy]
        simp; omega
end
theorem drL_len (code : List UInt8) (c : Cur) : (drL code c).length ≤ 41 := by
  have h := dnV_le code c
  rw [drL, dwL_len]; exact h
theorem drL_B (code : List UInt8) (c : Cur) : StrB (drL code c) := by
  have h := drL_len code c
  refine ⟨by omega, fun l hl => ?_⟩
  have := dwL_le code _ _ l (by rw [drL] at hl; exact hl)
  omega
theorem jls_at {ws : List (List UInt8)} {ks : List Nat} {j : Nat} (h : j < ks.length) : (jls ws ks ks.length)[j]? = some (Lib.join (lnAt ws ks j) [32]) := by
  rw [jls, List.getElem?_map, lns_at h]; rfl
theorem jls_fit {ws : List (List UInt8)} {n j : Nat} (hf : ∀ j, j < (lens ws).length → len (lens ws) j (j + 1) ≤ n) (hj : j < (greedy (lens ws) n).length) : (Lib.join (lnAt ws (greedy (lens ws) n) j) [32]).length ≤ n := by
  have hk := List.getElem?_eq_getElem hj
  have h := greedy_fits hf hk
  rw [join_length, lnAt, lens_segW, hk]
  rw [show (lens ws).length = ws.length from List.length_map _] at h
  exact h
section
variable (code : List UInt8)
theorem lgr_big (hc : code.length ≤ 9223372036854775807) (hb : 65536 < code.length) : PF Try.prog 11 [.c (.sl (code.map byteC))] [] (.c (boo true)) := by
  have h1 := rBig_pf code hc
  rw [decide_eq_true (by omega)] at h1
  refine PF.enter (enum1 _) Try.func11 rfl (by kernel_rfl) _ _ rfl rfl rfl (fun w0 mu I0 β0 => ?_)
  (repeat' (first|(apply xW;(first|exact Want.none_ rfl|(refine wantG rfl rfl rfl rfl ?_;(first|assumption|exact dT ‹_›|exact dF ‹_›|exact rfl))))|(apply xF tabOk;exact rfl;exact rfl)|((first|(apply rx_cat;exact rfl;exact rfl)|apply rx_add|apply rx_sub|apply rx_mul|apply rx_quo|apply rx_rem|apply rx_neg|apply rx_ixS|(apply rx_ixSl;exact rfl;exact rfl)|apply rx_ixRef|(apply rx_load;exact rfl;exact rfl;exact tabOk;exact rfl;exact rfl)|apply rx_loadAgg|apply rx_build|apply rx_buildSlice|apply rx_alloc|apply rx_makeFunc|apply rx_makeSlice|(apply rx_appRef;exact rfl;exact rfl)|apply rx_appNil|(apply rx_sliceS;exact rfl;exact rfl)|(apply rx_sliceSl;exact rfl;exact rfl)|apply rx_sliceRef|apply rx_min|apply rx_max|apply rx_store)<;>(first|exact tabOk|exact Nat.zero_add _|exact rfl|refine rxid ?_|assumption|omega|exact ⟨rfl⟩|exact ⟨rfl,_,_,rfl,rfl⟩|exact lb rfl|(refine Bd.mk ?_;first|assumption|omega|(focus (simp;done))|(simp;omega)|decide)|exact set_at ‹_›|exact set_at (set_at ‹_›)|(focus (refine ⟨rfl,_,_,rfl,?_⟩;omega))|(focus (simp;done))|(simp;omega)|(simp only [lA,lB,lC,lD,lE];omega)|exact newsAll rfl (by first|rfl|(simp;done)|(simp only [lA,lB,lC,lD,lE];omega))))|(apply xPick;exact rfl;exact rfl;(first|assumption|exact dT ‹_›|exact dF ‹_›|exact rfl);exact rfl;exact rfl)|(apply xSkip;(iterate 5 exact rfl);(first|assumption|exact dT ‹_›|exact dF ‹_›|exact rfl))|(apply xSkipN;(iterate 5 exact rfl))|apply rx_end|(refine rx_endD ?_ ?_;kernel_rfl)|apply AWp.seq|apply thenK_normal|apply AWp.reg|apply AWp.block|apply AWp.skip|apply AWp.label|apply AWp.exit|apply AWp.ret|apply thenK_exit|apply thenK_ret|apply blockK_normal|apply blockK_ret|apply blockK_exit|(refine AWp.regD ?_ ?_;kernel_rfl)|(refine blockK_other rfl ?_)|(apply AWp.condT;exact rfl;(first|assumption|exact dT ‹_›|exact dF ‹_›|exact rfl))|(apply AWp.condF;exact rfl;(first|assumption|exact dT ‹_›|exact dF ‹_›|exact rfl))|(apply rx_callA;(iterate 6 exact rfl);(iterate 2 (focus (repeat (first|exact VAs.nil|apply VAs.cons|apply VA.c|apply VA.agg|exact VCs.nil|(apply VCs.same;assumption)|apply VCs.cons|exact VC.imm (Imm.v _)|exact VC.imm (Imm.sl _)|exact VC.imm (Imm.ip _)|exact VC.imm ‹_›|exact VC.nil|apply VC.fn|(refine VC.ptrA rfl rfl rfl rfl ?_;(repeat (first|assumption|exact imm_no|exact Imm.v _|exact Imm.sl _|exact Imm.ip _|exact Imm.nil|exact Imm.fn0 _|refine imm_cons ?_ ?_|refine Imm.fn _ _ ?_)))|(apply VC.refA;exact rfl;exact rfl;(first|exact rfl|(focus (simp;done))|omega|(focus (simp only [lA,lB,lC,lD,lE];omega)));exact rfl;(first|assumption|(refine AllSc.imm ?_;assumption)))|assumption))));(first|exact h1);(focus (repeat (first|exact trivial|exact Flat.v _|exact Flat.ref _ _ _|exact Flat.nil|apply And.intro)));(first|apply callK0|(apply callK1;(focus (repeat (first|exact trivial|apply And.intro|(first|exact AllSc.nil|assumption))))));(first|exact sh_1 _ _|exact sh_2 _ _ _|exact sh_r _ _ _ _|exact sh_r1 _ _ _ _ _|exact sh_n _|exact sh_n1 _ _|exact sh_ar _ _ _ _|exact sh_ar1 _ _ _ _ _|exact sh_an1 _ _|exact sh_3 _ _ _ _|exact rfl))|((first|refine rx_splitP rfl rfl rfl ?_ ?_|refine rx_split rfl rfl rfl ?_ ?_)<;>intro hp<;>(try (exfalso;omega)))|((first|refine AWp.condP rfl ?_ ?_|refine AWp.cond _ rfl ?_ ?_)<;>intro hp<;>(try (exfalso;omega)))))
  ((first|refine ret_ret _ [] (.cons (rv_tmp rfl) .nil) ?_ rfl ?_|refine ret_end _ [] (.cons (rv_tmp rfl) .nil) ?_ rfl ?_) <;> (repeat' (first|exact trivial|exact rfl|exact Or.inr ⟨rfl,‹_›⟩|apply And.intro|exact congrArg (Value.int .i64) (by first|omega|(simp;done)|(simp;omega))|(refine natEq ?_;first|(focus (simp;done))|omega|(simp only [lA,lB,lC,lD,lE];omega))|(refine ⟨_,rfl,rfl,rfl,OW.one ?_⟩)|(refine ⟨_,rfl,rfl,rfl,OW.same ?_ ?_⟩)|refine vwB ?_|refine vwS ?_|refine vwI ?_|refine fwB ?_|refine fwS ?_|refine fwI ?_|(refine AllSc.imm ?_;first|exact AllSc.nil|assumption))))
variable (hl : code.length ≤ 65536)
include hl
theorem lgr_no (ws : List (List UInt8)) (w : Int) (hB : StrB ws) (hd : PF Try.prog 38 [.c (.sl (code.map byteC))] [⟨9, 1, ws.map eStr⟩] (.tup [.c (.ref 0 0 ws.length), .c (int w)])) (hk : fitsOk ws w = false) : PF Try.prog 11 [.c (.sl (code.map byteC))] [] (.c (boo true)) := by
  have h1 := rBig_pf code (by omega)
  rw [decide_eq_false (by omega)] at h1
  have hsc := strs_sc ws
  refine PF.enter (enum1 _) Try.func11 rfl (by kernel_rfl) _ _ rfl rfl rfl (fun w0 mu I0 β0 => ?_)
  (repeat' (first|(apply xW;(first|exact Want.none_ rfl|(refine wantG rfl rfl rfl rfl ?_;(first|assumption|exact dT ‹_›|exact dF ‹_›|exact rfl))))|(apply xF tabOk;exact rfl;exact rfl)|((first|(apply rx_cat;exact rfl;exact rfl)|apply rx_add|apply rx_sub|apply rx_mul|apply rx_quo|apply rx_rem|apply rx_neg|apply rx_ixS|(apply rx_ixSl;exact rfl;exact rfl)|apply rx_ixRef|(apply rx_load;exact rfl;exact rfl;exact tabOk;exact rfl;exact rfl)|apply rx_loadAgg|apply rx_build|apply rx_buildSlice|apply rx_alloc|apply rx_makeFunc|apply rx_makeSlice|(apply rx_appRef;exact rfl;exact rfl)|apply rx_appNil|(apply rx_sliceS;exact rfl;exact rfl)|(apply rx_sliceSl;exact rfl;exact rfl)|apply rx_sliceRef|apply rx_min|apply rx_max|apply rx_store)<;>(first|exact tabOk|exact Nat.zero_add _|exact rfl|refine rxid ?_|assumption|omega|exact ⟨rfl⟩|exact ⟨rfl,_,_,rfl,rfl⟩|exact lb rfl|(refine Bd.mk ?_;first|assumption|omega|(focus (simp;done))|(simp;omega)|decide)|exact set_at ‹_›|exact set_at (set_at ‹_›)|(focus (refine ⟨rfl,_,_,rfl,?_⟩;omega))|(focus (simp;done))|(simp;omega)|(simp only [lA,lB,lC,lD,lE];omega)|exact newsAll rfl (by first|rfl|(simp;done)|(simp only [lA,lB,lC,lD,lE];omega))))|(apply xPick;exact rfl;exact rfl;(first|assumption|exact dT ‹_›|exact dF ‹_›|exact rfl);exact rfl;exact rfl)|(apply xSkip;(iterate 5 exact rfl);(first|assumption|exact dT ‹_›|exact dF ‹_›|exact rfl))|(apply xSkipN;(iterate 5 exact rfl))|apply rx_end|(refine rx_endD ?_ ?_;kernel_rfl)|apply AWp.seq|apply thenK_normal|apply AWp.reg|apply AWp.block|apply AWp.skip|apply AWp.label|apply AWp.exit|apply AWp.ret|apply thenK_exit|apply thenK_ret|apply blockK_normal|apply blockK_ret|apply blockK_exit|(refine AWp.regD ?_ ?_;kernel_rfl)|(refine blockK_other rfl ?_)|(apply AWp.condT;exact rfl;(first|assumption|exact dT ‹_›|exact dF ‹_›|exact rfl))|(apply AWp.condF;exact rfl;(first|assumption|exact dT ‹_›|exact dF ‹_›|exact rfl))|(apply rx_callA;(iterate 6 exact rfl);(iterate 2 (focus (repeat (first|exact VAs.nil|apply VAs.cons|apply VA.c|apply VA.agg|exact VCs.nil|(apply VCs.same;assumption)|apply VCs.cons|exact VC.imm (Imm.v _)|exact VC.imm (Imm.sl _)|exact VC.imm (Imm.ip _)|exact VC.imm ‹_›|exact VC.nil|apply VC.fn|(refine VC.ptrA rfl rfl rfl rfl ?_;(repeat (first|assumption|exact imm_no|exact Imm.v _|exact Imm.sl _|exact Imm.ip _|exact Imm.nil|exact Imm.fn0 _|refine imm_cons ?_ ?_|refine Imm.fn _ _ ?_)))|(apply VC.refA;exact rfl;exact rfl;(first|exact rfl|(focus (simp;done))|omega|(focus (simp only [lA,lB,lC,lD,lE];omega)));exact rfl;(first|assumption|(refine AllSc.imm ?_;assumption)))|assumption))));(first|exact h1|exact hd|exact specGreedy_no ws hB w hk|exact implGreedy_no ws hB w hk|exact rInts_pf [] (by simp));(focus (repeat (first|exact trivial|exact Flat.v _|exact Flat.ref _ _ _|exact Flat.nil|apply And.intro)));(first|apply callK0|(apply callK1;(focus (repeat (first|exact trivial|apply And.intro|(first|exact AllSc.nil|assumption))))));(first|exact sh_1 _ _|exact sh_2 _ _ _|exact sh_r _ _ _ _|exact sh_r1 _ _ _ _ _|exact sh_n _|exact sh_n1 _ _|exact sh_ar _ _ _ _|exact sh_ar1 _ _ _ _ _|exact sh_an1 _ _|exact sh_3 _ _ _ _|exact rfl))|((first|refine rx_splitP rfl rfl rfl ?_ ?_|refine rx_split rfl rfl rfl ?_ ?_)<;>intro hp<;>(try (exfalso;omega)))|((first|refine AWp.condP rfl ?_ ?_|refine AWp.cond _ rfl ?_ ?_)<;>intro hp<;>(try (exfalso;omega)))))
  all_goals
    ((first|refine ret_ret _ [] (.cons (rv_tmp rfl) .nil) ?_ rfl ?_|refine ret_end _ [] (.cons (rv_tmp rfl) .nil) ?_ rfl ?_) <;> (repeat' (first|exact trivial|exact rfl|exact Or.inr ⟨rfl,‹_›⟩|apply And.intro|exact congrArg (Value.int .i64) (by first|omega|(simp;done)|(simp;omega))|(refine natEq ?_;first|(focus (simp;done))|omega|(simp only [lA,lB,lC,lD,lE];omega))|(refine ⟨_,rfl,rfl,rfl,OW.one ?_⟩)|(refine ⟨_,rfl,rfl,rfl,OW.same ?_ ?_⟩)|refine vwB ?_|refine vwS ?_|refine vwI ?_|refine fwB ?_|refine fwS ?_|refine fwI ?_|(refine AllSc.imm ?_;first|exact AllSc.nil|assumption))))
theorem lgr_yes (ws : List (List UInt8)) (n : Nat) (hB : StrB ws) (hd : PF Try.prog 38 [.c (.sl (code.map byteC))] [⟨9, 1, ws.map eStr⟩] (.tup [.c (.ref 0 0 ws.length), .c (int n)])) (hk : fitsOk ws n = true) : PF Try.prog 11 [.c (.sl (code.map byteC))] [] (.c (boo true)) := by
  have h1 := rBig_pf code (by omega)
  rw [decide_eq_false (by omega)] at h1
  have hsc := strs_sc ws
  obtain ⟨hwo, _, hnn, _, _, hfx⟩ := fitsOk_parts hk
  obtain rfl := Int.ofNat.inj hnn
  have hf := fits_all hfx
  have h40 := (wordsOk_WB hwo).cnt
  have hLl : (lens ws).length = ws.length := List.length_map _
  have hasc : Asc (greedy (lens ws) n) ws.length := by rw [← hLl]; exact greedy_asc
  have hgc := hasc.cnt
  have hnl : (nI (greedy (lens ws) n)).length = (greedy (lens ws) n).length := List.length_map _
  have hpl := run_len (ls := lens ws) (w := n) (lens ws).length 0
  have hpl2 : (path (lens ws) n).length ≤ 40 := by rw [path]; omega
  have hnp : (nI (path (lens ws) n)).length = (path (lens ws) n).length := List.length_map _
  have hla : laOk ws (nI (greedy (lens ws) n)) = true := by rw [laOk, hwo, nI_stOk hasc]; rfl
  have hgp := greedy_path hf
  have hgp' : ((greedy (lens ws) n).length : Int) ≤ ((path (lens ws) n).length : Int) := by omega
  have hs1 := ints_sc (nI (greedy (lens ws) n))
  have hs2 := ints_sc (nI (path (lens ws) n))
  have hjl := jls_len ws (greedy (lens ws) n) (greedy (lens ws) n).length
  have hs3 := strs_sc (jls ws (greedy (lens ws) n) (greedy (lens ws) n).length)
  refine PF.enter (enum1 _) Try.func11 rfl (by kernel_rfl) _ _ rfl rfl rfl (fun w0 mu I0 β0 => ?_)
  (repeat' (first|(apply xW;(first|exact Want.none_ rfl|(refine wantG rfl rfl rfl rfl ?_;(first|assumption|exact dT ‹_›|exact dF ‹_›|exact rfl))))|(apply xF tabOk;exact rfl;exact rfl)|((first|(apply rx_cat;exact rfl;exact rfl)|apply rx_add|apply rx_sub|apply rx_mul|apply rx_quo|apply rx_rem|apply rx_neg|apply rx_ixS|(apply rx_ixSl;exact rfl;exact rfl)|apply rx_ixRef|(apply rx_load;exact rfl;exact rfl;exact tabOk;exact rfl;exact rfl)|apply rx_loadAgg|apply rx_build|apply rx_buildSlice|apply rx_alloc|apply rx_makeFunc|apply rx_makeSlice|(apply rx_appRef;exact rfl;exact rfl)|apply rx_appNil|(apply rx_sliceS;exact rfl;exact rfl)|(apply rx_sliceSl;exact rfl;exact rfl)|apply rx_sliceRef|apply rx_min|apply rx_max|apply rx_store)<;>(first|exact tabOk|exact Nat.zero_add _|exact rfl|refine rxid ?_|assumption|omega|exact ⟨rfl⟩|exact ⟨rfl,_,_,rfl,rfl⟩|exact lb rfl|(refine Bd.mk ?_;first|assumption|omega|(focus (simp;done))|(simp;omega)|decide)|exact set_at ‹_›|exact set_at (set_at ‹_›)|(focus (refine ⟨rfl,_,_,rfl,?_⟩;omega))|(focus (simp;done))|(simp;omega)|(simp only [lA,lB,lC,lD,lE];omega)|exact newsAll rfl (by first|rfl|(simp;done)|(simp only [lA,lB,lC,lD,lE];omega))))|(apply xPick;exact rfl;exact rfl;(first|assumption|exact dT ‹_›|exact dF ‹_›|exact rfl);exact rfl;exact rfl)|(apply xSkip;(iterate 5 exact rfl);(first|assumption|exact dT ‹_›|exact dF ‹_›|exact rfl))|(apply xSkipN;(iterate 5 exact rfl))|apply rx_end|(refine rx_endD ?_ ?_;kernel_rfl)|apply AWp.seq|apply thenK_normal|apply AWp.reg|apply AWp.block|apply AWp.skip|apply AWp.label|apply AWp.exit|apply AWp.ret|apply thenK_exit|apply thenK_ret|apply blockK_normal|apply blockK_ret|apply blockK_exit|(refine AWp.regD ?_ ?_;kernel_rfl)|(refine blockK_other rfl ?_)|(apply AWp.condT;exact rfl;(first|assumption|exact dT ‹_›|exact dF ‹_›|exact rfl))|(apply AWp.condF;exact rfl;(first|assumption|exact dT ‹_›|exact dF ‹_›|exact rfl))|(apply rx_callA;(iterate 6 exact rfl);(iterate 2 (focus (repeat (first|exact VAs.nil|apply VAs.cons|apply VA.c|apply VA.agg|exact VCs.nil|(apply VCs.same;assumption)|apply VCs.cons|exact VC.imm (Imm.v _)|exact VC.imm (Imm.sl _)|exact VC.imm (Imm.ip _)|exact VC.imm ‹_›|exact VC.nil|apply VC.fn|(refine VC.ptrA rfl rfl rfl rfl ?_;(repeat (first|assumption|exact imm_no|exact Imm.v _|exact Imm.sl _|exact Imm.ip _|exact Imm.nil|exact Imm.fn0 _|refine imm_cons ?_ ?_|refine Imm.fn _ _ ?_)))|(apply VC.refA;exact rfl;exact rfl;(first|exact rfl|(focus (simp;done))|omega|(focus (simp only [lA,lB,lC,lD,lE];omega)));exact rfl;(first|assumption|(refine AllSc.imm ?_;assumption)))|assumption))));(first|exact h1|exact hd|exact specGreedy_yes ws hB n hk|exact implGreedy_yes ws hB n hk|exact rInts_pf (nI (greedy (lens ws) n)) (by omega)|exact implBL_yes ws n hB hk|exact implLA_yes ws (greedy (lens ws) n) hB (by omega) hla hasc);(focus (repeat (first|exact trivial|exact Flat.v _|exact Flat.ref _ _ _|exact Flat.nil|apply And.intro)));(first|apply callK0|(apply callK1;(focus (repeat (first|exact trivial|apply And.intro|(first|exact AllSc.nil|assumption))))));(first|exact sh_1 _ _|exact sh_2 _ _ _|exact sh_r _ _ _ _|exact sh_r1 _ _ _ _ _|exact sh_n _|exact sh_n1 _ _|exact sh_ar _ _ _ _|exact sh_ar1 _ _ _ _ _|exact sh_an1 _ _|exact sh_3 _ _ _ _|exact rfl))|((first|refine rx_splitP rfl rfl rfl ?_ ?_|refine rx_split rfl rfl rfl ?_ ?_)<;>intro hp<;>(try (exfalso;omega)))|((first|refine AWp.condP rfl ?_ ?_|refine AWp.cond _ rfl ?_ ?_)<;>intro hp<;>(try (exfalso;omega)))))
  refine AWp.loop (σ := Nat) (fun k => ⟨[(0, .c (.sl (code.map byteC))), (4, .c (int n)), (5, .c (.ref 0 0 (greedy (lens ws) n).length)), (9, .c (.ref 1 0 (path (lens ws) n).length)), (10, .c (boo true)), (11, .c (.ref 2 0 (greedy (lens ws) n).length)), (12, .c (boo true)), (13, .c (int k))], [(0, some ⟨3, 1, (nI (greedy (lens ws) n)).map eInt⟩), (1, some ⟨3, 1, (nI (path (lens ws) n)).map eInt⟩), (2, some ⟨9, 1, (jls ws (greedy (lens ws) n) (greedy (lens ws) n).length).map eStr⟩)], 3⟩) (fun k => k ≤ (greedy (lens ws) n).length) (fun k => (greedy (lens ws) n).length - k) 0 (Nat.zero_le _) ?_ ?_
  · refine Weak.of [(0, some 1), (1, some 3), (2, some 4)] rfl ?_ ?_ <;> (repeat' (first|exact trivial|exact rfl|exact Or.inr ⟨rfl,‹_›⟩|apply And.intro|exact congrArg (Value.int .i64) (by first|omega|(simp;done)|(simp;omega))|(refine natEq ?_;first|(focus (simp;done))|omega|(simp only [lA,lB,lC,lD,lE];omega))|(refine ⟨_,rfl,rfl,rfl,OW.one ?_⟩)|(refine ⟨_,rfl,rfl,rfl,OW.same ?_ ?_⟩)|refine vwB ?_|refine vwS ?_|refine vwI ?_|refine fwB ?_|refine fwS ?_|refine fwI ?_|(refine AllSc.imm ?_;first|exact AllSc.nil|assumption)))
  · rintro k hk'
    by_cases hlt : k < (greedy (lens ws) n).length
    · have hlt' : (k : Int) < ((greedy (lens ws) n).length : Int) := by omega
      have hx := jls_at (ws := ws) hlt
      have hx' := map_at (f := eStr) hx
      have hfit := jls_fit hf hlt
      generalize Lib.join (lnAt ws (greedy (lens ws) n) k) [32] = x at hx hx' hfit
      have hfit' : ¬ ((n : Int) < (x.length : Int)) := by omega
      (repeat' (first|(apply xW;(first|exact Want.none_ rfl|(refine wantG rfl rfl rfl rfl ?_;(first|assumption|exact dT ‹_›|exact dF ‹_›|exact rfl))))|(apply xF tabOk;exact rfl;exact rfl)|((first|(apply rx_cat;exact rfl;exact rfl)|apply rx_add|apply rx_sub|apply rx_mul|apply rx_quo|apply rx_rem|apply rx_neg|apply rx_ixS|(apply rx_ixSl;exact rfl;exact rfl)|apply rx_ixRef|(apply rx_load;exact rfl;exact rfl;exact tabOk;exact rfl;exact rfl)|apply rx_loadAgg|apply rx_build|apply rx_buildSlice|apply rx_alloc|apply rx_makeFunc|apply rx_makeSlice|(apply rx_appRef;exact rfl;exact rfl)|apply rx_appNil|(apply rx_sliceS;exact rfl;exact rfl)|(apply rx_sliceSl;exact rfl;exact rfl)|apply rx_sliceRef|apply rx_min|apply rx_max|apply rx_store)<;>(first|exact tabOk|exact Nat.zero_add _|exact rfl|refine rxid ?_|assumption|omega|exact ⟨rfl⟩|exact ⟨rfl,_,_,rfl,rfl⟩|exact lb rfl|(refine Bd.mk ?_;first|assumption|omega|(focus (simp;done))|(simp;omega)|decide)|exact set_at ‹_›|exact set_at (set_at ‹_›)|(focus (refine ⟨rfl,_,_,rfl,?_⟩;omega))|(focus (simp;done))|(simp;omega)|(simp only [lA,lB,lC,lD,lE];omega)|exact newsAll rfl (by first|rfl|(simp;done)|(simp only [lA,lB,lC,lD,lE];omega))))|(apply xPick;exact rfl;exact rfl;(first|assumption|exact dT ‹_›|exact dF ‹_›|exact rfl);exact rfl;exact rfl)|(apply xSkip;(iterate 5 exact rfl);(first|assumption|exact dT ‹_›|exact dF ‹_›|exact rfl))|(apply xSkipN;(iterate 5 exact rfl))|apply rx_end|(refine rx_endD ?_ ?_;kernel_rfl)|apply AWp.seq|apply thenK_normal|apply AWp.reg|apply AWp.block|apply AWp.skip|apply AWp.label|apply AWp.exit|apply AWp.ret|apply thenK_exit|apply thenK_ret|apply blockK_normal|apply blockK_ret|apply blockK_exit|(refine AWp.regD ?_ ?_;kernel_rfl)|(refine blockK_other rfl ?_)|(apply AWp.condT;exact rfl;(first|assumption|exact dT ‹_›|exact dF ‹_›|exact rfl))|(apply AWp.condF;exact rfl;(first|assumption|exact dT ‹_›|exact dF ‹_›|exact rfl))|((first|refine rx_splitP rfl rfl rfl ?_ ?_|refine rx_split rfl rfl rfl ?_ ?_)<;>intro hp<;>(try (exfalso;omega)))|((first|refine AWp.condP rfl ?_ ?_|refine AWp.cond _ rfl ?_ ?_)<;>intro hp<;>(try (exfalso;omega)))))
      refine ⟨k + 1, by omega, by omega, ?_⟩
      refine Weak.of [(0, some 0), (1, some 1), (2, some 2)] rfl ?_ ?_ <;> (repeat' (first|exact trivial|exact rfl|exact Or.inr ⟨rfl,‹_›⟩|apply And.intro|exact congrArg (Value.int .i64) (by first|omega|(simp;done)|(simp;omega))|(refine natEq ?_;first|(focus (simp;done))|omega|(simp only [lA,lB,lC,lD,lE];omega))|(refine ⟨_,rfl,rfl,rfl,OW.one ?_⟩)|(refine ⟨_,rfl,rfl,rfl,OW.same ?_ ?_⟩)|refine vwB ?_|refine vwS ?_|refine vwI ?_|refine fwB ?_|refine fwS ?_|refine fwI ?_|(refine AllSc.imm ?_;first|exact AllSc.nil|assumption)))
    · have hlt' : ¬ (k : Int) < ((greedy (lens ws) n).length : Int) := by omega
      (repeat' (first|(apply xW;(first|exact Want.none_ rfl|(refine wantG rfl rfl rfl rfl ?_;(first|assumption|exact dT ‹_›|exact dF ‹_›|exact rfl))))|(apply xF tabOk;exact rfl;exact rfl)|((first|(apply rx_cat;exact rfl;exact rfl)|apply rx_add|apply rx_sub|apply rx_mul|apply rx_quo|apply rx_rem|apply rx_neg|apply rx_ixS|(apply rx_ixSl;exact rfl;exact rfl)|apply rx_ixRef|(apply rx_load;exact rfl;exact rfl;exact tabOk;exact rfl;exact rfl)|apply rx_loadAgg|apply rx_build|apply rx_buildSlice|apply rx_alloc|apply rx_makeFunc|apply rx_makeSlice|(apply rx_appRef;exact rfl;exact rfl)|apply rx_appNil|(apply rx_sliceS;exact rfl;exact rfl)|(apply rx_sliceSl;exact rfl;exact rfl)|apply rx_sliceRef|apply rx_min|apply rx_max|apply rx_store)<;>(first|exact tabOk|exact Nat.zero_add _|exact rfl|refine rxid ?_|assumption|omega|exact ⟨rfl⟩|exact ⟨rfl,_,_,rfl,rfl⟩|exact lb rfl|(refine Bd.mk ?_;first|assumption|omega|(focus (simp;done))|(simp;omega)|decide)|exact set_at ‹_›|exact set_at (set_at ‹_›)|(focus (refine ⟨rfl,_,_,rfl,?_⟩;omega))|(focus (simp;done))|(simp;omega)|(simp only [lA,lB,lC,lD,lE];omega)|exact newsAll rfl (by first|rfl|(simp;done)|(simp only [lA,lB,lC,lD,lE];omega))))|(apply xPick;exact rfl;exact rfl;(first|assumption|exact dT ‹_›|exact dF ‹_›|exact rfl);exact rfl;exact rfl)|(apply xSkip;(iterate 5 exact rfl);(first|assumption|exact dT ‹_›|exact dF ‹_›|exact rfl))|(apply xSkipN;(iterate 5 exact rfl))|apply rx_end|(refine rx_endD ?_ ?_;kernel_rfl)|apply AWp.seq|apply thenK_normal|apply AWp.reg|apply AWp.block|apply AWp.skip|apply AWp.label|apply AWp.exit|apply AWp.ret|apply thenK_exit|apply thenK_ret|apply blockK_normal|apply blockK_ret|apply blockK_exit|(refine AWp.regD ?_ ?_;kernel_rfl)|(refine blockK_other rfl ?_)|(apply AWp.condT;exact rfl;(first|assumption|exact dT ‹_›|exact dF ‹_›|exact rfl))|(apply AWp.condF;exact rfl;(first|assumption|exact dT ‹_›|exact dF ‹_›|exact rfl))|((first|refine rx_splitP rfl rfl rfl ?_ ?_|refine rx_split rfl rfl rfl ?_ ?_)<;>intro hp<;>(try (exfalso;omega)))|((first|refine AWp.condP rfl ?_ ?_|refine AWp.cond _ rfl ?_ ?_)<;>intro hp<;>(try (exfalso;omega)))))
      ((first|refine ret_ret _ [] (.cons (rv_tmp rfl) .nil) ?_ rfl ?_|refine ret_end _ [] (.cons (rv_tmp rfl) .nil) ?_ rfl ?_) <;> (repeat' (first|exact trivial|exact rfl|exact Or.inr ⟨rfl,‹_›⟩|apply And.intro|exact congrArg (Value.int .i64) (by first|omega|(simp;done)|(simp;omega))|(refine natEq ?_;first|(focus (simp;done))|omega|(simp only [lA,lB,lC,lD,lE];omega))|(refine ⟨_,rfl,rfl,rfl,OW.one ?_⟩)|(refine ⟨_,rfl,rfl,rfl,OW.same ?_ ?_⟩)|refine vwB ?_|refine vwS ?_|refine vwI ?_|refine fwB ?_|refine fwS ?_|refine fwI ?_|(refine AllSc.imm ?_;first|exact AllSc.nil|assumption))))
      all_goals exact decide_eq_true rfl
end
theorem lawLinesGreedy_pf (code : List UInt8) (hc : code.length ≤ 9223372036854775807) : PF Try.prog 11 [.c (.sl (code.map byteC))] [] (.c (boo true)) := by
  by_cases hb : 65536 < code.length
  · exact lgr_big code hc hb
  · have hd := drawGB_pf code (by omega)
    have hB := drL_B code c00
    cases hk : fitsOk (drL code c00) (wiV code (drC code c00)) with
    | false => exact lgr_no code (by omega) _ _ hB hd hk
    | true =>
      obtain ⟨_, n, hn, _⟩ := fitsOk_parts hk
      rw [hn] at hd hk
      exact lgr_yes code (by omega) _ n hB hd hk
end Go.Proofs.Ytfebalahfhkeaaa
