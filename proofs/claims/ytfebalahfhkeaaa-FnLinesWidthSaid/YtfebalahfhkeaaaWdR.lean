/- Lines by their starts, LinesAt of both programs. No conditions but bounds of lengths. -/
import Derived.Test.YtfebalahfhkeaaaWdX
namespace Go.Proofs.Ytfebalahfhkeaaa
open Go Go.RowKit
/-- strictly ascending starts of lines of n words -/
structure Asc (ks : List Nat) (n : Nat) : Prop where
  lt : ∀ (j k : Nat), ks[j]? = some k → k < n
  asc : ∀ (j a b : Nat), ks[j]? = some a → ks[j + 1]? = some b → a < b
  cnt : ks.length ≤ n
  zero : n = 0 ∨ ks[0]? = some 0
def endAt (ks : List Nat) (n j : Nat) : Nat := (ks[j + 1]?).getD n
theorem endAt_last {ks : List Nat} {n j : Nat} (h : ks.length ≤ j + 1) : endAt ks n j = n := by
  rw [endAt, List.getElem?_eq_none h]; rfl
theorem endAt_next {ks : List Nat} {n j b : Nat} (h : ks[j + 1]? = some b) : endAt ks n j = b := by
  rw [endAt, h]; rfl
theorem Asc.end {ks : List Nat} {n j k : Nat} (h : Asc ks n) (hk : ks[j]? = some k) : k < endAt ks n j ∧ endAt ks n j ≤ n := by
  have h1 := h.lt j k hk
  cases hn : ks[j + 1]? with
  | none => rw [endAt, hn]; exact ⟨h1, Nat.le_refl _⟩
  | some b =>
    rw [endAt_next hn]
    exact ⟨h.asc j k b hk hn, Nat.le_of_lt (h.lt _ _ hn)⟩
theorem stOk_nat {is : List Int} {n : Nat} (h : stOk is n = true) : ∃ ks, is = nI ks ∧ Asc ks n := by
  rcases Nat.eq_zero_or_pos n with rfl | hn
  · have e : is = [] := by simpa [stOk] using h
    subst e
    exact ⟨[], rfl, fun j k e => by simp at e, fun j a b e => by simp at e, Nat.zero_le _, .inl rfl⟩
  · rcases is with _ | ⟨a, r⟩
    · have : (n == 0) = false := by simp; omega
      simp [stOk, this] at h
    · have hne : n ≠ 0 := by omega
      rw [stOk_eq a r n hne] at h
      simp only [Bool.and_eq_true, decide_eq_true_eq] at h
      obtain ⟨h1, rfl⟩ := h
      have hge := fun (j : Nat) (y : Int) (hy : ((0 : Int) :: r)[j]? = some y) => sr_ge (x := y) rfl h1 hy
      rw [List.all_eq_true] at h1
      have hlt : ∀ (j : Nat) (y : Int), ((0 : Int) :: r)[j]? = some y → y < n := by
        intro j y hy
        have hl := (List.getElem?_eq_some_iff.1 hy).1
        have h2 := h1 j (by simpa using hl)
        rcases j with _ | j
        · rw [srAt_zero hy] at h2; simpa using h2
        · obtain ⟨z, hz⟩ := at_lt (show j < ((0 : Int) :: r).length by omega)
          rw [srAt_succ hy hz] at h2
          simp at h2; omega
      have hasc : ∀ (j : Nat) (y z : Int), ((0 : Int) :: r)[j]? = some y → ((0 : Int) :: r)[j + 1]? = some z → y < z := by
        intro j y z hy hz
        have hl := (List.getElem?_eq_some_iff.1 hz).1
        have h2 := h1 (j + 1) (by simpa using hl)
        rw [srAt_succ hz hy] at h2
        simp at h2; omega
      have hidx : ∀ (j : Nat) (y : Int), ((0 : Int) :: r)[j]? = some y → (j : Int) ≤ y := by
        intro j
        induction j with
        | zero => intro y hy; cases hy; exact Int.le_refl _
        | succ j ih =>
          intro y hy
          obtain ⟨z, hz⟩ := at_lt (show j < ((0 : Int) :: r).length by have := (List.getElem?_eq_some_iff.1 hy).1; omega)
          have := ih z hz
          have := hasc j z y hz hy
          omega
      have key : nI (((0 : Int) :: r).map Int.toNat) = (0 : Int) :: r := by
        rw [nI, List.map_map]
        conv => rhs; rw [← List.map_id ((0 : Int) :: r)]
        refine List.map_congr_left fun y hy => ?_
        obtain ⟨j, hj⟩ := List.getElem?_of_mem hy
        have := (hge j y hj).1
        simp only [Function.comp, id]
        omega
      have hat : ∀ (j k : Nat), (((0 : Int) :: r).map Int.toNat)[j]? = some k → ((0 : Int) :: r)[j]? = some (k : Int) := by
        intro j k hk
        rw [List.getElem?_map] at hk
        cases hy : ((0 : Int) :: r)[j]? with
        | none => rw [hy] at hk; cases hk
        | some y =>
          rw [hy] at hk
          cases hk
          have := (hge j y hy).1
          congr 1
          omega
      refine ⟨((0 : Int) :: r).map Int.toNat, key.symm, fun j k hk => ?_, fun j a b ha hb => ?_, ?_, .inr rfl⟩
      · have := hlt j _ (hat j k hk); omega
      · have := hasc j _ _ (hat j a ha) (hat (j + 1) b hb); omega
      · rw [List.length_map]
        obtain ⟨y, hy⟩ := at_lt (show ((0 : Int) :: r).length - 1 < ((0 : Int) :: r).length by simp)
        have := hidx _ y hy
        have := hlt _ y hy
        simp only [List.length_cons] at this ⊢
        simp only [List.length_cons] at *
        omega
/-- the words from i to j -/
def segW (ws : List (List UInt8)) (i j : Nat) : List (List UInt8) := (ws.drop i).take (j - i)
def lnAt (ws : List (List UInt8)) (ks : List Nat) (j : Nat) : List (List UInt8) := segW ws ((ks[j]?).getD 0) (endAt ks ws.length j)
def lns (ws : List (List UInt8)) (ks : List Nat) (c : Nat) : List (List (List UInt8)) := (List.range c).map (lnAt ws ks)
def eLine (l : List (List UInt8)) : List Cell := [.sl (l.map eStr)]
theorem eLine_imm (l : List (List UInt8)) : ∀ x ∈ eLine l, Imm x := by
  intro x hx
  simp only [eLine, List.mem_cons, List.not_mem_nil, or_false] at hx
  subst hx
  exact Imm.sl _
theorem lines_imm (ls : List (List (List UInt8))) : ∀ x ∈ ls.map eLine, ∀ c ∈ x, Imm c := by
  intro x hx
  obtain ⟨l, _, rfl⟩ := List.mem_map.1 hx
  exact eLine_imm l
theorem lns_succ (ws : List (List UInt8)) (ks : List Nat) (c : Nat) : lns ws ks (c + 1) = lns ws ks c ++ [lnAt ws ks c] := by simp [lns, List.range_succ]
theorem lns_len (ws : List (List UInt8)) (ks : List Nat) (c : Nat) : (lns ws ks c).length = c := by simp [lns]
theorem lns_at {ws : List (List UInt8)} {ks : List Nat} {c j : Nat} (h : j < c) : (lns ws ks c)[j]? = some (lnAt ws ks j) := by simp [lns, h]
theorem segW_WB {ws : List (List UInt8)} (h : WB ws) (i j : Nat) : WB (segW ws i j) := h.mono (by simp [segW]; omega) fun l hl => List.mem_of_mem_drop (List.mem_of_mem_take hl)
theorem lens_segW (ws : List (List UInt8)) (i j : Nat) : lineL (lens (segW ws i j)) = len (lens ws) i j := lens_drop_take ws i j
theorem linesAt_pf (ws : List (List UInt8)) (ks : List Nat) (hw : ws.length ≤ 40) (ha : Asc ks ws.length) : PF Try.prog 55 [.c (.sl (ws.map eStr)), .c (.sl ((nI ks).map eInt))] [⟨22, 1, (lns ws ks ks.length).map eLine⟩] (.c (.ref 0 0 ks.length)) := by
  have hc := ha.cnt
  have hL : ((nI ks).map eInt).length = ks.length := by simp
  have hLw : (ws.map eStr).length = ws.length := List.length_map _
  have hsl := strs_len ws
  refine PF.enter (enum2 _ _) Try.func55 rfl (by kernel_rfl) _ _ rfl rfl rfl (fun w0 mu I0 β0 => ?_)
  (repeat' (first|(apply xW;(first|exact Want.none_ rfl|(refine wantG rfl rfl rfl rfl ?_;(first|assumption|exact dT ‹_›|exact dF ‹_›|exact rfl))))|(apply xF tabOk;exact rfl;exact rfl)|((first|(apply rx_cat;exact rfl;exact rfl)|apply rx_add|apply rx_sub|apply rx_mul|apply rx_quo|apply rx_rem|apply rx_neg|apply rx_ixS|(apply rx_ixSl;exact rfl;exact rfl)|apply rx_ixRef|(apply rx_load;exact rfl;exact rfl;exact tabOk;exact rfl;exact rfl)|apply rx_loadAgg|apply rx_build|apply rx_buildSlice|apply rx_alloc|apply rx_makeFunc|apply rx_makeSlice|(apply rx_appRef;exact rfl;exact rfl)|apply rx_appNil|(apply rx_sliceS;exact rfl;exact rfl)|(apply rx_sliceSl;exact rfl;exact rfl)|apply rx_sliceRef|apply rx_min|apply rx_max|apply rx_store)<;>(first|exact tabOk|exact Nat.zero_add _|exact rfl|refine rxid ?_|assumption|omega|exact ⟨rfl⟩|exact ⟨rfl,_,_,rfl,rfl⟩|exact lb rfl|(refine Bd.mk ?_;first|assumption|omega|(focus (simp;done))|(simp;omega)|decide)|exact set_at ‹_›|exact set_at (set_at ‹_›)|(focus (refine ⟨rfl,_,_,rfl,?_⟩;omega))|(focus (simp;done))|(simp;omega)|(simp only [lA,lB,lC,lD,lE];omega)|exact newsAll rfl (by first|rfl|(simp;done)|(simp only [lA,lB,lC,lD,lE];omega))))|(apply xPick;exact rfl;exact rfl;(first|assumption|exact dT ‹_›|exact dF ‹_›|exact rfl);exact rfl;exact rfl)|(apply xSkip;(iterate 5 exact rfl);(first|assumption|exact dT ‹_›|exact dF ‹_›|exact rfl))|(apply xSkipN;(iterate 5 exact rfl))|apply rx_end|(refine rx_endD ?_ ?_;kernel_rfl)|apply AWp.seq|apply thenK_normal|apply AWp.reg|apply AWp.block|apply AWp.skip|apply AWp.label|apply AWp.exit|apply AWp.ret|apply thenK_exit|apply thenK_ret|apply blockK_normal|apply blockK_ret|apply blockK_exit|(refine AWp.regD ?_ ?_;kernel_rfl)|(refine blockK_other rfl ?_)|(apply AWp.condT;exact rfl;(first|assumption|exact dT ‹_›|exact dF ‹_›|exact rfl))|(apply AWp.condF;exact rfl;(first|assumption|exact dT ‹_›|exact dF ‹_›|exact rfl))|((first|refine rx_splitP rfl rfl rfl ?_ ?_|refine rx_split rfl rfl rfl ?_ ?_)<;>intro hp<;>(try (exfalso;omega)))|((first|refine AWp.condP rfl ?_ ?_|refine AWp.cond _ rfl ?_ ?_)<;>intro hp<;>(try (exfalso;omega)))))
  refine AWp.loop (σ := Nat) (fun k => ⟨[(0, .c (.sl (ws.map eStr))), (1, .c (.sl ((nI ks).map eInt))), (5, .c (.ref 0 0 k)), (10, .c (.sl ((nI ks).map eInt))), (11, .c (int ks.length)), (12, .c (int k))], [(0, some ⟨22, 1, (lns ws ks k).map eLine⟩)], 1⟩) (fun k => k ≤ ks.length) (fun k => ks.length - k) 0 (Nat.zero_le _) ?_ ?_
  · refine Weak.of [(0, some 0)] rfl ?_ ?_ <;> (repeat' (first|exact trivial|exact rfl|exact Or.inr ⟨rfl,‹_›⟩|apply And.intro|exact congrArg (Value.int .i64) (by first|omega|(simp;done)|(simp;omega))|(refine natEq ?_;first|(focus (simp;done))|omega|(simp only [lA,lB,lC,lD,lE];omega))|(refine ⟨_,rfl,rfl,rfl,OW.one ?_⟩)|(refine ⟨_,rfl,rfl,rfl,OW.same ?_ ?_⟩)|refine vwB ?_|refine vwS ?_|refine vwI ?_|refine fwB ?_|refine fwS ?_|refine fwI ?_|(refine AllSc.imm ?_;first|exact AllSc.nil|assumption)))
  · rintro k hk
    by_cases hlt : k < ks.length
    · obtain ⟨s, hs⟩ := at_lt hlt
      have hs' : ((nI ks).map eInt)[k]? = some (eInt s) := map_at (map_at (f := fun n : Nat => (n : Int)) hs)
      have hlt' : (k : Int) < (ks.length : Int) := by omega
      have hll := lns_len ws ks k
      obtain ⟨he1, he2⟩ := ha.end hs
      have hln : lnAt ws ks k = segW ws s (endAt ks ws.length k) := by rw [lnAt, hs]; rfl
      have hfin : (lns ws ks k).map eLine ++ [[.sl (List.take (endAt ks ws.length k - s) (List.drop s (ws.map eStr)))]] = (lns ws ks (k + 1)).map eLine := by
        rw [lns_succ, List.map_append, hln]
        simp [eLine, segW, List.map_take, List.map_drop]
      by_cases hn : k + 1 < ks.length
      · obtain ⟨b, hb⟩ := at_lt hn
        have hb' : ((nI ks).map eInt)[k + 1]? = some (eInt b) := map_at (map_at (f := fun n : Nat => (n : Int)) hb)
        have hn' : (k : Int) + 1 < (((nI ks).map eInt).length : Int) := by omega
        have hkk : (k : Int) + 1 = ((k + 1 : Nat) : Int) := by omega
        rw [endAt_next hb] at he1 he2 hfin
        (repeat' (first|(apply xW;(first|exact Want.none_ rfl|(refine wantG rfl rfl rfl rfl ?_;(first|assumption|exact dT ‹_›|exact dF ‹_›|exact rfl))))|(apply xF tabOk;exact rfl;exact rfl)|((first|(apply rx_cat;exact rfl;exact rfl)|apply rx_add|apply rx_sub|apply rx_mul|apply rx_quo|apply rx_rem|apply rx_neg|apply rx_ixS|(apply rx_ixSl;exact rfl;exact rfl)|apply rx_ixRef|(apply rx_load;exact rfl;exact rfl;exact tabOk;exact rfl;exact rfl)|apply rx_loadAgg|apply rx_build|apply rx_buildSlice|apply rx_alloc|apply rx_makeFunc|apply rx_makeSlice|(apply rx_appRef;exact rfl;exact rfl)|apply rx_appNil|(apply rx_sliceS;exact rfl;exact rfl)|(apply rx_sliceSl;exact rfl;exact rfl)|apply rx_sliceRef|apply rx_min|apply rx_max|apply rx_store)<;>(first|exact tabOk|exact Nat.zero_add _|exact rfl|refine rxid ?_|assumption|omega|exact ⟨rfl⟩|exact ⟨rfl,_,_,rfl,rfl⟩|exact lb rfl|(refine Bd.mk ?_;first|assumption|omega|(focus (simp;done))|(simp;omega)|decide)|exact set_at ‹_›|exact set_at (set_at ‹_›)|(focus (refine ⟨rfl,_,_,rfl,?_⟩;omega))|(focus (simp;done))|(simp;omega)|(simp only [lA,lB,lC,lD,lE];omega)|exact newsAll rfl (by first|rfl|(simp;done)|(simp only [lA,lB,lC,lD,lE];omega))))|(apply xPick;exact rfl;exact rfl;(first|assumption|exact dT ‹_›|exact dF ‹_›|exact rfl);exact rfl;exact rfl)|(apply xSkip;(iterate 5 exact rfl);(first|assumption|exact dT ‹_›|exact dF ‹_›|exact rfl))|(apply xSkipN;(iterate 5 exact rfl))|apply rx_end|(refine rx_endD ?_ ?_;kernel_rfl)|apply AWp.seq|apply thenK_normal|apply AWp.reg|apply AWp.block|apply AWp.skip|apply AWp.label|apply AWp.exit|apply AWp.ret|apply thenK_exit|apply thenK_ret|apply blockK_normal|apply blockK_ret|apply blockK_exit|(refine AWp.regD ?_ ?_;kernel_rfl)|(refine blockK_other rfl ?_)|(apply AWp.condT;exact rfl;(first|assumption|exact dT ‹_›|exact dF ‹_›|exact rfl))|(apply AWp.condF;exact rfl;(first|assumption|exact dT ‹_›|exact dF ‹_›|exact rfl))|((first|refine rx_splitP rfl rfl rfl ?_ ?_|refine rx_split rfl rfl rfl ?_ ?_)<;>intro hp<;>(try (exfalso;omega)))|((first|refine AWp.condP rfl ?_ ?_|refine AWp.cond _ rfl ?_ ?_)<;>intro hp<;>(try (exfalso;omega)))))
        refine ⟨k + 1, by omega, by omega, ?_⟩
        refine Weak.of [(0, some 2)] rfl ?_ ?_ <;> (repeat' (first|exact trivial|exact rfl|exact Or.inr ⟨rfl,‹_›⟩|apply And.intro|exact congrArg (Value.int .i64) (by first|omega|(simp;done)|(simp;omega))|(refine natEq ?_;first|(focus (simp;done))|omega|(simp only [lA,lB,lC,lD,lE];omega))|(refine ⟨_,rfl,rfl,rfl,OW.one ?_⟩)|(refine ⟨_,rfl,rfl,rfl,OW.same ?_ ?_⟩)|refine vwB ?_|refine vwS ?_|refine vwI ?_|refine fwB ?_|refine fwS ?_|refine fwI ?_|(refine AllSc.imm ?_;first|exact AllSc.nil|assumption)))
        · simp [lns_len]
        · exact hfin
        · exact lines_imm _
      · have hn' : ¬ (k : Int) + 1 < (((nI ks).map eInt).length : Int) := by omega
        rw [endAt_last (by omega)] at he1 he2 hfin
        (repeat' (first|(apply xW;(first|exact Want.none_ rfl|(refine wantG rfl rfl rfl rfl ?_;(first|assumption|exact dT ‹_›|exact dF ‹_›|exact rfl))))|(apply xF tabOk;exact rfl;exact rfl)|((first|(apply rx_cat;exact rfl;exact rfl)|apply rx_add|apply rx_sub|apply rx_mul|apply rx_quo|apply rx_rem|apply rx_neg|apply rx_ixS|(apply rx_ixSl;exact rfl;exact rfl)|apply rx_ixRef|(apply rx_load;exact rfl;exact rfl;exact tabOk;exact rfl;exact rfl)|apply rx_loadAgg|apply rx_build|apply rx_buildSlice|apply rx_alloc|apply rx_makeFunc|apply rx_makeSlice|(apply rx_appRef;exact rfl;exact rfl)|apply rx_appNil|(apply rx_sliceS;exact rfl;exact rfl)|(apply rx_sliceSl;exact rfl;exact rfl)|apply rx_sliceRef|apply rx_min|apply rx_max|apply rx_store)<;>(first|exact tabOk|exact Nat.zero_add _|exact rfl|refine rxid ?_|assumption|omega|exact ⟨rfl⟩|exact ⟨rfl,_,_,rfl,rfl⟩|exact lb rfl|(refine Bd.mk ?_;first|assumption|omega|(focus (simp;done))|(simp;omega)|decide)|exact set_at ‹_›|exact set_at (set_at ‹_›)|(focus (refine ⟨rfl,_,_,rfl,?_⟩;omega))|(focus (simp;done))|(simp;omega)|(simp only [lA,lB,lC,lD,lE];omega)|exact newsAll rfl (by first|rfl|(simp;done)|(simp only [lA,lB,lC,lD,lE];omega))))|(apply xPick;exact rfl;exact rfl;(first|assumption|exact dT ‹_›|exact dF ‹_›|exact rfl);exact rfl;exact rfl)|(apply xSkip;(iterate 5 exact rfl);(first|assumption|exact dT ‹_›|exact dF ‹_›|exact rfl))|(apply xSkipN;(iterate 5 exact rfl))|apply rx_end|(refine rx_endD ?_ ?_;kernel_rfl)|apply AWp.seq|apply thenK_normal|apply AWp.reg|apply AWp.block|apply AWp.skip|apply AWp.label|apply AWp.exit|apply AWp.ret|apply thenK_exit|apply thenK_ret|apply blockK_normal|apply blockK_ret|apply blockK_exit|(refine AWp.regD ?_ ?_;kernel_rfl)|(refine blockK_other rfl ?_)|(apply AWp.condT;exact rfl;(first|assumption|exact dT ‹_›|exact dF ‹_›|exact rfl))|(apply AWp.condF;exact rfl;(first|assumption|exact dT ‹_›|exact dF ‹_›|exact rfl))|((first|refine rx_splitP rfl rfl rfl ?_ ?_|refine rx_split rfl rfl rfl ?_ ?_)<;>intro hp<;>(try (exfalso;omega)))|((first|refine AWp.condP rfl ?_ ?_|refine AWp.cond _ rfl ?_ ?_)<;>intro hp<;>(try (exfalso;omega)))))
        refine ⟨k + 1, by omega, by omega, ?_⟩
        refine Weak.of [(0, some 2)] rfl ?_ ?_ <;> (repeat' (first|exact trivial|exact rfl|exact Or.inr ⟨rfl,‹_›⟩|apply And.intro|exact congrArg (Value.int .i64) (by first|omega|(simp;done)|(simp;omega))|(refine natEq ?_;first|(focus (simp;done))|omega|(simp only [lA,lB,lC,lD,lE];omega))|(refine ⟨_,rfl,rfl,rfl,OW.one ?_⟩)|(refine ⟨_,rfl,rfl,rfl,OW.same ?_ ?_⟩)|refine vwB ?_|refine vwS ?_|refine vwI ?_|refine fwB ?_|refine fwS ?_|refine fwI ?_|(refine AllSc.imm ?_;first|exact AllSc.nil|assumption)))
        · simp [lns_len]
        · rw [hLw]; exact hfin
        · exact lines_imm _
    · have hlt' : ¬ (k : Int) < (ks.length : Int) := by omega
      obtain rfl : k = ks.length := by omega
      (repeat (first|(apply xW;(first|exact Want.none_ rfl|(refine wantG rfl rfl rfl rfl ?_;(first|assumption|exact dT ‹_›|exact dF ‹_›|exact rfl))))|(apply xF tabOk;exact rfl;exact rfl)|((first|(apply rx_cat;exact rfl;exact rfl)|apply rx_add|apply rx_sub|apply rx_mul|apply rx_quo|apply rx_rem|apply rx_neg|apply rx_ixS|(apply rx_ixSl;exact rfl;exact rfl)|apply rx_ixRef|(apply rx_load;exact rfl;exact rfl;exact tabOk;exact rfl;exact rfl)|apply rx_loadAgg|apply rx_build|apply rx_buildSlice|apply rx_alloc|apply rx_makeFunc|apply rx_makeSlice|(apply rx_appRef;exact rfl;exact rfl)|apply rx_appNil|(apply rx_sliceS;exact rfl;exact rfl)|(apply rx_sliceSl;exact rfl;exact rfl)|apply rx_sliceRef|apply rx_min|apply rx_max|apply rx_store)<;>(first|exact tabOk|exact Nat.zero_add _|exact rfl|refine rxid ?_|assumption|omega|exact ⟨rfl⟩|exact ⟨rfl,_,_,rfl,rfl⟩|exact lb rfl|(refine Bd.mk ?_;first|assumption|omega|(focus (simp;done))|(simp;omega)|decide)|exact set_at ‹_›|exact set_at (set_at ‹_›)|(focus (refine ⟨rfl,_,_,rfl,?_⟩;omega))|(focus (simp;done))|(simp;omega)|(simp only [lA,lB,lC,lD,lE];omega)|exact newsAll rfl (by first|rfl|(simp;done)|(simp only [lA,lB,lC,lD,lE];omega))))|(apply xPick;exact rfl;exact rfl;(first|assumption|exact dT ‹_›|exact dF ‹_›|exact rfl);exact rfl;exact rfl)|(apply xSkip;(iterate 5 exact rfl);(first|assumption|exact dT ‹_›|exact dF ‹_›|exact rfl))|(apply xSkipN;(iterate 5 exact rfl))|apply rx_end|(refine rx_endD ?_ ?_;kernel_rfl)|apply AWp.seq|apply thenK_normal|apply AWp.reg|apply AWp.block|apply AWp.skip|apply AWp.label|apply AWp.exit|apply AWp.ret|apply thenK_exit|apply thenK_ret|apply blockK_normal|apply blockK_ret|apply blockK_exit|(refine AWp.regD ?_ ?_;kernel_rfl)|(refine blockK_other rfl ?_)|(apply AWp.condT;exact rfl;(first|assumption|exact dT ‹_›|exact dF ‹_›|exact rfl))|(apply AWp.condF;exact rfl;(first|assumption|exact dT ‹_›|exact dF ‹_›|exact rfl))))
      ((first|refine ret_ret _ [(0, some 0)] (.cons (rv_tmp rfl) .nil) ?_ rfl ?_|refine ret_end _ [(0, some 0)] (.cons (rv_tmp rfl) .nil) ?_ rfl ?_) <;> (repeat' (first|exact trivial|exact rfl|exact Or.inr ⟨rfl,‹_›⟩|apply And.intro|exact congrArg (Value.int .i64) (by first|omega|(simp;done)|(simp;omega))|(refine natEq ?_;first|(focus (simp;done))|omega|(simp only [lA,lB,lC,lD,lE];omega))|(refine ⟨_,rfl,rfl,rfl,OW.one ?_⟩)|(refine ⟨_,rfl,rfl,rfl,OW.same ?_ ?_⟩)|refine vwB ?_|refine vwS ?_|refine vwI ?_|refine fwB ?_|refine fwS ?_|refine fwI ?_|(refine AllSc.imm ?_;first|exact AllSc.nil|assumption))))
      exact lines_imm _
theorem join_snoc (sep : UInt8) (xs : List (List UInt8)) (y : List UInt8) (h : xs ≠ []) : Lib.join (xs ++ [y]) [sep] = Lib.join xs [sep] ++ [sep] ++ y := by
  cases xs with
  | nil => exact absurd rfl h
  | cons x r =>
    rw [List.cons_append, Lib.join_cons, Lib.join_cons]
    simp [Lib.joinTail, List.append_assoc]
theorem segW_self (ws : List (List UInt8)) (i : Nat) : segW ws i i = [] := by simp [segW]
theorem segW_succ {ws : List (List UInt8)} {i k : Nat} {c : List UInt8} (hc : ws[k]? = some c) (hik : i ≤ k) : segW ws i (k + 1) = segW ws i k ++ [c] := by
  rw [segW, segW, show k + 1 - i = (k - i) + 1 by omega, List.take_add_one, List.getElem?_drop, show i + (k - i) = k by omega, hc]
  rfl
theorem segW_ne {ws : List (List UInt8)} {i k : Nat} (h : i < k) (hk : k ≤ ws.length) : segW ws i k ≠ [] := by
  intro e
  have : (segW ws i k).length = k - i := by simp [segW]; omega
  rw [e] at this
  simp at this
  omega
theorem join_le {ws : List (List UInt8)} (h : WB ws) (i k : Nat) : (Lib.join (segW ws i k) [32]).length ≤ 3239 := by
  rw [join_length, lens_segW]
  exact h.lenle i k
theorem l19Join_pf (ws : List (List UInt8)) (hb : WB ws) (i j : Nat) (a b : Int) (ha : a = (i : Int)) (hbj : b = (j : Int)) (hij : i ≤ j) (hj : j ≤ ws.length) :
    PF Try.prog 75 [.c (.sl (ws.map eStr)), .c (int a), .c (int b)] [] (.c (str (Lib.join (segW ws i j) [32]))) := by
  subst ha
  subst hbj
  have h40 := hb.cnt
  refine PF.enter (enum3 _ _ _) Try.func75 rfl (by kernel_rfl) _ _ rfl rfl rfl (fun w0 mu I0 β0 => ?_)
  (repeat' (first|(apply xW;(first|exact Want.none_ rfl|(refine wantG rfl rfl rfl rfl ?_;(first|assumption|exact dT ‹_›|exact dF ‹_›|exact rfl))))|(apply xF tabOk;exact rfl;exact rfl)|((first|(apply rx_cat;exact rfl;exact rfl)|apply rx_add|apply rx_sub|apply rx_mul|apply rx_quo|apply rx_rem|apply rx_neg|apply rx_ixS|(apply rx_ixSl;exact rfl;exact rfl)|apply rx_ixRef|(apply rx_load;exact rfl;exact rfl;exact tabOk;exact rfl;exact rfl)|apply rx_loadAgg|apply rx_build|apply rx_buildSlice|apply rx_alloc|apply rx_makeFunc|apply rx_makeSlice|(apply rx_appRef;exact rfl;exact rfl)|apply rx_appNil|(apply rx_sliceS;exact rfl;exact rfl)|(apply rx_sliceSl;exact rfl;exact rfl)|apply rx_sliceRef|apply rx_min|apply rx_max|apply rx_store)<;>(first|exact tabOk|exact Nat.zero_add _|exact rfl|refine rxid ?_|assumption|omega|exact ⟨rfl⟩|exact ⟨rfl,_,_,rfl,rfl⟩|exact lb rfl|(refine Bd.mk ?_;first|assumption|omega|(focus (simp;done))|(simp;omega)|decide)|exact set_at ‹_›|exact set_at (set_at ‹_›)|(focus (refine ⟨rfl,_,_,rfl,?_⟩;omega))|(focus (simp;done))|(simp;omega)|(simp only [lA,lB,lC,lD,lE];omega)|exact newsAll rfl (by first|rfl|(simp;done)|(simp only [lA,lB,lC,lD,lE];omega))))|(apply xPick;exact rfl;exact rfl;(first|assumption|exact dT ‹_›|exact dF ‹_›|exact rfl);exact rfl;exact rfl)|(apply xSkip;(iterate 5 exact rfl);(first|assumption|exact dT ‹_›|exact dF ‹_›|exact rfl))|(apply xSkipN;(iterate 5 exact rfl))|apply rx_end|(refine rx_endD ?_ ?_;kernel_rfl)|apply AWp.seq|apply thenK_normal|apply AWp.reg|apply AWp.block|apply AWp.skip|apply AWp.label|apply AWp.exit|apply AWp.ret|apply thenK_exit|apply thenK_ret|apply blockK_normal|apply blockK_ret|apply blockK_exit|(refine AWp.regD ?_ ?_;kernel_rfl)|(refine blockK_other rfl ?_)|(apply AWp.condT;exact rfl;(first|assumption|exact dT ‹_›|exact dF ‹_›|exact rfl))|(apply AWp.condF;exact rfl;(first|assumption|exact dT ‹_›|exact dF ‹_›|exact rfl))|((first|refine rx_splitP rfl rfl rfl ?_ ?_|refine rx_split rfl rfl rfl ?_ ?_)<;>intro hp<;>(try (exfalso;omega)))|((first|refine AWp.condP rfl ?_ ?_|refine AWp.cond _ rfl ?_ ?_)<;>intro hp<;>(try (exfalso;omega)))))
  refine AWp.loop (σ := Nat) (fun k => ⟨[(0, .c (.sl (ws.map eStr))), (1, .c (int i)), (2, .c (int j)), (7, .c (str (Lib.join (segW ws i k) [32]))), (8, .c (int k))], [], 0⟩) (fun k => i ≤ k ∧ k ≤ j) (fun k => j - k) i ⟨Nat.le_refl _, hij⟩ ?_ ?_
  · rw [segW_self]
    refine Weak.of [] rfl ?_ ?_ <;> (repeat' (first|exact trivial|exact rfl|exact Or.inr ⟨rfl,‹_›⟩|apply And.intro|exact congrArg (Value.int .i64) (by first|omega|(simp;done)|(simp;omega))|(refine natEq ?_;first|(focus (simp;done))|omega|(simp only [lA,lB,lC,lD,lE];omega))|(refine ⟨_,rfl,rfl,rfl,OW.one ?_⟩)|(refine ⟨_,rfl,rfl,rfl,OW.same ?_ ?_⟩)|refine vwB ?_|refine vwS ?_|refine vwI ?_|refine fwB ?_|refine fwS ?_|refine fwI ?_|(refine AllSc.imm ?_;first|exact AllSc.nil|assumption)))
  · rintro k ⟨hk, hk2⟩
    by_cases hlt : k < j
    · obtain ⟨c, hc⟩ := at_lt (show k < ws.length by omega)
      have hc' : (ws.map eStr)[k]? = some (eStr c) := map_at hc
      have hlt' : (k : Int) < (j : Int) := by omega
      have hjl := join_le hb i k
      have h80 := hb.each c (List.mem_of_getElem? hc)
      by_cases h0 : i < k
      · have h0' : (i : Int) < (k : Int) := by omega
        (repeat' (first|(apply xW;(first|exact Want.none_ rfl|(refine wantG rfl rfl rfl rfl ?_;(first|assumption|exact dT ‹_›|exact dF ‹_›|exact rfl))))|(apply xF tabOk;exact rfl;exact rfl)|((first|(apply rx_cat;exact rfl;exact rfl)|apply rx_add|apply rx_sub|apply rx_mul|apply rx_quo|apply rx_rem|apply rx_neg|apply rx_ixS|(apply rx_ixSl;exact rfl;exact rfl)|apply rx_ixRef|(apply rx_load;exact rfl;exact rfl;exact tabOk;exact rfl;exact rfl)|apply rx_loadAgg|apply rx_build|apply rx_buildSlice|apply rx_alloc|apply rx_makeFunc|apply rx_makeSlice|(apply rx_appRef;exact rfl;exact rfl)|apply rx_appNil|(apply rx_sliceS;exact rfl;exact rfl)|(apply rx_sliceSl;exact rfl;exact rfl)|apply rx_sliceRef|apply rx_min|apply rx_max|apply rx_store)<;>(first|exact tabOk|exact Nat.zero_add _|exact rfl|refine rxid ?_|assumption|omega|exact ⟨rfl⟩|exact ⟨rfl,_,_,rfl,rfl⟩|exact lb rfl|(refine Bd.mk ?_;first|assumption|omega|(focus (simp;done))|(simp;omega)|decide)|exact set_at ‹_›|exact set_at (set_at ‹_›)|(focus (refine ⟨rfl,_,_,rfl,?_⟩;omega))|(focus (simp;done))|(simp;omega)|(simp only [lA,lB,lC,lD,lE];omega)|exact newsAll rfl (by first|rfl|(simp;done)|(simp only [lA,lB,lC,lD,lE];omega))))|(apply xPick;exact rfl;exact rfl;(first|assumption|exact dT ‹_›|exact dF ‹_›|exact rfl);exact rfl;exact rfl)|(apply xSkip;(iterate 5 exact rfl);(first|assumption|exact dT ‹_›|exact dF ‹_›|exact rfl))|(apply xSkipN;(iterate 5 exact rfl))|apply rx_end|(refine rx_endD ?_ ?_;kernel_rfl)|apply AWp.seq|apply thenK_normal|apply AWp.reg|apply AWp.block|apply AWp.skip|apply AWp.label|apply AWp.exit|apply AWp.ret|apply thenK_exit|apply thenK_ret|apply blockK_normal|apply blockK_ret|apply blockK_exit|(refine AWp.regD ?_ ?_;kernel_rfl)|(refine blockK_other rfl ?_)|(apply AWp.condT;exact rfl;(first|assumption|exact dT ‹_›|exact dF ‹_›|exact rfl))|(apply AWp.condF;exact rfl;(first|assumption|exact dT ‹_›|exact dF ‹_›|exact rfl))|((first|refine rx_splitP rfl rfl rfl ?_ ?_|refine rx_split rfl rfl rfl ?_ ?_)<;>intro hp<;>(try (exfalso;omega)))|((first|refine AWp.condP rfl ?_ ?_|refine AWp.cond _ rfl ?_ ?_)<;>intro hp<;>(try (exfalso;omega)))))
        refine ⟨k + 1, by omega, by omega, ?_⟩
        rw [segW_succ hc hk, join_snoc _ _ _ (segW_ne h0 (by omega))]
        refine Weak.of [] rfl ?_ ?_ <;> (repeat' (first|exact trivial|exact rfl|exact Or.inr ⟨rfl,‹_›⟩|apply And.intro|exact congrArg (Value.int .i64) (by first|omega|(simp;done)|(simp;omega))|(refine natEq ?_;first|(focus (simp;done))|omega|(simp only [lA,lB,lC,lD,lE];omega))|(refine ⟨_,rfl,rfl,rfl,OW.one ?_⟩)|(refine ⟨_,rfl,rfl,rfl,OW.same ?_ ?_⟩)|refine vwB ?_|refine vwS ?_|refine vwI ?_|refine fwB ?_|refine fwS ?_|refine fwI ?_|(refine AllSc.imm ?_;first|exact AllSc.nil|assumption)))
      · have h0' : ¬ (i : Int) < (k : Int) := by omega
        obtain rfl : i = k := by omega
        (repeat' (first|(apply xW;(first|exact Want.none_ rfl|(refine wantG rfl rfl rfl rfl ?_;(first|assumption|exact dT ‹_›|exact dF ‹_›|exact rfl))))|(apply xF tabOk;exact rfl;exact rfl)|((first|(apply rx_cat;exact rfl;exact rfl)|apply rx_add|apply rx_sub|apply rx_mul|apply rx_quo|apply rx_rem|apply rx_neg|apply rx_ixS|(apply rx_ixSl;exact rfl;exact rfl)|apply rx_ixRef|(apply rx_load;exact rfl;exact rfl;exact tabOk;exact rfl;exact rfl)|apply rx_loadAgg|apply rx_build|apply rx_buildSlice|apply rx_alloc|apply rx_makeFunc|apply rx_makeSlice|(apply rx_appRef;exact rfl;exact rfl)|apply rx_appNil|(apply rx_sliceS;exact rfl;exact rfl)|(apply rx_sliceSl;exact rfl;exact rfl)|apply rx_sliceRef|apply rx_min|apply rx_max|apply rx_store)<;>(first|exact tabOk|exact Nat.zero_add _|exact rfl|refine rxid ?_|assumption|omega|exact ⟨rfl⟩|exact ⟨rfl,_,_,rfl,rfl⟩|exact lb rfl|(refine Bd.mk ?_;first|assumption|omega|(focus (simp;done))|(simp;omega)|decide)|exact set_at ‹_›|exact set_at (set_at ‹_›)|(focus (refine ⟨rfl,_,_,rfl,?_⟩;omega))|(focus (simp;done))|(simp;omega)|(simp only [lA,lB,lC,lD,lE];omega)|exact newsAll rfl (by first|rfl|(simp;done)|(simp only [lA,lB,lC,lD,lE];omega))))|(apply xPick;exact rfl;exact rfl;(first|assumption|exact dT ‹_›|exact dF ‹_›|exact rfl);exact rfl;exact rfl)|(apply xSkip;(iterate 5 exact rfl);(first|assumption|exact dT ‹_›|exact dF ‹_›|exact rfl))|(apply xSkipN;(iterate 5 exact rfl))|apply rx_end|(refine rx_endD ?_ ?_;kernel_rfl)|apply AWp.seq|apply thenK_normal|apply AWp.reg|apply AWp.block|apply AWp.skip|apply AWp.label|apply AWp.exit|apply AWp.ret|apply thenK_exit|apply thenK_ret|apply blockK_normal|apply blockK_ret|apply blockK_exit|(refine AWp.regD ?_ ?_;kernel_rfl)|(refine blockK_other rfl ?_)|(apply AWp.condT;exact rfl;(first|assumption|exact dT ‹_›|exact dF ‹_›|exact rfl))|(apply AWp.condF;exact rfl;(first|assumption|exact dT ‹_›|exact dF ‹_›|exact rfl))|((first|refine rx_splitP rfl rfl rfl ?_ ?_|refine rx_split rfl rfl rfl ?_ ?_)<;>intro hp<;>(try (exfalso;omega)))|((first|refine AWp.condP rfl ?_ ?_|refine AWp.cond _ rfl ?_ ?_)<;>intro hp<;>(try (exfalso;omega)))))
        refine ⟨i + 1, by omega, by omega, ?_⟩
        rw [segW_succ hc hk, segW_self, List.nil_append, Lib.join_one]
        have e : Lib.join (segW ws i i) [32] ++ c = c := by rw [segW_self]; rfl
        simp only [e]
        refine Weak.of [] rfl ?_ ?_ <;> (repeat' (first|exact trivial|exact rfl|exact Or.inr ⟨rfl,‹_›⟩|apply And.intro|exact congrArg (Value.int .i64) (by first|omega|(simp;done)|(simp;omega))|(refine natEq ?_;first|(focus (simp;done))|omega|(simp only [lA,lB,lC,lD,lE];omega))|(refine ⟨_,rfl,rfl,rfl,OW.one ?_⟩)|(refine ⟨_,rfl,rfl,rfl,OW.same ?_ ?_⟩)|refine vwB ?_|refine vwS ?_|refine vwI ?_|refine fwB ?_|refine fwS ?_|refine fwI ?_|(refine AllSc.imm ?_;first|exact AllSc.nil|assumption)))
    · have hlt' : ¬ (k : Int) < (j : Int) := by omega
      obtain rfl : k = j := by omega
      (repeat (first|(apply xW;(first|exact Want.none_ rfl|(refine wantG rfl rfl rfl rfl ?_;(first|assumption|exact dT ‹_›|exact dF ‹_›|exact rfl))))|(apply xF tabOk;exact rfl;exact rfl)|((first|(apply rx_cat;exact rfl;exact rfl)|apply rx_add|apply rx_sub|apply rx_mul|apply rx_quo|apply rx_rem|apply rx_neg|apply rx_ixS|(apply rx_ixSl;exact rfl;exact rfl)|apply rx_ixRef|(apply rx_load;exact rfl;exact rfl;exact tabOk;exact rfl;exact rfl)|apply rx_loadAgg|apply rx_build|apply rx_buildSlice|apply rx_alloc|apply rx_makeFunc|apply rx_makeSlice|(apply rx_appRef;exact rfl;exact rfl)|apply rx_appNil|(apply rx_sliceS;exact rfl;exact rfl)|(apply rx_sliceSl;exact rfl;exact rfl)|apply rx_sliceRef|apply rx_min|apply rx_max|apply rx_store)<;>(first|exact tabOk|exact Nat.zero_add _|exact rfl|refine rxid ?_|assumption|omega|exact ⟨rfl⟩|exact ⟨rfl,_,_,rfl,rfl⟩|exact lb rfl|(refine Bd.mk ?_;first|assumption|omega|(focus (simp;done))|(simp;omega)|decide)|exact set_at ‹_›|exact set_at (set_at ‹_›)|(focus (refine ⟨rfl,_,_,rfl,?_⟩;omega))|(focus (simp;done))|(simp;omega)|(simp only [lA,lB,lC,lD,lE];omega)|exact newsAll rfl (by first|rfl|(simp;done)|(simp only [lA,lB,lC,lD,lE];omega))))|(apply xPick;exact rfl;exact rfl;(first|assumption|exact dT ‹_›|exact dF ‹_›|exact rfl);exact rfl;exact rfl)|(apply xSkip;(iterate 5 exact rfl);(first|assumption|exact dT ‹_›|exact dF ‹_›|exact rfl))|(apply xSkipN;(iterate 5 exact rfl))|apply rx_end|(refine rx_endD ?_ ?_;kernel_rfl)|apply AWp.seq|apply thenK_normal|apply AWp.reg|apply AWp.block|apply AWp.skip|apply AWp.label|apply AWp.exit|apply AWp.ret|apply thenK_exit|apply thenK_ret|apply blockK_normal|apply blockK_ret|apply blockK_exit|(refine AWp.regD ?_ ?_;kernel_rfl)|(refine blockK_other rfl ?_)|(apply AWp.condT;exact rfl;(first|assumption|exact dT ‹_›|exact dF ‹_›|exact rfl))|(apply AWp.condF;exact rfl;(first|assumption|exact dT ‹_›|exact dF ‹_›|exact rfl))))
      ((first|refine ret_ret _ [] (.cons (rv_tmp rfl) .nil) ?_ rfl ?_|refine ret_end _ [] (.cons (rv_tmp rfl) .nil) ?_ rfl ?_) <;> (repeat' (first|exact trivial|exact rfl|exact Or.inr ⟨rfl,‹_›⟩|apply And.intro|exact congrArg (Value.int .i64) (by first|omega|(simp;done)|(simp;omega))|(refine natEq ?_;first|(focus (simp;done))|omega|(simp only [lA,lB,lC,lD,lE];omega))|(refine ⟨_,rfl,rfl,rfl,OW.one ?_⟩)|(refine ⟨_,rfl,rfl,rfl,OW.same ?_ ?_⟩)|refine vwB ?_|refine vwS ?_|refine vwI ?_|refine fwB ?_|refine fwS ?_|refine fwI ?_|(refine AllSc.imm ?_;first|exact AllSc.nil|assumption))))
def jls (ws : List (List UInt8)) (ks : List Nat) (c : Nat) : List (List UInt8) := (lns ws ks c).map fun l => Lib.join l [32]
theorem jls_succ (ws : List (List UInt8)) (ks : List Nat) (c : Nat) : jls ws ks (c + 1) = jls ws ks c ++ [Lib.join (lnAt ws ks c) [32]] := by simp [jls, lns_succ]
theorem jls_len (ws : List (List UInt8)) (ks : List Nat) (c : Nat) : (jls ws ks c).length = c := by simp [jls, lns_len]
theorem l19Lines_pf (ws : List (List UInt8)) (ks : List Nat) (hb : WB ws) (ha : Asc ks ws.length) : PF Try.prog 53 [.c (.sl (ws.map eStr)), .c (.sl ((nI ks).map eInt))] [⟨9, 1, (jls ws ks ks.length).map eStr⟩] (.c (.ref 0 0 ks.length)) := by
  have hw := hb.cnt
  have hc := ha.cnt
  have hL : ((nI ks).map eInt).length = ks.length := by simp
  have hLw : (ws.map eStr).length = ws.length := List.length_map _
  refine PF.enter (enum2 _ _) Try.func53 rfl (by kernel_rfl) _ _ rfl rfl rfl (fun w0 mu I0 β0 => ?_)
  (repeat' (first|(apply xW;(first|exact Want.none_ rfl|(refine wantG rfl rfl rfl rfl ?_;(first|assumption|exact dT ‹_›|exact dF ‹_›|exact rfl))))|(apply xF tabOk;exact rfl;exact rfl)|((first|(apply rx_cat;exact rfl;exact rfl)|apply rx_add|apply rx_sub|apply rx_mul|apply rx_quo|apply rx_rem|apply rx_neg|apply rx_ixS|(apply rx_ixSl;exact rfl;exact rfl)|apply rx_ixRef|(apply rx_load;exact rfl;exact rfl;exact tabOk;exact rfl;exact rfl)|apply rx_loadAgg|apply rx_build|apply rx_buildSlice|apply rx_alloc|apply rx_makeFunc|apply rx_makeSlice|(apply rx_appRef;exact rfl;exact rfl)|apply rx_appNil|(apply rx_sliceS;exact rfl;exact rfl)|(apply rx_sliceSl;exact rfl;exact rfl)|apply rx_sliceRef|apply rx_min|apply rx_max|apply rx_store)<;>(first|exact tabOk|exact Nat.zero_add _|exact rfl|refine rxid ?_|assumption|omega|exact ⟨rfl⟩|exact ⟨rfl,_,_,rfl,rfl⟩|exact lb rfl|(refine Bd.mk ?_;first|assumption|omega|(focus (simp;done))|(simp;omega)|decide)|exact set_at ‹_›|exact set_at (set_at ‹_›)|(focus (refine ⟨rfl,_,_,rfl,?_⟩;omega))|(focus (simp;done))|(simp;omega)|(simp only [lA,lB,lC,lD,lE];omega)|exact newsAll rfl (by first|rfl|(simp;done)|(simp only [lA,lB,lC,lD,lE];omega))))|(apply xPick;exact rfl;exact rfl;(first|assumption|exact dT ‹_›|exact dF ‹_›|exact rfl);exact rfl;exact rfl)|(apply xSkip;(iterate 5 exact rfl);(first|assumption|exact dT ‹_›|exact dF ‹_›|exact rfl))|(apply xSkipN;(iterate 5 exact rfl))|apply rx_end|(refine rx_endD ?_ ?_;kernel_rfl)|apply AWp.seq|apply thenK_normal|apply AWp.reg|apply AWp.block|apply AWp.skip|apply AWp.label|apply AWp.exit|apply AWp.ret|apply thenK_exit|apply thenK_ret|apply blockK_normal|apply blockK_ret|apply blockK_exit|(refine AWp.regD ?_ ?_;kernel_rfl)|(refine blockK_other rfl ?_)|(apply AWp.condT;exact rfl;(first|assumption|exact dT ‹_›|exact dF ‹_›|exact rfl))|(apply AWp.condF;exact rfl;(first|assumption|exact dT ‹_›|exact dF ‹_›|exact rfl))|((first|refine rx_splitP rfl rfl rfl ?_ ?_|refine rx_split rfl rfl rfl ?_ ?_)<;>intro hp<;>(try (exfalso;omega)))|((first|refine AWp.condP rfl ?_ ?_|refine AWp.cond _ rfl ?_ ?_)<;>intro hp<;>(try (exfalso;omega)))))
  refine AWp.loop (σ := Nat) (fun k => ⟨[(0, .c (.sl (ws.map eStr))), (1, .c (.sl ((nI ks).map eInt))), (5, .c (.ref 0 0 k)), (6, .c (int k))], [(0, some ⟨9, 1, (jls ws ks k).map eStr⟩)], 1⟩) (fun k => k ≤ ks.length) (fun k => ks.length - k) 0 (Nat.zero_le _) ?_ ?_
  · refine Weak.of [(0, some 0)] rfl ?_ ?_ <;> (repeat' (first|exact trivial|exact rfl|exact Or.inr ⟨rfl,‹_›⟩|apply And.intro|exact congrArg (Value.int .i64) (by first|omega|(simp;done)|(simp;omega))|(refine natEq ?_;first|(focus (simp;done))|omega|(simp only [lA,lB,lC,lD,lE];omega))|(refine ⟨_,rfl,rfl,rfl,OW.one ?_⟩)|(refine ⟨_,rfl,rfl,rfl,OW.same ?_ ?_⟩)|refine vwB ?_|refine vwS ?_|refine vwI ?_|refine fwB ?_|refine fwS ?_|refine fwI ?_|(refine AllSc.imm ?_;first|exact AllSc.nil|assumption)))
  · rintro k hk
    by_cases hlt : k < ks.length
    · obtain ⟨s, hs⟩ := at_lt hlt
      have hs' : ((nI ks).map eInt)[k]? = some (eInt s) := map_at (map_at (f := fun n : Nat => (n : Int)) hs)
      have hlt' : (k : Int) < (((nI ks).map eInt).length : Int) := by omega
      have hll := jls_len ws ks k
      obtain ⟨he1, he2⟩ := ha.end hs
      have hln : lnAt ws ks k = segW ws s (endAt ks ws.length k) := by rw [lnAt, hs]; rfl
      have hfin : (jls ws ks k).map eStr ++ [[str (Lib.join (segW ws s (endAt ks ws.length k)) [32])]] = (jls ws ks (k + 1)).map eStr := by
        rw [jls_succ, List.map_append, hln]
        rfl
      by_cases hn : k + 1 < ks.length
      · obtain ⟨b, hb2⟩ := at_lt hn
        have hb' : ((nI ks).map eInt)[k + 1]? = some (eInt b) := map_at (map_at (f := fun n : Nat => (n : Int)) hb2)
        have hn' : (k : Int) + 1 < (((nI ks).map eInt).length : Int) := by omega
        have hkk : (k : Int) + 1 = ((k + 1 : Nat) : Int) := by omega
        rw [endAt_next hb2] at he1 he2 hfin
        (repeat' (first|(apply xW;(first|exact Want.none_ rfl|(refine wantG rfl rfl rfl rfl ?_;(first|assumption|exact dT ‹_›|exact dF ‹_›|exact rfl))))|(apply xF tabOk;exact rfl;exact rfl)|((first|(apply rx_cat;exact rfl;exact rfl)|apply rx_add|apply rx_sub|apply rx_mul|apply rx_quo|apply rx_rem|apply rx_neg|apply rx_ixS|(apply rx_ixSl;exact rfl;exact rfl)|apply rx_ixRef|(apply rx_load;exact rfl;exact rfl;exact tabOk;exact rfl;exact rfl)|apply rx_loadAgg|apply rx_build|apply rx_buildSlice|apply rx_alloc|apply rx_makeFunc|apply rx_makeSlice|(apply rx_appRef;exact rfl;exact rfl)|apply rx_appNil|(apply rx_sliceS;exact rfl;exact rfl)|(apply rx_sliceSl;exact rfl;exact rfl)|apply rx_sliceRef|apply rx_min|apply rx_max|apply rx_store)<;>(first|exact tabOk|exact Nat.zero_add _|exact rfl|refine rxid ?_|assumption|omega|exact ⟨rfl⟩|exact ⟨rfl,_,_,rfl,rfl⟩|exact lb rfl|(refine Bd.mk ?_;first|assumption|omega|(focus (simp;done))|(simp;omega)|decide)|exact set_at ‹_›|exact set_at (set_at ‹_›)|(focus (refine ⟨rfl,_,_,rfl,?_⟩;omega))|(focus (simp;done))|(simp;omega)|(simp only [lA,lB,lC,lD,lE];omega)|exact newsAll rfl (by first|rfl|(simp;done)|(simp only [lA,lB,lC,lD,lE];omega))))|(apply xPick;exact rfl;exact rfl;(first|assumption|exact dT ‹_›|exact dF ‹_›|exact rfl);exact rfl;exact rfl)|(apply xSkip;(iterate 5 exact rfl);(first|assumption|exact dT ‹_›|exact dF ‹_›|exact rfl))|(apply xSkipN;(iterate 5 exact rfl))|apply rx_end|(refine rx_endD ?_ ?_;kernel_rfl)|apply AWp.seq|apply thenK_normal|apply AWp.reg|apply AWp.block|apply AWp.skip|apply AWp.label|apply AWp.exit|apply AWp.ret|apply thenK_exit|apply thenK_ret|apply blockK_normal|apply blockK_ret|apply blockK_exit|(refine AWp.regD ?_ ?_;kernel_rfl)|(refine blockK_other rfl ?_)|(apply AWp.condT;exact rfl;(first|assumption|exact dT ‹_›|exact dF ‹_›|exact rfl))|(apply AWp.condF;exact rfl;(first|assumption|exact dT ‹_›|exact dF ‹_›|exact rfl))|(apply rx_callA;(iterate 6 exact rfl);(iterate 2 (focus (repeat (first|exact VAs.nil|apply VAs.cons|apply VA.c|apply VA.agg|exact VCs.nil|(apply VCs.same;assumption)|apply VCs.cons|exact VC.imm (Imm.v _)|exact VC.imm (Imm.sl _)|exact VC.imm (Imm.ip _)|exact VC.imm ‹_›|exact VC.nil|apply VC.fn|(refine VC.ptrA rfl rfl rfl rfl ?_;(repeat (first|assumption|exact imm_no|exact Imm.v _|exact Imm.sl _|exact Imm.ip _|exact Imm.nil|exact Imm.fn0 _|refine imm_cons ?_ ?_|refine Imm.fn _ _ ?_)))|(apply VC.refA;exact rfl;exact rfl;(first|exact rfl|(focus (simp;done))|omega|(focus (simp only [lA,lB,lC,lD,lE];omega)));exact rfl;(first|assumption|(refine AllSc.imm ?_;assumption)))|assumption))));(first|exact l19Join_pf ws hb s b _ _ rfl rfl (by omega) he2);(focus (repeat (first|exact trivial|exact Flat.v _|exact Flat.ref _ _ _|exact Flat.nil|apply And.intro)));(first|apply callK0|(apply callK1;(focus (repeat (first|exact trivial|apply And.intro|(first|exact AllSc.nil|assumption))))));(first|exact sh_1 _ _|exact sh_2 _ _ _|exact sh_r _ _ _ _|exact sh_r1 _ _ _ _ _|exact sh_n _|exact sh_n1 _ _|exact sh_ar _ _ _ _|exact sh_ar1 _ _ _ _ _|exact sh_an1 _ _|exact sh_3 _ _ _ _|exact rfl))|((first|refine rx_splitP rfl rfl rfl ?_ ?_|refine rx_split rfl rfl rfl ?_ ?_)<;>intro hp<;>(try (exfalso;omega)))|((first|refine AWp.condP rfl ?_ ?_|refine AWp.cond _ rfl ?_ ?_)<;>intro hp<;>(try (exfalso;omega)))))
        refine ⟨k + 1, by omega, by omega, ?_⟩
        refine Weak.of [(0, some 2)] rfl ?_ ?_ <;> (repeat' (first|exact trivial|exact rfl|exact Or.inr ⟨rfl,‹_›⟩|apply And.intro|exact congrArg (Value.int .i64) (by first|omega|(simp;done)|(simp;omega))|(refine natEq ?_;first|(focus (simp;done))|omega|(simp only [lA,lB,lC,lD,lE];omega))|(refine ⟨_,rfl,rfl,rfl,OW.one ?_⟩)|(refine ⟨_,rfl,rfl,rfl,OW.same ?_ ?_⟩)|refine vwB ?_|refine vwS ?_|refine vwI ?_|refine fwB ?_|refine fwS ?_|refine fwI ?_|(refine AllSc.imm ?_;first|exact AllSc.nil|assumption)))
        · simp [jls_len]
        · exact hfin
        · exact (strs_sc _).imm
      · have hn' : ¬ (k : Int) + 1 < (((nI ks).map eInt).length : Int) := by omega
        rw [endAt_last (by omega)] at he1 he2 hfin
        (repeat' (first|(apply xW;(first|exact Want.none_ rfl|(refine wantG rfl rfl rfl rfl ?_;(first|assumption|exact dT ‹_›|exact dF ‹_›|exact rfl))))|(apply xF tabOk;exact rfl;exact rfl)|((first|(apply rx_cat;exact rfl;exact rfl)|apply rx_add|apply rx_sub|apply rx_mul|apply rx_quo|apply rx_rem|apply rx_neg|apply rx_ixS|(apply rx_ixSl;exact rfl;exact rfl)|apply rx_ixRef|(apply rx_load;exact rfl;exact rfl;exact tabOk;exact rfl;exact rfl)|apply rx_loadAgg|apply rx_build|apply rx_buildSlice|apply rx_alloc|apply rx_makeFunc|apply rx_makeSlice|(apply rx_appRef;exact rfl;exact rfl)|apply rx_appNil|(apply rx_sliceS;exact rfl;exact rfl)|(apply rx_sliceSl;exact rfl;exact rfl)|apply rx_sliceRef|apply rx_min|apply rx_max|apply rx_store)<;>(first|exact tabOk|exact Nat.zero_add _|exact rfl|refine rxid ?_|assumption|omega|exact ⟨rfl⟩|exact ⟨rfl,_,_,rfl,rfl⟩|exact lb rfl|(refine Bd.mk ?_;first|assumption|omega|(focus (simp;done))|(simp;omega)|decide)|exact set_at ‹_›|exact set_at (set_at ‹_›)|(focus (refine ⟨rfl,_,_,rfl,?_⟩;omega))|(focus (simp;done))|(simp;omega)|(simp only [lA,lB,lC,lD,lE];omega)|exact newsAll rfl (by first|rfl|(simp;done)|(simp only [lA,lB,lC,lD,lE];omega))))|(apply xPick;exact rfl;exact rfl;(first|assumption|exact dT ‹_›|exact dF ‹_›|exact rfl);exact rfl;exact rfl)|(apply xSkip;(iterate 5 exact rfl);(first|assumption|exact dT ‹_›|exact dF ‹_›|exact rfl))|(apply xSkipN;(iterate 5 exact rfl))|apply rx_end|(refine rx_endD ?_ ?_;kernel_rfl)|apply AWp.seq|apply thenK_normal|apply AWp.reg|apply AWp.block|apply AWp.skip|apply AWp.label|apply AWp.exit|apply AWp.ret|apply thenK_exit|apply thenK_ret|apply blockK_normal|apply blockK_ret|apply blockK_exit|(refine AWp.regD ?_ ?_;kernel_rfl)|(refine blockK_other rfl ?_)|(apply AWp.condT;exact rfl;(first|assumption|exact dT ‹_›|exact dF ‹_›|exact rfl))|(apply AWp.condF;exact rfl;(first|assumption|exact dT ‹_›|exact dF ‹_›|exact rfl))|(apply rx_callA;(iterate 6 exact rfl);(iterate 2 (focus (repeat (first|exact VAs.nil|apply VAs.cons|apply VA.c|apply VA.agg|exact VCs.nil|(apply VCs.same;assumption)|apply VCs.cons|exact VC.imm (Imm.v _)|exact VC.imm (Imm.sl _)|exact VC.imm (Imm.ip _)|exact VC.imm ‹_›|exact VC.nil|apply VC.fn|(refine VC.ptrA rfl rfl rfl rfl ?_;(repeat (first|assumption|exact imm_no|exact Imm.v _|exact Imm.sl _|exact Imm.ip _|exact Imm.nil|exact Imm.fn0 _|refine imm_cons ?_ ?_|refine Imm.fn _ _ ?_)))|(apply VC.refA;exact rfl;exact rfl;(first|exact rfl|(focus (simp;done))|omega|(focus (simp only [lA,lB,lC,lD,lE];omega)));exact rfl;(first|assumption|(refine AllSc.imm ?_;assumption)))|assumption))));(first|exact l19Join_pf ws hb s ws.length _ _ rfl (by omega) (by omega) he2);(focus (repeat (first|exact trivial|exact Flat.v _|exact Flat.ref _ _ _|exact Flat.nil|apply And.intro)));(first|apply callK0|(apply callK1;(focus (repeat (first|exact trivial|apply And.intro|(first|exact AllSc.nil|assumption))))));(first|exact sh_1 _ _|exact sh_2 _ _ _|exact sh_r _ _ _ _|exact sh_r1 _ _ _ _ _|exact sh_n _|exact sh_n1 _ _|exact sh_ar _ _ _ _|exact sh_ar1 _ _ _ _ _|exact sh_an1 _ _|exact sh_3 _ _ _ _|exact rfl))|((first|refine rx_splitP rfl rfl rfl ?_ ?_|refine rx_split rfl rfl rfl ?_ ?_)<;>intro hp<;>(try (exfalso;omega)))|((first|refine AWp.condP rfl ?_ ?_|refine AWp.cond _ rfl ?_ ?_)<;>intro hp<;>(try (exfalso;omega)))))
        refine ⟨k + 1, by omega, by omega, ?_⟩
        refine Weak.of [(0, some 2)] rfl ?_ ?_ <;> (repeat' (first|exact trivial|exact rfl|exact Or.inr ⟨rfl,‹_›⟩|apply And.intro|exact congrArg (Value.int .i64) (by first|omega|(simp;done)|(simp;omega))|(refine natEq ?_;first|(focus (simp;done))|omega|(simp only [lA,lB,lC,lD,lE];omega))|(refine ⟨_,rfl,rfl,rfl,OW.one ?_⟩)|(refine ⟨_,rfl,rfl,rfl,OW.same ?_ ?_⟩)|refine vwB ?_|refine vwS ?_|refine vwI ?_|refine fwB ?_|refine fwS ?_|refine fwI ?_|(refine AllSc.imm ?_;first|exact AllSc.nil|assumption)))
        · simp [jls_len]
        · exact hfin
        · exact (strs_sc _).imm
    · have hlt' : ¬ (k : Int) < (((nI ks).map eInt).length : Int) := by omega
      obtain rfl : k = ks.length := by omega
      (repeat (first|(apply xW;(first|exact Want.none_ rfl|(refine wantG rfl rfl rfl rfl ?_;(first|assumption|exact dT ‹_›|exact dF ‹_›|exact rfl))))|(apply xF tabOk;exact rfl;exact rfl)|((first|(apply rx_cat;exact rfl;exact rfl)|apply rx_add|apply rx_sub|apply rx_mul|apply rx_quo|apply rx_rem|apply rx_neg|apply rx_ixS|(apply rx_ixSl;exact rfl;exact rfl)|apply rx_ixRef|(apply rx_load;exact rfl;exact rfl;exact tabOk;exact rfl;exact rfl)|apply rx_loadAgg|apply rx_build|apply rx_buildSlice|apply rx_alloc|apply rx_makeFunc|apply rx_makeSlice|(apply rx_appRef;exact rfl;exact rfl)|apply rx_appNil|(apply rx_sliceS;exact rfl;exact rfl)|(apply rx_sliceSl;exact rfl;exact rfl)|apply rx_sliceRef|apply rx_min|apply rx_max|apply rx_store)<;>(first|exact tabOk|exact Nat.zero_add _|exact rfl|refine rxid ?_|assumption|omega|exact ⟨rfl⟩|exact ⟨rfl,_,_,rfl,rfl⟩|exact lb rfl|(refine Bd.mk ?_;first|assumption|omega|(focus (simp;done))|(simp;omega)|decide)|exact set_at ‹_›|exact set_at (set_at ‹_›)|(focus (refine ⟨rfl,_,_,rfl,?_⟩;omega))|(focus (simp;done))|(simp;omega)|(simp only [lA,lB,lC,lD,lE];omega)|exact newsAll rfl (by first|rfl|(simp;done)|(simp only [lA,lB,lC,lD,lE];omega))))|(apply xPick;exact rfl;exact rfl;(first|assumption|exact dT ‹_›|exact dF ‹_›|exact rfl);exact rfl;exact rfl)|(apply xSkip;(iterate 5 exact rfl);(first|assumption|exact dT ‹_›|exact dF ‹_›|exact rfl))|(apply xSkipN;(iterate 5 exact rfl))|apply rx_end|(refine rx_endD ?_ ?_;kernel_rfl)|apply AWp.seq|apply thenK_normal|apply AWp.reg|apply AWp.block|apply AWp.skip|apply AWp.label|apply AWp.exit|apply AWp.ret|apply thenK_exit|apply thenK_ret|apply blockK_normal|apply blockK_ret|apply blockK_exit|(refine AWp.regD ?_ ?_;kernel_rfl)|(refine blockK_other rfl ?_)|(apply AWp.condT;exact rfl;(first|assumption|exact dT ‹_›|exact dF ‹_›|exact rfl))|(apply AWp.condF;exact rfl;(first|assumption|exact dT ‹_›|exact dF ‹_›|exact rfl))))
      ((first|refine ret_ret _ [(0, some 0)] (.cons (rv_tmp rfl) .nil) ?_ rfl ?_|refine ret_end _ [(0, some 0)] (.cons (rv_tmp rfl) .nil) ?_ rfl ?_) <;> (repeat' (first|exact trivial|exact rfl|exact Or.inr ⟨rfl,‹_›⟩|apply And.intro|exact congrArg (Value.int .i64) (by first|omega|(simp;done)|(simp;omega))|(refine natEq ?_;first|(focus (simp;done))|omega|(simp only [lA,lB,lC,lD,lE];omega))|(refine ⟨_,rfl,rfl,rfl,OW.one ?_⟩)|(refine ⟨_,rfl,rfl,rfl,OW.same ?_ ?_⟩)|refine vwB ?_|refine vwS ?_|refine vwI ?_|refine fwB ?_|refine fwS ?_|refine fwI ?_|(refine AllSc.imm ?_;first|exact AllSc.nil|assumption))))
      exact (strs_sc _).imm
end Go.Proofs.Ytfebalahfhkeaaa
