/- The drill's simulation in plain terms; the least due time, by both programs. No conditions but bounds. -/
import Derived.Test.YtbboadheacmddaaGreatDoorDuC
import Derived.Test.YtbboadheacmddaaGreatDoorDkS
namespace Go.Proofs.YtbboadheacmddaaGreatDoor
open Go Go.RowKit
def minC (m : CardD) : List CardD → CardD
  | [] => m
  | c :: cs => minC (if c.due < m.due then c else m) cs
def minL (d : Int) : List CardD → Int
  | [] => d
  | c :: cs => minL (min d c.due) cs
def minD : List CardD → Int
  | [] => 0
  | c :: r => minL c.due r
theorem minC_due : ∀ (cs : List CardD) (m : CardD), (minC m cs).due = minL m.due cs
  | [], _ => rfl
  | c :: cs, m => by
    rw [minC, minL, minC_due cs]
    congr 1
    split
    · omega
    · omega
theorem minC_snoc : ∀ (l : List CardD) (m c : CardD), minC m (l ++ [c]) = if c.due < (minC m l).due then c else minC m l
  | [], _, _ => rfl
  | x :: l, m, c => by rw [List.cons_append, minC, minC, minC_snoc l]
theorem minL_snoc : ∀ (l : List CardD) (d : Int) (c : CardD), minL d (l ++ [c]) = min (minL d l) c.due
  | [], _, _ => rfl
  | x :: l, d, c => by rw [List.cons_append, minL, minL, minL_snoc l]
theorem minL_at : ∀ (cs : List CardD) (d : Int), minL d cs = d ∨ ∃ c ∈ cs, minL d cs = c.due
  | [], d => .inl rfl
  | x :: cs, d => by
    rw [minL]
    rcases minL_at cs (min d x.due) with h | ⟨c, hc, h⟩
    · by_cases hx : d ≤ x.due
      · left; omega
      · right; exact ⟨x, List.mem_cons_self, by omega⟩
    · exact .inr ⟨c, List.mem_cons_of_mem _ hc, h⟩
theorem minD_at {cs : List CardD} (h : cs ≠ []) : ∃ (i : Nat) (c : CardD), cs[i]? = some c ∧ c.due = minD cs := by
  cases cs with
  | nil => exact absurd rfl h
  | cons x r =>
    rcases minL_at r x.due with h | ⟨c, hc, h⟩
    · exact ⟨0, x, rfl, h.symm⟩
    · obtain ⟨i, hi⟩ := List.getElem?_of_mem hc
      exact ⟨i + 1, c, by rw [List.getElem?_cons_succ]; exact hi, h.symm⟩
def simN (cs : List CardD) (now : Int) : Int := max now (minD cs)
def pickD (cs : List CardD) (n : Int) : Nat := ((dueL cs n).headD 0).toNat
/-- the card that is practiced -/
theorem pickD_at {cs : List CardD} {now : Int} (h : cs ≠ []) : ∃ c r, dueL cs (simN cs now) = (pickD cs (simN cs now) : Int) :: r ∧ cs[pickD cs (simN cs now)]? = some c ∧ c.due ≤ simN cs now := by
  obtain ⟨i, c, hc, hd⟩ := minD_at h
  have hi := (List.getElem?_eq_some_iff.1 hc).1
  have hle : c.due ≤ simN cs now := by unfold simN; omega
  have hm : (i : Int) ∈ dueL cs (simN cs now) := by
    rw [dueL, stab_mem, dueK, List.mem_map]
    exact ⟨i, by rw [List.mem_filter, List.mem_range]; exact ⟨hi, by rw [dueAt_nat hc]; simpa using hle⟩, rfl⟩
  cases hl : dueL cs (simN cs now) with
  | nil => rw [hl] at hm; cases hm
  | cons x r =>
    have hx : x ∈ dueL cs (simN cs now) := by rw [hl]; exact List.mem_cons_self
    rw [dueL, stab_mem] at hx
    obtain ⟨j, rfl, hj, hdj⟩ := dueK_mem hx
    have e : pickD cs (simN cs now) = j := by rw [pickD, hl]; rfl
    obtain ⟨b, hb⟩ := at_lt hj
    rw [e]
    rw [dueAt_nat hb] at hdj
    exact ⟨b, r, rfl, hb, hdj⟩
def simS : List Bool → List CardD → Int → List Int → Option (List CardD × List Int)
  | [], cs, _, asked => if deckOk cs then some (cs, asked) else none
  | b :: bs, cs, now, asked => if 1000000 < simN cs now then none else simS bs (revCs cs (pickD cs (simN cs now)) (simN cs now) b) (simN cs now + 1) (asked ++ [(pickD cs (simN cs now) : Int)])
def simI : List Bool → List CardD → Int → List Int → Option (List CardD × List Int)
  | [], cs, _, asked => some (cs, asked)
  | b :: bs, cs, now, asked => if 1000000 < simN cs now then none else
    if deckOk (revCs cs (pickD cs (simN cs now)) (simN cs now) b) then simI bs (revCs cs (pickD cs (simN cs now)) (simN cs now) b) (simN cs now + 1) (asked ++ [(pickD cs (simN cs now) : Int)]) else none
theorem simS_bad : ∀ (bs : List Bool) (cs : List CardD) (now : Int) (asked : List Int) (j : Nat) (x : CardD), cs[j]? = some x → 1000000 < x.due → simS bs cs now asked = none
  | [], cs, now, asked, j, x, hx, hd => by
    rw [simS, if_neg]
    intro h
    have := deckOk_at h hx
    simp only [cardOk, Bool.and_eq_true, inZ, decide_eq_true_eq] at this
    omega
  | b :: bs, cs, now, asked, j, x, hx, hd => by
    rw [simS]
    split
    · rfl
    · have hne : cs ≠ [] := by rintro rfl; simp at hx
      obtain ⟨c, r, h1, h2, h3⟩ := pickD_at (now := now) hne
      refine simS_bad bs _ _ _ j x ?_ hd
      rw [revCs_eq h2, List.getElem?_set_ne, hx]
      intro e
      rw [e, hx] at h2
      cases h2
      omega
theorem simS_eq : ∀ (bs : List Bool) (cs : List CardD) (now : Int) (asked : List Int), deckOk cs = true → cs ≠ [] → 0 ≤ now → simS bs cs now asked = simI bs cs now asked
  | [], cs, now, asked, hk, _, _ => by rw [simS, simI, if_pos hk]
  | b :: bs, cs, now, asked, hk, hne, hn => by
    rw [simS, simI]
    split
    · rfl
    · obtain ⟨c, r, h1, h2, h3⟩ := pickD_at (now := now) hne
      have hn2 : 0 ≤ simN cs now := by unfold simN; omega
      have hi := (List.getElem?_eq_some_iff.1 h2).1
      split
      · rename_i hk2
        exact simS_eq bs _ _ _ hk2 (fun e => by have := congrArg List.length e; rw [revCs_len] at this; rw [this] at hi; exact absurd hi (Nat.not_lt_zero _)) (by omega)
      · rename_i hk2
        rw [deckOk_rev hk h2] at hk2
        have hd : 1000000 < (revC c (simN cs now) b).due := by
          simp only [inZ, decide_eq_true_eq] at hk2
          have : 0 ≤ (revC c (simN cs now) b).due := Int.add_nonneg hn2 (Int.natCast_nonneg _)
          omega
        refine simS_bad bs _ _ _ (pickD cs (simN cs now)) (revC c (simN cs now) b) ?_ hd
        rw [revCs_eq h2, List.getElem?_set_self hi]
theorem simD1_pf (x y : CardD) : PF Tryz.prog 21 [.agg (encCard x), .agg (encCard y)] [] (.c (int (sgn x.due y.due))) := by
  refine PF.enter (enum2 _ _) Tryz.func21 rfl (by kernel_rfl) _ _ rfl rfl rfl (fun w0 mu I0 β0 gi dis => ?_)
  (repeat' (first|(apply xW;(first|exact Want.none_ rfl|(refine wantG rfl rfl rfl rfl ?_;(first|assumption|exact dT ‹_›|exact dF ‹_›|exact rfl))))|(apply xF tabOk;exact rfl;exact rfl)|((first|(apply rx_cat;exact rfl;exact rfl)|apply rx_add|(apply rx_subU8;exact rfl;exact rfl;exact rfl)|apply rx_sub|apply rx_mul|apply rx_quo|apply rx_rem|apply rx_neg|apply rx_ixS|(apply rx_ixSl;exact rfl;exact rfl)|apply rx_ixRef|(apply rx_load;exact rfl;exact rfl;exact tabOk;exact rfl;exact rfl)|apply rx_loadAgg|apply rx_build|apply rx_buildSlice|apply rx_alloc|apply rx_makeFunc|apply rx_makeSlice|(apply rx_appRef;exact rfl;exact rfl)|apply rx_appNil|(apply rx_sliceS;exact rfl;exact rfl)|(apply rx_sliceSl;exact rfl;exact rfl)|apply rx_sliceRef|apply rx_min|apply rx_max|apply rx_store)<;>(first|exact tabOk|exact Nat.zero_add _|exact rfl|refine rxid ?_|assumption|omega|exact ⟨rfl⟩|exact ⟨rfl,_,_,rfl,rfl⟩|exact lb rfl|(refine Bd.mk ?_;first|assumption|omega|(focus (simp;done))|(simp;omega)|decide)|exact set_at ‹_›|exact set_at (set_at ‹_›)|(focus (apply oI;exact rfl;exact rfl;assumption))|(focus (refine ⟨rfl,_,_,rfl,?_⟩;omega))|exact bdLens rfl|exact bdTd ‹_›|(focus (simp;done))|(simp;omega)|(simp only [lA,lB,lC,lD,lE];omega)|exact newsAll rfl (by first|rfl|(simp;done)|(simp only [lA,lB,lC,lD,lE];omega))|exact newsRef rfl (by first|assumption|omega|(simp only [lA,lB,lC,lD,lE];omega))))|(apply xPick;exact rfl;exact rfl;(first|assumption|exact dT ‹_›|exact dF ‹_›|exact rfl);exact rfl;exact rfl)|(apply xSkip;(iterate 5 exact rfl);(first|assumption|exact dT ‹_›|exact dF ‹_›|exact rfl))|(apply xSkipN;(iterate 5 exact rfl))|apply rx_end|(refine rx_endD ?_ ?_;kernel_rfl)|apply AWp.seq|apply thenK_normal|apply AWp.reg|apply AWp.block|apply AWp.skip|apply AWp.label|apply AWp.exit|apply AWp.ret|apply thenK_exit|apply thenK_ret|apply blockK_normal|apply blockK_ret|apply blockK_exit|(refine AWp.regD ?_ ?_;kernel_rfl)|(refine blockK_other rfl ?_)|(apply AWp.condT;exact rfl;(first|assumption|exact dT ‹_›|exact dF ‹_›|exact rfl))|(apply AWp.condF;exact rfl;(first|assumption|exact dT ‹_›|exact dF ‹_›|exact rfl))|(apply rx_callA;(iterate 6 exact rfl);(iterate 2 (focus (repeat (first|exact VAs.nil|apply VAs.cons|apply VA.c|apply VA.agg|exact VCs.nil|(apply VCs.same;assumption)|apply VCs.cons|exact VC.imm (Imm.v _)|exact VC.imm (Imm.sl _)|exact VC.imm (Imm.ip _)|exact VC.imm ‹_›|exact VC.nil|apply VC.fn|(refine VC.ptrA rfl rfl rfl rfl ?_;(repeat (first|assumption|exact imm_no|exact Imm.v _|exact Imm.sl _|exact Imm.ip _|exact Imm.nil|exact Imm.fn0 _|refine imm_cons ?_ ?_|refine Imm.fn _ _ ?_)))|(apply VC.refA;exact rfl;exact rfl;(first|exact rfl|(focus (simp;done))|omega|(focus (simp only [lA,lB,lC,lD,lE];omega)));exact rfl;(first|assumption|(refine AllSc.imm ?_;assumption)))|(apply VC.refP;exact rfl;exact rfl;(first|assumption|omega|(focus (simp only [lA,lB,lC,lD,lE];omega))|(focus (simp;done))|(focus (simp;omega)));exact rfl;(first|assumption|(refine AllSc.imm ?_;assumption)))|assumption))));(first|exact cmpInt_pf x.due y.due);(focus (repeat (first|exact trivial|exact Flat.v _|exact Flat.dead|exact Flat.ref _ _ _|exact Flat.nil|apply And.intro)));(first|apply callK0|(apply callK1;(focus (repeat (first|exact trivial|apply And.intro|(first|exact AllSc.nil|assumption))))));(first|exact sh_1 _ _|exact sh_2 _ _ _|exact sh_r _ _ _ _|exact sh_r1 _ _ _ _ _|exact sh_n _|exact sh_n1 _ _|exact sh_ar _ _ _ _|exact sh_ar1 _ _ _ _ _|exact sh_an1 _ _|exact sh_3 _ _ _ _|exact rfl))|((first|refine rx_splitP rfl rfl rfl ?_ ?_|refine rx_split rfl rfl rfl ?_ ?_)<;>intro hp<;>(try (exfalso;omega)))|((first|refine AWp.condP rfl ?_ ?_|refine AWp.cond _ rfl ?_ ?_)<;>intro hp<;>(try (exfalso;omega)))))
  ((first|refine ret_ret _ [] (.cons (rv_tmp rfl) .nil) ?_ rfl ?_|refine ret_end _ [] (.cons (rv_tmp rfl) .nil) ?_ rfl ?_) <;> (repeat' (first|exact trivial|exact rfl|exact Or.inr ⟨rfl,‹_›⟩|exact Or.inl ⟨rfl,trivial⟩|apply And.intro|exact congrArg (Value.int .i64) (by first|omega|(simp;done)|(simp;omega))|(refine natEq ?_;first|(focus (simp;done))|omega|(simp only [lA,lB,lC,lD,lE];omega))|(refine ⟨_,rfl,rfl,rfl,OW.one ?_⟩)|(refine ⟨_,rfl,rfl,rfl,OW.same ?_ ?_⟩)|refine vwB ?_|refine vwS ?_|refine vwI ?_|refine fwB ?_|refine fwS ?_|refine fwI ?_|(refine AllSc.imm ?_;first|exact AllSc.nil|assumption))))
theorem minFunc_pf (c : CardD) (r : List CardD) (hl : (c :: r).length ≤ 4000000) : PF Tryz.prog 20 [.c (.sl ((c :: r).map encCard)), .c (.fn 21 [])] [] (.agg (encCard (minC c r))) := by
  have hL : ((c :: r).map encCard).length = r.length + 1 := by simp
  have hl2 : r.length + 1 ≤ 4000000 := hl
  have h0 : ((c :: r).map encCard)[0]? = some (encCard c) := rfl
  refine PF.enter (enum2 _ _) Tryz.func20 rfl (by kernel_rfl) _ _ rfl rfl rfl (fun w0 mu I0 β0 gi dis => ?_)
  (repeat' (first|(apply xW;(first|exact Want.none_ rfl|(refine wantG rfl rfl rfl rfl ?_;(first|assumption|exact dT ‹_›|exact dF ‹_›|exact rfl))))|(apply xF tabOk;exact rfl;exact rfl)|((first|(apply rx_cat;exact rfl;exact rfl)|apply rx_add|(apply rx_subU8;exact rfl;exact rfl;exact rfl)|apply rx_sub|apply rx_mul|apply rx_quo|apply rx_rem|apply rx_neg|apply rx_ixS|(apply rx_ixSl;exact rfl;exact rfl)|apply rx_ixRef|(apply rx_load;exact rfl;exact rfl;exact tabOk;exact rfl;exact rfl)|apply rx_loadAgg|apply rx_build|apply rx_buildSlice|apply rx_alloc|apply rx_makeFunc|apply rx_makeSlice|(apply rx_appRef;exact rfl;exact rfl)|apply rx_appNil|(apply rx_sliceS;exact rfl;exact rfl)|(apply rx_sliceSl;exact rfl;exact rfl)|apply rx_sliceRef|apply rx_min|apply rx_max|apply rx_store)<;>(first|exact tabOk|exact Nat.zero_add _|exact rfl|refine rxid ?_|assumption|omega|exact ⟨rfl⟩|exact ⟨rfl,_,_,rfl,rfl⟩|exact lb rfl|(refine Bd.mk ?_;first|assumption|omega|(focus (simp;done))|(simp;omega)|decide)|exact set_at ‹_›|exact set_at (set_at ‹_›)|(focus (apply oI;exact rfl;exact rfl;assumption))|(focus (refine ⟨rfl,_,_,rfl,?_⟩;omega))|exact bdLens rfl|exact bdTd ‹_›|(focus (simp;done))|(simp;omega)|(simp only [lA,lB,lC,lD,lE];omega)|exact newsAll rfl (by first|rfl|(simp;done)|(simp only [lA,lB,lC,lD,lE];omega))|exact newsRef rfl (by first|assumption|omega|(simp only [lA,lB,lC,lD,lE];omega))))|(apply xPick;exact rfl;exact rfl;(first|assumption|exact dT ‹_›|exact dF ‹_›|exact rfl);exact rfl;exact rfl)|(apply xSkip;(iterate 5 exact rfl);(first|assumption|exact dT ‹_›|exact dF ‹_›|exact rfl))|(apply xSkipN;(iterate 5 exact rfl))|apply rx_end|(refine rx_endD ?_ ?_;kernel_rfl)|apply AWp.seq|apply thenK_normal|apply AWp.reg|apply AWp.block|apply AWp.skip|apply AWp.label|apply AWp.exit|apply AWp.ret|apply thenK_exit|apply thenK_ret|apply blockK_normal|apply blockK_ret|apply blockK_exit|(refine AWp.regD ?_ ?_;kernel_rfl)|(refine blockK_other rfl ?_)|(apply AWp.condT;exact rfl;(first|assumption|exact dT ‹_›|exact dF ‹_›|exact rfl))|(apply AWp.condF;exact rfl;(first|assumption|exact dT ‹_›|exact dF ‹_›|exact rfl))|((first|refine rx_splitP rfl rfl rfl ?_ ?_|refine rx_split rfl rfl rfl ?_ ?_)<;>intro hp<;>(try (exfalso;omega)))|((first|refine AWp.condP rfl ?_ ?_|refine AWp.cond _ rfl ?_ ?_)<;>intro hp<;>(try (exfalso;omega)))))
  all_goals first | (exfalso; omega) | skip
  refine AWp.loop (σ := Nat) (fun k => ⟨[(0, .c (.sl ((c :: r).map encCard))), (1, .c (.fn 21 [])), (4, .c (.ptr 0 0 0)), (5, .c (.ptr 1 0 0)), (6, .c (int (k + 1 : Nat)))], [(0, some ⟨42, 3, [[str [], int 0, int 0]]⟩), (1, some ⟨42, 3, [encCard (minC c (r.take k))]⟩)], 2⟩) (fun k => k ≤ r.length) (fun k => r.length - k) 0 (Nat.zero_le _) ?_ ?_
  · refine Weak.of [(0, some 0), (1, some 1)] rfl ?_ ?_ <;> (repeat' (first|exact trivial|exact rfl|exact Or.inr ⟨rfl,‹_›⟩|exact Or.inl ⟨rfl,trivial⟩|apply And.intro|exact congrArg (Value.int .i64) (by first|omega|(simp;done)|(simp;omega))|(refine natEq ?_;first|(focus (simp;done))|omega|(simp only [lA,lB,lC,lD,lE];omega))|(refine ⟨_,rfl,rfl,rfl,OW.one ?_⟩)|(refine ⟨_,rfl,rfl,rfl,OW.same ?_ ?_⟩)|refine vwB ?_|refine vwS ?_|refine vwI ?_|refine fwB ?_|refine fwS ?_|refine fwI ?_|(refine AllSc.imm ?_;first|exact AllSc.nil|assumption)))
  · rintro k hk
    by_cases hlt : k < r.length
    · obtain ⟨x, hx⟩ := at_lt hlt
      have hx' : ((c :: r).map encCard)[k + 1]? = some (encCard x) := map_at (by simpa using hx)
      have hlt' : ((k + 1 : Nat) : Int) < (((c :: r).map encCard).length : Int) := by omega
      have e : minC c (r.take (k + 1)) = if x.due < (minC c (r.take k)).due then x else minC c (r.take k) := by rw [take_succ hx, minC_snoc]
      generalize minC c (r.take k) = m at e
      have him := encCard_sc m
      (repeat' (first|(apply xW;(first|exact Want.none_ rfl|(refine wantG rfl rfl rfl rfl ?_;(first|assumption|exact dT ‹_›|exact dF ‹_›|exact rfl))))|(apply xF tabOk;exact rfl;exact rfl)|((first|(apply rx_cat;exact rfl;exact rfl)|apply rx_add|(apply rx_subU8;exact rfl;exact rfl;exact rfl)|apply rx_sub|apply rx_mul|apply rx_quo|apply rx_rem|apply rx_neg|apply rx_ixS|(apply rx_ixSl;exact rfl;exact rfl)|apply rx_ixRef|(apply rx_load;exact rfl;exact rfl;exact tabOk;exact rfl;exact rfl)|apply rx_loadAgg|apply rx_build|apply rx_buildSlice|apply rx_alloc|apply rx_makeFunc|apply rx_makeSlice|(apply rx_appRef;exact rfl;exact rfl)|apply rx_appNil|(apply rx_sliceS;exact rfl;exact rfl)|(apply rx_sliceSl;exact rfl;exact rfl)|apply rx_sliceRef|apply rx_min|apply rx_max|apply rx_store)<;>(first|exact tabOk|exact Nat.zero_add _|exact rfl|refine rxid ?_|assumption|omega|exact ⟨rfl⟩|exact ⟨rfl,_,_,rfl,rfl⟩|exact lb rfl|(refine Bd.mk ?_;first|assumption|omega|(focus (simp;done))|(simp;omega)|decide)|exact set_at ‹_›|exact set_at (set_at ‹_›)|(focus (apply oI;exact rfl;exact rfl;assumption))|(focus (refine ⟨rfl,_,_,rfl,?_⟩;omega))|exact bdLens rfl|exact bdTd ‹_›|(focus (simp;done))|(simp;omega)|(simp only [lA,lB,lC,lD,lE];omega)|exact newsAll rfl (by first|rfl|(simp;done)|(simp only [lA,lB,lC,lD,lE];omega))|exact newsRef rfl (by first|assumption|omega|(simp only [lA,lB,lC,lD,lE];omega))))|(apply xPick;exact rfl;exact rfl;(first|assumption|exact dT ‹_›|exact dF ‹_›|exact rfl);exact rfl;exact rfl)|(apply xSkip;(iterate 5 exact rfl);(first|assumption|exact dT ‹_›|exact dF ‹_›|exact rfl))|(apply xSkipN;(iterate 5 exact rfl))|apply rx_end|(refine rx_endD ?_ ?_;kernel_rfl)|apply AWp.seq|apply thenK_normal|apply AWp.reg|apply AWp.block|apply AWp.skip|apply AWp.label|apply AWp.exit|apply AWp.ret|apply thenK_exit|apply thenK_ret|apply blockK_normal|apply blockK_ret|apply blockK_exit|(refine AWp.regD ?_ ?_;kernel_rfl)|(refine blockK_other rfl ?_)|(apply AWp.condT;exact rfl;(first|assumption|exact dT ‹_›|exact dF ‹_›|exact rfl))|(apply AWp.condF;exact rfl;(first|assumption|exact dT ‹_›|exact dF ‹_›|exact rfl))|(apply rx_callA;(iterate 6 exact rfl);(iterate 2 (focus (repeat (first|exact VAs.nil|apply VAs.cons|apply VA.c|apply VA.agg|exact VCs.nil|(apply VCs.same;assumption)|apply VCs.cons|exact VC.imm (Imm.v _)|exact VC.imm (Imm.sl _)|exact VC.imm (Imm.ip _)|exact VC.imm ‹_›|exact VC.nil|apply VC.fn|(refine VC.ptrA rfl rfl rfl rfl ?_;(repeat (first|assumption|exact imm_no|exact Imm.v _|exact Imm.sl _|exact Imm.ip _|exact Imm.nil|exact Imm.fn0 _|refine imm_cons ?_ ?_|refine Imm.fn _ _ ?_)))|(apply VC.refA;exact rfl;exact rfl;(first|exact rfl|(focus (simp;done))|omega|(focus (simp only [lA,lB,lC,lD,lE];omega)));exact rfl;(first|assumption|(refine AllSc.imm ?_;assumption)))|(apply VC.refP;exact rfl;exact rfl;(first|assumption|omega|(focus (simp only [lA,lB,lC,lD,lE];omega))|(focus (simp;done))|(focus (simp;omega)));exact rfl;(first|assumption|(refine AllSc.imm ?_;assumption)))|assumption))));(first|exact simD1_pf x m);(focus (repeat (first|exact trivial|exact Flat.v _|exact Flat.dead|exact Flat.ref _ _ _|exact Flat.nil|apply And.intro)));(first|apply callK0|(apply callK1;(focus (repeat (first|exact trivial|apply And.intro|(first|exact AllSc.nil|assumption))))));(first|exact sh_1 _ _|exact sh_2 _ _ _|exact sh_r _ _ _ _|exact sh_r1 _ _ _ _ _|exact sh_n _|exact sh_n1 _ _|exact sh_ar _ _ _ _|exact sh_ar1 _ _ _ _ _|exact sh_an1 _ _|exact sh_3 _ _ _ _|exact rfl))|((first|refine rx_splitP rfl rfl rfl ?_ ?_|refine rx_split rfl rfl rfl ?_ ?_)<;>intro hp<;>(try (exfalso;omega)))|((first|refine AWp.condP rfl ?_ ?_|refine AWp.cond _ rfl ?_ ?_)<;>intro hp<;>(try (exfalso;omega)))))
      · refine ⟨k + 1, by omega, by omega, ?_⟩
        rw [e, if_pos (by have := (sgn_neg x.due m.due).2 (by assumption); simpa using this)]
        refine Weak.of [(0, some 0), (1, some 1)] rfl ?_ ?_ <;> (repeat' (first|exact trivial|exact rfl|exact Or.inr ⟨rfl,‹_›⟩|exact Or.inl ⟨rfl,trivial⟩|apply And.intro|exact congrArg (Value.int .i64) (by first|omega|(simp;done)|(simp;omega))|(refine natEq ?_;first|(focus (simp;done))|omega|(simp only [lA,lB,lC,lD,lE];omega))|(refine ⟨_,rfl,rfl,rfl,OW.one ?_⟩)|(refine ⟨_,rfl,rfl,rfl,OW.same ?_ ?_⟩)|refine vwB ?_|refine vwS ?_|refine vwI ?_|refine fwB ?_|refine fwS ?_|refine fwI ?_|(refine AllSc.imm ?_;first|exact AllSc.nil|assumption)))
      · refine ⟨k + 1, by omega, by omega, ?_⟩
        rw [e, if_neg (fun h => absurd ((sgn_neg x.due m.due).1 (decide_eq_true h)) (by assumption))]
        refine Weak.of [(0, some 0), (1, some 1)] rfl ?_ ?_ <;> (repeat' (first|exact trivial|exact rfl|exact Or.inr ⟨rfl,‹_›⟩|exact Or.inl ⟨rfl,trivial⟩|apply And.intro|exact congrArg (Value.int .i64) (by first|omega|(simp;done)|(simp;omega))|(refine natEq ?_;first|(focus (simp;done))|omega|(simp only [lA,lB,lC,lD,lE];omega))|(refine ⟨_,rfl,rfl,rfl,OW.one ?_⟩)|(refine ⟨_,rfl,rfl,rfl,OW.same ?_ ?_⟩)|refine vwB ?_|refine vwS ?_|refine vwI ?_|refine fwB ?_|refine fwS ?_|refine fwI ?_|(refine AllSc.imm ?_;first|exact AllSc.nil|assumption)))
    · have hlt' : ¬ ((k + 1 : Nat) : Int) < (((c :: r).map encCard).length : Int) := by omega
      rw [List.take_of_length_le (by omega)]
      (repeat' (first|(apply xW;(first|exact Want.none_ rfl|(refine wantG rfl rfl rfl rfl ?_;(first|assumption|exact dT ‹_›|exact dF ‹_›|exact rfl))))|(apply xF tabOk;exact rfl;exact rfl)|((first|(apply rx_cat;exact rfl;exact rfl)|apply rx_add|(apply rx_subU8;exact rfl;exact rfl;exact rfl)|apply rx_sub|apply rx_mul|apply rx_quo|apply rx_rem|apply rx_neg|apply rx_ixS|(apply rx_ixSl;exact rfl;exact rfl)|apply rx_ixRef|(apply rx_load;exact rfl;exact rfl;exact tabOk;exact rfl;exact rfl)|apply rx_loadAgg|apply rx_build|apply rx_buildSlice|apply rx_alloc|apply rx_makeFunc|apply rx_makeSlice|(apply rx_appRef;exact rfl;exact rfl)|apply rx_appNil|(apply rx_sliceS;exact rfl;exact rfl)|(apply rx_sliceSl;exact rfl;exact rfl)|apply rx_sliceRef|apply rx_min|apply rx_max|apply rx_store)<;>(first|exact tabOk|exact Nat.zero_add _|exact rfl|refine rxid ?_|assumption|omega|exact ⟨rfl⟩|exact ⟨rfl,_,_,rfl,rfl⟩|exact lb rfl|(refine Bd.mk ?_;first|assumption|omega|(focus (simp;done))|(simp;omega)|decide)|exact set_at ‹_›|exact set_at (set_at ‹_›)|(focus (apply oI;exact rfl;exact rfl;assumption))|(focus (refine ⟨rfl,_,_,rfl,?_⟩;omega))|exact bdLens rfl|exact bdTd ‹_›|(focus (simp;done))|(simp;omega)|(simp only [lA,lB,lC,lD,lE];omega)|exact newsAll rfl (by first|rfl|(simp;done)|(simp only [lA,lB,lC,lD,lE];omega))|exact newsRef rfl (by first|assumption|omega|(simp only [lA,lB,lC,lD,lE];omega))))|(apply xPick;exact rfl;exact rfl;(first|assumption|exact dT ‹_›|exact dF ‹_›|exact rfl);exact rfl;exact rfl)|(apply xSkip;(iterate 5 exact rfl);(first|assumption|exact dT ‹_›|exact dF ‹_›|exact rfl))|(apply xSkipN;(iterate 5 exact rfl))|apply rx_end|(refine rx_endD ?_ ?_;kernel_rfl)|apply AWp.seq|apply thenK_normal|apply AWp.reg|apply AWp.block|apply AWp.skip|apply AWp.label|apply AWp.exit|apply AWp.ret|apply thenK_exit|apply thenK_ret|apply blockK_normal|apply blockK_ret|apply blockK_exit|(refine AWp.regD ?_ ?_;kernel_rfl)|(refine blockK_other rfl ?_)|(apply AWp.condT;exact rfl;(first|assumption|exact dT ‹_›|exact dF ‹_›|exact rfl))|(apply AWp.condF;exact rfl;(first|assumption|exact dT ‹_›|exact dF ‹_›|exact rfl))|((first|refine rx_splitP rfl rfl rfl ?_ ?_|refine rx_split rfl rfl rfl ?_ ?_)<;>intro hp<;>(try (exfalso;omega)))|((first|refine AWp.condP rfl ?_ ?_|refine AWp.cond _ rfl ?_ ?_)<;>intro hp<;>(try (exfalso;omega)))))
      ((first|refine ret_ret _ [] (.cons (rv_agg rfl rfl rfl tabOk rfl rfl rfl) .nil) ?_ rfl ?_|refine ret_end _ [] (.cons (rv_agg rfl rfl rfl tabOk rfl rfl rfl) .nil) ?_ rfl ?_) <;> (repeat' (first|exact trivial|exact rfl|exact Or.inr ⟨rfl,‹_›⟩|exact Or.inl ⟨rfl,trivial⟩|apply And.intro|exact congrArg (Value.int .i64) (by first|omega|(simp;done)|(simp;omega))|(refine natEq ?_;first|(focus (simp;done))|omega|(simp only [lA,lB,lC,lD,lE];omega))|(refine ⟨_,rfl,rfl,rfl,OW.one ?_⟩)|(refine ⟨_,rfl,rfl,rfl,OW.same ?_ ?_⟩)|refine vwB ?_|refine vwS ?_|refine vwI ?_|refine fwB ?_|refine fwS ?_|refine fwI ?_|(refine AllSc.imm ?_;first|exact AllSc.nil|assumption))))
end Go.Proofs.YtbboadheacmddaaGreatDoor
