/- Draws of which the bounds alone matter. No conditions but bounds. -/
import Derived.Test.YtdggbjlgimcpkaaCur
namespace Go.Proofs.Ytdggbjlgimcpkaa
open Go Go.RowKit
section
variable (code : List UInt8) (c : Cur) (hl : code.length ≤ 65536) (hc : c.a ≤ 10000000)
include hl hc
theorem pick_ex (n : Nat) (hn : 1 ≤ n ∧ n ≤ 4000000) : ∃ (c' : Cur) (v : Nat), c'.a ≤ c.a + 2 ∧ v < n ∧ PFM Try.prog 64 [curO code c] [.c (.ptr 0 0 0), .c (int n)] [some (curO code c')] (.c (int v)) := by
  by_cases h : n ≤ 200
  · have hv := pkV_in code c hn.1
    have ha := pkC_a code c n
    have hp := pick_pfm code c hl (by omega) n h
    have e : pkV code c n = ((pkV code c n).toNat : Int) := by omega
    rw [e] at hp
    exact ⟨pkC code c n, (pkV code c n).toNat, by omega, by omega, hp⟩
  · have h1 := nxV_in code c
    have h2 := nxV_in code (nxC code c)
    have hr1 := Int.emod_nonneg (nxV code c * 256 + nxV code (nxC code c)) (show (n : Int) ≠ 0 by omega)
    have hr2 := Int.emod_lt_of_pos (nxV code c * 256 + nxV code (nxC code c)) (show (0 : Int) < (n : Int) by omega)
    obtain ⟨v, hv⟩ : ∃ v : Nat, (nxV code c * 256 + nxV code (nxC code c)) % n = (v : Int) := ⟨((nxV code c * 256 + nxV code (nxC code c)) % n).toNat, by omega⟩
    refine ⟨nxC code (nxC code c), v, ?_, by omega, ?_⟩
    · show c.a + 1 + 1 ≤ c.a + 2; omega
    have h1' : ¬ (n : Int) ≤ 1 := by omega
    have h2' : (200 : Int) < (n : Int) := by omega
    have a1 : (nxC code c).a = c.a + 1 := rfl
    have i1 := imO2 (curO_im code (nxC code c))
    have i2 := imO2 (curO_im code (nxC code (nxC code c)))
    have j0 := iiP1 (curO_im code c)
    have j1 := iiP1 (curO_im code (nxC code c))
    have i3 := curO_im code (nxC code (nxC code c))
    refine PFM.enterT (enum2 _ _) (enumM1 _) rfl Try.func64 rfl (by kernel_rfl) _ _ rfl rfl rfl (fun w0 mu I0 β0 gi dis => ?_)
    (repeat' (first|(apply xW;(first|exact Want.none_ rfl|(refine wantG rfl rfl rfl rfl ?_;(first|assumption|exact dT ‹_›|exact dF ‹_›|exact rfl))))|(apply xF tabOk;exact rfl;exact rfl)|((first|(apply rx_cat;exact rfl;exact rfl)|apply rx_add|(apply rx_subU8;exact rfl;exact rfl;exact rfl)|apply rx_sub|apply rx_mul|apply rx_quo|apply rx_rem|apply rx_neg|apply rx_ixS|(apply rx_ixSl;exact rfl;exact rfl)|apply rx_ixRef|(apply rx_load;exact rfl;exact rfl;exact tabOk;exact rfl;exact rfl)|apply rx_loadAgg|apply rx_build|apply rx_buildSlice|apply rx_alloc|apply rx_makeFunc|apply rx_makeSlice|(apply rx_appRef;exact rfl;exact rfl)|apply rx_appNil|(apply rx_sliceS;exact rfl;exact rfl)|(apply rx_sliceSl;exact rfl;exact rfl)|apply rx_sliceRef|apply rx_min|apply rx_max|apply rx_store)<;>(first|exact tabOk|exact Nat.zero_add _|exact rfl|refine rxid ?_|assumption|omega|exact ⟨rfl⟩|exact ⟨rfl,_,_,rfl,rfl⟩|exact lb rfl|(refine Bd.mk ?_;first|assumption|omega|(focus (simp;done))|(simp;omega)|decide)|exact set_at ‹_›|exact set_at (set_at ‹_›)|(focus (apply oI;exact rfl;exact rfl;assumption))|(focus (refine ⟨rfl,_,_,rfl,?_⟩;omega))|exact bdLens rfl|exact bdTd ‹_›|(focus (simp;done))|(simp;omega)|(simp only [lA,lB,lC,lD,lE];omega)|exact newsAll rfl (by first|rfl|(simp;done)|(simp only [lA,lB,lC,lD,lE];omega))|exact newsRef rfl (by first|assumption|omega|(simp only [lA,lB,lC,lD,lE];omega))))|(apply xPick;exact rfl;exact rfl;(first|assumption|exact dT ‹_›|exact dF ‹_›|exact rfl);exact rfl;exact rfl)|(apply xSkip;(iterate 5 exact rfl);(first|assumption|exact dT ‹_›|exact dF ‹_›|exact rfl))|(apply xSkipN;(iterate 5 exact rfl))|apply rx_end|(refine rx_endD ?_ ?_;kernel_rfl)|apply AWp.seq|apply thenK_normal|apply AWp.reg|apply AWp.block|apply AWp.skip|apply AWp.label|apply AWp.exit|apply AWp.ret|apply thenK_exit|apply thenK_ret|apply blockK_normal|apply blockK_ret|apply blockK_exit|(refine AWp.regD ?_ ?_;kernel_rfl)|(refine blockK_other rfl ?_)|(apply AWp.condT;exact rfl;(first|assumption|exact dT ‹_›|exact dF ‹_›|exact rfl))|(apply AWp.condF;exact rfl;(first|assumption|exact dT ‹_›|exact dF ‹_›|exact rfl))|(apply (rx_callMR (next_pfm code c hl (by omega)));(iterate 7 exact rfl);(focus (repeat (first|exact All2.nil|refine All2.cons rfl ?_)));exact rfl;(focus (repeat (first|exact MC.vc (VC.imm (Imm.fn0 _))|exact MC.vc (VC.imm (Imm.fn _ _ ‹_›))|exact MAs.nil|apply MAs.cons|apply MA.c|apply MA.agg|exact MCs.nil|apply MCs.cons|exact MC.ref rfl|exact MC.ptr rfl|exact MC.vc (VC.imm (Imm.v _))|exact MC.vc (VC.imm (Imm.sl _))|exact MC.vc (VC.imm (Imm.ip _))|exact MC.vc VC.nil)));(first|assumption|(apply imO1;assumption)|(apply imO2;assumption));(first|exact imI0|assumption|(apply imI1;assumption));exact rfl;exact rfl)|(apply (rx_callMR (next_pfm code (nxC code c) hl (by omega)));(iterate 7 exact rfl);(focus (repeat (first|exact All2.nil|refine All2.cons rfl ?_)));exact rfl;(focus (repeat (first|exact MC.vc (VC.imm (Imm.fn0 _))|exact MC.vc (VC.imm (Imm.fn _ _ ‹_›))|exact MAs.nil|apply MAs.cons|apply MA.c|apply MA.agg|exact MCs.nil|apply MCs.cons|exact MC.ref rfl|exact MC.ptr rfl|exact MC.vc (VC.imm (Imm.v _))|exact MC.vc (VC.imm (Imm.sl _))|exact MC.vc (VC.imm (Imm.ip _))|exact MC.vc VC.nil)));(first|assumption|(apply imO1;assumption)|(apply imO2;assumption));(first|exact imI0|assumption|(apply imI1;assumption));exact rfl;exact rfl)|((first|refine rx_splitP rfl rfl rfl ?_ ?_|refine rx_split rfl rfl rfl ?_ ?_)<;>intro hp<;>(try (exfalso;omega)))|((first|refine AWp.condP rfl ?_ ?_|refine AWp.cond _ rfl ?_ ?_)<;>intro hp<;>(try (exfalso;omega)))))
    ((first|refine ret_ret _ [(0, some 0)] (.cons (rv_tmp rfl) .nil) ?_ rfl ?_|refine ret_end _ [(0, some 0)] (.cons (rv_tmp rfl) .nil) ?_ rfl ?_) <;> (repeat' (first|exact trivial|exact rfl|exact Or.inr ⟨rfl,‹_›⟩|exact Or.inl ⟨rfl,trivial⟩|apply And.intro|exact congrArg (Value.int .i64) (by first|omega|(simp;done)|(simp;omega))|(refine natEq ?_;first|(focus (simp;done))|omega|(simp only [lA,lB,lC,lD,lE];omega))|(refine ⟨_,rfl,rfl,rfl,OW.one ?_⟩)|(refine ⟨_,rfl,rfl,rfl,OW.same ?_ ?_⟩)|refine vwB ?_|refine vwS ?_|refine vwI ?_|refine fwB ?_|refine fwS ?_|refine fwI ?_|(refine AllSc.imm ?_;first|exact AllSc.nil|assumption))))
theorem one_ex (n : Nat) (hn : 1 ≤ n ∧ n ≤ 200) : ∃ (c' : Cur) (b : Bool), c'.a ≤ c.a + 1 ∧ PFM Try.prog 66 [curO code c] [.c (.ptr 0 0 0), .c (int n)] [some (curO code c')] (.c (boo b)) :=
  ⟨_, _, pkC_a code c n, one_pfm code c hl (by omega) n hn.2⟩
theorem of_ex (l : List (List UInt8)) (hn : 1 ≤ l.length ∧ l.length ≤ 200) : ∃ (c' : Cur) (x : List UInt8), c'.a ≤ c.a + 1 ∧ x ∈ l ∧ PFM Try.prog 78 [curO code c, ⟨9, 1, l.map eStr⟩] [.c (.ptr 0 0 0), .c (.ref 1 0 l.length)] [some (curO code c'), some ⟨9, 1, l.map eStr⟩] (.c (str x)) := by
  refine ⟨_, _, pkC_a code c l.length, ?_, of_pfm code c hl (by omega) l hn⟩
  have hv := pkV_in code c hn.1
  obtain ⟨x, hx⟩ := at_lt (show (pkV code c l.length).toNat < l.length by omega)
  rw [ofV, hx]
  exact List.mem_of_getElem? hx
theorem among_ex (l : List Int) (m : Nat) (hn : 1 ≤ m ∧ m ≤ 200) (hm : m ≤ l.length) : ∃ (c' : Cur) (x : Int), c'.a ≤ c.a + 1 ∧ x ∈ l ∧ PFM Try.prog 68 [curO code c, ⟨3, 1, l.map eInt⟩] [.c (.ptr 0 0 0), .c (.ref 1 0 m)] [some (curO code c'), some ⟨3, 1, l.map eInt⟩] (.c (int x)) := by
  refine ⟨_, _, pkC_a code c m, ?_, among_pfm code c hl (by omega) l m hn hm⟩
  have hv := pkV_in code c hn.1
  obtain ⟨x, hx⟩ := at_lt (show (pkV code c m).toNat < l.length by omega)
  rw [amV, hx]
  exact List.mem_of_getElem? hx
end
end Go.Proofs.Ytdggbjlgimcpkaa
