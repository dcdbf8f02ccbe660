/- Draws of which the bounds alone matter. No conditions but bounds. -/
import Derived.Test.YtchpdclknbmdoaaDoorCur
namespace Go.Proofs.YtchpdclknbmdoaaDoor
open Go Go.RowKit
section
variable (code : List UInt8) (c : Cur) (hl : code.length ≤ 65536) (hc : c.a ≤ 10000000)
include hl hc
theorem wF (n : Nat) (hn : 1 ≤ n ∧ n ≤ 4000000) : ∃ (c' : Cur) (v : Nat), c'.a ≤ c.a + 2 ∧ v < n ∧ PFM Tryd.prog 56 [xT code c] [.c (.ptr 0 0 0), .c (int n)] [some (xT code c')] (.c (int v)) := by
  by_cases h : n ≤ 200
  · have hv := qT code c hn.1
    have ha := kG code c n
    have hp := pick_pfm code c hl (by omega) n h
    have e : pkV code c n = ((pkV code c n).toNat : Int) := by omega
    rw [e] at hp
    exact ⟨pkC code c n, (pkV code c n).toNat, by omega, by omega, hp⟩
  · have h1 := nxV_in code c
    have h2 := nxV_in code (nxC code c)
    have hr1 := Int.emod_nonneg (nxV code c * 256 + nxV code (nxC code c)) (show (n : Int) ≠ 0 by omega)
    have hr2 := Int.emod_lt_of_pos (nxV code c * 256 + nxV code (nxC code c)) (show (0 : Int) < (n : Int) by omega)
    obtain ⟨v, hv⟩ : ∃ v : Nat, (nxV code c * 256 + nxV code (nxC code c)) % n = (v : Int) := ⟨((nxV code c * 256 + nxV code (nxC code c)) % n).toNat, by omega⟩
    refine ⟨nxC code (nxC code c), v, ?_, by omega, ?_⟩
    · show c.a + 1 + 1 ≤ c.a + 2; omega
    have h1' : ¬ (n : Int) ≤ 1 := by omega
    have h2' : (200 : Int) < (n : Int) := by omega
    have a1 : (nxC code c).a = c.a + 1 := rfl
    have i1 := y7 (zW code (nxC code c))
    have i2 := y7 (zW code (nxC code (nxC code c)))
    have j0 := wC (zW code c)
    have j1 := wC (zW code (nxC code c))
    have i3 := zW code (nxC code (nxC code c))
    refine zD (xY _ _) (xX _) rfl Tryd.func56 rfl (by kernel_rfl) _ _ rfl rfl rfl (fun w0 mu I0 β0 gi dis => ?_)
    (repeat' (first|(apply xW;(first|exact Want.none_ rfl|(refine yA rfl rfl rfl rfl ?_;(first|assumption|exact dT ‹_›|exact dF ‹_›|exact rfl))))|(apply xF zH;exact rfl;exact rfl)|((first|(apply z6;exact rfl;exact rfl)|apply z7|apply wR|apply qR)<;>(first|exact zH|exact Nat.zero_add _|exact rfl|refine yN ?_|assumption|omega|exact ⟨rfl⟩|exact ⟨rfl,_,_,rfl,rfl⟩|exact lb rfl|(refine Bd.mk ?_;first|assumption|omega|(focus (simp;done))|(simp;omega)|decide)|(focus (simp;done))|(simp;omega)|(simp only [lA,lB,lC,lD,lE];omega)))|apply zS|apply AWp.Q|apply zG|apply AWp.G|apply AWp.J|apply AWp.R|apply zJ|(apply AWp.T;exact rfl;(first|assumption|exact dT ‹_›|exact dF ‹_›|exact rfl))|(apply AWp.F;exact rfl;(first|assumption|exact dT ‹_›|exact dF ‹_›|exact rfl))|(apply (zY (next_pfm code c hl (by omega)));(iterate 7 exact rfl);(focus (repeat (first|exact All2.nil|refine All2.cons rfl ?_)));exact rfl;(focus (repeat (first|exact MC.vc (VC.imm (zA _))|exact MC.vc (VC.imm (Imm.fn _ _ ‹_›))|exact MAs.nil|apply MAs.cons|apply MA.c|apply MA.agg|exact MCs.nil|apply MCs.cons|exact MC.ref rfl|exact MC.ptr rfl|exact MC.vc (VC.imm (Imm.v _))|exact MC.vc (VC.imm (Imm.sl _))|exact MC.vc (VC.imm (Imm.ip _))|exact MC.vc VC.nil)));(first|assumption|(apply xC;assumption)|(apply y7;assumption));(first|exact xD|assumption|(apply xB;assumption));exact rfl;exact rfl)|(apply (zY (next_pfm code (nxC code c) hl (by omega)));(iterate 7 exact rfl);(focus (repeat (first|exact All2.nil|refine All2.cons rfl ?_)));exact rfl;(focus (repeat (first|exact MC.vc (VC.imm (zA _))|exact MC.vc (VC.imm (Imm.fn _ _ ‹_›))|exact MAs.nil|apply MAs.cons|apply MA.c|apply MA.agg|exact MCs.nil|apply MCs.cons|exact MC.ref rfl|exact MC.ptr rfl|exact MC.vc (VC.imm (Imm.v _))|exact MC.vc (VC.imm (Imm.sl _))|exact MC.vc (VC.imm (Imm.ip _))|exact MC.vc VC.nil)));(first|assumption|(apply xC;assumption)|(apply y7;assumption));(first|exact xD|assumption|(apply xB;assumption));exact rfl;exact rfl)|((first|refine AWp.C rfl ?_ ?_|refine AWp.O _ rfl ?_ ?_)<;>intro hp<;>(try (exfalso;omega)))))
    ((first|refine yE _ [(0, some 0)] (.cons (zR rfl) .nil) ?_ rfl ?_|refine yF _ [(0, some 0)] (.cons (zR rfl) .nil) ?_ rfl ?_) <;> (repeat' (first|exact trivial|exact rfl|exact Or.inr ⟨rfl,‹_›⟩|exact Or.inl ⟨rfl,trivial⟩|apply And.intro|exact congrArg (Value.int .i64) (by first|omega|(simp;done)|(simp;omega))|(refine yD ?_;first|(focus (simp;done))|omega|(simp only [lA,lB,lC,lD,lE];omega))|(refine ⟨_,rfl,rfl,rfl,OW.one ?_⟩)|(refine ⟨_,rfl,rfl,rfl,OW.same ?_ ?_⟩)|refine vwB ?_|refine vwS ?_|refine vwI ?_|refine fwB ?_|refine fwS ?_|refine fwI ?_|(refine aIm ?_;first|exact AllSc.nil|assumption))))
theorem qD (n : Nat) (hn : 1 ≤ n ∧ n ≤ 200) : ∃ (c' : Cur) (b : Bool), c'.a ≤ c.a + 1 ∧ PFM Tryd.prog 57 [xT code c] [.c (.ptr 0 0 0), .c (int n)] [some (xT code c')] (.c (boo b)) :=
  ⟨_, _, kG code c n, one_pfm code c hl (by omega) n hn.2⟩
theorem kH (l : List (List UInt8)) (hn : 1 ≤ l.length ∧ l.length ≤ 200) : ∃ (c' : Cur) (x : List UInt8), c'.a ≤ c.a + 1 ∧ x ∈ l ∧ PFM Tryd.prog 143 [xT code c, ⟨9, 1, l.map x4⟩] [.c (.ptr 0 0 0), .c (.ref 1 0 l.length)] [some (xT code c'), some ⟨9, 1, l.map x4⟩] (.c (str x)) := by
  refine ⟨_, _, kG code c l.length, ?_, of_pfm code c hl (by omega) l hn⟩
  have hv := qT code c hn.1
  obtain ⟨x, hx⟩ := xR (show (pkV code c l.length).toNat < l.length by omega)
  rw [ofV, hx]
  exact List.mem_of_getElem? hx
theorem among_ex (l : List Int) (m : Nat) (hn : 1 ≤ m ∧ m ≤ 200) (hm : m ≤ l.length) : ∃ (c' : Cur) (x : Int), c'.a ≤ c.a + 1 ∧ x ∈ l ∧ PFM Tryd.prog 58 [xT code c, ⟨3, 1, l.map xQ⟩] [.c (.ptr 0 0 0), .c (.ref 1 0 m)] [some (xT code c'), some ⟨3, 1, l.map xQ⟩] (.c (int x)) := by
  refine ⟨_, _, kG code c m, ?_, among_pfm code c hl (by omega) l m hn hm⟩
  have hv := qT code c hn.1
  obtain ⟨x, hx⟩ := xR (show (pkV code c m).toNat < l.length by omega)
  rw [amV, hx]
  exact List.mem_of_getElem? hx
end
end Go.Proofs.YtchpdclknbmdoaaDoor
