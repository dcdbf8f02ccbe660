/- Draws of which the bounds alone matter. -/
import Derived.Test.YtchpdclknbmdoaaGreatDoorCur
namespace Go.Proofs.YtchpdclknbmdoaaGreatDoor
open Go Go.RowKit
section
variable (code : List UInt8) (c : Cur) (hl : code.length ≤ 65536) (hc : c.a ≤ 10000000)
include hl hc
theorem vB (n : Nat) (hn : 1 ≤ n ∧ n ≤ 4000000) : ∃ (c' : Cur) (v : Nat), c'.a ≤ c.a + 2 ∧ v < n ∧ PFM Tryz.prog 77 [xT code c] [.c (.ptr 0 0 0), .c (int n)] [some (xT code c')] (.c (int v)) := by
  by_cases h : n ≤ 200
  · have hv := kM code c hn.1
    have ha := jF code c n
    have hp := pick_pfm code c hl (by omega) n h
    have e : pkV code c n = ((pkV code c n).toNat : Int) := by omega
    rw [e] at hp
    exact ⟨pkC code c n, (pkV code c n).toNat, by omega, by omega, hp⟩
  · have h1 := nxV_in code c
    have h2 := nxV_in code (nxC code c)
    have hr1 := Int.emod_nonneg (nxV code c * 256 + nxV code (nxC code c)) (show (n : Int) ≠ 0 by omega)
    have hr2 := Int.emod_lt_of_pos (nxV code c * 256 + nxV code (nxC code c)) (show (0 : Int) < (n : Int) by omega)
    obtain ⟨v, hv⟩ : ∃ v : Nat, (nxV code c * 256 + nxV code (nxC code c)) % n = (v : Int) := ⟨((nxV code c * 256 + nxV code (nxC code c)) % n).toNat, by omega⟩
    refine ⟨nxC code (nxC code c), v, ?_, by omega, ?_⟩
    · show c.a + 1 + 1 ≤ c.a + 2; omega
    have h1' : ¬ (n : Int) ≤ 1 := by omega
    have h2' : (200 : Int) < (n : Int) := by omega
    have a1 : (nxC code c).a = c.a + 1 := rfl
    have i1 := y5 (yL code (nxC code c))
    have i2 := y5 (yL code (nxC code (nxC code c)))
    have j0 := wE (yL code c)
    have j1 := wE (yL code (nxC code c))
    have i3 := yL code (nxC code (nxC code c))
    refine zD (x5 _ _) (xV _) rfl Tryz.func77 rfl (by kernel_rfl) _ _ rfl rfl rfl (fun w0 mu I0 β0 gi dis => ?_)
    (repeat' (first|(apply xW;((exact Want.none_ rfl)))|(apply xF zK;exact rfl;exact rfl)|((first|apply yF|apply vS|apply rx_rem)<;>(first|exact rfl|refine yO ?_|omega))|apply zV|apply AWp.Q|apply zJ|apply AWp.G|apply AWp.J|apply AWp.R|(apply AWp.T;exact rfl;((exact dT ‹_›)))|(apply AWp.F;exact rfl;((exact dF ‹_›)))|(apply (zY (next_pfm code c hl (by omega)));(iterate 7 exact rfl);(focus (repeat (first|exact All2.nil|refine All2.cons rfl ?_)));exact rfl;(focus (repeat (first|exact MAs.nil|apply MAs.cons|apply MA.c|exact MC.ptr rfl)));((assumption));((assumption));exact rfl;exact rfl)|(apply (zY (next_pfm code (nxC code c) hl (by omega)));(iterate 7 exact rfl);(focus (repeat (first|exact All2.nil|refine All2.cons rfl ?_)));exact rfl;(focus (repeat (first|exact MAs.nil|apply MAs.cons|apply MA.c|exact MC.ptr rfl)));((assumption));((assumption));exact rfl;exact rfl)))
    (((refine z6 _ [(0, some 0)] (.cons (zT rfl) .nil) ?_ rfl ?_)) <;> (repeat' (first|exact trivial|exact rfl|apply And.intro|(apply cgI;(omega))|refine ⟨_,rfl,rfl,rfl,OW.one ?_⟩)))
theorem kN (n : Nat) (hn : 1 ≤ n ∧ n ≤ 200) : ∃ (c' : Cur) (b : Bool), c'.a ≤ c.a + 1 ∧ PFM Tryz.prog 75 [xT code c] [.c (.ptr 0 0 0), .c (int n)] [some (xT code c')] (.c (boo b)) :=
  ⟨_, _, jF code c n, one_pfm code c hl (by omega) n hn.2⟩
theorem kP (l : List (List UInt8)) (hn : 1 ≤ l.length ∧ l.length ≤ 200) : ∃ (c' : Cur) (x : List UInt8), c'.a ≤ c.a + 1 ∧ x ∈ l ∧ PFM Tryz.prog 109 [xT code c, ⟨9, 1, l.map wF⟩] [.c (.ptr 0 0 0), .c (.ref 1 0 l.length)] [some (xT code c'), some ⟨9, 1, l.map wF⟩] (.c (str x)) := by
  refine ⟨_, _, jF code c l.length, ?_, of_pfm code c hl (by omega) l hn⟩
  have hv := kM code c hn.1
  obtain ⟨x, hx⟩ := xX (show (pkV code c l.length).toNat < l.length by omega)
  rw [ofV, hx]
  exact List.mem_of_getElem? hx
theorem among_ex (l : List Int) (m : Nat) (hn : 1 ≤ m ∧ m ≤ 200) (hm : m ≤ l.length) : ∃ (c' : Cur) (x : Int), c'.a ≤ c.a + 1 ∧ x ∈ l ∧ PFM Tryz.prog 76 [xT code c, ⟨3, 1, l.map y4⟩] [.c (.ptr 0 0 0), .c (.ref 1 0 m)] [some (xT code c'), some ⟨3, 1, l.map y4⟩] (.c (int x)) := by
  refine ⟨_, _, jF code c m, ?_, among_pfm code c hl (by omega) l m hn hm⟩
  have hv := kM code c hn.1
  obtain ⟨x, hx⟩ := xX (show (pkV code c m).toNat < l.length by omega)
  rw [amV, hx]
  exact List.mem_of_getElem? hx
end
end Go.Proofs.YtchpdclknbmdoaaGreatDoor
