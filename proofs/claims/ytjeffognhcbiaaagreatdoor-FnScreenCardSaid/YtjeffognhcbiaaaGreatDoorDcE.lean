/- Drawn translations and entries. -/
import Derived.Test.YtjeffognhcbiaaaGreatDoorDcD
namespace Go.Proofs.YtjeffognhcbiaaaGreatDoor
open Go Go.RowKit
theorem rngA_len (xs : Nat → Atm) (j : Nat) : ((List.range j).map xs).length = j := by simp
theorem rngA_succ (xs : Nat → Atm) (j : Nat) : (List.range (j + 1)).map xs = (List.range j).map xs ++ [xs j] := by rw [List.range_succ, List.map_append]; rfl
section
variable (code : List UInt8) (c : Cur) (hl : code.length ≤ 65536) (hc : c.a ≤ 4000000)
include hl hc
theorem atoms_ex : ∃ (c' : Cur) (l : List Atm), c'.a ≤ c.a + 20 ∧ (l.length ≤ 4 ∧ ∀ a ∈ l, a.t.length ≤ 6) ∧ PFM Tryz.prog 170 [xV code c] [.c (.ptr 0 0 0)] [some (xV code c'), some ⟨63, 2, l.map xL⟩] (.c (.ref 1 0 l.length)) := by
  obtain ⟨c1, n0, a1, hn0, p1⟩ := wZ code c hl (by omega) 4 (by omega)
  have i1 := xK (yQ code c1)
  have j1 := wD (yQ code c)
  obtain ⟨cs, xs, hc0, hcs⟩ := kG (X := Atm) (fun c c' x => (x.t.length ≤ 6 ∧ 1 ≤ x.k ∧ x.k ≤ 10) ∧ PFM Tryz.prog 187 [xV code c] [.c (.ptr 0 0 0)] [some (xV code c')] (.agg (xL x))) 4 4500000 (fun c hc => atom_ex code c hl (by omega)) c1 (1 + n0) (by omega)
  subst hc0
  have aN := (hcs (1 + n0) (Nat.le_refl _)).1
  refine ⟨cs (1 + n0), (List.range (1 + n0)).map xs, by omega, ⟨by rw [rngA_len]; omega, ?_⟩, ?_⟩
  · intro x hx
    obtain ⟨j, hj, rfl⟩ := List.mem_map.1 hx
    exact (hcs j (by have := List.mem_range.1 hj; omega)).2.2.1.1
  refine zD (xJ _) (xQ _) rfl Tryz.func170 rfl (by kernel_rfl) _ _ rfl rfl rfl (fun w0 mu I0 β0 gi dis => ?_)
  (repeat' (first|(apply xW;((exact Want.none_ rfl)))|(apply xF zI;exact rfl;exact rfl)|((first|apply zZ|apply zU)<;>(first|exact zI|exact rfl|refine yG ?_|omega))|apply zR|apply AWp.Q|apply zH|apply AWp.G|apply AWp.B|(apply (yP (p1));(iterate 7 exact rfl);(focus (repeat (first|exact All2.nil|refine All2.cons rfl ?_)));exact rfl;(focus (repeat (first|exact MAs.nil|apply MAs.cons|apply MA.c|exact MC.ptr rfl|exact MC.vc (VC.imm (Imm.v _)))));((assumption));((assumption));exact rfl;exact rfl)))
  refine AWp.U (σ := Nat) (fun j => ⟨[(0, .c (.ptr 0 0 0)), (3, .c (.ref 1 0 j)), (4, .c (int (1 + (n0 : Int) - j)))], [(0, some (xV code (cs j))), (1, some ⟨63, 2, ((List.range j).map xs).map xL⟩)], 2⟩) (fun j => j ≤ 1 + n0) (fun j => 1 + n0 - j) 0 (Nat.zero_le _) ?_ ?_
  · refine Weak.of [(0, some 0), (1, some 1)] rfl ?_ ?_ <;> (repeat' (first|exact trivial|exact rfl|apply And.intro|refine ⟨_,rfl,rfl,rfl,OW.one ?_⟩|refine oWs rfl rfl rfl ?_ ?_|(refine aIm ?_;(exact AllSc.nil))))
    all_goals first | exact yQ _ _ | exact (xZ _).imm
  · intro j hj
    obtain ⟨ha, hb, hx, q⟩ := hcs j hj
    have hLl : (((List.range j).map xs).map xL).length = j := by simp
    have hsc := xZ ((List.range j).map xs)
    by_cases hlt : j < 1 + n0
    · have hlt' : (0 : Int) < 1 + (n0 : Int) - j := by omega
      have k2 := xK (yQ code (cs (j + 1)))
      have m1 := wD (yQ code (cs j))
      (repeat' (first|(apply xW;((exact Want.none_ rfl)))|(apply xF zI;exact rfl;exact rfl)|((first|apply y3|apply zU|(apply yZ;exact rfl;exact rfl))<;>(first|exact zI|exact rfl|refine yG ?_|omega|(refine Bd.mk ?_;(simp;omega))|exact xH rfl))|apply zR|apply AWp.Q|apply zH|apply AWp.G|apply AWp.B|apply AWp.J|apply zJ|(apply AWp.T;exact rfl;((exact dT ‹_›)))|(apply (yP (q));(iterate 7 exact rfl);(focus (repeat (first|exact All2.nil|refine All2.cons rfl ?_)));exact rfl;(focus (repeat (first|exact MAs.nil|apply MAs.cons|apply MA.c|exact MC.ptr rfl)));((assumption));((assumption));exact rfl;exact rfl)))
      refine ⟨j + 1, by omega, by omega, ?_⟩
      rw [rngA_succ, wI]
      refine Weak.of [(0, some 0), (1, some 3)] rfl ?_ ?_ <;> (repeat' (first|exact trivial|exact rfl|apply And.intro|(apply cgI;(omega))|(refine z8 ?_;(focus (simp;done)))|refine ⟨_,rfl,rfl,rfl,OW.one ?_⟩|refine oWs rfl rfl rfl ?_ ?_))
      all_goals first | exact yQ _ _ | (rw [← wI]; exact (xZ _).imm) | (rw [hLl]; rfl) | skip
    · have hlt' : ¬ (0 : Int) < 1 + (n0 : Int) - j := by omega
      obtain rfl : j = 1 + n0 := by omega
      rw [rngA_len]
      (repeat' (first|(apply xW;((exact Want.none_ rfl)))|(apply xF zI;exact rfl;exact rfl)|apply zR|apply AWp.Q|apply zH|apply AWp.G|apply AWp.X|apply AWp.R|apply zQ|apply zO|(apply AWp.F;exact rfl;((exact dF ‹_›)))))
      (((refine zV _ [(0, some 0), (1, some 1)] (.cons (zN rfl) .nil) ?_ rfl ?_)) <;> (repeat' (first|exact trivial|exact rfl|apply And.intro|refine ⟨_,rfl,rfl,rfl,OW.one ?_⟩|refine oWs rfl rfl rfl ?_ ?_|(refine aIm ?_;(assumption)))))
      all_goals first | exact yQ _ _ | exact (xZ _).imm
end
section
variable (code : List UInt8) (c : Cur) (hl : code.length ≤ 65536) (hc : c.a ≤ 3900000)
include hl hc
theorem translation_ex : ∃ (c' : Cur) (x : List UInt8), c'.a ≤ c.a + 20 ∧ x.length ≤ 100 ∧ PFM Tryz.prog 139 [xV code c] [.c (.ptr 0 0 0)] [some (xV code c')] (.c (str x)) := by
  obtain ⟨c1, l, a1, ⟨hl4, hal⟩, p1⟩ := atoms_ex code c hl (by omega)
  have i1 := qP (b := ⟨63, 2, l.map xL⟩) (yQ code c1) (xZ l).imm
  have j1 := wD (yQ code c)
  have hb : AtB l := ⟨by omega, fun a ha => by have := hal a ha; omega⟩
  have hsc := xZ l
  have hL : (l.map xL).length = l.length := List.length_map _
  have h1 := l5List_pf l hb
  have h2 := l5Text_pf l hb
  have hle := tkA_le hal l.length (Nat.le_refl _)
  cases hB : kU l with
  | false =>
    rw [hB] at h1
    refine ⟨c1, [119, 111, 114, 100], a1, by decide, ?_⟩
    refine zD (xJ _) (xQ _) rfl Tryz.func139 rfl (by kernel_rfl) _ _ rfl rfl rfl (fun w0 mu I0 β0 gi dis => ?_)
    (refine AWp.Q ?_;((apply AWp.G));(repeat' (first|(apply xW;((exact Want.none_ rfl)))|(apply xF zI;exact rfl;exact rfl)|apply zR|apply zH)))
    (refine AWp.Q ?_;((apply AWp.G));(repeat' (first|(apply xW;((exact Want.none_ rfl)))|(apply xF zI;exact rfl;exact rfl)|apply zR|apply zH|(apply (yP (p1));(iterate 7 exact rfl);(focus (repeat (first|exact All2.nil|refine All2.cons rfl ?_)));exact rfl;(focus (repeat (first|exact MAs.nil|apply MAs.cons|apply MA.c|exact MC.ptr rfl)));((assumption));((assumption));exact rfl;exact rfl))))
    refine AWp.frz (obj := ⟨63, 2, l.map xL⟩) (n := l.length) 3 1 (vT rfl rfl) rfl rfl (by rw [hL]) hsc.imm ?_
    (repeat' (first|(apply xW;((exact Want.none_ rfl)))|(apply xF zI;exact rfl;exact rfl)|apply zR|apply AWp.Q|apply zH|apply AWp.G|apply AWp.R|apply zK|(apply AWp.T;exact rfl;((exact rfl)))|(apply yA;(iterate 6 exact rfl);(iterate 2 (focus (repeat (first|exact VAs.nil|apply VAs.cons|apply VA.c|exact VCs.nil|exact VC.imm (Imm.sl _)))));((exact h1));(focus (repeat ((exact Flat.v _))));((apply yJ));((exact xB _ _)))))
    (((refine zV _ [(0, some 0)] (.cons (zN rfl) .nil) ?_ rfl ?_)) <;> (repeat' (first|exact trivial|exact rfl|apply And.intro|refine ⟨_,rfl,rfl,rfl,OW.one ?_⟩)))
    all_goals exact yQ _ _
  | true =>
    rw [hB] at h1
    refine ⟨c1, tkA l l.length, a1, by omega, ?_⟩
    refine zD (xJ _) (xQ _) rfl Tryz.func139 rfl (by kernel_rfl) _ _ rfl rfl rfl (fun w0 mu I0 β0 gi dis => ?_)
    (refine AWp.Q ?_;((apply AWp.G));(repeat' (first|(apply xW;((exact Want.none_ rfl)))|(apply xF zI;exact rfl;exact rfl)|apply zR|apply zH)))
    (refine AWp.Q ?_;((apply AWp.G));(repeat' (first|(apply xW;((exact Want.none_ rfl)))|(apply xF zI;exact rfl;exact rfl)|apply zR|apply zH|(apply (yP (p1));(iterate 7 exact rfl);(focus (repeat (first|exact All2.nil|refine All2.cons rfl ?_)));exact rfl;(focus (repeat (first|exact MAs.nil|apply MAs.cons|apply MA.c|exact MC.ptr rfl)));((assumption));((assumption));exact rfl;exact rfl))))
    refine AWp.frz (obj := ⟨63, 2, l.map xL⟩) (n := l.length) 3 1 (vT rfl rfl) rfl rfl (by rw [hL]) hsc.imm ?_
    (repeat' (first|(apply xW;((exact Want.none_ rfl)))|(apply xF zI;exact rfl;exact rfl)|apply zR|apply AWp.Q|apply zH|apply AWp.G|apply AWp.J|apply AWp.R|(apply AWp.F;exact rfl;((exact rfl)))|(apply yA;(iterate 6 exact rfl);(iterate 2 (focus (repeat (first|exact VAs.nil|apply VAs.cons|apply VA.c|exact VCs.nil|exact VC.imm (Imm.sl _)))));(first|exact h1|exact h2);(focus (repeat ((exact Flat.v _))));((apply yJ));((exact xB _ _)))))
    (((refine zV _ [(0, some 0)] (.cons (zN rfl) .nil) ?_ rfl ?_)) <;> (repeat' (first|exact trivial|exact rfl|apply And.intro|refine ⟨_,rfl,rfl,rfl,OW.one ?_⟩)))
    all_goals exact yQ _ _
end
end Go.Proofs.YtjeffognhcbiaaaGreatDoor
