/- Drawn atoms. -/
import Derived.Test.YtjeffognhcbiaaaGreatDoorDcB
namespace Go.Proofs.YtjeffognhcbiaaaGreatDoor
open Go Go.RowKit
structure Atm where
  k : Int
  t : List UInt8
instance : Inhabited Atm := ⟨⟨0, []⟩⟩
def xL (a : Atm) : List Cell := [int a.k, str a.t]
theorem encAtm_sc (a : Atm) : ∀ x ∈ xL a, Imm x ∧ Flat x := by
  intro x hx
  simp only [xL, List.mem_cons, List.not_mem_nil, or_false] at hx
  rcases hx with rfl | rfl
  · exact ⟨Imm.v _, Flat.v _⟩
  · exact ⟨Imm.v _, Flat.v _⟩
theorem xZ (l : List Atm) : AllSc (l.map xL) := map_sc encAtm_sc l
theorem wI (l : List Atm) (y : Atm) : (l ++ [y]).map xL = l.map xL ++ [xL y] := by rw [List.map_append]; rfl
def a0L : List (List UInt8) := [[105, 110, 103], [115], [101, 100], [110, 101, 115, 115], [101, 114], [108, 121]]
def a2L : List (List UInt8) := [[117, 110], [114, 101], [40]]
def a3L : List (List UInt8) := [[45], [47], [39]]
def a4L : List (List UInt8) := [[97], [98], [55]]
def a5L : List (List UInt8) := [[46], [33], [63]]
def a6L : List (List UInt8) := [[44], [59], [58]]
def wdL : List (List UInt8) := [[99, 97, 116], [104, 97, 112, 112, 121], [109, 97, 107, 101], [114, 117, 110], [116, 114, 121], [98, 111, 120], [100, 105, 101], [97], [71, 111], [52, 50], [100, 111, 110, 39, 116], [98, 101, 101], [115], [105, 110, 103], [99, 104, 117, 114, 99, 104], [112, 108, 97, 121]]
section
variable (code : List UInt8) (c : Cur) (hl : code.length ≤ 65536) (hc : c.a ≤ 5000000)
include hl hc
theorem wordText_ex : ∃ (c' : Cur) (x : List UInt8), c'.a ≤ c.a + 1 ∧ x.length ≤ 6 ∧ PFM Tryz.prog 199 [xV code c] [.c (.ptr 0 0 0)] [some (xV code c')] (.c (str x)) := by
  obtain ⟨c1, x, a1, hx, p1⟩ := kW code c hl (by omega) wdL (by decide)
  have i1 := qP (b := ⟨9, 1, wdL.map wE⟩) (yQ code c1) (x3 wdL).imm
  have j1 := k9 (b := ⟨9, 1, wdL.map wE⟩) (yQ code c) (x3 wdL).imm
  refine ⟨c1, x, a1, ?_, ?_⟩
  · have h : ∀ y ∈ wdL, y.length ≤ 6 := by decide
    exact h x hx
  refine zD (xJ _) (xQ _) rfl Tryz.func199 rfl (by kernel_rfl) _ _ rfl rfl rfl (fun w0 mu I0 β0 gi dis => ?_)
  (repeat' (first|(apply xW;((exact Want.none_ rfl)))|(apply xF zI;exact rfl;exact rfl)|(((apply zU))<;>(first|exact zI|exact rfl|refine yG ?_))|apply zR|apply AWp.Q|apply zH|apply AWp.G|apply AWp.R|(apply (yP (p1));(iterate 7 exact rfl);(focus (repeat (first|exact All2.nil|refine All2.cons rfl ?_)));exact rfl;(focus (repeat (first|exact MAs.nil|apply MAs.cons|apply MA.c|exact MC.ref rfl|exact MC.ptr rfl)));((assumption));((assumption));exact rfl;exact rfl)))
  (((refine zV _ [(0, some 0)] (.cons (zN rfl) .nil) ?_ rfl ?_)) <;> (repeat' (first|exact trivial|exact rfl|apply And.intro|refine ⟨_,rfl,rfl,rfl,OW.one ?_⟩)))
  all_goals exact yQ _ _
end
section
variable (code : List UInt8) (c : Cur) (hl : code.length ≤ 65536) (hc : c.a ≤ 4900000)
include hl hc
set_option maxRecDepth 8000 in
theorem atom_ex : ∃ (c' : Cur) (a : Atm), c'.a ≤ c.a + 4 ∧ (a.t.length ≤ 6 ∧ 1 ≤ a.k ∧ a.k ≤ 10) ∧ PFM Tryz.prog 187 [xV code c] [.c (.ptr 0 0 0)] [some (xV code c')] (.agg (xL a)) := by
  obtain ⟨c1, w, a1, hw, p1⟩ := wZ code c hl (by omega) 14 (by omega)
  have i1 := xK (yQ code c1)
  have j1 := wD (yQ code c)
  by_cases w2 : w = 0 ∨ w = 1
  · obtain ⟨c2, x, a2, hx, p2⟩ := kW code c1 hl (by omega) a0L (by decide)
    have i2 := qP (b := ⟨9, 1, a0L.map wE⟩) (yQ code c2) (x3 a0L).imm
    have j2 := k9 (b := ⟨9, 1, a0L.map wE⟩) (yQ code c1) (x3 a0L).imm
    have h : ∀ y ∈ a0L, y.length ≤ 6 := by decide
    refine ⟨c2, ⟨2, x⟩, by omega, ⟨h x hx, by dsimp only; omega, by dsimp only; omega⟩, ?_⟩
    rcases w2 with rfl | rfl
    all_goals
      refine zD (xJ _) (xQ _) rfl Tryz.func187 rfl (by kernel_rfl) _ _ rfl rfl rfl (fun w0 mu I0 β0 gi dis => ?_)
      (repeat' (first|(apply xW;((exact Want.none_ rfl)))|(apply xF zI;exact rfl;exact rfl)|((first|apply y4|apply zU|apply yB|apply yH)<;>(first|exact zI|exact rfl|refine yG ?_|exact lb rfl|((try refine Bd.mk ?_);(focus (simp;done)))))|apply zR|apply AWp.Q|apply zH|apply AWp.G|apply AWp.B|apply AWp.J|apply AWp.R|apply zK|apply zL|(apply AWp.T;exact rfl;((exact rfl)))|(apply AWp.F;exact rfl;((exact rfl)))|(apply (yP (p1));(iterate 7 exact rfl);(focus (repeat (first|exact All2.nil|refine All2.cons rfl ?_)));exact rfl;(focus (repeat (first|exact MAs.nil|apply MAs.cons|apply MA.c|exact MC.ptr rfl|exact MC.vc (VC.imm (Imm.v _)))));((assumption));((assumption));exact rfl;exact rfl)|(apply (yP (p2));(iterate 7 exact rfl);(focus (repeat (first|exact All2.nil|refine All2.cons rfl ?_)));exact rfl;(focus (repeat (first|exact MAs.nil|apply MAs.cons|apply MA.c|exact MC.ref rfl|exact MC.ptr rfl)));((assumption));((assumption));exact rfl;exact rfl)))
      (((refine zV _ [(0, some 0)] (.cons (y5 rfl rfl rfl zI rfl rfl rfl) .nil) ?_ rfl ?_)) <;> (repeat' (first|exact trivial|exact rfl|apply And.intro|refine ⟨_,rfl,rfl,rfl,OW.one ?_⟩)))
      all_goals exact yQ _ _
  by_cases w3 : w = 2
  · obtain ⟨c2, x, a2, hx, p2⟩ := kW code c1 hl (by omega) a2L (by decide)
    have i2 := qP (b := ⟨9, 1, a2L.map wE⟩) (yQ code c2) (x3 a2L).imm
    have j2 := k9 (b := ⟨9, 1, a2L.map wE⟩) (yQ code c1) (x3 a2L).imm
    have h : ∀ y ∈ a2L, y.length ≤ 6 := by decide
    refine ⟨c2, ⟨3, x⟩, by omega, ⟨h x hx, by dsimp only; omega, by dsimp only; omega⟩, ?_⟩
    subst w3
    all_goals
      refine zD (xJ _) (xQ _) rfl Tryz.func187 rfl (by kernel_rfl) _ _ rfl rfl rfl (fun w0 mu I0 β0 gi dis => ?_)
      (repeat' (first|(apply xW;((exact Want.none_ rfl)))|(apply xF zI;exact rfl;exact rfl)|((first|apply y4|apply zU|apply yB|apply yH)<;>(first|exact zI|exact rfl|refine yG ?_|exact lb rfl|((try refine Bd.mk ?_);(focus (simp;done)))))|apply zR|apply AWp.Q|apply zH|apply AWp.G|apply AWp.B|apply AWp.R|apply zK|apply zL|(apply AWp.T;exact rfl;((exact rfl)))|(apply AWp.F;exact rfl;((exact rfl)))|(apply (yP (p1));(iterate 7 exact rfl);(focus (repeat (first|exact All2.nil|refine All2.cons rfl ?_)));exact rfl;(focus (repeat (first|exact MAs.nil|apply MAs.cons|apply MA.c|exact MC.ptr rfl|exact MC.vc (VC.imm (Imm.v _)))));((assumption));((assumption));exact rfl;exact rfl)|(apply (yP (p2));(iterate 7 exact rfl);(focus (repeat (first|exact All2.nil|refine All2.cons rfl ?_)));exact rfl;(focus (repeat (first|exact MAs.nil|apply MAs.cons|apply MA.c|exact MC.ref rfl|exact MC.ptr rfl)));((assumption));((assumption));exact rfl;exact rfl)))
      (((refine zV _ [(0, some 0)] (.cons (y5 rfl rfl rfl zI rfl rfl rfl) .nil) ?_ rfl ?_)) <;> (repeat' (first|exact trivial|exact rfl|apply And.intro|refine ⟨_,rfl,rfl,rfl,OW.one ?_⟩)))
      all_goals exact yQ _ _
  by_cases w4 : w = 3
  · obtain ⟨c2, x, a2, hx, p2⟩ := kW code c1 hl (by omega) a3L (by decide)
    have i2 := qP (b := ⟨9, 1, a3L.map wE⟩) (yQ code c2) (x3 a3L).imm
    have j2 := k9 (b := ⟨9, 1, a3L.map wE⟩) (yQ code c1) (x3 a3L).imm
    have h : ∀ y ∈ a3L, y.length ≤ 6 := by decide
    refine ⟨c2, ⟨4, x⟩, by omega, ⟨h x hx, by dsimp only; omega, by dsimp only; omega⟩, ?_⟩
    subst w4
    all_goals
      refine zD (xJ _) (xQ _) rfl Tryz.func187 rfl (by kernel_rfl) _ _ rfl rfl rfl (fun w0 mu I0 β0 gi dis => ?_)
      (repeat' (first|(apply xW;((exact Want.none_ rfl)))|(apply xF zI;exact rfl;exact rfl)|((first|apply y4|apply zU|apply yB|apply yH)<;>(first|exact zI|exact rfl|refine yG ?_|exact lb rfl|((try refine Bd.mk ?_);(focus (simp;done)))))|apply zR|apply AWp.Q|apply zH|apply AWp.G|apply AWp.B|apply AWp.R|apply zK|apply zL|(apply AWp.T;exact rfl;((exact rfl)))|(apply AWp.F;exact rfl;((exact rfl)))|(apply (yP (p1));(iterate 7 exact rfl);(focus (repeat (first|exact All2.nil|refine All2.cons rfl ?_)));exact rfl;(focus (repeat (first|exact MAs.nil|apply MAs.cons|apply MA.c|exact MC.ptr rfl|exact MC.vc (VC.imm (Imm.v _)))));((assumption));((assumption));exact rfl;exact rfl)|(apply (yP (p2));(iterate 7 exact rfl);(focus (repeat (first|exact All2.nil|refine All2.cons rfl ?_)));exact rfl;(focus (repeat (first|exact MAs.nil|apply MAs.cons|apply MA.c|exact MC.ref rfl|exact MC.ptr rfl)));((assumption));((assumption));exact rfl;exact rfl)))
      (((refine zV _ [(0, some 0)] (.cons (y5 rfl rfl rfl zI rfl rfl rfl) .nil) ?_ rfl ?_)) <;> (repeat' (first|exact trivial|exact rfl|apply And.intro|refine ⟨_,rfl,rfl,rfl,OW.one ?_⟩)))
      all_goals exact yQ _ _
  by_cases w5 : w = 4
  · obtain ⟨c2, x, a2, hx, p2⟩ := kW code c1 hl (by omega) a4L (by decide)
    have i2 := qP (b := ⟨9, 1, a4L.map wE⟩) (yQ code c2) (x3 a4L).imm
    have j2 := k9 (b := ⟨9, 1, a4L.map wE⟩) (yQ code c1) (x3 a4L).imm
    have h : ∀ y ∈ a4L, y.length ≤ 6 := by decide
    refine ⟨c2, ⟨5, x⟩, by omega, ⟨h x hx, by dsimp only; omega, by dsimp only; omega⟩, ?_⟩
    subst w5
    all_goals
      refine zD (xJ _) (xQ _) rfl Tryz.func187 rfl (by kernel_rfl) _ _ rfl rfl rfl (fun w0 mu I0 β0 gi dis => ?_)
      (repeat' (first|(apply xW;((exact Want.none_ rfl)))|(apply xF zI;exact rfl;exact rfl)|((first|apply y4|apply zU|apply yB|apply yH)<;>(first|exact zI|exact rfl|refine yG ?_|exact lb rfl|((try refine Bd.mk ?_);(focus (simp;done)))))|apply zR|apply AWp.Q|apply zH|apply AWp.G|apply AWp.B|apply AWp.R|apply zK|apply zL|(apply AWp.T;exact rfl;((exact rfl)))|(apply AWp.F;exact rfl;((exact rfl)))|(apply (yP (p1));(iterate 7 exact rfl);(focus (repeat (first|exact All2.nil|refine All2.cons rfl ?_)));exact rfl;(focus (repeat (first|exact MAs.nil|apply MAs.cons|apply MA.c|exact MC.ptr rfl|exact MC.vc (VC.imm (Imm.v _)))));((assumption));((assumption));exact rfl;exact rfl)|(apply (yP (p2));(iterate 7 exact rfl);(focus (repeat (first|exact All2.nil|refine All2.cons rfl ?_)));exact rfl;(focus (repeat (first|exact MAs.nil|apply MAs.cons|apply MA.c|exact MC.ref rfl|exact MC.ptr rfl)));((assumption));((assumption));exact rfl;exact rfl)))
      (((refine zV _ [(0, some 0)] (.cons (y5 rfl rfl rfl zI rfl rfl rfl) .nil) ?_ rfl ?_)) <;> (repeat' (first|exact trivial|exact rfl|apply And.intro|refine ⟨_,rfl,rfl,rfl,OW.one ?_⟩)))
      all_goals exact yQ _ _
  by_cases w6 : w = 5
  · obtain ⟨c2, x, a2, hx, p2⟩ := kW code c1 hl (by omega) a5L (by decide)
    have i2 := qP (b := ⟨9, 1, a5L.map wE⟩) (yQ code c2) (x3 a5L).imm
    have j2 := k9 (b := ⟨9, 1, a5L.map wE⟩) (yQ code c1) (x3 a5L).imm
    have h : ∀ y ∈ a5L, y.length ≤ 6 := by decide
    refine ⟨c2, ⟨6, x⟩, by omega, ⟨h x hx, by dsimp only; omega, by dsimp only; omega⟩, ?_⟩
    subst w6
    all_goals
      refine zD (xJ _) (xQ _) rfl Tryz.func187 rfl (by kernel_rfl) _ _ rfl rfl rfl (fun w0 mu I0 β0 gi dis => ?_)
      (repeat' (first|(apply xW;((exact Want.none_ rfl)))|(apply xF zI;exact rfl;exact rfl)|((first|apply y4|apply zU|apply yB|apply yH)<;>(first|exact zI|exact rfl|refine yG ?_|exact lb rfl|((try refine Bd.mk ?_);(focus (simp;done)))))|apply zR|apply AWp.Q|apply zH|apply AWp.G|apply AWp.B|apply AWp.R|apply zK|apply zL|(apply AWp.T;exact rfl;((exact rfl)))|(apply AWp.F;exact rfl;((exact rfl)))|(apply (yP (p1));(iterate 7 exact rfl);(focus (repeat (first|exact All2.nil|refine All2.cons rfl ?_)));exact rfl;(focus (repeat (first|exact MAs.nil|apply MAs.cons|apply MA.c|exact MC.ptr rfl|exact MC.vc (VC.imm (Imm.v _)))));((assumption));((assumption));exact rfl;exact rfl)|(apply (yP (p2));(iterate 7 exact rfl);(focus (repeat (first|exact All2.nil|refine All2.cons rfl ?_)));exact rfl;(focus (repeat (first|exact MAs.nil|apply MAs.cons|apply MA.c|exact MC.ref rfl|exact MC.ptr rfl)));((assumption));((assumption));exact rfl;exact rfl)))
      (((refine zV _ [(0, some 0)] (.cons (y5 rfl rfl rfl zI rfl rfl rfl) .nil) ?_ rfl ?_)) <;> (repeat' (first|exact trivial|exact rfl|apply And.intro|refine ⟨_,rfl,rfl,rfl,OW.one ?_⟩)))
      all_goals exact yQ _ _
  by_cases w7 : w = 6
  · obtain ⟨c2, x, a2, hx, p2⟩ := kW code c1 hl (by omega) a6L (by decide)
    have i2 := qP (b := ⟨9, 1, a6L.map wE⟩) (yQ code c2) (x3 a6L).imm
    have j2 := k9 (b := ⟨9, 1, a6L.map wE⟩) (yQ code c1) (x3 a6L).imm
    have h : ∀ y ∈ a6L, y.length ≤ 6 := by decide
    refine ⟨c2, ⟨7, x⟩, by omega, ⟨h x hx, by dsimp only; omega, by dsimp only; omega⟩, ?_⟩
    subst w7
    all_goals
      refine zD (xJ _) (xQ _) rfl Tryz.func187 rfl (by kernel_rfl) _ _ rfl rfl rfl (fun w0 mu I0 β0 gi dis => ?_)
      (repeat' (first|(apply xW;((exact Want.none_ rfl)))|(apply xF zI;exact rfl;exact rfl)|((first|apply y4|apply zU|apply yB|apply yH)<;>(first|exact zI|exact rfl|refine yG ?_|exact lb rfl|((try refine Bd.mk ?_);(focus (simp;done)))))|apply zR|apply AWp.Q|apply zH|apply AWp.G|apply AWp.B|apply AWp.R|apply zK|apply zL|(apply AWp.T;exact rfl;((exact rfl)))|(apply AWp.F;exact rfl;((exact rfl)))|(apply (yP (p1));(iterate 7 exact rfl);(focus (repeat (first|exact All2.nil|refine All2.cons rfl ?_)));exact rfl;(focus (repeat (first|exact MAs.nil|apply MAs.cons|apply MA.c|exact MC.ptr rfl|exact MC.vc (VC.imm (Imm.v _)))));((assumption));((assumption));exact rfl;exact rfl)|(apply (yP (p2));(iterate 7 exact rfl);(focus (repeat (first|exact All2.nil|refine All2.cons rfl ?_)));exact rfl;(focus (repeat (first|exact MAs.nil|apply MAs.cons|apply MA.c|exact MC.ref rfl|exact MC.ptr rfl)));((assumption));((assumption));exact rfl;exact rfl)))
      (((refine zV _ [(0, some 0)] (.cons (y5 rfl rfl rfl zI rfl rfl rfl) .nil) ?_ rfl ?_)) <;> (repeat' (first|exact trivial|exact rfl|apply And.intro|refine ⟨_,rfl,rfl,rfl,OW.one ?_⟩)))
      all_goals exact yQ _ _
  by_cases w8 : w = 7
  · subst w8
    obtain ⟨c2, m, a2, hm, p2⟩ := wZ code c1 hl (by omega) 3 (by omega)
    have i2 := xK (yQ code c2)
    have j2 := wD (yQ code c1)
    refine ⟨c2, ⟨8 + m, []⟩, by omega, ⟨by simp, by dsimp only; omega, by dsimp only; omega⟩, ?_⟩
    refine zD (xJ _) (xQ _) rfl Tryz.func187 rfl (by kernel_rfl) _ _ rfl rfl rfl (fun w0 mu I0 β0 gi dis => ?_)
    (repeat' (first|(apply xW;((exact Want.none_ rfl)))|(apply xF zI;exact rfl;exact rfl)|((first|apply zZ|apply y4|apply yB|apply yH)<;>(first|exact zI|exact rfl|refine yG ?_|omega|exact lb rfl|((try refine Bd.mk ?_);(focus (simp;done)))))|apply zR|apply AWp.Q|apply zH|apply AWp.G|apply AWp.B|apply AWp.R|apply zK|apply zL|(apply AWp.T;exact rfl;((exact rfl)))|(apply AWp.F;exact rfl;((exact rfl)))|(apply (yP (p1));(iterate 7 exact rfl);(focus (repeat (first|exact All2.nil|refine All2.cons rfl ?_)));exact rfl;(focus (repeat (first|exact MAs.nil|apply MAs.cons|apply MA.c|exact MC.ptr rfl|exact MC.vc (VC.imm (Imm.v _)))));((assumption));((assumption));exact rfl;exact rfl)|(apply (yP (p2));(iterate 7 exact rfl);(focus (repeat (first|exact All2.nil|refine All2.cons rfl ?_)));exact rfl;(focus (repeat (first|exact MAs.nil|apply MAs.cons|apply MA.c|exact MC.ptr rfl|exact MC.vc (VC.imm (Imm.v _)))));((assumption));((assumption));exact rfl;exact rfl)))
    (((refine zV _ [(0, some 0)] (.cons (y5 rfl rfl rfl zI rfl rfl rfl) .nil) ?_ rfl ?_)) <;> (repeat' (first|exact trivial|exact rfl|apply And.intro|refine ⟨_,rfl,rfl,rfl,OW.one ?_⟩)))
    all_goals exact yQ _ _
  · obtain ⟨c2, x, a2, hx, p2⟩ := wordText_ex code c1 hl (by omega)
    have i2 := xK (yQ code c2)
    have j2 := wD (yQ code c1)
    have v0 : ¬ (w : Int) = 0 := by omega
    have v1 : ¬ (w : Int) = 1 := by omega
    have v2 : ¬ (w : Int) = 2 := by omega
    have v3 : ¬ (w : Int) = 3 := by omega
    have v4 : ¬ (w : Int) = 4 := by omega
    have v5 : ¬ (w : Int) = 5 := by omega
    have v6 : ¬ (w : Int) = 6 := by omega
    have v7 : ¬ (w : Int) = 7 := by omega
    refine ⟨c2, ⟨1, x⟩, by omega, ⟨hx, by dsimp only; omega, by dsimp only; omega⟩, ?_⟩
    refine zD (xJ _) (xQ _) rfl Tryz.func187 rfl (by kernel_rfl) _ _ rfl rfl rfl (fun w0 mu I0 β0 gi dis => ?_)
    (repeat' (first|(apply xW;((exact Want.none_ rfl)))|(apply xF zI;exact rfl;exact rfl)|((first|apply y4|apply yB|apply yH)<;>(first|exact zI|exact rfl|refine yG ?_|exact lb rfl|((try refine Bd.mk ?_);(focus (simp;done)))))|apply zR|apply AWp.Q|apply zH|apply AWp.G|apply AWp.B|apply AWp.J|apply AWp.R|apply zJ|(apply AWp.F;exact rfl;((exact dF ‹_›)))|(apply (yP (p1));(iterate 7 exact rfl);(focus (repeat (first|exact All2.nil|refine All2.cons rfl ?_)));exact rfl;(focus (repeat (first|exact MAs.nil|apply MAs.cons|apply MA.c|exact MC.ptr rfl|exact MC.vc (VC.imm (Imm.v _)))));((assumption));((assumption));exact rfl;exact rfl)|(apply (yP (p2));(iterate 7 exact rfl);(focus (repeat (first|exact All2.nil|refine All2.cons rfl ?_)));exact rfl;(focus (repeat (first|exact MAs.nil|apply MAs.cons|apply MA.c|exact MC.ptr rfl)));((assumption));((assumption));exact rfl;exact rfl)))
    (((refine zV _ [(0, some 0)] (.cons (y5 rfl rfl rfl zI rfl rfl rfl) .nil) ?_ rfl ?_)) <;> (repeat' (first|exact trivial|exact rfl|apply And.intro|refine ⟨_,rfl,rfl,rfl,OW.one ?_⟩)))
    all_goals exact yQ _ _
end
end Go.Proofs.YtjeffognhcbiaaaGreatDoor
