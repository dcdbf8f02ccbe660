/- What is drawn for SuggestBriefs. -/
import Derived.Test.YtchpdclknbmdoaaGreatDoorSbD
import Derived.Test.YtchpdclknbmdoaaGreatDoorSbF
import Derived.Test.YtchpdclknbmdoaaGreatDoorFrC
import Derived.Test.YtchpdclknbmdoaaGreatDoorDcG
namespace Go.Proofs.YtchpdclknbmdoaaGreatDoor
open Go Go.RowKit
section
variable (es : List Ent) (e : Ent) (hb : kW es) (hn : EnB es) (he : e.o.length ≤ 1000000 ∧ e.t.length ≤ 1000000) (h1 : qJ es = true)
include hb hn he h1
theorem insY_pf (h2 : qI e = true) (h3 : (putE es e).length ≤ 40) : PF Tryz.prog 116 [.agg (wI es), .agg (xR e)] [] (.tup [.agg (wI (putE es e)), .c (boo true)]) := by
  have g1 := l6Good_pf es hb
  rw [h1] at g1
  have g2 := l6Entry_pf e (by omega) (by omega)
  rw [h2] at g2
  have g3 := l6Put_pf es e hn he.1
  have i0 : ∀ obj : AObj, some obj ∈ ([] : List (Option AObj)) → ∀ x ∈ obj.els, ∀ c ∈ x, Imm c := fun _ h => by cases h
  have hL : ((putE es e).map xR).length = (putE es e).length := List.length_map _
  generalize putE es e = R at *
  refine PF.enter (x5 _ _) Tryz.func116 rfl (by kernel_rfl) _ _ rfl rfl rfl (fun w0 mu I0 β0 gi dis => ?_)
  (repeat' (first|(apply xW;(first|exact Want.none_ rfl|(refine zZ rfl rfl rfl rfl ?_;((exact rfl)))))|(apply xF zK;exact rfl;exact rfl)|((first|apply zX|apply yD)<;>(first|exact zK|exact rfl|refine yO ?_|exact lb rfl))|(apply y8;exact rfl;exact rfl;((exact rfl));exact rfl;exact rfl)|apply zV|apply AWp.Q|apply zJ|apply AWp.G|apply AWp.J|apply AWp.R|(apply AWp.F;exact rfl;((exact rfl)))|(apply (zY (g3));(iterate 7 exact rfl);(focus (repeat ((exact All2.nil))));exact rfl;(focus (repeat (first|exact MAs.nil|apply MAs.cons|apply MA.agg|exact MCs.nil|apply MCs.cons|exact MC.vc (VC.imm (Imm.v _))|exact MC.vc (VC.imm (Imm.sl _)))));((assumption));((exact xE));exact rfl;exact rfl)|(apply yM;(iterate 6 exact rfl);(iterate 2 (focus (repeat (first|exact VAs.nil|apply VAs.cons|apply VA.agg|exact VCs.nil|apply VCs.cons|exact VC.imm (Imm.v _)|exact VC.imm (Imm.sl _)))));(first|exact g1|exact g2);(focus (repeat ((exact Flat.v _))));((apply yX));((exact xO _ _)))|(((refine AWp.C rfl ?_ ?_))<;>intro hp<;>try (exfalso;omega))))
  (((refine z6 _ [] (.cons (xC rfl rfl rfl zK rfl rfl rfl) (.cons (zT rfl) .nil)) ?_ rfl ?_)) <;> (repeat' (first|exact trivial|exact rfl|apply And.intro)))
theorem insN_pf (h2 : qI e = false ∨ (qI e = true ∧ ¬ (putE es e).length ≤ 40)) : PF Tryz.prog 116 [.agg (wI es), .agg (xR e)] [] (.tup [.agg [.nil], .c (boo false)]) := by
  have g1 := l6Good_pf es hb
  rw [h1] at g1
  have g2 := l6Entry_pf e (by omega) (by omega)
  have i0 : ∀ obj : AObj, some obj ∈ ([] : List (Option AObj)) → ∀ x ∈ obj.els, ∀ c ∈ x, Imm c := fun _ h => by cases h
  rcases h2 with h2 | ⟨h2, h3⟩
  · rw [h2] at g2
    refine PF.enter (x5 _ _) Tryz.func116 rfl (by kernel_rfl) _ _ rfl rfl rfl (fun w0 mu I0 β0 gi dis => ?_)
    (repeat' (first|(apply xW;(first|exact Want.none_ rfl|(refine zZ rfl rfl rfl rfl ?_;((exact rfl)))))|(apply xF zK;exact rfl;exact rfl)|((first|apply yS|apply zX|apply yD)<;>(first|exact zK|exact rfl|refine yO ?_|exact lb rfl|((try refine Bd.mk ?_);(focus (simp;done)))))|(apply y8;exact rfl;exact rfl;((exact rfl));exact rfl;exact rfl)|apply zV|apply AWp.Q|apply zJ|apply AWp.G|apply AWp.R|apply zM|(apply AWp.T;exact rfl;((exact rfl)))|(apply yM;(iterate 6 exact rfl);(iterate 2 (focus (repeat (first|exact VAs.nil|apply VAs.cons|apply VA.agg|exact VCs.nil|apply VCs.cons|exact VC.imm (Imm.v _)|exact VC.imm (Imm.sl _)))));(first|exact g1|exact g2);(focus (repeat ((exact Flat.v _))));((apply yX));((exact xO _ _)))))
    (((refine z6 _ [] (.cons (xC rfl rfl rfl zK rfl rfl rfl) (.cons (zT rfl) .nil)) ?_ rfl ?_)) <;> (repeat' (first|exact trivial|exact rfl|apply And.intro)))
  · rw [h2] at g2
    have g3 := l6Put_pf es e hn he.1
    have hL : ((putE es e).map xR).length = (putE es e).length := List.length_map _
    generalize putE es e = R at *
    refine PF.enter (x5 _ _) Tryz.func116 rfl (by kernel_rfl) _ _ rfl rfl rfl (fun w0 mu I0 β0 gi dis => ?_)
    (repeat' (first|(apply xW;(first|exact Want.none_ rfl|(refine zZ rfl rfl rfl rfl ?_;((exact rfl)))))|(apply xF zK;exact rfl;exact rfl)|((first|apply yS|apply zX|apply yD)<;>(first|exact zK|exact rfl|refine yO ?_|exact lb rfl|((try refine Bd.mk ?_);(focus (simp;done)))))|(apply y8;exact rfl;exact rfl;((exact rfl));exact rfl;exact rfl)|apply zV|apply AWp.Q|apply zJ|apply AWp.G|apply AWp.J|apply AWp.R|apply zM|(apply AWp.F;exact rfl;((exact rfl)))|(apply (zY (g3));(iterate 7 exact rfl);(focus (repeat ((exact All2.nil))));exact rfl;(focus (repeat (first|exact MAs.nil|apply MAs.cons|apply MA.agg|exact MCs.nil|apply MCs.cons|exact MC.vc (VC.imm (Imm.v _))|exact MC.vc (VC.imm (Imm.sl _)))));((assumption));((exact xE));exact rfl;exact rfl)|(apply yM;(iterate 6 exact rfl);(iterate 2 (focus (repeat (first|exact VAs.nil|apply VAs.cons|apply VA.agg|exact VCs.nil|apply VCs.cons|exact VC.imm (Imm.v _)|exact VC.imm (Imm.sl _)))));(first|exact g1|exact g2);(focus (repeat ((exact Flat.v _))));((apply yX));((exact xO _ _)))|(((refine AWp.C rfl ?_ ?_))<;>intro hp<;>try (exfalso;omega))))
    (((refine z6 _ [] (.cons (xC rfl rfl rfl zK rfl rfl rfl) (.cons (zT rfl) .nil)) ?_ rfl ?_)) <;> (repeat' (first|exact trivial|exact rfl|apply And.intro)))
end
def wdSb : List (List UInt8) := [[99, 97, 116], [115, 116, 101, 110, 111], [116, 104, 101], [98, 114, 105, 101, 102], [97], [115, 99, 104, 111, 111, 108], [107, 105, 99, 107], [109, 117, 109], [122, 122, 122], [120], [], [67, 97, 116], [97, 98, 99, 100, 101, 102, 103, 104, 105, 106, 107, 108, 109, 110, 111, 112, 113, 114, 115, 116], [97, 98, 99, 100, 101, 102, 103, 104, 105, 106, 107, 108, 109, 110, 111, 112, 113, 114, 115, 116, 117], [114, 97, 105, 110], [115, 116, 114, 97, 112]]
def cnL : List Int := [1, 3, 6, 50, 51, -1]
set_option maxRecDepth 100000 in
theorem word_ex (code : List UInt8) (c : Cur) (hl : code.length ≤ 65536) (hc : c.a ≤ 6000000) : ∃ (c' : Cur) (x : List UInt8), c'.a ≤ c.a + 1 ∧ x.length ≤ 21 ∧ PFM Tryz.prog 115 [xT code c] [.c (.ptr 0 0 0)] [some (xT code c')] (.c (str x)) := by
  obtain ⟨c1, x, a1, hx, p1⟩ := kP code c hl (by omega) wdSb (by decide)
  have hcl : ∀ q : Cur, ∀ x ∈ (xT code q).els, ∀ c ∈ x, Imm c := fun q => yL code q
  have i1 := qF (b := ⟨9, 1, wdSb.map wF⟩) (hcl c1) (x4 wdSb).imm
  have j1 := kQ (b := ⟨9, 1, wdSb.map wF⟩) (hcl c) (x4 wdSb).imm
  have hall : ∀ y ∈ wdSb, y.length ≤ 21 := by decide
  refine ⟨c1, x, a1, hall x hx, ?_⟩
  refine zD (xI _) (xV _) rfl Tryz.func115 rfl (by kernel_rfl) _ _ rfl rfl rfl (fun w0 mu I0 β0 gi dis => ?_)
  (repeat' (first|(apply xW;((exact Want.none_ rfl)))|(apply xF zK;exact rfl;exact rfl)|(((apply zQ))<;>(first|exact zK|exact rfl|refine yO ?_))|apply zV|apply AWp.Q|apply zJ|apply AWp.G|apply AWp.R|(apply (zY (p1));(iterate 7 exact rfl);(focus (repeat (first|exact All2.nil|refine All2.cons rfl ?_)));exact rfl;(focus (repeat (first|exact MAs.nil|apply MAs.cons|apply MA.c|exact MC.ref rfl|exact MC.ptr rfl)));((assumption));((assumption));exact rfl;exact rfl)))
  (((refine z6 _ [(0, some 0)] (.cons (zT rfl) .nil) ?_ rfl ?_)) <;> (repeat' (first|exact trivial|exact rfl|apply And.intro|refine ⟨_,rfl,rfl,rfl,OW.one ?_⟩)))
  all_goals exact hcl _
set_option maxHeartbeats 4000000 in
theorem drawSb_ex (code : List UInt8) (hl : code.length ≤ 65536) : ∃ (es : List Ent) (w : List UInt8) (n : Int), kW es ∧ w.length ≤ 21 ∧
    PF Tryz.prog 54 [.c (.sl (code.map vE))] [] (.tup [.agg (wI es), .c (str w), .c (int n)]) := by
  obtain ⟨c1, es, o, a1, hes, ho, p1⟩ := l17Draw_ex code hl
  obtain ⟨c2, w, a2, hw, p2⟩ := word_ex code c1 hl (by omega)
  have hB : kW es := ⟨by omega, fun e he => ⟨by have := (hes.2 e he).1; omega, by have := (hes.2 e he).2.2; omega⟩⟩
  have hcl : ∀ q : Cur, ∀ x ∈ (xT code q).els, ∀ c ∈ x, Imm c := fun q => yL code q
  have hPh := specPh_pf w (by omega)
  have h6 := l6Good_pf es hB
  have hb8 := phN_lt w
  obtain ⟨b, hbN⟩ : ∃ b, Bd (phN w = b) := ⟨_, ⟨rfl⟩⟩
  rw [hbN.h] at hPh hb8
  have i1 := y5 (hcl c1)
  have i2 := y5 (hcl c2)
  have j1 := wE (hcl c1)
  have j2 := wE (hcl c2)
  have fin : ∀ (c3 : Cur), c3.a ≤ 5100 → ∃ (c4 c5 : Cur) (v : Nat) (n : Int), v < 8 ∧ PFM Tryz.prog 77 [xT code c3] [.c (.ptr 0 0 0), .c (int ((8 : Nat) : Int))] [some (xT code c4)] (.c (int (v : Nat))) ∧
      PFM Tryz.prog 76 [xT code c4, ⟨3, 1, cnL.map y4⟩] [.c (.ptr 0 0 0), .c (.ref 1 0 (4 + v / 3))] [some (xT code c5), some ⟨3, 1, cnL.map y4⟩] (.c (int n)) := by
    intro c3 h3
    obtain ⟨c4, v, a4, hv, p4⟩ := vB code c3 hl (by omega) 8 (by omega)
    obtain ⟨c5, n, a5, _, p5⟩ := among_ex code c4 hl (by omega) cnL (4 + v / 3) (by omega) (by show 4 + v / 3 ≤ 6; omega)
    exact ⟨c4, c5, v, n, hv, p4, p5⟩
  by_cases hg : b ≠ 0 ∧ qJ es = true
  · obtain ⟨hbz, hdo⟩ := hg
    rw [decide_eq_true hbz] at hPh
    rw [hdo] at h6
    obtain ⟨c3, bb, a3, p3⟩ := kN code c2 hl (by omega) 2 (by omega)
    obtain ⟨c4, c5, v, n, hv, p4, p5⟩ := fin c3 (by omega)
    have i3 := y5 (hcl c3)
    have i4 := y5 (hcl c4)
    have i5 := qF (b := ⟨3, 1, cnL.map y4⟩) (hcl c5) (xJ cnL).imm
    have j3 := wE (hcl c3)
    have j4 := kQ (b := ⟨3, 1, cnL.map y4⟩) (hcl c4) (xJ cnL).imm
    have hv8 : v = 0 ∨ v = 1 ∨ v = 2 ∨ v = 3 ∨ v = 4 ∨ v = 5 ∨ v = 6 ∨ v = 7 := by omega
    cases bb with
    | false =>
      refine ⟨es, w, n, hB, hw, ?_⟩
      refine PF.enter (xI _) Tryz.func54 rfl (by kernel_rfl) _ _ rfl rfl rfl (fun w0 mu I0 β0 gi dis => ?_)
      (repeat' (first|(apply xW;(first|exact Want.none_ rfl|(refine zZ rfl rfl rfl rfl ?_;((exact rfl)))))|(apply xF zK;exact rfl;exact rfl)|((first|apply yF|apply kK|apply zQ|apply zX|apply yK|apply yD)<;>(first|exact zK|exact rfl|refine yO ?_|omega|exact ⟨rfl⟩|exact ⟨rfl,_,_,rfl,rfl⟩|exact lb rfl|(simp;omega)))|(apply y8;exact rfl;exact rfl;((exact rfl));exact rfl;exact rfl)|apply zV|(refine yN ?_ ?_;kernel_rfl)|apply AWp.Q|apply zJ|apply AWp.G|apply AWp.J|apply AWp.R|(refine AWp.D ?_ ?_;kernel_rfl)|(apply AWp.F;exact rfl;((exact rfl)))|(apply (zY (p1));(iterate 7 exact rfl);(focus (repeat ((exact All2.nil))));exact rfl;(focus (repeat (first|exact MAs.nil|apply MAs.cons|apply MA.c|exact MC.vc (VC.imm (Imm.sl _)))));((assumption));((exact xE));exact rfl;exact rfl)|(apply (zY (p2));(iterate 7 exact rfl);(focus (repeat (first|exact All2.nil|refine All2.cons rfl ?_)));exact rfl;(focus (repeat (first|exact MAs.nil|apply MAs.cons|apply MA.c|exact MC.ptr rfl)));((assumption));((assumption));exact rfl;exact rfl)|(apply (zY (p3));(iterate 7 exact rfl);(focus (repeat (first|exact All2.nil|refine All2.cons rfl ?_)));exact rfl;(focus (repeat (first|exact MAs.nil|apply MAs.cons|apply MA.c|exact MC.ptr rfl|exact MC.vc (VC.imm (Imm.v _)))));((assumption));((assumption));exact rfl;exact rfl)|(apply (zY (p4));(iterate 7 exact rfl);(focus (repeat (first|exact All2.nil|refine All2.cons rfl ?_)));exact rfl;(focus (repeat (first|exact MAs.nil|apply MAs.cons|apply MA.c|exact MC.ptr rfl|exact MC.vc (VC.imm (Imm.v _)))));((assumption));((assumption));exact rfl;exact rfl)|(apply (zY (p5));(iterate 7 exact rfl);(focus (repeat (first|exact All2.nil|refine All2.cons rfl ?_)));exact rfl;(focus (repeat (first|exact MAs.nil|apply MAs.cons|apply MA.c|exact MC.ref rfl|exact MC.ptr rfl)));((assumption));((assumption));exact rfl;exact rfl)|(apply yM;(iterate 6 exact rfl);(iterate 2 (focus (repeat (first|exact VAs.nil|apply VAs.cons|apply VA.c|apply VA.agg|exact VCs.nil|apply VCs.cons|exact VC.imm (Imm.v _)|exact VC.imm (Imm.sl _)))));(first|exact hPh|exact h6);(focus (repeat (first|exact trivial|exact Flat.v _|apply And.intro)));((apply yX));(first|exact xO _ _|exact xM _ _ _))))
      (((refine z6 _ [] (.cons (xC rfl rfl rfl zK rfl rfl rfl) (.cons (zT rfl) (.cons (zT rfl) .nil))) ?_ rfl ?_)) <;> (repeat' (first|exact trivial|exact rfl|apply And.intro)))
    | true =>
      have hEn : EnB es := ⟨by omega, fun e he => by have := (hes.2 e he).1; omega⟩
      have hs1 : AllSc [[int (b : Nat)]] := xJ [(b : Int)]
      have i0 : ∀ obj : AObj, some obj ∈ ([] : List (Option AObj)) → ∀ x ∈ obj.els, ∀ c ∈ x, Imm c := fun _ h => by cases h
      by_cases hin : qI ⟨[(b : Int)], [116, 97, 107, 101, 110]⟩ = true ∧ (putE es ⟨[(b : Int)], [116, 97, 107, 101, 110]⟩).length ≤ 40
      · have hI := insY_pf es ⟨[(b : Int)], [116, 97, 107, 101, 110]⟩ hB hEn ⟨by simp, by simp⟩ hdo hin.1 hin.2
        have hpm := putE_mem (es := es) (e := ⟨[(b : Int)], [116, 97, 107, 101, 110]⟩) (P := fun e => e.o.length ≤ 1048576 ∧ e.t.length ≤ 1048576) ⟨by simp, by simp⟩ hB.2
        have hpl := hin.2
        generalize putE es ⟨[(b : Int)], [116, 97, 107, 101, 110]⟩ = R at *
        refine ⟨R, w, n, ⟨by omega, hpm⟩, hw, ?_⟩
        clear hin
        refine PF.enter (xI _) Tryz.func54 rfl (by kernel_rfl) _ _ rfl rfl rfl (fun w0 mu I0 β0 gi dis => ?_)
        (repeat' (first|(apply xW;(first|exact Want.none_ rfl|(refine zZ rfl rfl rfl rfl ?_;((exact rfl)))))|(apply xF zK;exact rfl;exact rfl)|((first|apply yS|apply zQ|apply zX|apply yD)<;>(first|exact zK|exact rfl|refine yO ?_|exact lb rfl|(refine Bd.mk ?_;(focus (simp;done)))))|(apply y8;exact rfl;exact rfl;((exact rfl));exact rfl;exact rfl)|apply zV|apply AWp.Q|apply zJ|apply AWp.G|(apply AWp.T;exact rfl;((exact rfl)))|(apply (zY (p1));(iterate 7 exact rfl);(focus (repeat ((exact All2.nil))));exact rfl;(focus (repeat (first|exact MAs.nil|apply MAs.cons|apply MA.c|exact MC.vc (VC.imm (Imm.sl _)))));((assumption));((exact xE));exact rfl;exact rfl)|(apply (zY (p2));(iterate 7 exact rfl);(focus (repeat (first|exact All2.nil|refine All2.cons rfl ?_)));exact rfl;(focus (repeat (first|exact MAs.nil|apply MAs.cons|apply MA.c|exact MC.ptr rfl)));((assumption));((assumption));exact rfl;exact rfl)|(apply (zY (p3));(iterate 7 exact rfl);(focus (repeat (first|exact All2.nil|refine All2.cons rfl ?_)));exact rfl;(focus (repeat (first|exact MAs.nil|apply MAs.cons|apply MA.c|exact MC.ptr rfl|exact MC.vc (VC.imm (Imm.v _)))));((assumption));((assumption));exact rfl;exact rfl)|(apply yM;(iterate 6 exact rfl);(iterate 2 (focus (repeat (first|exact VAs.nil|apply VAs.cons|apply VA.c|apply VA.agg|exact VCs.nil|apply VCs.cons|exact VC.imm (Imm.v _)|exact VC.imm (Imm.sl _)|(apply zB;exact rfl;exact rfl;((exact rfl));exact rfl;((refine aIm ?_;assumption)))))));(first|exact hPh|exact h6);(focus (repeat (first|exact trivial|exact Flat.v _|apply And.intro)));((apply yX));(first|exact xO _ _|exact xM _ _ _))))
        refine rx_callFz 39 3 (obj := ⟨3, 1, [[int (b : Nat)]]⟩) (x' := .agg [.sl [[int (b : Nat)]], str [116, 97, 107, 101, 110]]) hI rfl wJ (show FB 3 [[int (b : Nat)]] (.agg [.ref 3 0 1, str [116, 97, 107, 101, 110]]) _ from .agg (.cons (.ref 1 rfl) (.cons (.same _) .nil))) hs1.imm rfl rfl rfl rfl (.cons (.agg (.cons (.vc (.imm (Imm.sl _))) .nil)) (.cons (.agg (.cons (.vc (.imm (Imm.sl _))) (.cons (.vc (.imm (Imm.v _))) .nil))) .nil)) i0 rfl rfl ?_
        intro acc'
        (repeat' (first|(apply xW;((exact Want.none_ rfl)))|(apply xF zK;exact rfl;exact rfl)|((first|apply yF|apply kK|apply zQ|apply zX|apply yK|apply yD)<;>(first|exact zK|exact rfl|refine yO ?_|omega|exact ⟨rfl⟩|exact ⟨rfl,_,_,rfl,rfl⟩|exact lb rfl|(simp;omega)))|apply zV|(refine yN ?_ ?_;kernel_rfl)|apply AWp.Q|apply zJ|apply AWp.G|apply AWp.R|(refine AWp.D ?_ ?_;kernel_rfl)|(apply AWp.T;exact rfl;((exact rfl)))|(apply (zY (p4));(iterate 7 exact rfl);(focus (repeat (first|exact All2.nil|refine All2.cons rfl ?_)));exact rfl;(focus (repeat (first|exact MAs.nil|apply MAs.cons|apply MA.c|exact MC.ptr rfl|exact MC.vc (VC.imm (Imm.v _)))));((assumption));((assumption));exact rfl;exact rfl)|(apply (zY (p5));(iterate 7 exact rfl);(focus (repeat (first|exact All2.nil|refine All2.cons rfl ?_)));exact rfl;(focus (repeat (first|exact MAs.nil|apply MAs.cons|apply MA.c|exact MC.ref rfl|exact MC.ptr rfl)));((assumption));((assumption));exact rfl;exact rfl)))
        (((refine z6 _ [] (.cons (xC rfl rfl rfl zK rfl rfl rfl) (.cons (zT rfl) (.cons (zT rfl) .nil))) ?_ rfl ?_)) <;> (repeat' (first|exact trivial|exact rfl|apply And.intro)))
      · have hI := insN_pf es ⟨[(b : Int)], [116, 97, 107, 101, 110]⟩ hB hEn ⟨by simp, by simp⟩ hdo (by
          cases h2 : qI ⟨[(b : Int)], [116, 97, 107, 101, 110]⟩ with
          | false => exact .inl rfl
          | true => exact .inr ⟨rfl, fun h => hin ⟨h2, h⟩⟩)
        refine ⟨es, w, n, hB, hw, ?_⟩
        clear hin
        refine PF.enter (xI _) Tryz.func54 rfl (by kernel_rfl) _ _ rfl rfl rfl (fun w0 mu I0 β0 gi dis => ?_)
        (repeat' (first|(apply xW;(first|exact Want.none_ rfl|(refine zZ rfl rfl rfl rfl ?_;((exact rfl)))))|(apply xF zK;exact rfl;exact rfl)|((first|apply yS|apply zQ|apply zX|apply yD)<;>(first|exact zK|exact rfl|refine yO ?_|exact lb rfl|(refine Bd.mk ?_;(focus (simp;done)))))|(apply y8;exact rfl;exact rfl;((exact rfl));exact rfl;exact rfl)|apply zV|apply AWp.Q|apply zJ|apply AWp.G|(apply AWp.T;exact rfl;((exact rfl)))|(apply (zY (p1));(iterate 7 exact rfl);(focus (repeat ((exact All2.nil))));exact rfl;(focus (repeat (first|exact MAs.nil|apply MAs.cons|apply MA.c|exact MC.vc (VC.imm (Imm.sl _)))));((assumption));((exact xE));exact rfl;exact rfl)|(apply (zY (p2));(iterate 7 exact rfl);(focus (repeat (first|exact All2.nil|refine All2.cons rfl ?_)));exact rfl;(focus (repeat (first|exact MAs.nil|apply MAs.cons|apply MA.c|exact MC.ptr rfl)));((assumption));((assumption));exact rfl;exact rfl)|(apply (zY (p3));(iterate 7 exact rfl);(focus (repeat (first|exact All2.nil|refine All2.cons rfl ?_)));exact rfl;(focus (repeat (first|exact MAs.nil|apply MAs.cons|apply MA.c|exact MC.ptr rfl|exact MC.vc (VC.imm (Imm.v _)))));((assumption));((assumption));exact rfl;exact rfl)|(apply yM;(iterate 6 exact rfl);(iterate 2 (focus (repeat (first|exact VAs.nil|apply VAs.cons|apply VA.c|apply VA.agg|exact VCs.nil|apply VCs.cons|exact VC.imm (Imm.v _)|exact VC.imm (Imm.sl _)|(apply zB;exact rfl;exact rfl;((exact rfl));exact rfl;((refine aIm ?_;assumption)))))));(first|exact hPh|exact h6);(focus (repeat (first|exact trivial|exact Flat.v _|apply And.intro)));((apply yX));(first|exact xO _ _|exact xM _ _ _))))
        refine rx_callFz 39 3 (obj := ⟨3, 1, [[int (b : Nat)]]⟩) (x' := .agg [.sl [[int (b : Nat)]], str [116, 97, 107, 101, 110]]) hI rfl wJ (show FB 3 [[int (b : Nat)]] (.agg [.ref 3 0 1, str [116, 97, 107, 101, 110]]) _ from .agg (.cons (.ref 1 rfl) (.cons (.same _) .nil))) hs1.imm rfl rfl rfl rfl (.cons (.agg (.cons (.vc (.imm (Imm.sl _))) .nil)) (.cons (.agg (.cons (.vc (.imm (Imm.sl _))) (.cons (.vc (.imm (Imm.v _))) .nil))) .nil)) i0 rfl rfl ?_
        intro acc'
        (repeat' (first|(apply xW;((exact Want.none_ rfl)))|(apply xF zK;exact rfl;exact rfl)|((first|apply yF|apply kK|apply zQ|apply zX|apply yK|apply yD)<;>(first|exact zK|exact rfl|refine yO ?_|omega|exact ⟨rfl⟩|exact ⟨rfl,_,_,rfl,rfl⟩|exact lb rfl|(simp;omega)))|apply zV|(refine yN ?_ ?_;kernel_rfl)|apply AWp.Q|apply zJ|apply AWp.G|apply AWp.J|apply AWp.R|(refine AWp.D ?_ ?_;kernel_rfl)|(apply AWp.F;exact rfl;((exact rfl)))|(apply (zY (p4));(iterate 7 exact rfl);(focus (repeat (first|exact All2.nil|refine All2.cons rfl ?_)));exact rfl;(focus (repeat (first|exact MAs.nil|apply MAs.cons|apply MA.c|exact MC.ptr rfl|exact MC.vc (VC.imm (Imm.v _)))));((assumption));((assumption));exact rfl;exact rfl)|(apply (zY (p5));(iterate 7 exact rfl);(focus (repeat (first|exact All2.nil|refine All2.cons rfl ?_)));exact rfl;(focus (repeat (first|exact MAs.nil|apply MAs.cons|apply MA.c|exact MC.ref rfl|exact MC.ptr rfl)));((assumption));((assumption));exact rfl;exact rfl)))
        (((refine z6 _ [] (.cons (xC rfl rfl rfl zK rfl rfl rfl) (.cons (zT rfl) (.cons (zT rfl) .nil))) ?_ rfl ?_)) <;> (repeat' (first|exact trivial|exact rfl|apply And.intro)))
  · obtain ⟨c4, c5, v, n, hv, p4, p5⟩ := fin c2 (by omega)
    have i4 := y5 (hcl c4)
    have i5 := qF (b := ⟨3, 1, cnL.map y4⟩) (hcl c5) (xJ cnL).imm
    have j4 := kQ (b := ⟨3, 1, cnL.map y4⟩) (hcl c4) (xJ cnL).imm
    have hv8 : v = 0 ∨ v = 1 ∨ v = 2 ∨ v = 3 ∨ v = 4 ∨ v = 5 ∨ v = 6 ∨ v = 7 := by omega
    refine ⟨es, w, n, hB, hw, ?_⟩
    by_cases hbz : b ≠ 0
    · have hdo : qJ es = false := by
        cases h : qJ es with
        | false => rfl
        | true => exact absurd ⟨hbz, h⟩ hg
      rw [decide_eq_true hbz] at hPh
      rw [hdo] at h6
      clear hg
      refine PF.enter (xI _) Tryz.func54 rfl (by kernel_rfl) _ _ rfl rfl rfl (fun w0 mu I0 β0 gi dis => ?_)
      (repeat' (first|(apply xW;(first|exact Want.none_ rfl|(refine zZ rfl rfl rfl rfl ?_;((exact rfl)))))|(apply xF zK;exact rfl;exact rfl)|((first|apply yF|apply kK|apply zQ|apply zX|apply yK|apply yD)<;>(first|exact zK|exact rfl|refine yO ?_|omega|exact ⟨rfl⟩|exact ⟨rfl,_,_,rfl,rfl⟩|exact lb rfl|(simp;omega)))|(apply y8;exact rfl;exact rfl;((exact rfl));exact rfl;exact rfl)|(apply y7;(iterate 5 exact rfl);((exact rfl)))|apply zV|(refine yN ?_ ?_;kernel_rfl)|apply AWp.Q|apply zJ|apply AWp.G|apply AWp.J|apply AWp.R|(refine AWp.D ?_ ?_;kernel_rfl)|(apply AWp.F;exact rfl;((exact rfl)))|(apply (zY (p1));(iterate 7 exact rfl);(focus (repeat ((exact All2.nil))));exact rfl;(focus (repeat (first|exact MAs.nil|apply MAs.cons|apply MA.c|exact MC.vc (VC.imm (Imm.sl _)))));((assumption));((exact xE));exact rfl;exact rfl)|(apply (zY (p2));(iterate 7 exact rfl);(focus (repeat (first|exact All2.nil|refine All2.cons rfl ?_)));exact rfl;(focus (repeat (first|exact MAs.nil|apply MAs.cons|apply MA.c|exact MC.ptr rfl)));((assumption));((assumption));exact rfl;exact rfl)|(apply (zY (p4));(iterate 7 exact rfl);(focus (repeat (first|exact All2.nil|refine All2.cons rfl ?_)));exact rfl;(focus (repeat (first|exact MAs.nil|apply MAs.cons|apply MA.c|exact MC.ptr rfl|exact MC.vc (VC.imm (Imm.v _)))));((assumption));((assumption));exact rfl;exact rfl)|(apply (zY (p5));(iterate 7 exact rfl);(focus (repeat (first|exact All2.nil|refine All2.cons rfl ?_)));exact rfl;(focus (repeat (first|exact MAs.nil|apply MAs.cons|apply MA.c|exact MC.ref rfl|exact MC.ptr rfl)));((assumption));((assumption));exact rfl;exact rfl)|(apply yM;(iterate 6 exact rfl);(iterate 2 (focus (repeat (first|exact VAs.nil|apply VAs.cons|apply VA.c|apply VA.agg|exact VCs.nil|apply VCs.cons|exact VC.imm (Imm.v _)|exact VC.imm (Imm.sl _)))));(first|exact hPh|exact h6);(focus (repeat (first|exact trivial|exact Flat.v _|apply And.intro)));((apply yX));(first|exact xO _ _|exact xM _ _ _))))
      (((refine z6 _ [] (.cons (xC rfl rfl rfl zK rfl rfl rfl) (.cons (zT rfl) (.cons (zT rfl) .nil))) ?_ rfl ?_)) <;> (repeat' (first|exact trivial|exact rfl|apply And.intro)))
    · rw [decide_eq_false hbz] at hPh
      clear hg
      refine PF.enter (xI _) Tryz.func54 rfl (by kernel_rfl) _ _ rfl rfl rfl (fun w0 mu I0 β0 gi dis => ?_)
      (repeat' (first|(apply xW;((exact Want.none_ rfl)))|(apply xF zK;exact rfl;exact rfl)|((first|apply yF|apply kK|apply zQ|apply zX|apply yK|apply yD)<;>(first|exact zK|exact rfl|refine yO ?_|omega|exact ⟨rfl⟩|exact ⟨rfl,_,_,rfl,rfl⟩|exact lb rfl|(simp;omega)))|(apply y8;exact rfl;exact rfl;((exact rfl));exact rfl;exact rfl)|(apply y7;(iterate 5 exact rfl);((exact rfl)))|apply zV|(refine yN ?_ ?_;kernel_rfl)|apply AWp.Q|apply zJ|apply AWp.G|apply AWp.J|apply AWp.R|(refine AWp.D ?_ ?_;kernel_rfl)|(apply AWp.F;exact rfl;((exact rfl)))|(apply (zY (p1));(iterate 7 exact rfl);(focus (repeat ((exact All2.nil))));exact rfl;(focus (repeat (first|exact MAs.nil|apply MAs.cons|apply MA.c|exact MC.vc (VC.imm (Imm.sl _)))));((assumption));((exact xE));exact rfl;exact rfl)|(apply (zY (p2));(iterate 7 exact rfl);(focus (repeat (first|exact All2.nil|refine All2.cons rfl ?_)));exact rfl;(focus (repeat (first|exact MAs.nil|apply MAs.cons|apply MA.c|exact MC.ptr rfl)));((assumption));((assumption));exact rfl;exact rfl)|(apply (zY (p4));(iterate 7 exact rfl);(focus (repeat (first|exact All2.nil|refine All2.cons rfl ?_)));exact rfl;(focus (repeat (first|exact MAs.nil|apply MAs.cons|apply MA.c|exact MC.ptr rfl|exact MC.vc (VC.imm (Imm.v _)))));((assumption));((assumption));exact rfl;exact rfl)|(apply (zY (p5));(iterate 7 exact rfl);(focus (repeat (first|exact All2.nil|refine All2.cons rfl ?_)));exact rfl;(focus (repeat (first|exact MAs.nil|apply MAs.cons|apply MA.c|exact MC.ref rfl|exact MC.ptr rfl)));((assumption));((assumption));exact rfl;exact rfl)|(apply yM;(iterate 6 exact rfl);(iterate 2 (focus (repeat (first|exact VAs.nil|apply VAs.cons|apply VA.c|exact VCs.nil|exact VC.imm (Imm.v _)))));((exact hPh));(focus (repeat (first|exact trivial|exact Flat.v _|apply And.intro)));((apply yX));((exact xM _ _ _)))))
      (((refine z6 _ [] (.cons (xC rfl rfl rfl zK rfl rfl rfl) (.cons (zT rfl) (.cons (zT rfl) .nil))) ?_ rfl ?_)) <;> (repeat' (first|exact trivial|exact rfl|apply And.intro)))
end Go.Proofs.YtchpdclknbmdoaaGreatDoor
