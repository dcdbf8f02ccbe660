/- What is drawn for MatchAt. -/
import Derived.Test.YtchpdclknbmdoaaGreatDoorSgG
namespace Go.Proofs.YtchpdclknbmdoaaGreatDoor
open Go Go.RowKit
theorem drawMt_ex (code : List UInt8) (hl : code.length ≤ 65536) : ∃ (es : List Ent) (l : List Int) (f : Int), wX es ∧ l.length ≤ 102 ∧
    PF Tryz.prog 45 [.c (.sl (code.map wR))] [⟨3, 1, l.map yU⟩] (.tup [.agg (x3 es), .c (.ref 0 0 l.length), .c (int f)]) := by
  have a0 : c00.a = 0 := rfl
  obtain ⟨c1, es, a1, ⟨hes, he8⟩, p1⟩ := anyDictionary_ex code c00 hl (by omega)
  obtain ⟨c2, l, a2, hll, p2⟩ := anyStrokes_ex code hl es hes he8 c1 (by omega)
  obtain ⟨c3, k, a3, hk, p3⟩ := wD code c2 hl (by omega) (l.length + 2) (by omega)
  have hcl : ∀ q : Cur, ∀ x ∈ (xR code q).els, ∀ c ∈ x, Imm c := fun q => yG code q
  have hsc := xI l
  have i1 := y6 (hcl c1)
  have i2 := vP (b := ⟨3, 1, l.map yU⟩) (hcl c2) hsc.imm
  have i3 := y6 (hcl c3)
  have j0 := x6 (hcl c00)
  have j1 := x6 (hcl c1)
  have j2 := x6 (hcl c2)
  rw [show ((l.length + 2 : Nat) : Int) = (l.length : Int) + 2 by omega] at p3
  refine ⟨es, l, (k : Int) - 1, ⟨by omega, fun e he => ⟨by have := (he8 e he).1; omega, by have := (he8 e he).2.2; omega⟩⟩, hll, ?_⟩
  refine PF.enter (xM _) Tryz.func45 rfl (by kernel_rfl) _ _ rfl rfl rfl (fun w0 mu I0 β0 gi dis => ?_)
  (repeat' (first|(apply xW;((exact Want.none_ rfl)))|(apply xF zI;exact rfl;exact rfl)|((first|apply z8|apply yZ|apply yS|apply zV|apply yE)<;>(first|exact zI|exact rfl|refine yI ?_|omega|exact lb rfl|((try refine Bd.mk ?_);(focus (simp;done)))))|apply zS|(refine yN ?_ ?_;kernel_rfl)|apply AWp.Q|apply zH|apply AWp.G|apply AWp.R|(refine AWp.D ?_ ?_;kernel_rfl)|(apply (zZ (p1));(iterate 7 exact rfl);(focus (repeat (first|exact All2.nil|refine All2.cons rfl ?_)));exact rfl;(focus (repeat (first|exact MAs.nil|apply MAs.cons|apply MA.c|exact MC.ptr rfl)));((assumption));((assumption));exact rfl;exact rfl)|(apply (zZ (p2));(iterate 7 exact rfl);(focus (repeat (first|exact All2.nil|refine All2.cons rfl ?_)));exact rfl;(focus (repeat (first|exact MAs.nil|apply MAs.cons|apply MA.c|apply MA.agg|exact MCs.nil|apply MCs.cons|exact MC.ptr rfl|exact MC.vc (VC.imm (Imm.sl _)))));((assumption));((assumption));exact rfl;exact rfl)|(apply (zZ (p3));(iterate 7 exact rfl);(focus (repeat (first|exact All2.nil|refine All2.cons rfl ?_)));exact rfl;(focus (repeat (first|exact MAs.nil|apply MAs.cons|apply MA.c|exact MC.ptr rfl|exact MC.vc (VC.imm (Imm.v _)))));((assumption));((assumption));exact rfl;exact rfl)))
  (((refine zX _ [(0, some 3)] (.cons (yY rfl rfl rfl zI rfl rfl rfl) (.cons (zP rfl) (.cons (zP rfl) .nil))) ?_ rfl ?_)) <;> (repeat' (first|exact trivial|exact rfl|apply And.intro|refine oWs rfl rfl rfl ?_ ?_|(refine aIm ?_;(assumption)))))
  all_goals first | exact hsc.imm | skip
end Go.Proofs.YtchpdclknbmdoaaGreatDoor
