/- What is drawn for TapePieces. -/
import Derived.Test.YtchpdclknbmdoaaGreatDoorTpO
import Derived.Test.YtchpdclknbmdoaaGreatDoorDvC
import Derived.Test.YtchpdclknbmdoaaGreatDoorDvB
namespace Go.Proofs.YtchpdclknbmdoaaGreatDoor
open Go Go.RowKit
set_option maxHeartbeats 1000000 in
theorem drawTp_ex (code : List UInt8) (hl : code.length ≤ 65536) : ∃ (es : List Ent) (T : List Itm), qU es ∧ T.length ≤ 61 ∧
    PF Tryz.prog 25 [.c (.sl (code.map vA))] [] (.tup [.agg (wG es), .agg (xX T)]) := by
  have a0 : c00.a = 0 := rfl
  obtain ⟨c1, T, es, a1, ⟨hT, hes, heo⟩, p1⟩ := draw_ex code c00 hl (by omega)
  obtain ⟨c2, b, a2, p2⟩ := qH code c1 hl (by omega) 20 (by omega)
  have hcl : ∀ q : Cur, ∀ x ∈ (xQ code q).els, ∀ c ∈ x, Imm c := fun q => yC code q
  have i1 := y7 (hcl c1)
  have i2 := y7 (hcl c2)
  have j0 := wD (hcl c00)
  have j1 := wD (hcl c1)
  have j2 := wD (hcl c2)
  cases b with
  | false =>
    refine ⟨es, T, ⟨by omega, fun e he => ⟨by have := (heo e he).1; omega, by have := (heo e he).2.2; omega⟩⟩, hT, ?_⟩
    refine PF.enter (y9 _) Tryz.func25 rfl (by kernel_rfl) _ _ rfl rfl rfl (fun w0 mu I0 β0 gi dis => ?_)
    (repeat' (first|(apply xW;((exact Want.none_ rfl)))|(apply xF zI;exact rfl;exact rfl)|((first|apply yT|apply zW|apply yE)<;>(first|exact zI|exact rfl|refine yJ ?_|exact lb rfl|((try refine Bd.mk ?_);(focus (simp;done)))))|apply zT|(refine yL ?_ ?_;kernel_rfl)|apply AWp.Q|apply zH|apply AWp.G|apply AWp.J|apply AWp.R|(refine AWp.D ?_ ?_;kernel_rfl)|(apply AWp.F;exact rfl;((exact rfl)))|(apply (yD (p1));(iterate 7 exact rfl);(focus (repeat (first|exact All2.nil|refine All2.cons rfl ?_)));exact rfl;(focus (repeat (first|exact MAs.nil|apply MAs.cons|apply MA.c|exact MC.ptr rfl)));((assumption));((assumption));exact rfl;exact rfl)|(apply (yD (p2));(iterate 7 exact rfl);(focus (repeat (first|exact All2.nil|refine All2.cons rfl ?_)));exact rfl;(focus (repeat (first|exact MAs.nil|apply MAs.cons|apply MA.c|exact MC.ptr rfl|exact MC.vc (VC.imm (Imm.v _)))));((assumption));((assumption));exact rfl;exact rfl)))
    (((refine z7 _ [] (.cons (y4 rfl rfl rfl zI rfl rfl rfl) (.cons (y4 rfl rfl rfl zI rfl rfl rfl) .nil)) ?_ rfl ?_)) <;> (repeat' (first|exact trivial|exact rfl|apply And.intro)))
  | true =>
    obtain ⟨c3, es3, a3, ⟨hes3, he8⟩, p3⟩ := anyDictionary_ex code c2 hl (by omega)
    have i3 := y7 (hcl c3)
    refine ⟨es3, T, ⟨by omega, fun e he => ⟨by have := (he8 e he).1; omega, by have := (he8 e he).2.2; omega⟩⟩, hT, ?_⟩
    refine PF.enter (y9 _) Tryz.func25 rfl (by kernel_rfl) _ _ rfl rfl rfl (fun w0 mu I0 β0 gi dis => ?_)
    (repeat' (first|(apply xW;((exact Want.none_ rfl)))|(apply xF zI;exact rfl;exact rfl)|((first|apply yT|apply zW|apply yE)<;>(first|exact zI|exact rfl|refine yJ ?_|exact lb rfl|((try refine Bd.mk ?_);(focus (simp;done)))))|apply zT|(refine yL ?_ ?_;kernel_rfl)|apply AWp.Q|apply zH|apply AWp.G|apply AWp.R|(refine AWp.D ?_ ?_;kernel_rfl)|(apply AWp.T;exact rfl;((exact rfl)))|(apply (yD (p1));(iterate 7 exact rfl);(focus (repeat (first|exact All2.nil|refine All2.cons rfl ?_)));exact rfl;(focus (repeat (first|exact MAs.nil|apply MAs.cons|apply MA.c|exact MC.ptr rfl)));((assumption));((assumption));exact rfl;exact rfl)|(apply (yD (p2));(iterate 7 exact rfl);(focus (repeat (first|exact All2.nil|refine All2.cons rfl ?_)));exact rfl;(focus (repeat (first|exact MAs.nil|apply MAs.cons|apply MA.c|exact MC.ptr rfl|exact MC.vc (VC.imm (Imm.v _)))));((assumption));((assumption));exact rfl;exact rfl)|(apply (yD (p3));(iterate 7 exact rfl);(focus (repeat (first|exact All2.nil|refine All2.cons rfl ?_)));exact rfl;(focus (repeat (first|exact MAs.nil|apply MAs.cons|apply MA.c|exact MC.ptr rfl)));((assumption));((assumption));exact rfl;exact rfl)))
    (((refine z7 _ [] (.cons (y4 rfl rfl rfl zI rfl rfl rfl) (.cons (y4 rfl rfl rfl zI rfl rfl rfl) .nil)) ?_ rfl ?_)) <;> (repeat' (first|exact trivial|exact rfl|apply And.intro)))
end Go.Proofs.YtchpdclknbmdoaaGreatDoor
