/- Tapes: valid ones, by both programs. No conditions but bounds of lengths. -/
import Derived.Test.YtchpdclknbmdoaaGreatDoorAbs4
namespace Go.Proofs.YtchpdclknbmdoaaGreatDoor
open Go Go.RowKit
structure Itm where
  s : Int
  b : Bool
theorem l2GoodT_pf (x : Int) : PF Tryz.prog 82 [.c (int x)] [] (.c (boo (inZ x 1 8388607))) := by
  refine PF.enter (xJ _) Tryz.func82 rfl (by kernel_rfl) _ _ rfl rfl rfl (fun w0 mu I0 β0 gi dis => ?_)
  (repeat' (first|(apply xW;((exact Want.none_ rfl)))|(apply xF zI;exact rfl;exact rfl)|apply zQ|apply AWp.Q|apply zG|apply AWp.G|apply AWp.R|(apply yC;(iterate 6 exact rfl);(iterate 2 (focus (repeat (first|exact VAs.nil|apply VAs.cons|apply VA.c|exact VCs.nil|exact VC.imm (Imm.v _)))));((exact v8 x 1 8388607));(focus (repeat ((exact Flat.v _))));((apply yJ));((exact xD _ _)))))
  (((refine zX _ [] (.cons (zP rfl) .nil) ?_ rfl ?_)) <;> (repeat' (first|exact trivial|exact rfl)))
theorem isStrokeT_pf (x : Int) : PF Tryz.prog 79 [.c (int x)] [] (.c (boo (inZ x 1 8388607))) := by
  refine PF.enter (xJ _) Tryz.func79 rfl (by kernel_rfl) _ _ rfl rfl rfl (fun w0 mu I0 β0 gi dis => ?_)
  (repeat' (first|(apply xW;((exact Want.none_ rfl)))|(apply xF zI;exact rfl;exact rfl)|apply zQ|apply AWp.Q|apply zG|apply AWp.G|apply AWp.R|(apply yC;(iterate 6 exact rfl);(iterate 2 (focus (repeat (first|exact VAs.nil|apply VAs.cons|apply VA.c|exact VCs.nil|exact VC.imm (Imm.v _)))));((exact in_pf x 1 8388607));(focus (repeat ((exact Flat.v _))));((apply yJ));((exact xD _ _)))))
  (((refine zX _ [] (.cons (zP rfl) .nil) ?_ rfl ?_)) <;> (repeat' (first|exact trivial|exact rfl)))
section
variable (t : List Itm) (g : Nat) (p : Itm → Bool)
end
end Go.Proofs.YtchpdclknbmdoaaGreatDoor
