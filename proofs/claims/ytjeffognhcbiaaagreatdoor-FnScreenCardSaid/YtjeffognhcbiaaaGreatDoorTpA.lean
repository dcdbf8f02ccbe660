/- Tapes: valid ones, by both programs. No conditions but bounds of lengths. -/
import Derived.Test.YtjeffognhcbiaaaGreatDoorAbs4
namespace Go.Proofs.YtjeffognhcbiaaaGreatDoor
open Go Go.RowKit
structure Itm where
  s : Int
  b : Bool
theorem l2GoodT_pf (x : Int) : PF Tryz.prog 58 [.c (int x)] [] (.c (boo (inZ x 1 8388607))) := by
  refine PF.enter (xJ _) Tryz.func58 rfl (by kernel_rfl) _ _ rfl rfl rfl (fun w0 mu I0 β0 gi dis => ?_)
  (repeat' (first|(apply xW;((exact Want.none_ rfl)))|(apply xF zI;exact rfl;exact rfl)|apply zR|apply AWp.Q|apply zH|apply AWp.G|apply AWp.R|(apply yA;(iterate 6 exact rfl);(iterate 2 (focus (repeat (first|exact VAs.nil|apply VAs.cons|apply VA.c|exact VCs.nil|exact VC.imm (Imm.v _)))));((exact vP x 1 8388607));(focus (repeat ((exact Flat.v _))));((apply yJ));((exact xB _ _)))))
  (((refine zV _ [] (.cons (zN rfl) .nil) ?_ rfl ?_)) <;> (repeat' (first|exact trivial|exact rfl)))
theorem isStrokeT_pf (x : Int) : PF Tryz.prog 52 [.c (int x)] [] (.c (boo (inZ x 1 8388607))) := by
  refine PF.enter (xJ _) Tryz.func52 rfl (by kernel_rfl) _ _ rfl rfl rfl (fun w0 mu I0 β0 gi dis => ?_)
  (repeat' (first|(apply xW;((exact Want.none_ rfl)))|(apply xF zI;exact rfl;exact rfl)|apply zR|apply AWp.Q|apply zH|apply AWp.G|apply AWp.R|(apply yA;(iterate 6 exact rfl);(iterate 2 (focus (repeat (first|exact VAs.nil|apply VAs.cons|apply VA.c|exact VCs.nil|exact VC.imm (Imm.v _)))));((exact jA x 1 8388607));(focus (repeat ((exact Flat.v _))));((apply yJ));((exact xB _ _)))))
  (((refine zV _ [] (.cons (zN rfl) .nil) ?_ rfl ?_)) <;> (repeat' (first|exact trivial|exact rfl)))
section
variable (t : List Itm) (g : Nat) (p : Itm → Bool)
end
end Go.Proofs.YtjeffognhcbiaaaGreatDoor
