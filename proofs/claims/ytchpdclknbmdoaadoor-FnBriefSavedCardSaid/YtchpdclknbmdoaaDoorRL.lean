/- rBig and rInts of package laws; the cursor at the start. No conditions but bounds. -/
import Derived.Test.YtchpdclknbmdoaaDoorCur2
namespace Go.Proofs.YtchpdclknbmdoaaDoor
open Go Go.RowKit
def c00 : Cur := ⟨0, 0⟩
theorem rBig_pf (code : List UInt8) (hl : code.length ≤ 9223372036854775807) :
    PF Tryd.prog 15 [.c (.sl (code.map wT))] [] (.c (boo (decide (65536 < (code.length : Int))))) := by
  have hL : (code.map wT).length = code.length := List.length_map _
  refine PF.enter (xG _) Tryd.func15 rfl (by kernel_rfl) _ _ rfl rfl rfl (fun w0 mu I0 β0 gi dis => ?_)
  (repeat' (first|(apply xW;(first|exact Want.none_ rfl|(refine zX rfl rfl rfl rfl ?_;(first|assumption|exact dT ‹_›|exact dF ‹_›|exact rfl))))|(apply xF zI;exact rfl;exact rfl)|((fail)<;>(first|exact zI|exact Nat.zero_add _|exact rfl|refine yK ?_|assumption|omega|exact ⟨rfl⟩|exact ⟨rfl,_,_,rfl,rfl⟩|exact lb rfl|(refine Bd.mk ?_;first|assumption|omega|(focus (simp;done))|(simp;omega)|decide)|(focus (simp;done))|(simp;omega)|(simp only [lA,lB,lC,lD,lE];omega)))|apply zT|apply AWp.Q|apply zH|apply AWp.G|apply AWp.R|apply zK))
  rw [hL]
  ((first|refine zY _ [] (.cons (zQ rfl) .nil) ?_ rfl ?_|refine z6 _ [] (.cons (zQ rfl) .nil) ?_ rfl ?_) <;> (repeat' (first|exact trivial|exact rfl|exact Or.inr ⟨rfl,‹_›⟩|exact Or.inl ⟨rfl,trivial⟩|apply And.intro|exact congrArg (Value.int .i64) (by first|omega|(simp;done)|(simp;omega))|(refine yG ?_;first|(focus (simp;done))|omega|(simp only [lA,lB,lC,lD,lE];omega))|(refine ⟨_,rfl,rfl,rfl,OW.one ?_⟩)|(refine ⟨_,rfl,rfl,rfl,OW.same ?_ ?_⟩)|refine vwB ?_|refine vwS ?_|refine vwI ?_|refine fwB ?_|refine fwS ?_|refine fwI ?_|(refine aIm ?_;first|exact AllSc.nil|assumption))))
end Go.Proofs.YtchpdclknbmdoaaDoor
