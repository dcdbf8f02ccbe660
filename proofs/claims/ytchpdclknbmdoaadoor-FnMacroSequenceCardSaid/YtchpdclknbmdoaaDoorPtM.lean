/- slices.Clip over a tape's items, and ParseTape's law. No conditions but those stated. -/
import Derived.Test.YtchpdclknbmdoaaDoorPtL
namespace Go.Proofs.YtchpdclknbmdoaaDoor
open Go Go.RowKit
theorem clipOk : ClipOk := by
  intro t ht
  have hsc := xL t
  have hl : t.length = (t.map yI).length := (List.length_map _).symm
  have hl' : (t.map yI).length = t.length := List.length_map _
  refine zD (xM _) (xX _) rfl Tryd.func51 rfl (by kernel_rfl) _ _ rfl rfl rfl (fun w0 mu I0 β0 gi dis => ?_)
  (repeat' (first|(apply xW;(first|exact Want.none_ rfl|(refine yA rfl rfl rfl rfl ?_;(first|assumption|exact dT ‹_›|exact dF ‹_›|exact rfl))))|(apply xF zH;exact rfl;exact rfl)|((first|(apply y8;exact rfl;exact rfl)|(apply yZ;exact rfl;exact rfl)|apply yX|apply xN)<;>(first|exact zH|exact Nat.zero_add _|exact rfl|refine yN ?_|assumption|omega|exact ⟨rfl⟩|exact ⟨rfl,_,_,rfl,rfl⟩|exact lb rfl|(refine Bd.mk ?_;first|assumption|omega|(focus (simp;done))|(simp;omega)|decide)|(focus (apply oI;exact rfl;exact rfl;assumption))|(focus (refine ⟨rfl,_,_,rfl,?_⟩;omega))|(focus (simp;done))|(simp;omega)|(simp only [lA,lB,lC,lD,lE];omega)))|apply zS|apply AWp.Q|apply zG|apply AWp.G|apply AWp.R|apply zJ))
  ((first|refine yE _ [(0, some 0), (1, some 1)] (.cons (zR rfl) .nil) ?_ rfl ?_|refine yF _ [(0, some 0), (1, some 1)] (.cons (zR rfl) .nil) ?_ rfl ?_) <;> (repeat' (first|exact trivial|exact rfl|exact Or.inr ⟨rfl,‹_›⟩|exact Or.inl ⟨rfl,trivial⟩|apply And.intro|exact congrArg (Value.int .i64) (by first|omega|(simp;done)|(simp;omega))|(refine yD ?_;first|(focus (simp;done))|omega|(simp only [lA,lB,lC,lD,lE];omega))|(refine ⟨_,rfl,rfl,rfl,OW.one ?_⟩)|(refine ⟨_,rfl,rfl,rfl,OW.same ?_ ?_⟩)|refine vwB ?_|refine vwS ?_|refine vwI ?_|refine fwB ?_|refine fwS ?_|refine fwI ?_|(refine aIm ?_;first|exact AllSc.nil|assumption))))
  all_goals first | exact hsc.imm | skip
end Go.Proofs.YtchpdclknbmdoaaDoor
