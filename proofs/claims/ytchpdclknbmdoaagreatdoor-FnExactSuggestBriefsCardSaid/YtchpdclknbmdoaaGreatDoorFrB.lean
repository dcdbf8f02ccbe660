/- IsFreeOutline of impl and FreeStrokes of both programs. -/
import Derived.Test.YtchpdclknbmdoaaGreatDoorFrA
import Derived.Test.YtchpdclknbmdoaaGreatDoorDcA
namespace Go.Proofs.YtchpdclknbmdoaaGreatDoor
open Go Go.RowKit
section
variable {P : Program} {E : Env} {ops : Array Oper} {K : AS → Prop} {draw : Bool}
variable {r : List Oper} {acc : List (Upd × Foot)} {tm : List (Nat × AVal)} {ob : List (Nat × Option AObj)} {nx d ty : Nat} {pos : String} {aft : Array Edge} {g : Option (Nat × Bool)} {x y : Operand} {t t' : Nat} {p q v : Int}
theorem qO (hd : y9 (some d) E.n = true) (hx : opV tm x = some (.c (int p))) (hy : opV tm y = some (.c (int q))) (hv : bits .and .i64 p q = v)
    (h : regX P E ops K draw r ((xG (some d) (.c (int v)), ⟨(Oper.mk (some d) (.binOp .and t x y t') ty pos aft g).looksAt ops, []⟩) :: acc) ⟨(d, .c (int v)) :: tm, ob, nx⟩) : regY P E ops K draw ⟨some d, .binOp .and t x y t', ty, pos, aft, g⟩ r acc ⟨tm, ob, nx⟩ :=
  rx_and hd hx hy (by rw [hv]; exact h)
end
theorem isFew_pf (n : Int) : PF Tryz.prog 80 [.c (int n)] [] (.c (boo (inZ n 0 50))) := by
  refine PF.enter (xJ _) Tryz.func80 rfl (by kernel_rfl) _ _ rfl rfl rfl (fun w0 mu I0 β0 gi dis => ?_)
  (repeat' (first|(apply xW;((exact Want.none_ rfl)))|(apply xF zI;exact rfl;exact rfl)|apply zQ|apply AWp.Q|apply zG|apply AWp.G|apply AWp.R|(apply yC;(iterate 6 exact rfl);(iterate 2 (focus (repeat (first|exact VAs.nil|apply VAs.cons|apply VA.c|exact VCs.nil|exact VC.imm (Imm.v _)))));((exact in_pf n 0 50));(focus (repeat ((exact Flat.v _))));((apply yJ));((exact xD _ _)))))
  (((refine zX _ [] (.cons (zP rfl) .nil) ?_ rfl ?_)) <;> (repeat' (first|exact trivial|exact rfl)))
end Go.Proofs.YtchpdclknbmdoaaGreatDoor
