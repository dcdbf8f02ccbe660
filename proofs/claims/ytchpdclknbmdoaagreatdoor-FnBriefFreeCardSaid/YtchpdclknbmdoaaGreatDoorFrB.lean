/- IsFreeOutline of impl and FreeStrokes of both programs. -/
import Derived.Test.YtchpdclknbmdoaaGreatDoorFrA
import Derived.Test.YtchpdclknbmdoaaGreatDoorDcA
namespace Go.Proofs.YtchpdclknbmdoaaGreatDoor
open Go Go.RowKit
section
variable {P : Program} {E : Env} {ops : Array Oper} {K : AS → Prop} {draw : Bool}
variable {r : List Oper} {acc : List (Upd × Foot)} {tm : List (Nat × AVal)} {ob : List (Nat × Option AObj)} {nx d ty : Nat} {pos : String} {aft : Array Edge} {g : Option (Nat × Bool)} {x y : Operand} {t t' : Nat} {p q v : Int}
theorem qB (hd : xQ (some d) E.n = true) (hx : opV tm x = some (.c (int p))) (hy : opV tm y = some (.c (int q))) (hv : bits .and .i64 p q = v)
    (h : regX P E ops K draw r ((xU (some d) (.c (int v)), ⟨(Oper.mk (some d) (.binOp .and t x y t') ty pos aft g).looksAt ops, []⟩) :: acc) ⟨(d, .c (int v)) :: tm, ob, nx⟩) : regY P E ops K draw ⟨some d, .binOp .and t x y t', ty, pos, aft, g⟩ r acc ⟨tm, ob, nx⟩ :=
  rx_and hd hx hy (by rw [hv]; exact h)
end
def frOkB (es : List Ent) (o : List Int) : Bool := qJ es && qE o
def resFr (es : List Ent) (o : List Int) : AVal := .tup [.c (boo (frOkB es o && !hasE es o)), .c (boo (frOkB es o))]
theorem freeI_pf (es : List Ent) (o : List Int) (hb : kW es) (ho : o.length ≤ 1048576) : PF Tryz.prog 24 [.agg (wI es), .c (.sl (o.map y4))] [] (resFr es o) := by
  have h1 := implGood_pf es hb
  have h2 := implOut_pf o (by omega)
  have h3 := find_pf es o hb (by omega)
  rw [resFr, frOkB]
  cases hd : qJ es with
  | false =>
    rw [hd] at h1
    refine PF.enter (x5 _ _) Tryz.func24 rfl (by kernel_rfl) _ _ rfl rfl rfl (fun w0 mu I0 β0 gi dis => ?_)
    (repeat' (first|(apply xW;((exact Want.none_ rfl)))|(apply xF zK;exact rfl;exact rfl)|(apply y8;exact rfl;exact rfl;((exact rfl));exact rfl;exact rfl)|(apply y7;(iterate 5 exact rfl);((exact rfl)))|apply zV|apply AWp.Q|apply zJ|apply AWp.G|apply AWp.R|apply zM|(apply AWp.T;exact rfl;((exact rfl)))|(apply yM;(iterate 6 exact rfl);(iterate 2 (focus (repeat (first|exact VAs.nil|apply VAs.cons|apply VA.agg|exact VCs.nil|apply VCs.cons|exact VC.imm (Imm.sl _)))));((exact h1));(focus (repeat ((exact Flat.v _))));((apply yX));((exact xO _ _)))))
    (((refine z6 _ [] (.cons (zT rfl) (.cons (zT rfl) .nil)) ?_ rfl ?_)) <;> (repeat' (first|exact trivial|exact rfl|apply And.intro)))
  | true =>
    rw [hd] at h1
    cases hg : qE o with
    | false =>
      rw [hg] at h2
      refine PF.enter (x5 _ _) Tryz.func24 rfl (by kernel_rfl) _ _ rfl rfl rfl (fun w0 mu I0 β0 gi dis => ?_)
      (repeat' (first|(apply xW;(first|exact Want.none_ rfl|(refine zZ rfl rfl rfl rfl ?_;((exact rfl)))))|(apply xF zK;exact rfl;exact rfl)|(apply y8;exact rfl;exact rfl;((exact rfl));exact rfl;exact rfl)|apply zV|apply AWp.Q|apply zJ|apply AWp.G|apply AWp.R|apply zM|(apply AWp.T;exact rfl;((exact rfl)))|(apply yM;(iterate 6 exact rfl);(iterate 2 (focus (repeat (first|exact VAs.nil|apply VAs.cons|apply VA.c|apply VA.agg|exact VCs.nil|apply VCs.cons|exact VC.imm (Imm.sl _)))));(first|exact h1|exact h2);(focus (repeat ((exact Flat.v _))));((apply yX));((exact xO _ _)))))
      (((refine z6 _ [] (.cons (zT rfl) (.cons (zT rfl) .nil)) ?_ rfl ?_)) <;> (repeat' (first|exact trivial|exact rfl|apply And.intro)))
    | true =>
      rw [hg] at h2
      rcases atE_nat (es := es) (o := o) with ⟨e1, e2⟩ | ⟨e1, e2⟩
      · rw [e2] at h3
        rw [e1]
        refine PF.enter (x5 _ _) Tryz.func24 rfl (by kernel_rfl) _ _ rfl rfl rfl (fun w0 mu I0 β0 gi dis => ?_)
        (repeat' (first|(apply xW;(first|exact Want.none_ rfl|(refine zZ rfl rfl rfl rfl ?_;((exact rfl)))))|(apply xF zK;exact rfl;exact rfl)|(apply y8;exact rfl;exact rfl;((exact rfl));exact rfl;exact rfl)|apply zV|apply AWp.Q|apply zJ|apply AWp.G|apply AWp.J|apply AWp.R|(apply AWp.F;exact rfl;((exact rfl)))|(apply yM;(iterate 6 exact rfl);(iterate 2 (focus (repeat (first|exact VAs.nil|apply VAs.cons|apply VA.c|apply VA.agg|exact VCs.nil|apply VCs.cons|exact VC.imm (Imm.sl _)))));(first|exact h1|exact h2|exact h3);(focus (repeat ((exact Flat.v _))));((apply yX));((exact xO _ _)))))
        (((refine z6 _ [] (.cons (zT rfl) (.cons (zT rfl) .nil)) ?_ rfl ?_)) <;> (repeat' (first|exact trivial|exact rfl|apply And.intro)))
      · rw [e2] at h3
        rw [e1]
        refine PF.enter (x5 _ _) Tryz.func24 rfl (by kernel_rfl) _ _ rfl rfl rfl (fun w0 mu I0 β0 gi dis => ?_)
        (repeat' (first|(apply xW;(first|exact Want.none_ rfl|(refine zZ rfl rfl rfl rfl ?_;((exact rfl)))))|(apply xF zK;exact rfl;exact rfl)|(apply y8;exact rfl;exact rfl;((exact rfl));exact rfl;exact rfl)|apply zV|apply AWp.Q|apply zJ|apply AWp.G|apply AWp.J|apply AWp.R|(apply AWp.F;exact rfl;((exact rfl)))|(apply yM;(iterate 6 exact rfl);(iterate 2 (focus (repeat (first|exact VAs.nil|apply VAs.cons|apply VA.c|apply VA.agg|exact VCs.nil|apply VCs.cons|exact VC.imm (Imm.sl _)))));(first|exact h1|exact h2|exact h3);(focus (repeat ((exact Flat.v _))));((apply yX));((exact xO _ _)))))
        (((refine z6 _ [] (.cons (zT rfl) (.cons (zT rfl) .nil)) ?_ rfl ?_)) <;> (repeat' (first|exact trivial|exact rfl|apply And.intro)))
theorem isFew_pf (n : Int) : PF Tryz.prog 80 [.c (int n)] [] (.c (boo (inZ n 0 50))) := by
  refine PF.enter (xI _) Tryz.func80 rfl (by kernel_rfl) _ _ rfl rfl rfl (fun w0 mu I0 β0 gi dis => ?_)
  (repeat' (first|(apply xW;((exact Want.none_ rfl)))|(apply xF zK;exact rfl;exact rfl)|apply zV|apply AWp.Q|apply zJ|apply AWp.G|apply AWp.R|(apply yM;(iterate 6 exact rfl);(iterate 2 (focus (repeat (first|exact VAs.nil|apply VAs.cons|apply VA.c|exact VCs.nil|exact VC.imm (Imm.v _)))));((exact in_pf n 0 50));(focus (repeat ((exact Flat.v _))));((apply yX));((exact xO _ _)))))
  (((refine z6 _ [] (.cons (zT rfl) .nil) ?_ rfl ?_)) <;> (repeat' (first|exact trivial|exact rfl)))
end Go.Proofs.YtchpdclknbmdoaaGreatDoor
