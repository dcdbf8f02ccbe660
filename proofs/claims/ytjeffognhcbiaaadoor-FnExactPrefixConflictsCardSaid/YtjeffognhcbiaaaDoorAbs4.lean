/- The abstract machine, part 18: library functions without a body: IndexByteString; strings.Contains of one byte. -/
import Derived.Test.YtjeffognhcbiaaaDoorAbs3
import Derived.Test.YtjeffognhcbiaaaDoorTab
import Derived.Lib.Strings
import Derived.Lib.Walk
import Derived.Lib.Bytealg
namespace Go.Proofs.YtjeffognhcbiaaaDoor
open Go Go.RowKit
theorem zD (f : Nat) : Imm (.fn f []) := Imm.fn f [] (by simp)
theorem vE : ∀ x ∈ ([] : List Cell), Imm x := fun x hx => by simp at hx
theorem wG {c : Cell} {cs : List Cell} (h : Imm c) (hs : ∀ x ∈ cs, Imm x) : ∀ x ∈ c :: cs, Imm x := fun x hx => by
  rcases List.mem_cons.1 hx with rfl | hx
  · exact h
  · exact hs x hx
theorem VCs.same {s : AS} {V : List Nat} : ∀ {cs : List Cell}, (∀ c ∈ cs, Imm c) → VCs s V cs cs
  | [], _ => .nil
  | _ :: _, h => .cons (.imm (h _ (by simp))) (VCs.same fun c hc => h c (by simp [hc]))

section
variable {P : Program} {E : Env} {ops : Array Oper} {K : AS → Prop} {draw : Bool} {r : List Oper} {acc : List (Upd × Foot)} {tm : List (Nat × AVal)} {ob : List (Nat × Option AObj)} {nx d ty : Nat} {pos : String} {aft : Array Edge} {g : Option (Nat × Bool)}
theorem raws_rep {I : Nat → Prop} {β : Nat → Option BI} {a : Act} {w : World} {s : AS} : ∀ {xs : List Operand} {vs : List Value}, xs.map (opA s) = vs.map (fun v => AVal.c (.v v)) → (∀ x ∈ xs, RepV I β w (opA s x) (a.eval x)) → xs.map a.eval = vs
  | [], [], _, _ => rfl
  | [], _ :: _, h, _ => by simp at h
  | _ :: _, [], h, _ => by simp at h
  | x :: xs, v :: vs, h, hr => by
    simp only [List.map_cons, List.cons.injEq] at h
    have h1 := hr x (by simp)
    rw [h.1] at h1
    rw [List.map_cons, xV h1, raws_rep h.2 fun y hy => hr y (by simp [hy])]
theorem rx_ext {f : Nat} {args : Array Operand} {ats : Array TypeId} {vs : List AVal} {raws : List Value} {v : Value} (hd : yX (some d) E.n = true)
    (hvs : qR tm args.toList = some vs) (hraw : vs = raws.map (fun v => AVal.c (.v v))) (hv : v.oneCell' = true) (hrun : ∀ w : World, (callFunc f raws.toArray).run P w = .ok (.value v) w)
    (h : regX P E ops K draw r ((xA (some d) (.c (.v v)), ⟨(Oper.mk (some d) (.call { callee := .value (.func f), args := args, argTypes := ats }) ty pos aft g).looksAt ops, []⟩) :: acc) ⟨(d, .c (.v v)) :: tm, ob, nx⟩) : regY P E ops K draw ⟨some d, .call { callee := .value (.func f), args := args, argTypes := ats }, ty, pos, aft, g⟩ r acc ⟨tm, ob, nx⟩ := by
  refine ⟨fun hw => ?_⟩
  obtain ⟨e1, e2⟩ := opVs_ok (ob := ob) (nx := nx) hvs
  subst hraw
  refine regX.cons _ _ (StepOk.val hw hd ?_ fun N I s' β a w hop _ _ => ?_) rfl h
  · simp only [Op.operands, Call.operands]
    rw [Array.toList_append, List.all_append, e2]
    rfl
  · refine ⟨v, ?_, Rep.imm (.v v hv)⟩
    have hm := raws_rep e1 (fun x hx => hop x (by simp [Op.operands, Call.operands, Array.mem_toList_iff.1 hx]))
    have e : (#[] : Array Value) ++ args.map a.eval ++ (#[] : Array Value) = raws.toArray := by apply Array.ext'; simp [hm]
    simp only [execOp, resolve, Deferred.ofValue, Act.eval, invoke, Sem.run_bind, Sem.run_pure, Result.andThen]
    rw [show (#[] : Array Value) ++ Array.map (fun x => a.eval x) args ++ #[] = raws.toArray from e]
    exact hrun w
end
def xR (l : List UInt8) (c : UInt8) : Int := Lib.indexByte l c
theorem indexByteString_run (l : List UInt8) (c : UInt8) (w : World) : (callFunc 103 #[.string ⟨⟨l⟩⟩, .int .u8 c.toNat]).run Tryd.prog w = .ok (.value (.int .i64 (xR l c))) w := by
  rw [run_callFunc_extern Tryd.func103 (by kernel_rfl) (by kernel_rfl) (by kernel_rfl) (e := Extern.BytealgIndexByte.indexByte) (by kernel_rfl), Lib.run_indexByteString]
  simp only [Result.andThen]
  have e : ((c.toNat : Int).toNat).toUInt8 = c := by simp
  rw [e]
  rfl
set_option maxRecDepth 8000 in
theorem slIndexByte_pf (l : List UInt8) (c : UInt8) : PF Tryd.prog 96 [.c (str l), .c (.v (.int .u8 c.toNat))] [] (.c (int (xR l c))) := by
  refine PF.enter (xJ _ _) Tryd.func96 rfl (by kernel_rfl) _ _ rfl rfl rfl (fun w0 mu I0 β0 gi dis => ?_)
  (repeat (first|(apply xW;(first|exact Want.none_ rfl|(refine zX rfl rfl rfl rfl ?_;(first|assumption|exact dT ‹_›|exact dF ‹_›|exact rfl))))|(apply xF zH;exact rfl;exact rfl)|((fail)<;>(first|exact zH|exact Nat.zero_add _|exact rfl|refine yM ?_|assumption|omega|exact ⟨rfl⟩|exact ⟨rfl,_,_,rfl,rfl⟩|exact lb rfl|((try refine Bd.mk ?_);first|assumption|omega|(focus (simp;done))|(simp;omega)|decide|(simp only [lA,lB,lC,lD,lE];omega))))|apply zQ|apply AWp.Q|apply zG|apply AWp.G|apply AWp.R|apply zJ))
  apply rx_ext (raws := [.string ⟨⟨l⟩⟩, .int .u8 c.toNat]) (v := .int .i64 (xR l c))
  exact rfl
  exact rfl
  exact rfl
  exact rfl
  exact indexByteString_run l c
  (repeat (first|(apply xW;(first|exact Want.none_ rfl|(refine zX rfl rfl rfl rfl ?_;(first|assumption|exact dT ‹_›|exact dF ‹_›|exact rfl))))|(apply xF zH;exact rfl;exact rfl)|((fail)<;>(first|exact zH|exact Nat.zero_add _|exact rfl|refine yM ?_|assumption|omega|exact ⟨rfl⟩|exact ⟨rfl,_,_,rfl,rfl⟩|exact lb rfl|((try refine Bd.mk ?_);first|assumption|omega|(focus (simp;done))|(simp;omega)|decide|(simp only [lA,lB,lC,lD,lE];omega))))|apply zQ|apply AWp.Q|apply zG|apply AWp.G|apply AWp.R|apply zJ))
  refine zT _ [] (.cons (zO rfl) .nil) ?_ rfl trivial
  simp only [VW, FW, FWs, CW, CWs, mkRes, boo, int, str, and_true, true_and]
set_option maxRecDepth 8000 in
theorem slIndex1_pf (l : List UInt8) (c : UInt8) : PF Tryd.prog 89 [.c (str l), .c (str [c])] [] (.c (int (xR l c))) := by
  refine PF.enter (xJ _ _) Tryd.func89 rfl (by kernel_rfl) _ _ rfl rfl rfl (fun w0 mu I0 β0 gi dis => ?_)
  have hc : [c][0]? = some c := rfl
  (repeat (first|(apply xW;(first|exact Want.none_ rfl|(refine zX rfl rfl rfl rfl ?_;(first|assumption|exact dT ‹_›|exact dF ‹_›|exact rfl))))|(apply xF zH;exact rfl;exact rfl)|((first|(apply yC;exact rfl;exact rfl)|apply yD|(apply yW;exact rfl;exact rfl;exact rfl)|apply xD|apply xT|(apply zR;exact rfl;exact rfl;exact zH;exact rfl;exact rfl)|apply zN|(apply xE;exact rfl;exact rfl)|(apply y9;exact rfl;exact rfl)|apply y6|apply xY)<;>(first|exact zH|exact Nat.zero_add _|exact rfl|refine yM ?_|assumption|omega|exact ⟨rfl⟩|exact ⟨rfl,_,_,rfl,rfl⟩|exact lb rfl|(refine Bd.mk ?_;first|assumption|omega|(focus (simp;done))|(simp;omega)|decide)|(focus (apply oI;exact rfl;exact rfl;assumption))|(focus (refine ⟨rfl,_,_,rfl,?_⟩;omega))|(focus (simp;done))|(simp;omega)|(simp only [lA,lB,lC,lD,lE];omega)))|(apply yU;exact rfl;exact rfl;(first|assumption|exact dT ‹_›|exact dF ‹_›|exact rfl);exact rfl;exact rfl)|(apply yT;(iterate 5 exact rfl);(first|assumption|exact dT ‹_›|exact dF ‹_›|exact rfl))|(apply yN;(iterate 5 exact rfl))|apply zQ|apply AWp.Q|apply zG|apply AWp.G|apply AWp.B|apply AWp.J|apply AWp.X|apply AWp.R|apply zP|apply zJ|apply zI|apply zL|apply zM|(refine zK rfl ?_)|(apply AWp.T;exact rfl;(first|assumption|exact dT ‹_›|exact dF ‹_›|exact rfl))|(apply AWp.F;exact rfl;(first|assumption|exact dT ‹_›|exact dF ‹_›|exact rfl))))
  (first | (apply AWp.C; exact rfl) | (apply AWp.O; exact rfl)) <;> intro hp
  · (repeat (first|(apply xW;(first|exact Want.none_ rfl|(refine zX rfl rfl rfl rfl ?_;(first|assumption|exact dT ‹_›|exact dF ‹_›|exact rfl))))|(apply xF zH;exact rfl;exact rfl)|((first|(apply yC;exact rfl;exact rfl)|apply yD|(apply yW;exact rfl;exact rfl;exact rfl)|apply xD|apply xT|(apply zR;exact rfl;exact rfl;exact zH;exact rfl;exact rfl)|apply zN|(apply xE;exact rfl;exact rfl)|(apply y9;exact rfl;exact rfl)|apply y6|apply xY)<;>(first|exact zH|exact Nat.zero_add _|exact rfl|refine yM ?_|assumption|omega|exact ⟨rfl⟩|exact ⟨rfl,_,_,rfl,rfl⟩|exact lb rfl|(refine Bd.mk ?_;first|assumption|omega|(focus (simp;done))|(simp;omega)|decide)|(focus (apply oI;exact rfl;exact rfl;assumption))|(focus (refine ⟨rfl,_,_,rfl,?_⟩;omega))|(focus (simp;done))|(simp;omega)|(simp only [lA,lB,lC,lD,lE];omega)))|(apply yU;exact rfl;exact rfl;(first|assumption|exact dT ‹_›|exact dF ‹_›|exact rfl);exact rfl;exact rfl)|(apply yT;(iterate 5 exact rfl);(first|assumption|exact dT ‹_›|exact dF ‹_›|exact rfl))|(apply yN;(iterate 5 exact rfl))|apply zQ|apply AWp.Q|apply zG|apply AWp.G|apply AWp.B|apply AWp.J|apply AWp.X|apply AWp.R|apply zP|apply zJ|apply zI|apply zL|apply zM|(refine zK rfl ?_)|(apply AWp.T;exact rfl;(first|assumption|exact dT ‹_›|exact dF ‹_›|exact rfl))|(apply AWp.F;exact rfl;(first|assumption|exact dT ‹_›|exact dF ‹_›|exact rfl))))
    refine zT _ [] (.cons (zO rfl) .nil) ?_ rfl trivial
    simp only [VW, FW, FWs, CW, CWs, mkRes, boo, int, str, and_true, true_and]
    subst hp
    simp [xR, Lib.indexByte]
  (repeat (first|(apply xW;(first|exact Want.none_ rfl|(refine zX rfl rfl rfl rfl ?_;(first|assumption|exact dT ‹_›|exact dF ‹_›|exact rfl))))|(apply xF zH;exact rfl;exact rfl)|((first|(apply yC;exact rfl;exact rfl)|apply yD|(apply yW;exact rfl;exact rfl;exact rfl)|apply xD|apply xT|(apply zR;exact rfl;exact rfl;exact zH;exact rfl;exact rfl)|apply zN|(apply xE;exact rfl;exact rfl)|(apply y9;exact rfl;exact rfl)|apply y6|apply xY)<;>(first|exact zH|exact Nat.zero_add _|exact rfl|refine yM ?_|assumption|omega|exact ⟨rfl⟩|exact ⟨rfl,_,_,rfl,rfl⟩|exact lb rfl|(refine Bd.mk ?_;first|assumption|omega|(focus (simp;done))|(simp;omega)|decide)|(focus (apply oI;exact rfl;exact rfl;assumption))|(focus (refine ⟨rfl,_,_,rfl,?_⟩;omega))|(focus (simp;done))|(simp;omega)|(simp only [lA,lB,lC,lD,lE];omega)))|(apply yU;exact rfl;exact rfl;(first|assumption|exact dT ‹_›|exact dF ‹_›|exact rfl);exact rfl;exact rfl)|(apply yT;(iterate 5 exact rfl);(first|assumption|exact dT ‹_›|exact dF ‹_›|exact rfl))|(apply yN;(iterate 5 exact rfl))|apply zQ|apply AWp.Q|apply zG|apply AWp.G|apply AWp.B|apply AWp.J|apply AWp.X|apply AWp.R|apply zP|apply zJ|apply zI|apply zL|apply zM|(refine zK rfl ?_)|(apply AWp.T;exact rfl;(first|assumption|exact dT ‹_›|exact dF ‹_›|exact rfl))|(apply AWp.F;exact rfl;(first|assumption|exact dT ‹_›|exact dF ‹_›|exact rfl))))
  ((try (apply xW;(first|exact Want.none_ rfl|(refine zX rfl rfl rfl rfl ?_;(first|assumption|exact dT ‹_›|exact dF ‹_›|exact rfl)))));(apply (wT []);(iterate 5 exact rfl);(iterate 2 (focus (repeat (first|exact VAs.nil|apply VAs.cons|apply VA.c|apply VA.agg|exact VCs.nil|(apply VCs.same;assumption)|apply VCs.cons|exact VC.imm (Imm.v _)|exact VC.imm (Imm.sl _)|exact VC.imm (Imm.ip _)|exact VC.imm ‹_›|exact VC.nil|apply VC.fn|(apply VC.ptr;(focus (simp;done));exact rfl;exact rfl;exact rfl;(repeat (first|assumption|exact vE|exact Imm.v _|exact Imm.sl _|exact Imm.ip _|exact Imm.nil|exact zD _|refine wG ?_ ?_|refine Imm.fn _ _ ?_)))|(apply zF;(focus (simp;done));exact rfl;(first|exact rfl|(focus (simp;done))|omega);(refine aIm ?_;(first|exact AllSc.nil|assumption)))|assumption))));exact (slIndexByte_pf l c);(focus (repeat (first|exact trivial|exact Flat.v _|exact Flat.dead|exact Flat.ref _ _ _|exact Flat.nil|apply And.intro)));(first|apply yJ|(apply yI;(focus (repeat (first|exact trivial|apply And.intro|(first|exact AllSc.nil|assumption))))));(first|exact yY _ _|exact yZ _ _ _|exact y4 _ _ _ _|exact yR _ _ _ _ _|exact y3 _|exact yQ _ _|exact yP _ _ _ _|exact yK _ _ _ _ _|exact yL _ _|exact y5 _ _ _ _|exact rfl)))
  (repeat (first|(apply xW;(first|exact Want.none_ rfl|(refine zX rfl rfl rfl rfl ?_;(first|assumption|exact dT ‹_›|exact dF ‹_›|exact rfl))))|(apply xF zH;exact rfl;exact rfl)|((first|(apply yC;exact rfl;exact rfl)|apply yD|(apply yW;exact rfl;exact rfl;exact rfl)|apply xD|apply xT|(apply zR;exact rfl;exact rfl;exact zH;exact rfl;exact rfl)|apply zN|(apply xE;exact rfl;exact rfl)|(apply y9;exact rfl;exact rfl)|apply y6|apply xY)<;>(first|exact zH|exact Nat.zero_add _|exact rfl|refine yM ?_|assumption|omega|exact ⟨rfl⟩|exact ⟨rfl,_,_,rfl,rfl⟩|exact lb rfl|(refine Bd.mk ?_;first|assumption|omega|(focus (simp;done))|(simp;omega)|decide)|(focus (apply oI;exact rfl;exact rfl;assumption))|(focus (refine ⟨rfl,_,_,rfl,?_⟩;omega))|(focus (simp;done))|(simp;omega)|(simp only [lA,lB,lC,lD,lE];omega)))|(apply yU;exact rfl;exact rfl;(first|assumption|exact dT ‹_›|exact dF ‹_›|exact rfl);exact rfl;exact rfl)|(apply yT;(iterate 5 exact rfl);(first|assumption|exact dT ‹_›|exact dF ‹_›|exact rfl))|(apply yN;(iterate 5 exact rfl))|apply zQ|apply AWp.Q|apply zG|apply AWp.G|apply AWp.B|apply AWp.J|apply AWp.X|apply AWp.R|apply zP|apply zJ|apply zI|apply zL|apply zM|(refine zK rfl ?_)|(apply AWp.T;exact rfl;(first|assumption|exact dT ‹_›|exact dF ‹_›|exact rfl))|(apply AWp.F;exact rfl;(first|assumption|exact dT ‹_›|exact dF ‹_›|exact rfl))))
  refine zT _ [] (.cons (zO rfl) .nil) ?_ rfl trivial
  simp only [VW, FW, FWs, CW, CWs, mkRes, boo, int, str, and_true, true_and]
set_option maxRecDepth 8000 in
theorem sIndex1_pf (l : List UInt8) (c : UInt8) : PF Tryd.prog 76 [.c (str l), .c (str [c])] [] (.c (int (xR l c))) := by
  refine PF.enter (xJ _ _) Tryd.func76 rfl (by kernel_rfl) _ _ rfl rfl rfl (fun w0 mu I0 β0 gi dis => ?_)
  (repeat (first|(apply xW;(first|exact Want.none_ rfl|(refine zX rfl rfl rfl rfl ?_;(first|assumption|exact dT ‹_›|exact dF ‹_›|exact rfl))))|(apply xF zH;exact rfl;exact rfl)|((fail)<;>(first|exact zH|exact Nat.zero_add _|exact rfl|refine yM ?_|assumption|omega|exact ⟨rfl⟩|exact ⟨rfl,_,_,rfl,rfl⟩|exact lb rfl|((try refine Bd.mk ?_);first|assumption|omega|(focus (simp;done))|(simp;omega)|decide|(simp only [lA,lB,lC,lD,lE];omega))))|apply zQ|apply AWp.Q|apply zG|apply AWp.G|apply AWp.R|apply zJ))
  ((try (apply xW;(first|exact Want.none_ rfl|(refine zX rfl rfl rfl rfl ?_;(first|assumption|exact dT ‹_›|exact dF ‹_›|exact rfl)))));(apply (wT []);(iterate 5 exact rfl);(iterate 2 (focus (repeat (first|exact VAs.nil|apply VAs.cons|apply VA.c|apply VA.agg|exact VCs.nil|(apply VCs.same;assumption)|apply VCs.cons|exact VC.imm (Imm.v _)|exact VC.imm (Imm.sl _)|exact VC.imm (Imm.ip _)|exact VC.imm ‹_›|exact VC.nil|apply VC.fn|(apply VC.ptr;(focus (simp;done));exact rfl;exact rfl;exact rfl;(repeat (first|assumption|exact vE|exact Imm.v _|exact Imm.sl _|exact Imm.ip _|exact Imm.nil|exact zD _|refine wG ?_ ?_|refine Imm.fn _ _ ?_)))|(apply zF;(focus (simp;done));exact rfl;(first|exact rfl|(focus (simp;done))|omega);(refine aIm ?_;(first|exact AllSc.nil|assumption)))|assumption))));exact (slIndex1_pf l c);(focus (repeat (first|exact trivial|exact Flat.v _|exact Flat.dead|exact Flat.ref _ _ _|exact Flat.nil|apply And.intro)));(first|apply yJ|(apply yI;(focus (repeat (first|exact trivial|apply And.intro|(first|exact AllSc.nil|assumption))))));(first|exact yY _ _|exact yZ _ _ _|exact y4 _ _ _ _|exact yR _ _ _ _ _|exact y3 _|exact yQ _ _|exact yP _ _ _ _|exact yK _ _ _ _ _|exact yL _ _|exact y5 _ _ _ _|exact rfl)))
  (repeat (first|(apply xW;(first|exact Want.none_ rfl|(refine zX rfl rfl rfl rfl ?_;(first|assumption|exact dT ‹_›|exact dF ‹_›|exact rfl))))|(apply xF zH;exact rfl;exact rfl)|((fail)<;>(first|exact zH|exact Nat.zero_add _|exact rfl|refine yM ?_|assumption|omega|exact ⟨rfl⟩|exact ⟨rfl,_,_,rfl,rfl⟩|exact lb rfl|((try refine Bd.mk ?_);first|assumption|omega|(focus (simp;done))|(simp;omega)|decide|(simp only [lA,lB,lC,lD,lE];omega))))|apply zQ|apply AWp.Q|apply zG|apply AWp.G|apply AWp.R|apply zJ))
  refine zT _ [] (.cons (zO rfl) .nil) ?_ rfl trivial
  simp only [VW, FW, FWs, CW, CWs, mkRes, boo, int, str, and_true, true_and]
theorem idxByte_any : ∀ (l : List UInt8) (c : UInt8), decide (0 ≤ xR l c) = l.any (· == c)
  | [], c => rfl
  | b :: l, c => by
    have ih := idxByte_any l c
    have hge := Lib.indexByte_ge l c
    have e : xR (b :: l) c = if b == c then 0 else if xR l c == -1 then -1 else xR l c + 1 := rfl
    rw [List.any_cons, ← ih, e]
    by_cases h : (b == c) = true
    · simp [h]
    · simp only [h, Bool.false_eq_true, if_false, Bool.false_or]
      by_cases h2 : (xR l c == -1) = true
      · have h3 : xR l c = -1 := by simpa using h2
        simp [h3]
      · have h3 : ¬ xR l c = -1 := by simpa using h2
        have h4 : 0 ≤ xR l c := by unfold xR at *; omega
        simp [h3]
        omega
set_option maxRecDepth 8000 in
theorem sContains1_pf (l : List UInt8) (c : UInt8) : PF Tryd.prog 94 [.c (str l), .c (str [c])] [] (.c (boo (l.any (· == c)))) := by
  refine PF.enter (xJ _ _) Tryd.func94 rfl (by kernel_rfl) _ _ rfl rfl rfl (fun w0 mu I0 β0 gi dis => ?_)
  (repeat (first|(apply xW;(first|exact Want.none_ rfl|(refine zX rfl rfl rfl rfl ?_;(first|assumption|exact dT ‹_›|exact dF ‹_›|exact rfl))))|(apply xF zH;exact rfl;exact rfl)|((fail)<;>(first|exact zH|exact Nat.zero_add _|exact rfl|refine yM ?_|assumption|omega|exact ⟨rfl⟩|exact ⟨rfl,_,_,rfl,rfl⟩|exact lb rfl|((try refine Bd.mk ?_);first|assumption|omega|(focus (simp;done))|(simp;omega)|decide|(simp only [lA,lB,lC,lD,lE];omega))))|apply zQ|apply AWp.Q|apply zG|apply AWp.G|apply AWp.R|apply zJ))
  ((try (apply xW;(first|exact Want.none_ rfl|(refine zX rfl rfl rfl rfl ?_;(first|assumption|exact dT ‹_›|exact dF ‹_›|exact rfl)))));(apply (wT []);(iterate 5 exact rfl);(iterate 2 (focus (repeat (first|exact VAs.nil|apply VAs.cons|apply VA.c|apply VA.agg|exact VCs.nil|(apply VCs.same;assumption)|apply VCs.cons|exact VC.imm (Imm.v _)|exact VC.imm (Imm.sl _)|exact VC.imm (Imm.ip _)|exact VC.imm ‹_›|exact VC.nil|apply VC.fn|(apply VC.ptr;(focus (simp;done));exact rfl;exact rfl;exact rfl;(repeat (first|assumption|exact vE|exact Imm.v _|exact Imm.sl _|exact Imm.ip _|exact Imm.nil|exact zD _|refine wG ?_ ?_|refine Imm.fn _ _ ?_)))|(apply zF;(focus (simp;done));exact rfl;(first|exact rfl|(focus (simp;done))|omega);(refine aIm ?_;(first|exact AllSc.nil|assumption)))|assumption))));exact (sIndex1_pf l c);(focus (repeat (first|exact trivial|exact Flat.v _|exact Flat.dead|exact Flat.ref _ _ _|exact Flat.nil|apply And.intro)));(first|apply yJ|(apply yI;(focus (repeat (first|exact trivial|apply And.intro|(first|exact AllSc.nil|assumption))))));(first|exact yY _ _|exact yZ _ _ _|exact y4 _ _ _ _|exact yR _ _ _ _ _|exact y3 _|exact yQ _ _|exact yP _ _ _ _|exact yK _ _ _ _ _|exact yL _ _|exact y5 _ _ _ _|exact rfl)))
  (repeat (first|(apply xW;(first|exact Want.none_ rfl|(refine zX rfl rfl rfl rfl ?_;(first|assumption|exact dT ‹_›|exact dF ‹_›|exact rfl))))|(apply xF zH;exact rfl;exact rfl)|((fail)<;>(first|exact zH|exact Nat.zero_add _|exact rfl|refine yM ?_|assumption|omega|exact ⟨rfl⟩|exact ⟨rfl,_,_,rfl,rfl⟩|exact lb rfl|((try refine Bd.mk ?_);first|assumption|omega|(focus (simp;done))|(simp;omega)|decide|(simp only [lA,lB,lC,lD,lE];omega))))|apply zQ|apply AWp.Q|apply zG|apply AWp.G|apply AWp.R|apply zJ))
  refine zT _ [] (.cons (zO rfl) .nil) ?_ rfl trivial
  simp only [VW, FW, FWs, CW, CWs, mkRes, boo, int, str, and_true, true_and]
  rw [idxByte_any]
end Go.Proofs.YtjeffognhcbiaaaDoor

namespace Go.Proofs.YtjeffognhcbiaaaDoor
open Go Go.RowKit
theorem PFM.enterT {P : Program} {f m : Nat} {fn : Func} {c : Code} {ins : List AObj} {xs : List AVal} {tm : List (Nat × AVal)} {ob : List (Nat × Option AObj)} {outs : List (Option AObj)} {rv : AVal} (htm : wL 0 xs = tm) (hob : wL 0 (ins.map some) = ob) (hm : ins.length = m)
    (hf : P.funcs[f]? = some fn) (hb : fn.body = some c) (hnm : (fn.name == "runtime.NumGoroutine") = false)
    (n : Nat) (res : List ResultVar) (hn : fn.ntmps = n) (hl : Nat.ble xs.length n = true) (hres : fn.results = res.toArray)
    (h : ∀ w0 mu I0 β0 gi dis, AWp P ⟨w0, mu, I0, n, β0, m, gi, dis⟩ c (retK P res outs rv m) ⟨tm, ob, m⟩) : PFM P f ins xs outs rv := by
  subst htm hob hm
  exact PFM.enter hf hb hnm n res hn hl hres h
theorem enumM1 (a : AObj) : wL 0 ([a].map some) = [(0, some a)] := rfl
section
variable {P : Program} {E : Env} {ops : Array Oper} {K : AS → Prop} {draw : Bool}
variable {r : List Oper} {acc : List (Upd × Foot)} {tm : List (Nat × AVal)} {ob : List (Nat × Option AObj)} {nx d ty : Nat} {pos : String} {aft : Array Edge} {g : Option (Nat × Bool)}
theorem rx_callMf {fo : Operand} {args : Array Operand} {ats : Array TypeId} {f : Nat} {vs as' : List AVal} {ins : List AObj} {outs : List (Option AObj)} {rv rv' : AVal} {ob' : List (Nat × Option AObj)} (μ : List Nat) (hpf : PFM P f ins as' outs rv)
    (hd : yX (some d) E.n = true) (hx : opV tm fo = some (.c (.fn f []))) (hvs : qR tm args.toList = some vs) (hm : Nat.ble E.m nx = true)
    (hμ : nodupB μ = true) (hlt : μ.all (fun q => Nat.blt q nx) = true) (hins : All2 (fun q obj => (AS.mk tm ob nx).obj q = some obj) μ ins) (hlen : Nat.ble ins.length outs.length = true) (hargs : MAs ⟨tm, ob, nx⟩ [] μ vs as')
    (him : ∀ obj, some obj ∈ outs → ∀ x ∈ obj.els, ∀ c ∈ x, Imm c) (hii : ∀ obj ∈ ins, ∀ x ∈ obj.els, ∀ c ∈ x, Imm c) (hrv : reV μ nx rv = rv') (hob : vP μ nx 0 outs ++ ob = ob')
    (h : regX P E ops K draw r ((callMU (some d) rv μ nx outs, ⟨(Oper.mk (some d) (.call { callee := .value fo, args := args, argTypes := ats }) ty pos aft g).looksAt ops, [] ++ μ⟩) :: acc) ⟨(d, rv') :: tm, ob', nx + (outs.length - μ.length)⟩) : regY P E ops K draw ⟨some d, .call { callee := .value fo, args := args, argTypes := ats }, ty, pos, aft, g⟩ r acc ⟨tm, ob, nx⟩ :=
  rx_callM true [] μ hd hx hvs hm rfl (fun _ => rfl) hμ (by unfold disjB; rfl) hlt hins (Nat.le_of_ble_eq_true hlen) hargs .nil (by simpa using hpf) (fun e => by cases e) (fun e => by cases e) him hii hrv hob h
end
theorem imO1 {o : AObj} (h : AllSc o.els) : ∀ obj, some obj ∈ [some o] → ∀ x ∈ obj.els, ∀ c ∈ x, Imm c := fun obj hm => by
  simp at hm; subst hm; exact h.imm
theorem imI1 {o : AObj} (h : AllSc o.els) : ∀ obj ∈ [o], ∀ x ∈ obj.els, ∀ c ∈ x, Imm c := fun obj hm => by
  simp at hm; subst hm; exact h.imm
end Go.Proofs.YtjeffognhcbiaaaDoor

namespace Go.Proofs.YtjeffognhcbiaaaDoor
open Go Go.RowKit
theorem imO2 {o : AObj} (h : ∀ x ∈ o.els, ∀ c ∈ x, Imm c) : ∀ obj, some obj ∈ [some o] → ∀ x ∈ obj.els, ∀ c ∈ x, Imm c := fun obj hm => by
  simp at hm; subst hm; exact h
theorem oI {s : AS} {d hi : Nat} {x : Operand} {k : IntKind} {z : Int} (h1 : opB x = true) (h2 : opA s x = .c (.v (.int k z))) (h3 : z = (hi : Int)) : OptI s d (some x) hi := ⟨h1, k, z, h2, h3⟩
theorem imI0 : ∀ obj ∈ ([] : List AObj), ∀ x ∈ obj.els, ∀ c ∈ x, Imm c := fun obj hm => by cases hm
theorem vwB {ρ : Ren} {b b' : Bool} (h : b = b') : VW ρ (mkRes [.c (.v (.bool b))]) (.c (boo b')) := by subst h; exact rfl
theorem vwS {ρ : Ren} {l l' : List UInt8} (h : l = l') : VW ρ (mkRes [.c (str l)]) (.c (str l')) := by subst h; exact rfl
theorem vwI {ρ : Ren} {p q : Int} (h : p = q) : VW ρ (mkRes [.c (int p)]) (.c (int q)) := by subst h; exact rfl
theorem fwB {ρ : Ren} {b b' : Bool} (h : b = b') : FW ρ (.c (.v (.bool b))) (.c (boo b')) := by subst h; exact rfl
theorem fwS {ρ : Ren} {l l' : List UInt8} (h : l = l') : FW ρ (.c (str l)) (.c (str l')) := by subst h; exact rfl
theorem fwI {ρ : Ren} {p q : Int} (h : p = q) : FW ρ (.c (int p)) (.c (int q)) := by subst h; exact rfl
theorem yB {a b : Nat} (h : a = b) : a = b := h
def lensB (n : Nat) : List (List Cell) → Bool
  | [] => true
  | x :: r => Nat.beq x.length n && lensB n r
theorem xU {n : Nat} : ∀ {l : List (List Cell)}, lensB n l = true → Bd (∀ x ∈ l, x.length = n)
  | [], _ => ⟨fun x h => by cases h⟩
  | y :: l, h => ⟨fun x hx => by
    simp only [lensB, Bool.and_eq_true] at h
    rcases List.mem_cons.1 hx with rfl | hx
    · exact Nat.eq_of_beq_eq_true h.1
    · exact (xU h.2).h x hx⟩
theorem wU {n a b : Nat} {l : List (List Cell)} (h : ∀ x ∈ l, x.length = n) : Bd (∀ x ∈ (l.drop a).take b, x.length = n) :=
  ⟨fun x hx => h x (List.mem_of_mem_drop (List.mem_of_mem_take hx))⟩
theorem xK {tm : List (Nat × AVal)} {ob : List (Nat × Option AObj)} {nx q off n : Nat} {obj : AObj} (ho : (lk q ob).getD none = some obj) (hn : off + n ≤ obj.els.length) : x9 ⟨tm, ob, nx⟩ (.ref q off n) = some ([q], (obj.els.drop off).take n) := by
  have h : (AS.mk tm ob nx).obj q = some obj := ho
  simp only [x9, h, hn, if_true]
theorem xL {tm : List (Nat × AVal)} {ob : List (Nat × Option AObj)} {nx q n : Nat} {obj : AObj} (ho : (lk q ob).getD none = some obj) (hn : n = obj.els.length) : x9 ⟨tm, ob, nx⟩ (.ref q 0 n) = some ([q], obj.els) := by
  have h : (AS.mk tm ob nx).obj q = some obj := ho
  simp only [x9, h, hn, Nat.zero_add, Nat.le_refl, if_true, List.drop_zero, List.take_length]
mutual
def refsC : Cell → List Nat
  | .ref q _ _ => [q]
  | .ptr q _ _ => [q]
  | .fn _ caps => refsL caps
  | _ => []
def refsL : List Cell → List Nat
  | [] => []
  | c :: cs => refsC c ++ refsL cs
end
def refsV : AVal → List Nat
  | .c x => refsC x
  | .agg xs => refsL xs
  | _ => []
def refsVs : List AVal → List Nat
  | [] => []
  | v :: vs => refsV v ++ refsVs vs
section
variable {s : AS} {V μ : List Nat}
theorem zB {q n : Nat} {obj : AObj} {xs : List (List Cell)} (hq : qH q V = true) (ho : (lk q s.ob).getD none = some obj) (hn : n = obj.els.length) (hx : obj.els = xs) (hi : ∀ x ∈ xs, ∀ c ∈ x, Imm c) : VC s V (.ref q 0 n) (.sl xs) := by
  subst hx
  exact zF (memB_iff.1 hq) ho hn hi
theorem zA {q n : Nat} {obj : AObj} {xs : List (List Cell)} (hq : qH q V = true) (ho : (lk q s.ob).getD none = some obj) (hn : 0 + n ≤ obj.els.length) (hx : (obj.els.drop 0).take n = xs) (hi : ∀ x ∈ obj.els, ∀ c ∈ x, Imm c) : VC s V (.ref q 0 n) (.sl xs) :=
  .ref (memB_iff.1 hq) ho hn hx hi
theorem VC.ptrA {q i f : Nat} {obj : AObj} {el cs : List Cell} (hq : qH q V = true) (ho : (lk q s.ob).getD none = some obj) (he : obj.els[i]? = some el) (hd : el.drop f = cs) (hi : ∀ c ∈ el, Imm c) : VC s V (.ptr q i f) (.ip cs) :=
  .ptr (memB_iff.1 hq) ho he hd hi
end
section
variable {P : Program} {E : Env} {ops : Array Oper} {K : AS → Prop} {draw : Bool}
variable {r : List Oper} {acc : List (Upd × Foot)} {tm : List (Nat × AVal)} {ob : List (Nat × Option AObj)} {nx d ty : Nat} {pos : String} {aft : Array Edge} {g : Option (Nat × Bool)}
theorem zY {fo : Operand} {args : Array Operand} {ats : Array TypeId} {f : Nat} {caps caps' : List Cell} {vs as' : List AVal} {fr : List AObj} {rv : AVal} {V : List Nat} (hd : yX (some d) E.n = true) (hx : opV tm fo = some (.c (.fn f caps))) (hvs : qR tm args.toList = some vs) (hm : Nat.ble E.m nx = true) (_hr : refsVs vs ++ refsL caps = V) (hV : V.all (fun q => ((lk q ob).getD none).isSome) = true) (hargs : VAs ⟨tm, ob, nx⟩ V vs as') (hcaps : VCs ⟨tm, ob, nx⟩ V caps caps') (hpf : PF P f (as' ++ caps'.map AVal.c) fr rv) (hfl : qK rv)
    (h : callK P E ops K draw r acc tm ob nx d fr rv ((Oper.mk (some d) (.call { callee := .value fo, args := args, argTypes := ats }) ty pos aft g).looksAt ops, V)) : regY P E ops K draw ⟨some d, .call { callee := .value fo, args := args, argTypes := ats }, ty, pos, aft, g⟩ r acc ⟨tm, ob, nx⟩ :=
  wT V hd hx hvs hm hV hargs hcaps hpf hfl h
theorem rx_callMR {fo : Operand} {args : Array Operand} {ats : Array TypeId} {f : Nat} {vs as' : List AVal} {ins : List AObj} {outs : List (Option AObj)} {rv rv' : AVal} {ob' : List (Nat × Option AObj)} {μ : List Nat} (hpf : PFM P f ins as' outs rv)
    (hd : yX (some d) E.n = true) (hx : opV tm fo = some (.c (.fn f []))) (hvs : qR tm args.toList = some vs) (hm : Nat.ble E.m nx = true) (_hr : refsVs vs = μ)
    (hμ : nodupB μ = true) (hlt : μ.all (fun q => Nat.blt q nx) = true) (hins : All2 (fun q obj => (AS.mk tm ob nx).obj q = some obj) μ ins) (hlen : Nat.ble ins.length outs.length = true) (hargs : MAs ⟨tm, ob, nx⟩ [] μ vs as')
    (him : ∀ obj, some obj ∈ outs → ∀ x ∈ obj.els, ∀ c ∈ x, Imm c) (hii : ∀ obj ∈ ins, ∀ x ∈ obj.els, ∀ c ∈ x, Imm c) (hrv : reV μ nx rv = rv') (hob : vP μ nx 0 outs ++ ob = ob')
    (h : regX P E ops K draw r ((callMU (some d) rv μ nx outs, ⟨(Oper.mk (some d) (.call { callee := .value fo, args := args, argTypes := ats }) ty pos aft g).looksAt ops, [] ++ μ⟩) :: acc) ⟨(d, rv') :: tm, ob', nx + (outs.length - μ.length)⟩) : regY P E ops K draw ⟨some d, .call { callee := .value fo, args := args, argTypes := ats }, ty, pos, aft, g⟩ r acc ⟨tm, ob, nx⟩ :=
  rx_callMf μ hpf hd hx hvs hm hμ hlt hins hlen hargs him hii hrv hob h
end
end Go.Proofs.YtjeffognhcbiaaaDoor

namespace Go.Proofs.YtjeffognhcbiaaaDoor
open Go Go.RowKit
def inZ (x a b : Int) : Bool := decide (a ≤ x ∧ x ≤ b)
set_option maxRecDepth 8000 in
theorem l1In_pf (x a b : Int) : PF Tryd.prog 23 [.c (int x), .c (int a), .c (int b)] [] (.c (boo (inZ x a b))) := by
  refine PF.enter (enum3 _ _ _) Tryd.func23 rfl (by kernel_rfl) _ _ rfl rfl rfl (fun w0 mu I0 β0 gi dis => ?_)
  (repeat (first|(apply xW;(first|exact Want.none_ rfl|(refine zX rfl rfl rfl rfl ?_;(first|assumption|exact dT ‹_›|exact dF ‹_›|exact rfl))))|(apply xF zH;exact rfl;exact rfl)|((fail)<;>(first|exact zH|exact Nat.zero_add _|exact rfl|refine yM ?_|assumption|omega|exact ⟨rfl⟩|exact ⟨rfl,_,_,rfl,rfl⟩|exact lb rfl|((try refine Bd.mk ?_);first|assumption|omega|(focus (simp;done))|(simp;omega)|decide|(simp only [lA,lB,lC,lD,lE];omega))))|(apply yU;exact rfl;exact rfl;(first|assumption|exact dT ‹_›|exact dF ‹_›|exact rfl);exact rfl;exact rfl)|(apply yT;(iterate 5 exact rfl);(first|assumption|exact dT ‹_›|exact dF ‹_›|exact rfl))|(apply yN;(iterate 5 exact rfl))|apply zQ|apply AWp.Q|apply zG|apply AWp.G|apply AWp.R|apply zJ))
  (first | (apply zW; exact rfl; exact rfl; exact rfl) | (apply yE; exact rfl; exact rfl; exact rfl)) <;> intro hp
  all_goals
    (repeat (first|(apply xW;(first|exact Want.none_ rfl|(refine zX rfl rfl rfl rfl ?_;(first|assumption|exact dT ‹_›|exact dF ‹_›|exact rfl))))|(apply xF zH;exact rfl;exact rfl)|((fail)<;>(first|exact zH|exact Nat.zero_add _|exact rfl|refine yM ?_|assumption|omega|exact ⟨rfl⟩|exact ⟨rfl,_,_,rfl,rfl⟩|exact lb rfl|((try refine Bd.mk ?_);first|assumption|omega|(focus (simp;done))|(simp;omega)|decide|(simp only [lA,lB,lC,lD,lE];omega))))|(apply yU;exact rfl;exact rfl;(first|assumption|exact dT ‹_›|exact dF ‹_›|exact rfl);exact rfl;exact rfl)|(apply yT;(iterate 5 exact rfl);(first|assumption|exact dT ‹_›|exact dF ‹_›|exact rfl))|(apply yN;(iterate 5 exact rfl))|apply zQ|apply AWp.Q|apply zG|apply AWp.G|apply AWp.R|apply zJ))
    refine zT _ [] (.cons (zO rfl) .nil) ?_ rfl trivial
    simp only [VW, FW, FWs, CW, CWs, mkRes, boo, int, str, and_true, true_and]
    simp [hp, inZ]
set_option maxRecDepth 8000 in
theorem in_pf (x a b : Int) : PF Tryd.prog 43 [.c (int x), .c (int a), .c (int b)] [] (.c (boo (inZ x a b))) := by
  refine PF.enter (enum3 _ _ _) Tryd.func43 rfl (by kernel_rfl) _ _ rfl rfl rfl (fun w0 mu I0 β0 gi dis => ?_)
  (repeat (first|(apply xW;(first|exact Want.none_ rfl|(refine zX rfl rfl rfl rfl ?_;(first|assumption|exact dT ‹_›|exact dF ‹_›|exact rfl))))|(apply xF zH;exact rfl;exact rfl)|((fail)<;>(first|exact zH|exact Nat.zero_add _|exact rfl|refine yM ?_|assumption|omega|exact ⟨rfl⟩|exact ⟨rfl,_,_,rfl,rfl⟩|exact lb rfl|((try refine Bd.mk ?_);first|assumption|omega|(focus (simp;done))|(simp;omega)|decide|(simp only [lA,lB,lC,lD,lE];omega))))|(apply yU;exact rfl;exact rfl;(first|assumption|exact dT ‹_›|exact dF ‹_›|exact rfl);exact rfl;exact rfl)|(apply yT;(iterate 5 exact rfl);(first|assumption|exact dT ‹_›|exact dF ‹_›|exact rfl))|(apply yN;(iterate 5 exact rfl))|apply zQ|apply AWp.Q|apply zG|apply AWp.G|apply AWp.R|apply zJ))
  (first | (apply zW; exact rfl; exact rfl; exact rfl) | (apply yE; exact rfl; exact rfl; exact rfl)) <;> intro hp
  all_goals
    (repeat (first|(apply xW;(first|exact Want.none_ rfl|(refine zX rfl rfl rfl rfl ?_;(first|assumption|exact dT ‹_›|exact dF ‹_›|exact rfl))))|(apply xF zH;exact rfl;exact rfl)|((fail)<;>(first|exact zH|exact Nat.zero_add _|exact rfl|refine yM ?_|assumption|omega|exact ⟨rfl⟩|exact ⟨rfl,_,_,rfl,rfl⟩|exact lb rfl|((try refine Bd.mk ?_);first|assumption|omega|(focus (simp;done))|(simp;omega)|decide|(simp only [lA,lB,lC,lD,lE];omega))))|(apply yU;exact rfl;exact rfl;(first|assumption|exact dT ‹_›|exact dF ‹_›|exact rfl);exact rfl;exact rfl)|(apply yT;(iterate 5 exact rfl);(first|assumption|exact dT ‹_›|exact dF ‹_›|exact rfl))|(apply yN;(iterate 5 exact rfl))|apply zQ|apply AWp.Q|apply zG|apply AWp.G|apply AWp.R|apply zJ))
    refine zT _ [] (.cons (zO rfl) .nil) ?_ rfl trivial
    simp only [VW, FW, FWs, CW, CWs, mkRes, boo, int, str, and_true, true_and]
    simp [hp, inZ]
theorem wA {α : Type} {p : α → Bool} {l : List α} {k : Nat} {x : α} (h : l[k]? = some x) : (l.take (k + 1)).all p = ((l.take k).all p && p x) := by
  rw [List.take_add_one, h]; simp
theorem qE {α : Type} {p : α → Bool} {l : List α} {k : Nat} {x : α} (h : l[k]? = some x) (hp : p x = false) : l.all p = false := by
  rw [List.all_eq_false]; exact ⟨x, List.mem_of_getElem? h, by simp [hp]⟩
theorem any_take_succ {α : Type} {p : α → Bool} {l : List α} {k : Nat} {x : α} (h : l[k]? = some x) : (l.take (k + 1)).any p = ((l.take k).any p || p x) := by
  rw [List.take_add_one, h]; simp
theorem any_at {α : Type} {p : α → Bool} {l : List α} {k : Nat} {x : α} (h : l[k]? = some x) (hp : p x = true) : l.any p = true := by
  rw [List.any_eq_true]; exact ⟨x, List.mem_of_getElem? h, hp⟩
theorem findIdx_first {α : Type} {p : α → Bool} : ∀ {l : List α} {k : Nat} {x : α}, l[k]? = some x → p x = true → (l.take k).any p = false → l.findIdx p = k
  | [], _, _, h, _, _ => by simp at h
  | y :: l, 0, x, h, hp, _ => by simp at h; subst h; simp [List.findIdx_cons, hp]
  | y :: l, k + 1, x, h, hp, hn => by
    simp only [List.take_succ_cons, List.any_cons, Bool.or_eq_false_iff] at hn
    rw [List.findIdx_cons, hn.1, cond_false, findIdx_first (by simpa using h) hp hn.2]
theorem xM {α : Type} {l : List α} {k : Nat} (h : k < l.length) : ∃ x, l[k]? = some x := ⟨l[k], List.getElem?_eq_getElem h⟩
theorem take_all {α : Type} {l : List α} {k : Nat} (h : k ≤ l.length) (h2 : ¬ k < l.length) : l.take k = l := List.take_of_length_le (by omega)
theorem take_succ {α : Type} {l : List α} {k : Nat} {x : α} (h : l[k]? = some x) : l.take (k + 1) = l.take k ++ [x] := by rw [List.take_add_one, h]; rfl
theorem xG {α β : Type} {f : α → β} {l : List α} {k : Nat} {x : α} (h : l[k]? = some x) : (l.map f)[k]? = some (f x) := by rw [List.getElem?_map, h]; rfl
end Go.Proofs.YtjeffognhcbiaaaDoor

namespace Go.Proofs.YtjeffognhcbiaaaDoor
open Go Go.RowKit
def qY (k : Nat) : UInt8 := UInt8.ofNat (48 + k % 10)
def mtD (k : Nat) (out : List UInt8) : List UInt8 := if _h : k = 0 then out else mtD (k / 10) (qY k :: out)
termination_by k
def mt (k : Nat) : List UInt8 := if k = 0 then [109, 48] else 109 :: mtD k []
theorem wrap_dig8 (m : Nat) : IntKind.u8.wrap (48 + (m : Int) % 10) = ((qY m).toNat : Int) := by
  have h : m % 10 < 10 := Nat.mod_lt _ (by omega)
  have e : (48 + (m : Int) % 10) = ((48 + m % 10 : Nat) : Int) := by omega
  rw [e, qY]
  generalize m % 10 = r at h
  match r, h with
  | 0, _ => rfl
  | 1, _ => rfl
  | 2, _ => rfl
  | 3, _ => rfl
  | 4, _ => rfl
  | 5, _ => rfl
  | 6, _ => rfl
  | 7, _ => rfl
  | 8, _ => rfl
  | 9, _ => rfl
set_option maxRecDepth 8000 in
theorem markText_pf (k : Nat) (hk : k ≤ 1000000000000) : PF Tryd.prog 48 [.c (int k)] [] (.c (str (mt k))) := by
  refine PF.enter (xC _) Tryd.func48 rfl (by kernel_rfl) _ _ rfl rfl rfl (fun w0 mu I0 β0 gi dis => ?_)
  (repeat' (first|(apply xW;(first|exact Want.none_ rfl|(refine zX rfl rfl rfl rfl ?_;(first|assumption|exact dT ‹_›|exact dF ‹_›|exact rfl))))|(apply xF zH;exact rfl;exact rfl)|((first|(apply yC;exact rfl;exact rfl)|apply yD|apply rx_quo|apply rx_rem|apply yH)<;>(first|exact zH|exact Nat.zero_add _|exact rfl|refine yM ?_|assumption|omega|exact ⟨rfl⟩|exact ⟨rfl,_,_,rfl,rfl⟩|exact lb rfl|((try refine Bd.mk ?_);first|assumption|omega|(focus (simp;done))|(simp;omega)|decide|(simp only [lA,lB,lC,lD,lE];omega))))|apply zQ|apply AWp.Q|apply zG|apply AWp.G|apply AWp.B|apply AWp.J|apply AWp.X|apply AWp.R|apply zP|apply zJ|apply zI|apply zL|apply zM|(refine zK rfl ?_)|(apply AWp.T;exact rfl;(first|assumption|exact dT ‹_›|exact dF ‹_›|exact rfl))|(apply AWp.F;exact rfl;(first|assumption|exact dT ‹_›|exact dF ‹_›|exact rfl))|((first|refine AWp.C rfl ?_ ?_|refine AWp.O _ rfl ?_ ?_)<;>intro hp<;>try (exfalso;omega))))
  · have : k = 0 := by omega
    subst this
    ((first|refine zT _ [] (.cons (zO rfl) .nil) ?_ rfl ?_|refine zU _ [] (.cons (zO rfl) .nil) ?_ rfl ?_) <;> (repeat' (first|exact trivial|exact rfl|exact oRi ‹_›|exact oLi|apply And.intro|(apply cgI;first|omega|(simp;done)|(simp;omega))|(refine yB ?_;first|(focus (simp;done))|omega|(simp only [lA,lB,lC,lD,lE];omega))|refine ⟨_,rfl,rfl,rfl,OW.one ?_⟩|refine oWs rfl rfl rfl ?_ ?_|refine vwB ?_|refine vwS ?_|refine vwI ?_|refine fwB ?_|refine fwS ?_|refine fwI ?_|(refine aIm ?_;first|exact AllSc.nil|assumption))))
  refine AWp.U (σ := Nat × List UInt8) (fun k => ⟨[(0, .c (int k.1)), (3, .c (str k.2))], [], 0⟩) (fun m => m.1 ≤ 1000000000000 ∧ m.2.length + m.1 ≤ 1000000000000 ∧ mtD k [] = mtD m.1 m.2) (fun m => m.1) (k, []) ⟨hk, by dsimp only; simpa using hk, rfl⟩ ?_ ?_
  · refine Weak.of [] rfl ?_ ?_ <;> (repeat' (first|exact trivial|exact rfl|exact oRi ‹_›|exact oLi|apply And.intro|(apply cgI;first|omega|(simp;done)|(simp;omega))|(refine yB ?_;first|(focus (simp;done))|omega|(simp only [lA,lB,lC,lD,lE];omega))|refine ⟨_,rfl,rfl,rfl,OW.one ?_⟩|refine oWs rfl rfl rfl ?_ ?_|refine vwB ?_|refine vwS ?_|refine vwI ?_|refine fwB ?_|refine fwS ?_|refine fwI ?_|(refine aIm ?_;first|exact AllSc.nil|assumption)))
  · rintro ⟨m, out⟩ ⟨h1, h2, h3⟩
    dsimp only at h1 h2 h3 ⊢
    (repeat' (first|(apply xW;(first|exact Want.none_ rfl|(refine zX rfl rfl rfl rfl ?_;(first|assumption|exact dT ‹_›|exact dF ‹_›|exact rfl))))|(apply xF zH;exact rfl;exact rfl)|((first|(apply yC;exact rfl;exact rfl)|apply yD|apply rx_quo|apply rx_rem|apply yH)<;>(first|exact zH|exact Nat.zero_add _|exact rfl|refine yM ?_|assumption|omega|exact ⟨rfl⟩|exact ⟨rfl,_,_,rfl,rfl⟩|exact lb rfl|((try refine Bd.mk ?_);first|assumption|omega|(focus (simp;done))|(simp;omega)|decide|(simp only [lA,lB,lC,lD,lE];omega))))|apply zQ|apply AWp.Q|apply zG|apply AWp.G|apply AWp.B|apply AWp.J|apply AWp.X|apply AWp.R|apply zP|apply zJ|apply zI|apply zL|apply zM|(refine zK rfl ?_)|(apply AWp.T;exact rfl;(first|assumption|exact dT ‹_›|exact dF ‹_›|exact rfl))|(apply AWp.F;exact rfl;(first|assumption|exact dT ‹_›|exact dF ‹_›|exact rfl))|((first|refine AWp.C rfl ?_ ?_|refine AWp.O _ rfl ?_ ?_)<;>intro hp<;>try (exfalso;omega))))
    · have hw8 : IntKind.u8.wrap (48 + (m : Int) % 10) = ((qY m).toNat : Int) := wrap_dig8 m
      apply (rx_convBS [qY m])
      exact rfl
      exact rfl
      exact zH
      exact rfl
      exact rfl
      exact rfl
      exact rfl
      exact rfl
      exact rfl
      exact rfl
      · show [[Cell.v (Value.int .u8 (IntKind.u8.wrap (48 + (m : Int) % 10)))]] = _
        rw [hw8]; rfl
      · simp
      (repeat' (first|(apply xW;(first|exact Want.none_ rfl|(refine zX rfl rfl rfl rfl ?_;(first|assumption|exact dT ‹_›|exact dF ‹_›|exact rfl))))|(apply xF zH;exact rfl;exact rfl)|((first|(apply yC;exact rfl;exact rfl)|apply yD|apply rx_quo|apply rx_rem|apply yH)<;>(first|exact zH|exact Nat.zero_add _|exact rfl|refine yM ?_|assumption|omega|exact ⟨rfl⟩|exact ⟨rfl,_,_,rfl,rfl⟩|exact lb rfl|((try refine Bd.mk ?_);first|assumption|omega|(focus (simp;done))|(simp;omega)|decide|(simp only [lA,lB,lC,lD,lE];omega))))|apply zQ|apply AWp.Q|apply zG|apply AWp.G|apply AWp.B|apply AWp.J|apply AWp.X|apply AWp.R|apply zP|apply zJ|apply zI|apply zL|apply zM|(refine zK rfl ?_)|(apply AWp.T;exact rfl;(first|assumption|exact dT ‹_›|exact dF ‹_›|exact rfl))|(apply AWp.F;exact rfl;(first|assumption|exact dT ‹_›|exact dF ‹_›|exact rfl))|((first|refine AWp.C rfl ?_ ?_|refine AWp.O _ rfl ?_ ?_)<;>intro hp<;>try (exfalso;omega))))
      refine ⟨(m / 10, qY m :: out), ⟨by dsimp only; omega, by dsimp only; simp only [List.length_cons]; omega, ?_⟩, by dsimp only; omega, ?_⟩
      · rw [h3, mtD, dif_neg (by omega)]
      refine Weak.of [] rfl ?_ ?_ <;> (repeat' (first|exact trivial|exact rfl|exact oRi ‹_›|exact oLi|apply And.intro|(apply cgI;first|omega|(simp;done)|(simp;omega))|(refine yB ?_;first|(focus (simp;done))|omega|(simp only [lA,lB,lC,lD,lE];omega))|refine ⟨_,rfl,rfl,rfl,OW.one ?_⟩|refine oWs rfl rfl rfl ?_ ?_|refine vwB ?_|refine vwS ?_|refine vwI ?_|refine fwB ?_|refine fwS ?_|refine fwI ?_|(refine aIm ?_;first|exact AllSc.nil|assumption)))
    · ((first|refine zT _ [] (.cons (zO rfl) .nil) ?_ rfl ?_|refine zU _ [] (.cons (zO rfl) .nil) ?_ rfl ?_) <;> (repeat' (first|exact trivial|exact rfl|exact oRi ‹_›|exact oLi|apply And.intro|(apply cgI;first|omega|(simp;done)|(simp;omega))|(refine yB ?_;first|(focus (simp;done))|omega|(simp only [lA,lB,lC,lD,lE];omega))|refine ⟨_,rfl,rfl,rfl,OW.one ?_⟩|refine oWs rfl rfl rfl ?_ ?_|refine vwB ?_|refine vwS ?_|refine vwI ?_|refine fwB ?_|refine fwS ?_|refine fwI ?_|(refine aIm ?_;first|exact AllSc.nil|assumption))))
      have e : m = 0 := by omega
      subst e
      have e2 : mt k = 109 :: out := by rw [mt, if_neg (by omega), h3, mtD, dif_pos rfl]
      rw [e2]
      rfl
end Go.Proofs.YtjeffognhcbiaaaDoor

namespace Go.Proofs.YtjeffognhcbiaaaDoor
open Go Go.RowKit
def yG (n : Int) : List Cell := [int n]
theorem eInt_sc (n : Int) : ∀ x ∈ yG n, Imm x ∧ Flat x := by
  intro x hx
  simp only [yG, List.mem_cons, List.not_mem_nil, or_false] at hx
  subst hx
  exact ⟨Imm.v _, Flat.v _⟩
theorem map_sc {α : Type} {enc : α → List Cell} (h : ∀ a, ∀ x ∈ enc a, Imm x ∧ Flat x) (l : List α) : AllSc (l.map enc) := by
  intro x hx
  obtain ⟨a, _, rfl⟩ := List.mem_map.1 hx
  exact h a
theorem vJ (l : List Int) : AllSc (l.map yG) := map_sc eInt_sc l
def mix {α : Type} (ys xs : List α) (k : Nat) : List α := ys.take k ++ xs.drop k
section
variable {α : Type} {xs ys : List α} {k : Nat} {y z : α}
theorem mix_all (h : xs.length ≤ k) (h2 : ys.length ≤ k) : mix ys xs k = ys := by rw [mix, List.take_of_length_le h2, List.drop_eq_nil_of_le h, List.append_nil]
theorem mix_at (h : ys.length = xs.length) (hz : xs[k]? = some z) : (mix ys xs k)[k]? = some z := by
  have hl := (List.getElem?_eq_some_iff.1 hz).1
  have e : (ys.take k).length = k := by simp; omega
  rw [mix, List.getElem?_append_right (by omega), e, Nat.sub_self, List.getElem?_drop, Nat.add_zero, hz]
theorem mix_set (h : ys.length = xs.length) (hy : ys[k]? = some y) : (mix ys xs k).set k y = mix ys xs (k + 1) := by
  have hl := (List.getElem?_eq_some_iff.1 hy).1
  have e : (ys.take k).length = k := by simp; omega
  obtain ⟨z, hz⟩ := xM (show k < xs.length by omega)
  obtain ⟨h1, h2⟩ := List.getElem?_eq_some_iff.1 hz
  rw [mix, List.set_append_right _ _ (by omega), e, Nat.sub_self, List.drop_eq_getElem_cons h1, List.set_cons_zero, mix, take_succ hy, List.append_assoc]
  rfl
theorem mix_map {β : Type} {f : α → β} : mix (ys.map f) (xs.map f) k = (mix ys xs k).map f := by simp [mix]
end
def fillK (xs : List (List Cell)) (z : List Cell) (k : Nat) : List (List Cell) := xs.take k ++ List.replicate (xs.length - k) z
section
variable {xs : List (List Cell)} {z x : List Cell} {k : Nat}
theorem fillK_all (h : xs.length ≤ k) : fillK xs z k = xs := by rw [fillK, List.take_of_length_le h, show xs.length - k = 0 by omega]; simp
theorem fillK_at (h : k < xs.length) : (fillK xs z k)[k]? = some z := by
  have e : (xs.take k).length = k := by simp; omega
  rw [fillK, List.getElem?_append_right (by omega), e, Nat.sub_self, List.getElem?_replicate, if_pos (by omega)]
theorem fillK_set (h : xs[k]? = some x) : (fillK xs z k).set k x = fillK xs z (k + 1) := by
  have hl := (List.getElem?_eq_some_iff.1 h).1
  have e : (xs.take k).length = k := by simp; omega
  rw [fillK, List.set_append_right _ _ (by omega), e, Nat.sub_self, show xs.length - k = (xs.length - (k + 1)) + 1 by omega, List.replicate_succ, List.set_cons_zero, fillK, take_succ h, List.append_assoc]
  rfl
theorem allSc_fillK (h : AllSc xs) (hz : ∀ c ∈ z, Imm c ∧ Flat c) : AllSc (fillK xs z k) := by
  intro y hy
  rw [fillK, List.mem_append] at hy
  rcases hy with hy | hy
  · exact h y (List.mem_of_mem_take hy)
  · rw [List.eq_of_mem_replicate hy]; exact hz
end
def w7 (l : List UInt8) : List Cell := [str l]
theorem eStr_sc (l : List UInt8) : ∀ x ∈ w7 l, Imm x ∧ Flat x := by
  intro x hx
  simp only [w7, List.mem_cons, List.not_mem_nil, or_false] at hx
  subst hx
  exact ⟨Imm.v _, Flat.v _⟩
theorem strs_sc (ws : List (List UInt8)) : AllSc (ws.map w7) := map_sc eStr_sc ws
def mkI (k : Int) (n : Nat) : List Int := (List.range n).map fun j => k + (j : Nat)
theorem vI (k : Int) (n : Nat) : (mkI k n).length = n := by simp [mkI]
theorem mkI_at {k : Int} {n j : Nat} (h : j < n) : (mkI k n)[j]? = some (k + j) := by simp [mkI, h]
set_option maxRecDepth 8000 in
theorem markIntS_pfm (l : List Int) (k : Int) (hl : l.length ≤ 4000000) (h0 : 0 ≤ k) (hk : k ≤ 1000000000000) :
    PFM Tryd.prog 12 [⟨3, 1, l.map yG⟩] [.c (.ref 0 0 l.length), .c (int k)] [some ⟨3, 1, (mkI k l.length).map yG⟩] (.c (int (k + l.length))) := by
  refine PFM.enterT (xJ _ _) (enumM1 _) rfl Tryd.func12 rfl (by kernel_rfl) _ _ rfl rfl rfl (fun w0 mu I0 β0 gi dis => ?_)
  (repeat' (first|(apply xW;(first|exact Want.none_ rfl|(refine zX rfl rfl rfl rfl ?_;(first|assumption|exact dT ‹_›|exact dF ‹_›|exact rfl))))|(apply xF zH;exact rfl;exact rfl)|((first|(apply yC;exact rfl;exact rfl)|apply yD|(apply zZ;exact rfl;exact rfl)|apply zS|apply yS)<;>(first|exact zH|exact Nat.zero_add _|exact rfl|refine yM ?_|assumption|omega|exact ⟨rfl⟩|exact ⟨rfl,_,_,rfl,rfl⟩|exact lb rfl|((try refine Bd.mk ?_);first|assumption|omega|exact yA ‹_›|exact yA (yA ‹_›)|(focus (simp;done))|(simp;omega)|decide|(simp only [lA,lB,lC,lD,lE];omega))))|apply zQ|apply AWp.Q|apply zG|apply AWp.G|apply AWp.B|apply AWp.J|apply AWp.X|apply AWp.R|apply zP|apply zJ|apply zI|apply zL|apply zM|(refine zK rfl ?_)|(apply AWp.T;exact rfl;(first|assumption|exact dT ‹_›|exact dF ‹_›|exact rfl))|(apply AWp.F;exact rfl;(first|assumption|exact dT ‹_›|exact dF ‹_›|exact rfl))|((first|refine AWp.C rfl ?_ ?_|refine AWp.O _ rfl ?_ ?_)<;>intro hp<;>try (exfalso;omega))))
  have hll : ((mkI k l.length).map yG).length = (l.map yG).length := by simp [vI]
  refine AWp.U (σ := Nat) (fun j => ⟨[(0, .c (.ref 0 0 l.length)), (1, .c (int (k + j))), (5, .c (int j))], [(0, some ⟨3, 1, mix ((mkI k l.length).map yG) (l.map yG) j⟩)], 1⟩) (fun j => j ≤ l.length) (fun j => l.length - j) 0 (Nat.zero_le _) ?_ ?_
  · refine Weak.of [(0, some 0)] rfl ?_ ?_ <;> (repeat' (first|exact trivial|exact rfl|exact oRi ‹_›|exact oLi|apply And.intro|(apply cgI;first|omega|(simp;done)|(simp;omega))|(refine yB ?_;first|(focus (simp;done))|omega|(simp only [lA,lB,lC,lD,lE];omega))|refine ⟨_,rfl,rfl,rfl,OW.one ?_⟩|refine oWs rfl rfl rfl ?_ ?_|refine vwB ?_|refine vwS ?_|refine vwI ?_|refine fwB ?_|refine fwS ?_|refine fwI ?_|(refine aIm ?_;first|exact AllSc.nil|assumption)))
    exact (vJ l).imm
  · intro j hj
    by_cases hlt : j < l.length
    · obtain ⟨c, hc⟩ := xM hlt
      have hz : (mix ((mkI k l.length).map yG) (l.map yG) j)[j]? = some (yG c) := mix_at hll (xG hc)
      have hlt' : (j : Int) < (l.length : Int) := by omega
      (repeat' (first|(apply xW;(first|exact Want.none_ rfl|(refine zX rfl rfl rfl rfl ?_;(first|assumption|exact dT ‹_›|exact dF ‹_›|exact rfl))))|(apply xF zH;exact rfl;exact rfl)|((first|(apply yC;exact rfl;exact rfl)|apply yD|(apply zZ;exact rfl;exact rfl)|apply zS|apply yS)<;>(first|exact zH|exact Nat.zero_add _|exact rfl|refine yM ?_|assumption|omega|exact ⟨rfl⟩|exact ⟨rfl,_,_,rfl,rfl⟩|exact lb rfl|((try refine Bd.mk ?_);first|assumption|omega|exact yA ‹_›|exact yA (yA ‹_›)|(focus (simp;done))|(simp;omega)|decide|(simp only [lA,lB,lC,lD,lE];omega))))|apply zQ|apply AWp.Q|apply zG|apply AWp.G|apply AWp.B|apply AWp.J|apply AWp.X|apply AWp.R|apply zP|apply zJ|apply zI|apply zL|apply zM|(refine zK rfl ?_)|(apply AWp.T;exact rfl;(first|assumption|exact dT ‹_›|exact dF ‹_›|exact rfl))|(apply AWp.F;exact rfl;(first|assumption|exact dT ‹_›|exact dF ‹_›|exact rfl))|((first|refine AWp.C rfl ?_ ?_|refine AWp.O _ rfl ?_ ?_)<;>intro hp<;>try (exfalso;omega))))
      refine ⟨j + 1, by omega, by omega, ?_⟩
      refine Weak.of [(0, some 0)] rfl ?_ ?_ <;> (repeat' (first|exact trivial|exact rfl|exact oRi ‹_›|exact oLi|apply And.intro|(apply cgI;first|omega|(simp;done)|(simp;omega))|(refine yB ?_;first|(focus (simp;done))|omega|(simp only [lA,lB,lC,lD,lE];omega))|refine ⟨_,rfl,rfl,rfl,OW.one ?_⟩|refine oWs rfl rfl rfl ?_ ?_|refine vwB ?_|refine vwS ?_|refine vwI ?_|refine fwB ?_|refine fwS ?_|refine fwI ?_|(refine aIm ?_;first|exact AllSc.nil|assumption)))
      · exact mix_set hll (xG (mkI_at hlt))
      · rw [mix_map]; exact (vJ _).imm
    · have hlt' : ¬ (j : Int) < (l.length : Int) := by omega
      (repeat (first|(apply xW;(first|exact Want.none_ rfl|(refine zX rfl rfl rfl rfl ?_;(first|assumption|exact dT ‹_›|exact dF ‹_›|exact rfl))))|(apply xF zH;exact rfl;exact rfl)|((first|(apply yC;exact rfl;exact rfl)|apply yD|(apply zZ;exact rfl;exact rfl)|apply zS|apply yS)<;>(first|exact zH|exact Nat.zero_add _|exact rfl|refine yM ?_|assumption|omega|exact ⟨rfl⟩|exact ⟨rfl,_,_,rfl,rfl⟩|exact lb rfl|((try refine Bd.mk ?_);first|assumption|omega|exact yA ‹_›|exact yA (yA ‹_›)|(focus (simp;done))|(simp;omega)|decide|(simp only [lA,lB,lC,lD,lE];omega))))|apply zQ|apply AWp.Q|apply zG|apply AWp.G|apply AWp.B|apply AWp.J|apply AWp.X|apply AWp.R|apply zP|apply zJ|apply zI|apply zL|apply zM|(refine zK rfl ?_)|(apply AWp.T;exact rfl;(first|assumption|exact dT ‹_›|exact dF ‹_›|exact rfl))|(apply AWp.F;exact rfl;(first|assumption|exact dT ‹_›|exact dF ‹_›|exact rfl))))
      ((first|refine zT _ [(0, some 0)] (.cons (zO rfl) .nil) ?_ rfl ?_|refine zU _ [(0, some 0)] (.cons (zO rfl) .nil) ?_ rfl ?_) <;> (repeat' (first|exact trivial|exact rfl|exact oRi ‹_›|exact oLi|apply And.intro|(apply cgI;first|omega|(simp;done)|(simp;omega))|(refine yB ?_;first|(focus (simp;done))|omega|(simp only [lA,lB,lC,lD,lE];omega))|refine ⟨_,rfl,rfl,rfl,OW.one ?_⟩|refine oWs rfl rfl rfl ?_ ?_|refine vwB ?_|refine vwS ?_|refine vwI ?_|refine fwB ?_|refine fwS ?_|refine fwI ?_|(refine aIm ?_;first|exact AllSc.nil|assumption))))
      · exact mix_all (by simp; omega) (by simp [vI]; omega)
      · exact (vJ _).imm
set_option maxRecDepth 8000 in
theorem heldIntS_pf (l : List Int) (k : Int) (hl : l.length ≤ 4000000) (h0 : 0 ≤ k) (hk : k ≤ 1000000000000) (he : l = mkI k l.length) :
    PF Tryd.prog 13 [.c (.sl (l.map yG)), .c (int k)] [] (.c (int (k + l.length))) := by
  refine PF.enter (xJ _ _) Tryd.func13 rfl (by kernel_rfl) _ _ rfl rfl rfl (fun w0 mu I0 β0 gi dis => ?_)
  have hL : (l.map yG).length = l.length := List.length_map _
  (repeat' (first|(apply xW;(first|exact Want.none_ rfl|(refine zX rfl rfl rfl rfl ?_;(first|assumption|exact dT ‹_›|exact dF ‹_›|exact rfl))))|(apply xF zH;exact rfl;exact rfl)|((first|(apply yC;exact rfl;exact rfl)|apply yD|(apply zZ;exact rfl;exact rfl)|apply zS|(apply zR;exact rfl;exact rfl;exact zH;exact rfl;exact rfl)|apply zN)<;>(first|exact zH|exact Nat.zero_add _|exact rfl|refine yM ?_|assumption|omega|exact ⟨rfl⟩|exact ⟨rfl,_,_,rfl,rfl⟩|exact lb rfl|((try refine Bd.mk ?_);first|assumption|omega|(focus (simp;done))|(simp;omega)|decide|(simp only [lA,lB,lC,lD,lE];omega))))|apply zQ|apply AWp.Q|apply zG|apply AWp.G|apply AWp.B|apply AWp.J|apply AWp.X|apply AWp.R|apply zP|apply zJ|apply zI|apply zL|apply zM|(refine zK rfl ?_)|(apply AWp.T;exact rfl;(first|assumption|exact dT ‹_›|exact dF ‹_›|exact rfl))|(apply AWp.F;exact rfl;(first|assumption|exact dT ‹_›|exact dF ‹_›|exact rfl))|((first|refine AWp.C rfl ?_ ?_|refine AWp.O _ rfl ?_ ?_)<;>intro hp<;>try (exfalso;omega))))
  refine AWp.U (σ := Nat) (fun j => ⟨[(0, .c (.sl (l.map yG))), (1, .c (int (k + j))), (5, .c (int j))], [], 0⟩) (fun j => j ≤ l.length) (fun j => l.length - j) 0 (Nat.zero_le _) ?_ ?_
  · refine Weak.of [] rfl ?_ ?_ <;> (repeat' (first|exact trivial|exact rfl|exact oRi ‹_›|exact oLi|apply And.intro|(apply cgI;first|omega|(simp;done)|(simp;omega))|(refine yB ?_;first|(focus (simp;done))|omega|(simp only [lA,lB,lC,lD,lE];omega))|refine ⟨_,rfl,rfl,rfl,OW.one ?_⟩|refine oWs rfl rfl rfl ?_ ?_|refine vwB ?_|refine vwS ?_|refine vwI ?_|refine fwB ?_|refine fwS ?_|refine fwI ?_|(refine aIm ?_;first|exact AllSc.nil|assumption)))
  · intro j hj
    by_cases hlt : j < l.length
    · have hc : l[j]? = some (k + j) := by rw [he]; exact mkI_at hlt
      have hz : (l.map yG)[j]? = some (yG (k + j)) := xG hc
      have hlt' : (j : Int) < ((l.map yG).length : Int) := by omega
      (repeat' (first|(apply xW;(first|exact Want.none_ rfl|(refine zX rfl rfl rfl rfl ?_;(first|assumption|exact dT ‹_›|exact dF ‹_›|exact rfl))))|(apply xF zH;exact rfl;exact rfl)|((first|(apply yC;exact rfl;exact rfl)|apply yD|(apply zZ;exact rfl;exact rfl)|apply zS|(apply zR;exact rfl;exact rfl;exact zH;exact rfl;exact rfl)|apply zN)<;>(first|exact zH|exact Nat.zero_add _|exact rfl|refine yM ?_|assumption|omega|exact ⟨rfl⟩|exact ⟨rfl,_,_,rfl,rfl⟩|exact lb rfl|((try refine Bd.mk ?_);first|assumption|omega|(focus (simp;done))|(simp;omega)|decide|(simp only [lA,lB,lC,lD,lE];omega))))|apply zQ|apply AWp.Q|apply zG|apply AWp.G|apply AWp.B|apply AWp.J|apply AWp.X|apply AWp.R|apply zP|apply zJ|apply zI|apply zL|apply zM|(refine zK rfl ?_)|(apply AWp.T;exact rfl;(first|assumption|exact dT ‹_›|exact dF ‹_›|exact rfl))|(apply AWp.F;exact rfl;(first|assumption|exact dT ‹_›|exact dF ‹_›|exact rfl))|((first|refine AWp.C rfl ?_ ?_|refine AWp.O _ rfl ?_ ?_)<;>intro hp<;>try (exfalso;omega))))
      refine ⟨j + 1, by omega, by omega, ?_⟩
      refine Weak.of [] rfl ?_ ?_ <;> (repeat' (first|exact trivial|exact rfl|exact oRi ‹_›|exact oLi|apply And.intro|(apply cgI;first|omega|(simp;done)|(simp;omega))|(refine yB ?_;first|(focus (simp;done))|omega|(simp only [lA,lB,lC,lD,lE];omega))|refine ⟨_,rfl,rfl,rfl,OW.one ?_⟩|refine oWs rfl rfl rfl ?_ ?_|refine vwB ?_|refine vwS ?_|refine vwI ?_|refine fwB ?_|refine fwS ?_|refine fwI ?_|(refine aIm ?_;first|exact AllSc.nil|assumption)))
    · have hlt' : ¬ (j : Int) < ((l.map yG).length : Int) := by omega
      (repeat (first|(apply xW;(first|exact Want.none_ rfl|(refine zX rfl rfl rfl rfl ?_;(first|assumption|exact dT ‹_›|exact dF ‹_›|exact rfl))))|(apply xF zH;exact rfl;exact rfl)|((first|(apply yC;exact rfl;exact rfl)|apply yD|(apply zZ;exact rfl;exact rfl)|apply zS|(apply zR;exact rfl;exact rfl;exact zH;exact rfl;exact rfl)|apply zN)<;>(first|exact zH|exact Nat.zero_add _|exact rfl|refine yM ?_|assumption|omega|exact ⟨rfl⟩|exact ⟨rfl,_,_,rfl,rfl⟩|exact lb rfl|((try refine Bd.mk ?_);first|assumption|omega|(focus (simp;done))|(simp;omega)|decide|(simp only [lA,lB,lC,lD,lE];omega))))|apply zQ|apply AWp.Q|apply zG|apply AWp.G|apply AWp.B|apply AWp.J|apply AWp.X|apply AWp.R|apply zP|apply zJ|apply zI|apply zL|apply zM|(refine zK rfl ?_)|(apply AWp.T;exact rfl;(first|assumption|exact dT ‹_›|exact dF ‹_›|exact rfl))|(apply AWp.F;exact rfl;(first|assumption|exact dT ‹_›|exact dF ‹_›|exact rfl))))
      ((first|refine zT _ [] (.cons (zO rfl) .nil) ?_ rfl ?_|refine zU _ [] (.cons (zO rfl) .nil) ?_ rfl ?_) <;> (repeat' (first|exact trivial|exact rfl|exact oRi ‹_›|exact oLi|apply And.intro|(apply cgI;first|omega|(simp;done)|(simp;omega))|(refine yB ?_;first|(focus (simp;done))|omega|(simp only [lA,lB,lC,lD,lE];omega))|refine ⟨_,rfl,rfl,rfl,OW.one ?_⟩|refine oWs rfl rfl rfl ?_ ?_|refine vwB ?_|refine vwS ?_|refine vwI ?_|refine fwB ?_|refine fwS ?_|refine fwI ?_|(refine aIm ?_;first|exact AllSc.nil|assumption))))
set_option maxRecDepth 8000 in
theorem eqIntS_pf (l : List Int) (hl : l.length ≤ 4000000) : PF Tryd.prog 9 [.c (.sl (l.map yG)), .c (.sl (l.map yG))] [] (.c (boo true)) := by
  refine PF.enter (xJ _ _) Tryd.func9 rfl (by kernel_rfl) _ _ rfl rfl rfl (fun w0 mu I0 β0 gi dis => ?_)
  have hL : (l.map yG).length = l.length := List.length_map _
  (repeat' (first|(apply xW;(first|exact Want.none_ rfl|(refine zX rfl rfl rfl rfl ?_;(first|assumption|exact dT ‹_›|exact dF ‹_›|exact rfl))))|(apply xF zH;exact rfl;exact rfl)|((first|(apply yC;exact rfl;exact rfl)|apply yD|(apply zZ;exact rfl;exact rfl)|apply zS|(apply zR;exact rfl;exact rfl;exact zH;exact rfl;exact rfl)|apply zN)<;>(first|exact zH|exact Nat.zero_add _|exact rfl|refine yM ?_|assumption|omega|exact ⟨rfl⟩|exact ⟨rfl,_,_,rfl,rfl⟩|exact lb rfl|((try refine Bd.mk ?_);first|assumption|omega|(focus (simp;done))|(simp;omega)|decide|(simp only [lA,lB,lC,lD,lE];omega))))|apply zQ|(refine yV ?_ ?_;kernel_rfl)|apply AWp.Q|apply zG|apply AWp.G|apply AWp.B|apply AWp.J|apply AWp.X|apply AWp.R|apply zP|apply zJ|apply zI|apply zL|apply zM|(refine AWp.D ?_ ?_;kernel_rfl)|(refine zK rfl ?_)|(apply AWp.T;exact rfl;(first|assumption|exact dT ‹_›|exact dF ‹_›|exact rfl))|(apply AWp.F;exact rfl;(first|assumption|exact dT ‹_›|exact dF ‹_›|exact rfl))|((first|refine AWp.C rfl ?_ ?_|refine AWp.O _ rfl ?_ ?_)<;>intro hp<;>try (exfalso;omega))))
  refine AWp.U (σ := Nat) (fun k => ⟨[(0, .c (.sl (l.map yG))), (1, .c (.sl (l.map yG))), (5, .c (int k))], [], 0⟩) (fun k => k ≤ l.length) (fun k => l.length - k) 0 (Nat.zero_le _) ?_ ?_
  · refine Weak.of [] rfl ?_ ?_ <;> (repeat' (first|exact trivial|exact rfl|exact oRi ‹_›|exact oLi|apply And.intro|(apply cgI;first|omega|(simp;done)|(simp;omega))|(refine yB ?_;first|(focus (simp;done))|omega|(simp only [lA,lB,lC,lD,lE];omega))|refine ⟨_,rfl,rfl,rfl,OW.one ?_⟩|refine oWs rfl rfl rfl ?_ ?_|refine vwB ?_|refine vwS ?_|refine vwI ?_|refine fwB ?_|refine fwS ?_|refine fwI ?_|(refine aIm ?_;first|exact AllSc.nil|assumption)))
  · rintro k hk
    by_cases hlt : k < l.length
    · obtain ⟨c, hc⟩ := xM hlt
      have hc' : (l.map yG)[k]? = some (yG c) := xG hc
      have hlt' : (k : Int) < ((l.map yG).length : Int) := by omega
      (repeat' (first|(apply xW;(first|exact Want.none_ rfl|(refine zX rfl rfl rfl rfl ?_;(first|assumption|exact dT ‹_›|exact dF ‹_›|exact rfl))))|(apply xF zH;exact rfl;exact rfl)|((first|(apply yC;exact rfl;exact rfl)|apply yD|(apply zZ;exact rfl;exact rfl)|apply zS|(apply zR;exact rfl;exact rfl;exact zH;exact rfl;exact rfl)|apply zN)<;>(first|exact zH|exact Nat.zero_add _|exact rfl|refine yM ?_|assumption|omega|exact ⟨rfl⟩|exact ⟨rfl,_,_,rfl,rfl⟩|exact lb rfl|((try refine Bd.mk ?_);first|assumption|omega|(focus (simp;done))|(simp;omega)|decide|(simp only [lA,lB,lC,lD,lE];omega))))|apply zQ|(refine yV ?_ ?_;kernel_rfl)|apply AWp.Q|apply zG|apply AWp.G|apply AWp.B|apply AWp.J|apply AWp.X|apply AWp.R|apply zP|apply zJ|apply zI|apply zL|apply zM|(refine AWp.D ?_ ?_;kernel_rfl)|(refine zK rfl ?_)|(apply AWp.T;exact rfl;(first|assumption|exact dT ‹_›|exact dF ‹_›|exact rfl))|(apply AWp.F;exact rfl;(first|assumption|exact dT ‹_›|exact dF ‹_›|exact rfl))|((first|refine AWp.C rfl ?_ ?_|refine AWp.O _ rfl ?_ ?_)<;>intro hp<;>try (exfalso;omega))))
      all_goals first | (exfalso; simp at *; done) | skip
      refine ⟨k + 1, by omega, by omega, ?_⟩
      refine Weak.of [] rfl ?_ ?_ <;> (repeat' (first|exact trivial|exact rfl|exact oRi ‹_›|exact oLi|apply And.intro|(apply cgI;first|omega|(simp;done)|(simp;omega))|(refine yB ?_;first|(focus (simp;done))|omega|(simp only [lA,lB,lC,lD,lE];omega))|refine ⟨_,rfl,rfl,rfl,OW.one ?_⟩|refine oWs rfl rfl rfl ?_ ?_|refine vwB ?_|refine vwS ?_|refine vwI ?_|refine fwB ?_|refine fwS ?_|refine fwI ?_|(refine aIm ?_;first|exact AllSc.nil|assumption)))
    · have hlt' : ¬ (k : Int) < ((l.map yG).length : Int) := by omega
      (repeat (first|(apply xW;(first|exact Want.none_ rfl|(refine zX rfl rfl rfl rfl ?_;(first|assumption|exact dT ‹_›|exact dF ‹_›|exact rfl))))|(apply xF zH;exact rfl;exact rfl)|((first|(apply yC;exact rfl;exact rfl)|apply yD|(apply zZ;exact rfl;exact rfl)|apply zS|(apply zR;exact rfl;exact rfl;exact zH;exact rfl;exact rfl)|apply zN)<;>(first|exact zH|exact Nat.zero_add _|exact rfl|refine yM ?_|assumption|omega|exact ⟨rfl⟩|exact ⟨rfl,_,_,rfl,rfl⟩|exact lb rfl|((try refine Bd.mk ?_);first|assumption|omega|(focus (simp;done))|(simp;omega)|decide|(simp only [lA,lB,lC,lD,lE];omega))))|apply zQ|(refine yV ?_ ?_;kernel_rfl)|apply AWp.Q|apply zG|apply AWp.G|apply AWp.B|apply AWp.J|apply AWp.X|apply AWp.R|apply zP|apply zJ|apply zI|apply zL|apply zM|(refine AWp.D ?_ ?_;kernel_rfl)|(refine zK rfl ?_)|(apply AWp.T;exact rfl;(first|assumption|exact dT ‹_›|exact dF ‹_›|exact rfl))|(apply AWp.F;exact rfl;(first|assumption|exact dT ‹_›|exact dF ‹_›|exact rfl))))
      ((first|refine zT _ [] (.cons (zO rfl) .nil) ?_ rfl ?_|refine zU _ [] (.cons (zO rfl) .nil) ?_ rfl ?_) <;> (repeat' (first|exact trivial|exact rfl|exact oRi ‹_›|exact oLi|apply And.intro|(apply cgI;first|omega|(simp;done)|(simp;omega))|(refine yB ?_;first|(focus (simp;done))|omega|(simp only [lA,lB,lC,lD,lE];omega))|refine ⟨_,rfl,rfl,rfl,OW.one ?_⟩|refine oWs rfl rfl rfl ?_ ?_|refine vwB ?_|refine vwS ?_|refine vwI ?_|refine fwB ?_|refine fwS ?_|refine fwI ?_|(refine aIm ?_;first|exact AllSc.nil|assumption))))
end Go.Proofs.YtjeffognhcbiaaaDoor

namespace Go.Proofs.YtjeffognhcbiaaaDoor
open Go Go.RowKit
inductive FC (o : Nat) (els : List (List Cell)) : Cell → Cell → Prop
  | same (c : Cell) : FC o els c c
  | ref (n : Nat) : n = els.length → FC o els (.ref o 0 n) (.sl els)
  | pre (n : Nat) : n ≤ els.length → FC o els (.ref o 0 n) (.sl (els.take n))
inductive FA (o : Nat) (els : List (List Cell)) : AVal → AVal → Prop
  | same (x : AVal) : FA o els x x
  | ref (n : Nat) : n = els.length → FA o els (.c (.ref o 0 n)) (.c (.sl els))
theorem at_ltF {α : Type} {l : List α} {k : Nat} (h : k < l.length) : ∃ x, l[k]? = some x := ⟨l[k], List.getElem?_eq_getElem h⟩
theorem All2.refl {α : Type} {R : α → α → Prop} (h : ∀ a, R a a) : ∀ l : List α, All2 R l l
  | [] => .nil
  | a :: l => .cons (h a) (All2.refl h l)
def alive (m o : Nat) (s : AS) : Prop := ∀ q, q < m → q ≠ o ∧ ∃ x, s.obj q = some x
theorem v6 {o : Nat} {s : AS} : alive 0 o s := fun q h => absurd h (Nat.not_lt_zero q)
theorem Rel.frz {E : Env} {I : Nat → Prop} {s s' : AS} {β : Nat → Option BI} {a : Act} {w : World} (hr : Rel E (x4 s) I s β a w) {o : Nat} {obj : AObj} (ho : s.obj o = some obj) (hm : alive E.m o s)
    (hi : ∀ x ∈ obj.els, ∀ c ∈ x, Imm c) (hnx : s'.nx = s.nx) (ht : ∀ t, FA o obj.els (s.get t) (s'.get t))
    (hob : ∀ q x', s'.obj q = some x' → q ≠ o ∧ ∃ x, s.obj q = some x ∧ x.ty = x'.ty ∧ x.sz = x'.sz ∧ All2 (All2 (FC o obj.els)) x.els x'.els) : ∃ I', Rel E (x4 s') I' s' β a w := by
  obtain ⟨B, hB, e2, e3, e4⟩ := hr.obs o obj ho
  have hmu : ∀ b, B.blk = some b → ¬ E.mu b := by
    intro b hb hmu
    obtain ⟨q, B', hq, h1, h2⟩ := E.dis.2 b hmu
    obtain ⟨hqo, x, hx⟩ := hm q hq
    exact hr.inj q o x obj B' B b hx ho hqo (by rw [hr.ext q hq]; exact h1) hB h2 hb
  let I' : Nat → Prop := fun b => I b ∨ B.blk = some b
  have hI : ∀ b, I b → I' b := fun b h => .inl h
  have hpr : ∀ n, n ≤ obj.els.length → ∀ v, Rep I β w (.ref o 0 n) v → RepI I' w (.sl (obj.els.take n)) v := by
    intro n hn v hv
    cases hv with
    | imm h => cases h
    | refE _ _ A cap h => exact absurd rfl h
    | ref0 _ sz C h =>
      rw [hB] at h
      obtain rfl : B = ⟨none, sz, C⟩ := Option.some.inj h
      rw [e3 rfl, List.take_nil]
      exact .sl0 none 0
    | ref _ _ _ b sz cap C h1 h2 h3 =>
      rw [hB] at h1
      obtain rfl : B = ⟨some b, sz, C⟩ := Option.some.inj h1
      obtain ⟨k0, k1, k2, arr, k3, k4, k5, k6, k7⟩ := e4 b rfl
      simp only at k0
      subst k0
      have hex : ∀ (i j : Nat), ∃ u, ∀ x c, obj.els[i]? = some x → x[j]? = some c → w.cell? ⟨b, 0 * obj.sz + i * obj.sz + j, none⟩ = some u ∧ RepI I' w c u := by
        intro i j
        cases hx : obj.els[i]? with
        | none => exact ⟨undef, fun x c h => by cases h⟩
        | some x =>
          cases hc : x[j]? with
          | none => exact ⟨undef, fun x' c h h' => by cases h; rw [hc] at h'; cases h'⟩
          | some c =>
            obtain ⟨u, hu, hru⟩ := k7 i j x c hx hc
            refine ⟨u, fun x' c' h h' => ?_⟩
            cases h; rw [hc] at h'; cases h'
            refine ⟨?_, (hi x (List.mem_of_getElem? hx) c (List.mem_of_getElem? hc) _ _ _ _ hru).mono hI (fun _ _ => rfl)⟩
            rw [cell_of_row w b _ arr _ _ k3, Nat.zero_mul, Nat.zero_add]; exact hu
      have htk : ∀ {i : Nat} {x : List Cell}, (obj.els.take n)[i]? = some x → obj.els[i]? = some x := fun {i x} h => by
        rw [List.getElem?_take] at h
        split at h
        · exact h
        · cases h
      refine .sl (obj.els.take n) b (0 * obj.sz) obj.sz n cap (fun i j => Classical.choose (hex i j)) (by rw [List.length_take]; omega) h2 (fun x hx => e2 x (List.mem_of_mem_take hx)) (.inr rfl) (fun i j x c hx hc => (Classical.choose_spec (hex i j) x c (htk hx) hc).1) (fun i j x c hx hc => (Classical.choose_spec (hex i j) x c (htk hx) hc).2)
  have hsl : ∀ n, n = obj.els.length → ∀ v, Rep I β w (.ref o 0 n) v → RepI I' w (.sl obj.els) v := fun n hn v hv => by
    have h := hpr n (by omega) v hv
    rwa [List.take_of_length_le (by omega)] at h
  have hmono : ∀ {c v}, Rep I β w c v → Rep I' β w c v := fun h => h.mono (Ext.refl _) hI (fun _ _ => rfl)
  have hfc : ∀ {c c'}, FC o obj.els c c' → ∀ v, Rep I β w c v → Rep I' β w c' v := by
    intro c c' h v hv
    cases h with
    | same => exact hmono hv
    | ref n hn => exact .imm (hsl n hn v hv)
    | pre n hn => exact .imm (hpr n hn v hv)
  refine ⟨I', ⟨fun t => ?_, hr.siz, hr.dfr, fun q x' hx' => ?_, fun q q' x1 x2 B1 B2 b h1 h2 hne => ?_, fun q B h => ?_, hr.old, fun b hb => ?_, fun b hb => ?_, hr.ext⟩⟩
  · have h0 := hr.tms t
    have h1 := ht t
    generalize s.get t = x at h0 h1
    generalize s'.get t = y at h1
    cases h1 with
    | same => exact h0.mono (Ext.refl _) hI (fun _ _ => rfl)
    | ref n hn => exact .imm (hsl n hn _ h0)
  · obtain ⟨hqo, x, hx, t1, t2, t3⟩ := hob q x' hx'
    obtain ⟨Bq, hBq, q2, q3, q4⟩ := hr.obs q x hx
    have hlen : x'.els.length = x.els.length := t3.length
    refine ⟨Bq, hBq, fun y hy => ?_, fun hn => ?_, fun b hb => ?_⟩
    · obtain ⟨i, hy⟩ := List.getElem?_of_mem hy
      obtain ⟨y0, hy0⟩ := at_ltF (show i < x.els.length by rw [← hlen]; exact (List.getElem?_eq_some_iff.1 hy).1)
      obtain ⟨y1, h1, h2⟩ := t3.at hy0
      rw [hy] at h1; cases h1
      rw [h2.length, ← t2]
      exact q2 _ (List.mem_of_getElem? hy0)
    · have := q3 hn
      rw [this] at hlen
      exact List.length_eq_zero_iff.1 hlen
    · obtain ⟨k0, k1, k2, arr, k3, k4, k5, k6, k7⟩ := q4 b hb
      refine ⟨k0.trans t2, k1, fun h => ?_, arr, by rw [← t1]; exact k3, by rw [← t2, hlen]; exact k4, by rw [hlen]; exact k5, k6, fun i j y c hy hc => ?_⟩
      · rcases h with h | h
        · exact k2 h
        · exact hr.inj q o x obj Bq B b hx ho hqo hBq hB hb h
      · obtain ⟨y0, hy0⟩ := at_ltF (show i < x.els.length by rw [← hlen]; exact (List.getElem?_eq_some_iff.1 hy).1)
        obtain ⟨y1, h1, h2⟩ := t3.at hy0
        rw [hy] at h1; cases h1
        obtain ⟨c0, hc0⟩ := at_ltF (show j < y0.length by rw [← h2.length]; exact (List.getElem?_eq_some_iff.1 hc).1)
        obtain ⟨c1, h3, h4⟩ := h2.at hc0
        rw [hc] at h3; cases h3
        obtain ⟨u, hu, hru⟩ := k7 i j y0 c0 hy0 hc0
        exact ⟨u, by rw [← t2]; exact hu, hfc h4 u hru⟩
  · obtain ⟨_, y1, hy1, _⟩ := hob q x1 h1
    obtain ⟨_, y2, hy2, _⟩ := hob q' x2 h2
    exact hr.inj q q' y1 y2 B1 B2 b hy1 hy2 hne
  · have := hr.nam q B h
    simpa [x4, hnx] using this
  · rcases hb with h | h
    · exact hr.imm b h
    · exact ((hr.obs o obj ho).lt hB h).1
  · refine ⟨fun h => ?_, fun h => .inl ((hr.gro b hb).2 h)⟩
    rcases h with h | h
    · exact (hr.gro b hb).1 h
    · obtain ⟨_, k1, _⟩ := e4 b h
      rcases k1 with k1 | k1
      · exact absurd k1 (hmu b h)
      · omega
theorem AWp.frz {P : Program} {E : Env} {c : Code} {K : Exit → AS → Prop} {tm : List (Nat × AVal)} {ob : List (Nat × Option AObj)} {nx : Nat} (t o : Nat) {obj : AObj} {n : Nat} (hm : alive E.m o ⟨tm, ob, nx⟩) (ho : (AS.mk tm ob nx).obj o = some obj) (hg : (AS.mk tm ob nx).get t = .c (.ref o 0 n)) (hn : n = obj.els.length)
    (hi : ∀ x ∈ obj.els, ∀ c ∈ x, Imm c) (h : AWp P E c K ⟨(t, .c (.sl obj.els)) :: tm, (o, none) :: ob, nx⟩) : AWp P E c K ⟨tm, ob, nx⟩ := by
  refine AWp.weaken (fun E' I β a w hE hr => ?_) h
  have ht : ∀ k, FA o obj.els ((AS.mk tm ob nx).get k) ((AS.mk ((t, AVal.c (.sl obj.els)) :: tm) ((o, none) :: ob) nx).get k) := fun k => by
    by_cases e : k = t
    · subst e
      rw [hg, show (AS.mk ((k, AVal.c (.sl obj.els)) :: tm) ((o, none) :: ob) nx).get k = .c (.sl obj.els) by simp [AS.get, lk_cons]]
      exact .ref n hn
    · rw [show (AS.mk ((t, AVal.c (.sl obj.els)) :: tm) ((o, none) :: ob) nx).get k = (AS.mk tm ob nx).get k by simp [AS.get, lk_cons, e]]
      exact .same _
  have hob : ∀ q x', (AS.mk ((t, AVal.c (.sl obj.els)) :: tm) ((o, none) :: ob) nx).obj q = some x' → q ≠ o ∧ ∃ x, (AS.mk tm ob nx).obj q = some x ∧ x.ty = x'.ty ∧ x.sz = x'.sz ∧ All2 (All2 (FC o obj.els)) x.els x'.els := fun q x' hx' => by
    by_cases e : q = o
    · subst e
      simp [AS.obj, lk_cons] at hx'
    · have : (AS.mk tm ob nx).obj q = some x' := by simpa [AS.obj, lk_cons, e] using hx'
      exact ⟨e, x', this, rfl, rfl, All2.refl (fun l => All2.refl (fun c => .same c) l) _⟩
  obtain ⟨I', hr'⟩ := Rel.frz (s' := ⟨(t, .c (.sl obj.els)) :: tm, (o, none) :: ob, nx⟩) hr ho (by rw [hE]; exact hm) hi rfl ht hob
  exact ⟨I', β, hr'⟩
theorem Weak.frz {m : Nat} {tm : List (Nat × AVal)} {ob : List (Nat × Option AObj)} {nx : Nat} {s' : AS} (o p : Nat) {obj out out' : AObj} (hm : alive m o ⟨tm, ob, nx⟩) (ho : (AS.mk tm ob nx).obj o = some obj) (hp : (AS.mk tm ob nx).obj p = some out) (hop : Nat.beq p o = false)
    (hi : ∀ x ∈ obj.els, ∀ c ∈ x, Imm c) (hty : out.ty = out'.ty) (hsz : out.sz = out'.sz) (hc : All2 (All2 (FC o obj.els)) out.els out'.els) (h : Weak m ⟨tm, (o, none) :: (p, some out') :: ob, nx⟩ s') : Weak m ⟨tm, ob, nx⟩ s' := by
  intro E I β a w hE hr
  have hob : ∀ q x', (AS.mk tm ((o, none) :: (p, some out') :: ob) nx).obj q = some x' → q ≠ o ∧ ∃ x, (AS.mk tm ob nx).obj q = some x ∧ x.ty = x'.ty ∧ x.sz = x'.sz ∧ All2 (All2 (FC o obj.els)) x.els x'.els := fun q x' hx' => by
    by_cases e : q = o
    · subst e
      simp [AS.obj, lk_cons] at hx'
    · refine ⟨e, ?_⟩
      by_cases e2 : q = p
      · subst e2
        obtain rfl : out' = x' := by simpa [AS.obj, lk_cons, e] using hx'
        exact ⟨out, hp, hty, hsz, hc⟩
      · have : (AS.mk tm ob nx).obj q = some x' := by simpa [AS.obj, lk_cons, e, e2] using hx'
        exact ⟨x', this, rfl, rfl, All2.refl (fun l => All2.refl (fun c => .same c) l) _⟩
  obtain ⟨I', hr'⟩ := Rel.frz (s' := ⟨tm, (o, none) :: (p, some out') :: ob, nx⟩) hr ho (by rw [hE]; exact hm) hi rfl (fun k => .same _) hob
  exact h E I' β a w hE hr'
theorem Weak.trans {m : Nat} {s s' s'' : AS} (h : Weak m s s') (k : Weak m s' s'') : Weak m s s'' := fun E I β a w hE hr =>
  let ⟨I', β', hr'⟩ := h E I β a w hE hr
  k E I' β' a w hE hr'
end Go.Proofs.YtjeffognhcbiaaaDoor

namespace Go.Proofs.YtjeffognhcbiaaaDoor
open Go Go.RowKit
section
variable {P : Program} {E : Env} {ops : Array Oper} {K : AS → Prop} {draw : Bool}
variable {r : List Oper} {acc : List (Upd × Foot)} {tm : List (Nat × AVal)} {ob : List (Nat × Option AObj)} {nx d ty : Nat} {pos : String} {aft : Array Edge} {g : Option (Nat × Bool)} {x y : Operand} {t t' : Nat} {a b m : Nat}
end
end Go.Proofs.YtjeffognhcbiaaaDoor
