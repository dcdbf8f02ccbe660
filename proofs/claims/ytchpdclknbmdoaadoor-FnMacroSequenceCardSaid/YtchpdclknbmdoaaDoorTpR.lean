/- rTape of package laws. No conditions but bounds. -/
import Derived.Test.YtchpdclknbmdoaaDoorTpA
import Derived.Test.YtchpdclknbmdoaaDoorCmpS
import Derived.ChangeKeysEq
namespace Go.Proofs.YtchpdclknbmdoaaDoor
open Go Go.RowKit
def neI (a b : Itm) : Bool := !(a.s == b.s && a.b == b.b)
theorem neI_self (a : Itm) : neI a a = false := by simp [neI]
def kW (c : Itm) : List Value := [.int .i64 c.s, .bool c.b]
theorem neI_run (a b : Itm) (x y : Operand) (w : World) : ((do eqGuard .neq 76 x y (.agg (kW a).toArray) (.agg (kW b).toArray); binOp .neq 76 (.agg (kW a).toArray) (.agg (kW b).toArray) : Sem Value)).run Tryd.prog w = .ok (.bool (neI a b)) w := by
  rw [Sem.run_bind, run_eqGuard_agg w _ _ _ _ _ _ (by kernel_rfl)]
  simp only [Result.andThen]
  rw [run_neq_struct, run_equalIn_agg w 9999 _ _ _ (by rw [Program.fieldsOf, Tryd.underlying76]) (by kernel_rfl)]
  simp only [Program.fieldsOf, Tryd.underlying76, Op.eqFields]
  have pk3 : ∀ (c : Itm) (w : World), (part 3 (kW c).toArray 0).run Tryd.prog w = .ok (.int .i64 c.s) w := fun c w => run_part_plain w (by kernel_rfl) rfl
  have pk4 : ∀ (c : Itm) (w : World), (part 4 (kW c).toArray 1).run Tryd.prog w = .ok (.bool c.b) w := fun c w => run_part_plain w (by kernel_rfl) rfl
  have e3 := run_equalIn_int (P := Tryd.prog) w 9998 3 .i64 .i64 a.s b.s Tryd.underlying3
  have e4 := run_equalIn_bool (P := Tryd.prog) w 9998 4 a.b b.b Tryd.underlying4
  simp only [ne_eq, String.reduceEq, not_false_eq_true, if_true, Sem.run_bind, pk3, pk4, Result.andThen_ok, e3, e4, neI]
  cases h2 : a.s == b.s <;> cases h3 : a.b == b.b <;> rw [h2] at e3 <;> rw [h3] at e4 <;> simp [pk3, pk4, e3, e4]
set_option maxRecDepth 8000 in
theorem rTape_pf (t : List Itm) (hb : wX t) : PF Tryd.prog 19 [.agg (y9 t), .agg (y9 t)] [] (.c (boo true)) := by
  have hb' : t.length ≤ 4000000 := hb
  have hL : (t.map yI).length = t.length := List.length_map _
  refine PF.enter (xY _ _) Tryd.func19 rfl (by kernel_rfl) _ _ rfl rfl rfl (fun w0 mu I0 β0 gi dis => ?_)
  (repeat' (first|(apply xW;(first|exact Want.none_ rfl|(refine yA rfl rfl rfl rfl ?_;(first|assumption|exact dT ‹_›|exact dF ‹_›|exact rfl))))|(apply xF zH;exact rfl;exact rfl)|((first|(apply z6;exact rfl;exact rfl)|apply z7|(apply z8;exact rfl;exact rfl)|apply zU|(apply zV;exact rfl;exact rfl;exact zH;exact rfl;exact rfl)|apply zN|apply zZ)<;>(first|exact zH|exact Nat.zero_add _|exact rfl|refine yN ?_|assumption|omega|exact ⟨rfl⟩|exact ⟨rfl,_,_,rfl,rfl⟩|exact lb rfl|(refine Bd.mk ?_;first|assumption|omega|(focus (simp;done))|(simp;omega)|decide)|(focus (simp;done))|(simp;omega)|(simp only [lA,lB,lC,lD,lE];omega)))|apply zS|(refine yQ ?_ ?_;kernel_rfl)|apply AWp.Q|apply zG|apply AWp.G|apply AWp.B|apply AWp.J|apply AWp.X|apply AWp.R|apply zO|apply zJ|apply zI|apply zL|apply zM|(refine AWp.D ?_ ?_;kernel_rfl)|(refine zK rfl ?_)|(apply AWp.T;exact rfl;(first|assumption|exact dT ‹_›|exact dF ‹_›|exact rfl))|(apply AWp.F;exact rfl;(first|assumption|exact dT ‹_›|exact dF ‹_›|exact rfl))|((first|refine AWp.C rfl ?_ ?_|refine AWp.O _ rfl ?_ ?_)<;>intro hp<;>(try (exfalso;omega)))))
  refine AWp.U (σ := Nat) (fun k => ⟨[(2, .c (.ptr 0 0 0)), (3, .c (.ptr 1 0 0)), (5, .c (int k))], [(0, some ⟨24, 1, [y9 t]⟩), (1, some ⟨24, 1, [y9 t]⟩)], 2⟩) (fun k => k ≤ t.length) (fun k => t.length - k) 0 (Nat.zero_le _) ?_ ?_
  · refine Weak.of [(0, some 0), (1, some 1)] rfl ?_ ?_ <;> (repeat' (first|exact trivial|exact rfl|exact Or.inr ⟨rfl,‹_›⟩|exact Or.inl ⟨rfl,trivial⟩|apply And.intro|exact congrArg (Value.int .i64) (by first|omega|(simp;done)|(simp;omega))|(refine yD ?_;first|(focus (simp;done))|omega|(simp only [lA,lB,lC,lD,lE];omega))|(refine ⟨_,rfl,rfl,rfl,OW.one ?_⟩)|(refine ⟨_,rfl,rfl,rfl,OW.same ?_ ?_⟩)|refine vwB ?_|refine vwS ?_|refine vwI ?_|refine fwB ?_|refine fwS ?_|refine fwI ?_|(refine aIm ?_;first|exact AllSc.nil|assumption)))
  · rintro k hk
    by_cases hlt : k < t.length
    · obtain ⟨c, hc⟩ := xR hlt
      have hc' : (t.map yI)[k]? = some (yI c) := x5 hc
      have hlt' : (k : Int) < ((t.map yI).length : Int) := by omega
      (repeat' (first|(apply xW;(first|exact Want.none_ rfl|(refine yA rfl rfl rfl rfl ?_;(first|assumption|exact dT ‹_›|exact dF ‹_›|exact rfl))))|(apply xF zH;exact rfl;exact rfl)|((first|(apply z6;exact rfl;exact rfl)|apply z7|(apply z8;exact rfl;exact rfl)|apply zU|(apply zV;exact rfl;exact rfl;exact zH;exact rfl;exact rfl)|apply zN|apply zZ)<;>(first|exact zH|exact Nat.zero_add _|exact rfl|refine yN ?_|assumption|omega|exact ⟨rfl⟩|exact ⟨rfl,_,_,rfl,rfl⟩|exact lb rfl|(refine Bd.mk ?_;first|assumption|omega|(focus (simp;done))|(simp;omega)|decide)|(focus (simp;done))|(simp;omega)|(simp only [lA,lB,lC,lD,lE];omega)))|apply zS|(refine yQ ?_ ?_;kernel_rfl)|apply AWp.Q|apply zG|apply AWp.G|apply AWp.B|apply AWp.J|apply AWp.X|apply AWp.R|apply zO|apply zJ|apply zI|apply zL|apply zM|(refine AWp.D ?_ ?_;kernel_rfl)|(refine zK rfl ?_)|(apply AWp.T;exact rfl;(first|assumption|exact dT ‹_›|exact dF ‹_›|exact rfl))|(apply AWp.F;exact rfl;(first|assumption|exact dT ‹_›|exact dF ‹_›|exact rfl))|((first|refine AWp.C rfl ?_ ?_|refine AWp.O _ rfl ?_ ?_)<;>intro hp<;>(try (exfalso;omega)))))
      apply (rx_cmpA (neI_run c c _ _))
      iterate 5 exact rfl
      rw [neI_self]
      (repeat' (first|(apply xW;(first|exact Want.none_ rfl|(refine yA rfl rfl rfl rfl ?_;(first|assumption|exact dT ‹_›|exact dF ‹_›|exact rfl))))|(apply xF zH;exact rfl;exact rfl)|((first|(apply z6;exact rfl;exact rfl)|apply z7|(apply z8;exact rfl;exact rfl)|apply zU|(apply zV;exact rfl;exact rfl;exact zH;exact rfl;exact rfl)|apply zN|apply zZ)<;>(first|exact zH|exact Nat.zero_add _|exact rfl|refine yN ?_|assumption|omega|exact ⟨rfl⟩|exact ⟨rfl,_,_,rfl,rfl⟩|exact lb rfl|(refine Bd.mk ?_;first|assumption|omega|(focus (simp;done))|(simp;omega)|decide)|(focus (simp;done))|(simp;omega)|(simp only [lA,lB,lC,lD,lE];omega)))|apply zS|(refine yQ ?_ ?_;kernel_rfl)|apply AWp.Q|apply zG|apply AWp.G|apply AWp.B|apply AWp.J|apply AWp.X|apply AWp.R|apply zO|apply zJ|apply zI|apply zL|apply zM|(refine AWp.D ?_ ?_;kernel_rfl)|(refine zK rfl ?_)|(apply AWp.T;exact rfl;(first|assumption|exact dT ‹_›|exact dF ‹_›|exact rfl))|(apply AWp.F;exact rfl;(first|assumption|exact dT ‹_›|exact dF ‹_›|exact rfl))|((first|refine AWp.C rfl ?_ ?_|refine AWp.O _ rfl ?_ ?_)<;>intro hp<;>(try (exfalso;omega)))))
      refine ⟨k + 1, by omega, by omega, ?_⟩
      refine Weak.of [(0, some 0), (1, some 1)] rfl ?_ ?_ <;> (repeat' (first|exact trivial|exact rfl|exact Or.inr ⟨rfl,‹_›⟩|exact Or.inl ⟨rfl,trivial⟩|apply And.intro|exact congrArg (Value.int .i64) (by first|omega|(simp;done)|(simp;omega))|(refine yD ?_;first|(focus (simp;done))|omega|(simp only [lA,lB,lC,lD,lE];omega))|(refine ⟨_,rfl,rfl,rfl,OW.one ?_⟩)|(refine ⟨_,rfl,rfl,rfl,OW.same ?_ ?_⟩)|refine vwB ?_|refine vwS ?_|refine vwI ?_|refine fwB ?_|refine fwS ?_|refine fwI ?_|(refine aIm ?_;first|exact AllSc.nil|assumption)))
    · have hlt' : ¬ (k : Int) < ((t.map yI).length : Int) := by omega
      (repeat' (first|(apply xW;(first|exact Want.none_ rfl|(refine yA rfl rfl rfl rfl ?_;(first|assumption|exact dT ‹_›|exact dF ‹_›|exact rfl))))|(apply xF zH;exact rfl;exact rfl)|((first|(apply z6;exact rfl;exact rfl)|apply z7|(apply z8;exact rfl;exact rfl)|apply zU|(apply zV;exact rfl;exact rfl;exact zH;exact rfl;exact rfl)|apply zN|apply zZ)<;>(first|exact zH|exact Nat.zero_add _|exact rfl|refine yN ?_|assumption|omega|exact ⟨rfl⟩|exact ⟨rfl,_,_,rfl,rfl⟩|exact lb rfl|(refine Bd.mk ?_;first|assumption|omega|(focus (simp;done))|(simp;omega)|decide)|(focus (simp;done))|(simp;omega)|(simp only [lA,lB,lC,lD,lE];omega)))|apply zS|(refine yQ ?_ ?_;kernel_rfl)|apply AWp.Q|apply zG|apply AWp.G|apply AWp.B|apply AWp.J|apply AWp.X|apply AWp.R|apply zO|apply zJ|apply zI|apply zL|apply zM|(refine AWp.D ?_ ?_;kernel_rfl)|(refine zK rfl ?_)|(apply AWp.T;exact rfl;(first|assumption|exact dT ‹_›|exact dF ‹_›|exact rfl))|(apply AWp.F;exact rfl;(first|assumption|exact dT ‹_›|exact dF ‹_›|exact rfl))|((first|refine AWp.C rfl ?_ ?_|refine AWp.O _ rfl ?_ ?_)<;>intro hp<;>(try (exfalso;omega)))))
      ((first|refine yE _ [] (.cons (zR rfl) .nil) ?_ rfl ?_|refine yF _ [] (.cons (zR rfl) .nil) ?_ rfl ?_) <;> (repeat' (first|exact trivial|exact rfl|exact Or.inr ⟨rfl,‹_›⟩|exact Or.inl ⟨rfl,trivial⟩|apply And.intro|exact congrArg (Value.int .i64) (by first|omega|(simp;done)|(simp;omega))|(refine yD ?_;first|(focus (simp;done))|omega|(simp only [lA,lB,lC,lD,lE];omega))|(refine ⟨_,rfl,rfl,rfl,OW.one ?_⟩)|(refine ⟨_,rfl,rfl,rfl,OW.same ?_ ?_⟩)|refine vwB ?_|refine vwS ?_|refine vwI ?_|refine fwB ?_|refine fwS ?_|refine fwI ?_|(refine aIm ?_;first|exact AllSc.nil|assumption))))
end Go.Proofs.YtchpdclknbmdoaaDoor
