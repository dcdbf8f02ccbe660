/- Pieces compared; IsSegmentation and CountUntranslated of impl. -/
import Derived.Test.YtchpdclknbmdoaaGreatDoorCmpS
import Derived.Test.YtchpdclknbmdoaaGreatDoorSgC
namespace Go.Proofs.YtchpdclknbmdoaaGreatDoor
open Go Go.RowKit
def neQ (a b : Pc) : Bool := !(a.f == b.f && (a.n == b.n && a.t == b.t))
theorem neQ_self (a : Pc) : neQ a a = false := by simp [neQ]
def kU (c : Pc) : List Value := [.int .i64 c.f, .int .i64 c.n, .string ⟨⟨c.t⟩⟩]
theorem neQ_run (a b : Pc) (x y : Operand) (w : World) : ((do eqGuard .neq 55 x y (.agg (kU a).toArray) (.agg (kU b).toArray); binOp .neq 55 (.agg (kU a).toArray) (.agg (kU b).toArray) : Sem Value)).run Tryz.prog w = .ok (.bool (neQ a b)) w := by
  rw [Sem.run_bind, run_eqGuard_agg w _ _ _ _ _ _ (by kernel_rfl)]
  simp only [Result.andThen]
  rw [run_neq_struct, run_equalIn_agg w 9999 _ _ _ (by rw [Program.fieldsOf, Tryz.underlying55]) (by kernel_rfl)]
  simp only [Program.fieldsOf, Tryz.underlying55, Op.eqFields]
  have pk3 : ∀ (c : Pc) (w : World), (part 3 (kU c).toArray 0).run Tryz.prog w = .ok (.int .i64 c.f) w := fun c w => run_part_plain w (by kernel_rfl) rfl
  have pk4 : ∀ (c : Pc) (w : World), (part 3 (kU c).toArray 1).run Tryz.prog w = .ok (.int .i64 c.n) w := fun c w => run_part_plain w (by kernel_rfl) rfl
  have pk9 : ∀ (c : Pc) (w : World), (part 9 (kU c).toArray 2).run Tryz.prog w = .ok (.string ⟨⟨c.t⟩⟩) w := fun c w => run_part_plain w (by kernel_rfl) rfl
  have e9 := run_equalIn_string (P := Tryz.prog) w 9998 9 ⟨⟨a.t⟩⟩ ⟨⟨b.t⟩⟩ Tryz.underlying9
  have e3 := run_equalIn_int (P := Tryz.prog) w 9998 3 .i64 .i64 a.f b.f Tryz.underlying3
  have e4 := run_equalIn_int (P := Tryz.prog) w 9998 3 .i64 .i64 a.n b.n Tryz.underlying3
  rw [show ((⟨⟨a.t⟩⟩ : ByteArray).toList == (⟨⟨b.t⟩⟩ : ByteArray).toList) = (a.t == b.t) by rw [ByteArray.toList_eq, ByteArray.toList_eq]] at e9
  simp only [ne_eq, String.reduceEq, not_false_eq_true, if_true, Sem.run_bind, pk9, pk3, pk4, Result.andThen_ok, e9, e3, e4, neQ]
  cases h1 : a.f == b.f <;> cases h2 : a.n == b.n <;> cases h3 : a.t == b.t <;> rw [h2] at e4 <;> rw [h3] at e9 <;> simp [pk3, pk4, pk9, e3, e4, e9]
theorem vPieces_pf (l : List Pc) (hl : l.length ≤ 4000000) : PF Tryz.prog 17 [.c (.sl (l.map xQ)), .c (.sl (l.map xQ))] [] (.c (boo true)) := by
  have hL : (l.map xQ).length = l.length := List.length_map _
  refine PF.enter (xX _ _) Tryz.func17 rfl (by kernel_rfl) _ _ rfl rfl rfl (fun w0 mu I0 β0 gi dis => ?_)
  (repeat' (first|(apply xW;((exact Want.none_ rfl)))|(apply xF zI;exact rfl;exact rfl)|apply zS|apply AWp.Q|apply zH|apply AWp.G|apply AWp.B|apply AWp.J|(((refine AWp.C rfl ?_ ?_))<;>intro hp<;>try (exfalso;omega))))
  all_goals first | (exfalso; simp at *; done) | skip
  refine AWp.U (σ := Nat) (fun k => ⟨[(0, .c (.sl (l.map xQ))), (1, .c (.sl (l.map xQ))), (5, .c (int k))], [], 0⟩) (fun k => k ≤ l.length) (fun k => l.length - k) 0 (Nat.zero_le _) ?_ ?_
  · refine Weak.of [] rfl ?_ ?_ <;> (repeat' (first|exact trivial|exact rfl|apply And.intro))
  · rintro k hk
    by_cases hlt : k < l.length
    · obtain ⟨c, hc⟩ := xY hlt
      have hc' : (l.map xQ)[k]? = some (xQ c) := xS hc
      have hlt' : (k : Int) < ((l.map xQ).length : Int) := by omega
      (repeat' (first|(apply xW;((exact Want.none_ rfl)))|(apply xF zI;exact rfl;exact rfl)|(((apply yC;exact rfl;exact rfl))<;>(first|exact zI|exact rfl|refine yI ?_|assumption))|apply zS|apply AWp.Q|apply zH|apply AWp.G|apply AWp.B|apply AWp.J|(refine AWp.D ?_ ?_;kernel_rfl)|(apply AWp.T;exact rfl;((exact dT ‹_›)))))
      apply (rx_cmpA (neQ_run c c _ _))
      iterate 5 exact rfl
      rw [neQ_self]
      (repeat' (first|(apply xW;((exact Want.none_ rfl)))|(apply xF zI;exact rfl;exact rfl)|(((apply z8))<;>(first|exact rfl|refine yI ?_|omega))|apply zS|(refine yN ?_ ?_;kernel_rfl)|apply zH|apply AWp.G|apply AWp.J|apply zJ|(apply AWp.F;exact rfl;((exact rfl)))))
      refine ⟨k + 1, by omega, by omega, ?_⟩
      refine Weak.of [] rfl ?_ ?_ <;> (repeat' (first|exact trivial|exact rfl|apply And.intro))
    · have hlt' : ¬ (k : Int) < ((l.map xQ).length : Int) := by omega
      (repeat' (first|(apply xW;((exact Want.none_ rfl)))|(apply xF zI;exact rfl;exact rfl)|apply zS|apply AWp.Q|apply zH|apply AWp.G|apply AWp.X|apply AWp.R|apply zR|apply zO|(apply AWp.F;exact rfl;((exact dF ‹_›)))))
      (((refine zX _ [] (.cons (zP rfl) .nil) ?_ rfl ?_)) <;> (repeat' (first|exact trivial|exact rfl)))
theorem implIsSegY_pf (es : List Ent) (l : List Int) (ps : List Pc) (hb : wX es) (hl : l.length ≤ 1000000) (hp : ps.length ≤ 1000000) (h : mchOk es l = true) : PF Tryz.prog 15 [.agg (x3 es), .c (.sl (l.map yU)), .c (.sl (ps.map xQ))] [] (.tup [.c (boo (isSg es l 0 ps)), .c (boo true)]) := by
  have h1 := isMatched_pf es l hb hl
  rw [h] at h1
  have h2 := implIsSeg_pf es l ps hb hl hp
  refine PF.enter (vE _ _ _) Tryz.func15 rfl (by kernel_rfl) _ _ rfl rfl rfl (fun w0 mu I0 β0 gi dis => ?_)
  (repeat' (first|(apply xW;((exact Want.none_ rfl)))|(apply xF zI;exact rfl;exact rfl)|apply zS|apply AWp.Q|apply zH|apply AWp.G|apply AWp.J|apply AWp.R|(apply AWp.F;exact rfl;((exact rfl)))|(apply yD;(iterate 6 exact rfl);(iterate 2 (focus (repeat (first|exact VAs.nil|apply VAs.cons|apply VA.c|apply VA.agg|exact VCs.nil|apply VCs.cons|exact VC.imm (Imm.sl _)))));(first|exact h1|exact h2);(focus (repeat ((exact Flat.v _))));((apply yM));((exact xE _ _)))))
  (((refine zX _ [] (.cons (zP rfl) (.cons (zP rfl) .nil)) ?_ rfl ?_)) <;> (repeat' (first|exact trivial|exact rfl|apply And.intro)))
end Go.Proofs.YtchpdclknbmdoaaGreatDoor
