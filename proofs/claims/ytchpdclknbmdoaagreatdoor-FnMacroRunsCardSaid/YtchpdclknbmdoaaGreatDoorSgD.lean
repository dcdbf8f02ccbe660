/- Pieces compared; IsSegmentation and CountUntranslated of impl. -/
import Derived.Test.YtchpdclknbmdoaaGreatDoorCmpS
import Derived.Test.YtchpdclknbmdoaaGreatDoorSgC
namespace Go.Proofs.YtchpdclknbmdoaaGreatDoor
open Go Go.RowKit
def neQ (a b : Pc) : Bool := !(a.f == b.f && (a.n == b.n && a.t == b.t))
theorem neQ_self (a : Pc) : neQ a a = false := by simp [neQ]
def kM (c : Pc) : List Value := [.int .i64 c.f, .int .i64 c.n, .string ⟨⟨c.t⟩⟩]
theorem neQ_run (a b : Pc) (x y : Operand) (w : World) : ((do eqGuard .neq 55 x y (.agg (kM a).toArray) (.agg (kM b).toArray); binOp .neq 55 (.agg (kM a).toArray) (.agg (kM b).toArray) : Sem Value)).run Tryz.prog w = .ok (.bool (neQ a b)) w := by
  rw [Sem.run_bind, run_eqGuard_agg w _ _ _ _ _ _ (by kernel_rfl)]
  simp only [Result.andThen]
  rw [run_neq_struct, run_equalIn_agg w 9999 _ _ _ (by rw [Program.fieldsOf, Tryz.underlying55]) (by kernel_rfl)]
  simp only [Program.fieldsOf, Tryz.underlying55, Op.eqFields]
  have pk3 : ∀ (c : Pc) (w : World), (part 3 (kM c).toArray 0).run Tryz.prog w = .ok (.int .i64 c.f) w := fun c w => run_part_plain w (by kernel_rfl) rfl
  have pk4 : ∀ (c : Pc) (w : World), (part 3 (kM c).toArray 1).run Tryz.prog w = .ok (.int .i64 c.n) w := fun c w => run_part_plain w (by kernel_rfl) rfl
  have pk9 : ∀ (c : Pc) (w : World), (part 9 (kM c).toArray 2).run Tryz.prog w = .ok (.string ⟨⟨c.t⟩⟩) w := fun c w => run_part_plain w (by kernel_rfl) rfl
  have e9 := run_equalIn_string (P := Tryz.prog) w 9998 9 ⟨⟨a.t⟩⟩ ⟨⟨b.t⟩⟩ Tryz.underlying9
  have e3 := run_equalIn_int (P := Tryz.prog) w 9998 3 .i64 .i64 a.f b.f Tryz.underlying3
  have e4 := run_equalIn_int (P := Tryz.prog) w 9998 3 .i64 .i64 a.n b.n Tryz.underlying3
  rw [show ((⟨⟨a.t⟩⟩ : ByteArray).toList == (⟨⟨b.t⟩⟩ : ByteArray).toList) = (a.t == b.t) by rw [ByteArray.toList_eq, ByteArray.toList_eq]] at e9
  simp only [ne_eq, String.reduceEq, not_false_eq_true, if_true, Sem.run_bind, pk9, pk3, pk4, Result.andThen_ok, e9, e3, e4, neQ]
  cases h1 : a.f == b.f <;> cases h2 : a.n == b.n <;> cases h3 : a.t == b.t <;> rw [h2] at e4 <;> rw [h3] at e9 <;> simp [pk3, pk4, pk9, e3, e4, e9]
end Go.Proofs.YtchpdclknbmdoaaGreatDoor
