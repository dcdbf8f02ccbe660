/- rBig and rInts of package laws; the cursor at the start. -/
import Derived.Test.YtchpdclknbmdoaaGreatDoorCur2
namespace Go.Proofs.YtchpdclknbmdoaaGreatDoor
open Go Go.RowKit
def c00 : Cur := ⟨0, 0⟩
theorem rBig_pf (code : List UInt8) (hl : code.length ≤ 9223372036854775807) :
    PF Tryz.prog 19 [.c (.sl (code.map vE))] [] (.c (boo (decide (65536 < (code.length : Int))))) := by
  have hL : (code.map vE).length = code.length := List.length_map _
  refine PF.enter (xI _) Tryz.func19 rfl (by kernel_rfl) _ _ rfl rfl rfl (fun w0 mu I0 β0 gi dis => ?_)
  (repeat' (first|(apply xW;((exact Want.none_ rfl)))|(apply xF zK;exact rfl;exact rfl)|apply zV|apply AWp.Q|apply zJ|apply AWp.G|apply AWp.R))
  rw [hL]
  (((refine z6 _ [] (.cons (zT rfl) .nil) ?_ rfl ?_)) <;> (repeat' (first|exact trivial|exact rfl)))
theorem rInts_pf (l : List Int) (hl : l.length ≤ 4000000) : PF Tryz.prog 23 [.c (.sl (l.map y4)), .c (.sl (l.map y4))] [] (.c (boo true)) := by
  refine PF.enter (x5 _ _) Tryz.func23 rfl (by kernel_rfl) _ _ rfl rfl rfl (fun w0 mu I0 β0 gi dis => ?_)
  have hL : (l.map y4).length = l.length := List.length_map _
  (repeat' (first|(apply xW;((exact Want.none_ rfl)))|(apply xF zK;exact rfl;exact rfl)|apply zV|apply AWp.Q|apply zJ|apply AWp.G|apply AWp.B|apply AWp.J|(((refine AWp.C rfl ?_ ?_))<;>intro hp<;>try (exfalso;omega))))
  refine AWp.U (σ := Nat) (fun k => ⟨[(0, .c (.sl (l.map y4))), (1, .c (.sl (l.map y4))), (5, .c (int k))], [], 0⟩) (fun k => k ≤ l.length) (fun k => l.length - k) 0 (Nat.zero_le _) ?_ ?_
  · refine Weak.of [] rfl ?_ ?_ <;> (repeat' (first|exact trivial|exact rfl|apply And.intro))
  · rintro k hk
    by_cases hlt : k < l.length
    · obtain ⟨c, hc⟩ := xX hlt
      have hc' : (l.map y4)[k]? = some (y4 c) := xZ hc
      have hlt' : (k : Int) < ((l.map y4).length : Int) := by omega
      (repeat' (first|(apply xW;((exact Want.none_ rfl)))|(apply xF zK;exact rfl;exact rfl)|((first|apply yF|(apply yJ;exact rfl;exact rfl))<;>(first|exact zK|exact Nat.zero_add _|exact rfl|refine yO ?_|assumption|omega))|apply zV|(refine yN ?_ ?_;kernel_rfl)|apply AWp.Q|apply zJ|apply AWp.G|apply AWp.B|apply AWp.J|apply zL|(refine AWp.D ?_ ?_;kernel_rfl)|(apply AWp.T;exact rfl;((exact dT ‹_›)))|(((refine AWp.C rfl ?_ ?_))<;>intro hp<;>try (exfalso;omega))))
      all_goals first | (exfalso; simp at *; done) | skip
      refine ⟨k + 1, by omega, by omega, ?_⟩
      refine Weak.of [] rfl ?_ ?_ <;> (repeat' (first|exact trivial|exact rfl|apply And.intro))
    · have hlt' : ¬ (k : Int) < ((l.map y4).length : Int) := by omega
      (repeat (first|(apply xW;((exact Want.none_ rfl)))|(apply xF zK;exact rfl;exact rfl)|apply zV|apply AWp.Q|apply zJ|apply AWp.G|apply AWp.X|apply AWp.R|apply zU|apply zR|(apply AWp.F;exact rfl;((exact dF ‹_›)))))
      (((refine z6 _ [] (.cons (zT rfl) .nil) ?_ rfl ?_)) <;> (repeat' (first|exact trivial|exact rfl)))
end Go.Proofs.YtchpdclknbmdoaaGreatDoor
