/- Another code for a second draw. No conditions but bounds. -/
import Derived.Test.YtchpdclknbmdoaaDoorRL
namespace Go.Proofs.YtchpdclknbmdoaaDoor
open Go Go.RowKit
theorem u8_of (x : Int) : ∃ b : UInt8, IntKind.u8.wrap x = (b.toNat : Int) := by
  refine ⟨UInt8.ofNat (x % 256).toNat, ?_⟩
  show x % 256 = _
  rw [UInt8.toNat_ofNat']
  omega
theorem u8_xor (x y : Int) : ∃ b : UInt8, bits .xor .u8 x y = (b.toNat : Int) := by
  obtain ⟨b, hb⟩ := u8_of ((BitVec.ofInt 8 x ^^^ BitVec.ofInt 8 y).toNat : Int)
  exact ⟨b, hb⟩
theorem bytes_im (l : List UInt8) : ∀ x ∈ l.map wA, ∀ c ∈ x, Imm c := by
  intro x hx c hc
  obtain ⟨b, _, rfl⟩ := List.mem_map.1 hx
  simp only [wA, List.mem_singleton] at hc
  subst hc
  exact Imm.v _
theorem bytes_sc (l : List UInt8) : AllSc (l.map wA) := by
  intro x hx c hc
  obtain ⟨b, _, rfl⟩ := List.mem_map.1 hx
  simp only [wA, List.mem_singleton] at hc
  subst hc
  exact ⟨Imm.v _, Flat.v _⟩
noncomputable def cutB (x : Int) : UInt8 := Classical.choose (u8_of x)
theorem cutB_is (x : Int) : IntKind.u8.wrap x = ((cutB x).toNat : Int) := Classical.choose_spec (u8_of x)
noncomputable def xorB (x y : Int) : UInt8 := Classical.choose (u8_xor x y)
theorem xorB_is (x y : Int) : bits .xor .u8 x y = ((xorB x y).toNat : Int) := Classical.choose_spec (u8_xor x y)
noncomputable def qZ (code : List UInt8) (k : Nat) : List UInt8 := cutB (37 * (k : Int) + (code.length : Int) % 50) :: (code.drop k).map fun c => xorB c.toNat (IntKind.u8.wrap k)
theorem cutL_len (code : List UInt8) (k : Nat) : (qZ code k).length = 1 + (code.length - k) := by simp [qZ]; omega
set_option maxRecDepth 8000 in
theorem rCut_pf (code : List UInt8) (k : Nat) (hl : code.length ≤ 65536) (hk : k ≤ 100) : PF Tryd.prog 23 [.c (.sl (code.map wA)), .c (int k)] [⟨5, 1, (qZ code k).map wA⟩] (.c (.ref 0 0 (qZ code k).length)) := by
  have hL : (code.map wA).length = code.length := List.length_map _
  have e0 := cutB_is (37 * (k : Int) + (code.length : Int) % 50)
  refine PF.enter (xY _ _) Tryd.func23 rfl (by kernel_rfl) _ _ rfl rfl rfl (fun w0 mu I0 β0 gi dis => ?_)
  (repeat' (first|(apply xW;(first|exact Want.none_ rfl|(refine yA rfl rfl rfl rfl ?_;(first|assumption|exact dT ‹_›|exact dF ‹_›|exact rfl))))|(apply xF zH;exact rfl;exact rfl)|((first|(apply z6;exact rfl;exact rfl)|apply z7|apply wR|apply qR|(apply z8;exact rfl;exact rfl)|apply zU|(apply zV;exact rfl;exact rfl;exact zH;exact rfl;exact rfl)|apply zN|apply zQ|(apply yB;exact rfl;exact rfl)|apply yC)<;>(first|exact zH|exact Nat.zero_add _|exact rfl|refine yN ?_|assumption|omega|exact ⟨rfl⟩|exact ⟨rfl,_,_,rfl,rfl⟩|exact lb rfl|(refine Bd.mk ?_;first|assumption|omega|(focus (simp;done))|(simp;omega)|decide)|exact yO rfl|exact xE ‹_›|(focus (simp;done))|(simp;omega)|(simp only [lA,lB,lC,lD,lE];omega)|exact yK rfl (by first|rfl|(simp;done)|(simp only [lA,lB,lC,lD,lE];omega))|exact yJ rfl (by first|assumption|omega|(simp only [lA,lB,lC,lD,lE];omega))))|apply zS|apply AWp.Q|apply zG|apply AWp.G|apply AWp.B|apply AWp.J|apply AWp.X|apply AWp.R|apply zO|apply zJ|apply zI|apply zL|apply zM|(refine zK rfl ?_)|(apply AWp.T;exact rfl;(first|assumption|exact dT ‹_›|exact dF ‹_›|exact rfl))|(apply AWp.F;exact rfl;(first|assumption|exact dT ‹_›|exact dF ‹_›|exact rfl))|((first|refine AWp.C rfl ?_ ?_|refine AWp.O _ rfl ?_ ?_)<;>intro hp<;>(try (exfalso;omega)))))
  refine AWp.U (σ := Nat) (fun j => ⟨[(0, .c (.sl (code.map wA))), (1, .c (int k)), (5, .c (.ref 0 0 (1 + j))), (6, .c (int (k + j : Nat)))], [(0, some ⟨5, 1, ((qZ code k).take (1 + j)).map wA⟩)], 1⟩) (fun j => j ≤ code.length - k) (fun j => code.length - k - j) 0 (Nat.zero_le _) ?_ ?_
  · refine Weak.of [(0, some 0)] rfl ?_ ?_ <;> (repeat' (first|exact trivial|exact rfl|exact Or.inr ⟨rfl,‹_›⟩|exact Or.inl ⟨rfl,trivial⟩|apply And.intro|exact congrArg (Value.int .i64) (by first|omega|(simp;done)|(simp;omega))|(refine yD ?_;first|(focus (simp;done))|omega|(simp only [lA,lB,lC,lD,lE];omega))|(refine ⟨_,rfl,rfl,rfl,OW.one ?_⟩)|(refine ⟨_,rfl,rfl,rfl,OW.same ?_ ?_⟩)|refine vwB ?_|refine vwS ?_|refine vwI ?_|refine fwB ?_|refine fwS ?_|refine fwI ?_|(refine aIm ?_;first|exact AllSc.nil|assumption)))
    all_goals first
      | exact bytes_im _
      | skip
    rw [hL, e0]
    exact rfl
  · intro j hj
    by_cases hlt : k + j < code.length
    · obtain ⟨c, hc⟩ := xR hlt
      have hc' : (code.map wA)[k + j]? = some (wA c) := x5 hc
      have hlt' : ((k + j : Nat) : Int) < ((code.map wA).length : Int) := by omega
      have hx := xorB_is (c.toNat : Int) (IntKind.u8.wrap (k : Int))
      have hat : (qZ code k)[1 + j]? = some (xorB c.toNat (IntKind.u8.wrap k)) := by
        rw [qZ, Nat.add_comm 1 j, List.getElem?_cons_succ, List.getElem?_map, List.getElem?_drop, hc]; rfl
      have hs := take_succ hat
      have htl : (((qZ code k).take (1 + j)).map wA).length = 1 + j := by
        rw [List.length_map, List.length_take, cutL_len]; omega
      (repeat' (first|(apply xW;(first|exact Want.none_ rfl|(refine yA rfl rfl rfl rfl ?_;(first|assumption|exact dT ‹_›|exact dF ‹_›|exact rfl))))|(apply xF zH;exact rfl;exact rfl)|((first|(apply z6;exact rfl;exact rfl)|apply z7|apply wR|apply qR|(apply z8;exact rfl;exact rfl)|apply zU|(apply zV;exact rfl;exact rfl;exact zH;exact rfl;exact rfl)|apply zN|apply zQ|(apply yB;exact rfl;exact rfl)|apply yC)<;>(first|exact zH|exact Nat.zero_add _|exact rfl|refine yN ?_|assumption|omega|exact ⟨rfl⟩|exact ⟨rfl,_,_,rfl,rfl⟩|exact lb rfl|(refine Bd.mk ?_;first|assumption|omega|(focus (simp;done))|(simp;omega)|decide)|exact yO rfl|exact xE ‹_›|(focus (simp;done))|(simp;omega)|(simp only [lA,lB,lC,lD,lE];omega)|exact yK rfl (by first|rfl|(simp;done)|(simp only [lA,lB,lC,lD,lE];omega))|exact yJ rfl (by first|assumption|omega|(simp only [lA,lB,lC,lD,lE];omega))))|apply zS|apply AWp.Q|apply zG|apply AWp.G|apply AWp.B|apply AWp.J|apply AWp.X|apply AWp.R|apply zO|apply zJ|apply zI|apply zL|apply zM|(refine zK rfl ?_)|(apply AWp.T;exact rfl;(first|assumption|exact dT ‹_›|exact dF ‹_›|exact rfl))|(apply AWp.F;exact rfl;(first|assumption|exact dT ‹_›|exact dF ‹_›|exact rfl))|((first|refine AWp.C rfl ?_ ?_|refine AWp.O _ rfl ?_ ?_)<;>intro hp<;>(try (exfalso;omega)))))
      apply rx_xor
      exact rfl
      exact rfl
      exact rfl
      rw [hx]
      (repeat' (first|(apply xW;(first|exact Want.none_ rfl|(refine yA rfl rfl rfl rfl ?_;(first|assumption|exact dT ‹_›|exact dF ‹_›|exact rfl))))|(apply xF zH;exact rfl;exact rfl)|((first|(apply z6;exact rfl;exact rfl)|apply z7|apply wR|apply qR|(apply z8;exact rfl;exact rfl)|apply zU|(apply zV;exact rfl;exact rfl;exact zH;exact rfl;exact rfl)|apply zN|apply zQ|(apply yB;exact rfl;exact rfl)|apply yC)<;>(first|exact zH|exact Nat.zero_add _|exact rfl|refine yN ?_|assumption|omega|exact ⟨rfl⟩|exact ⟨rfl,_,_,rfl,rfl⟩|exact lb rfl|(refine Bd.mk ?_;first|assumption|omega|(focus (simp;done))|(simp;omega)|decide)|exact yO rfl|exact xE ‹_›|(focus (simp;done))|(simp;omega)|(simp only [lA,lB,lC,lD,lE];omega)|exact yK rfl (by first|rfl|(simp;done)|(simp only [lA,lB,lC,lD,lE];omega))|exact yJ rfl (by first|assumption|omega|(simp only [lA,lB,lC,lD,lE];omega))))|apply zS|apply AWp.Q|apply zG|apply AWp.G|apply AWp.B|apply AWp.J|apply AWp.X|apply AWp.R|apply zO|apply zJ|apply zI|apply zL|apply zM|(refine zK rfl ?_)|(apply AWp.T;exact rfl;(first|assumption|exact dT ‹_›|exact dF ‹_›|exact rfl))|(apply AWp.F;exact rfl;(first|assumption|exact dT ‹_›|exact dF ‹_›|exact rfl))|((first|refine AWp.C rfl ?_ ?_|refine AWp.O _ rfl ?_ ?_)<;>intro hp<;>(try (exfalso;omega)))))
      refine ⟨j + 1, by omega, by omega, ?_⟩
      rw [show 1 + (j + 1) = 1 + j + 1 by omega, hs, List.map_append]
      refine Weak.of [(0, some 2)] rfl ?_ ?_ <;> (repeat' (first|exact trivial|exact rfl|exact Or.inr ⟨rfl,‹_›⟩|exact Or.inl ⟨rfl,trivial⟩|apply And.intro|exact congrArg (Value.int .i64) (by first|omega|(simp;done)|(simp;omega))|(refine yD ?_;first|(focus (simp;done))|omega|(simp only [lA,lB,lC,lD,lE];omega))|(refine ⟨_,rfl,rfl,rfl,OW.one ?_⟩)|(refine ⟨_,rfl,rfl,rfl,OW.same ?_ ?_⟩)|refine vwB ?_|refine vwS ?_|refine vwI ?_|refine fwB ?_|refine fwS ?_|refine fwI ?_|(refine aIm ?_;first|exact AllSc.nil|assumption)))
      all_goals first
        | (rw [← List.map_append]; exact bytes_im _)
        | (rw [htl]; rfl)
        | skip
    · have hlt' : ¬ ((k + j : Nat) : Int) < ((code.map wA).length : Int) := by omega
      have hj' : 1 + j = (qZ code k).length := by rw [cutL_len]; omega
      rw [hj', List.take_of_length_le (Nat.le_refl _)]
      (repeat' (first|(apply xW;(first|exact Want.none_ rfl|(refine yA rfl rfl rfl rfl ?_;(first|assumption|exact dT ‹_›|exact dF ‹_›|exact rfl))))|(apply xF zH;exact rfl;exact rfl)|((first|(apply z6;exact rfl;exact rfl)|apply z7|apply wR|apply qR|(apply z8;exact rfl;exact rfl)|apply zU|(apply zV;exact rfl;exact rfl;exact zH;exact rfl;exact rfl)|apply zN|apply zQ|(apply yB;exact rfl;exact rfl)|apply yC)<;>(first|exact zH|exact Nat.zero_add _|exact rfl|refine yN ?_|assumption|omega|exact ⟨rfl⟩|exact ⟨rfl,_,_,rfl,rfl⟩|exact lb rfl|(refine Bd.mk ?_;first|assumption|omega|(focus (simp;done))|(simp;omega)|decide)|exact yO rfl|exact xE ‹_›|(focus (simp;done))|(simp;omega)|(simp only [lA,lB,lC,lD,lE];omega)|exact yK rfl (by first|rfl|(simp;done)|(simp only [lA,lB,lC,lD,lE];omega))|exact yJ rfl (by first|assumption|omega|(simp only [lA,lB,lC,lD,lE];omega))))|apply zS|apply AWp.Q|apply zG|apply AWp.G|apply AWp.B|apply AWp.J|apply AWp.X|apply AWp.R|apply zO|apply zJ|apply zI|apply zL|apply zM|(refine zK rfl ?_)|(apply AWp.T;exact rfl;(first|assumption|exact dT ‹_›|exact dF ‹_›|exact rfl))|(apply AWp.F;exact rfl;(first|assumption|exact dT ‹_›|exact dF ‹_›|exact rfl))|((first|refine AWp.C rfl ?_ ?_|refine AWp.O _ rfl ?_ ?_)<;>intro hp<;>(try (exfalso;omega)))))
      ((first|refine yE _ [(0, some 0)] (.cons (zR rfl) .nil) ?_ rfl ?_|refine yF _ [(0, some 0)] (.cons (zR rfl) .nil) ?_ rfl ?_) <;> (repeat' (first|exact trivial|exact rfl|exact Or.inr ⟨rfl,‹_›⟩|exact Or.inl ⟨rfl,trivial⟩|apply And.intro|exact congrArg (Value.int .i64) (by first|omega|(simp;done)|(simp;omega))|(refine yD ?_;first|(focus (simp;done))|omega|(simp only [lA,lB,lC,lD,lE];omega))|(refine ⟨_,rfl,rfl,rfl,OW.one ?_⟩)|(refine ⟨_,rfl,rfl,rfl,OW.same ?_ ?_⟩)|refine vwB ?_|refine vwS ?_|refine vwI ?_|refine fwB ?_|refine fwS ?_|refine fwI ?_|(refine aIm ?_;first|exact AllSc.nil|assumption))))
      all_goals exact bytes_im _
end Go.Proofs.YtchpdclknbmdoaaDoor
