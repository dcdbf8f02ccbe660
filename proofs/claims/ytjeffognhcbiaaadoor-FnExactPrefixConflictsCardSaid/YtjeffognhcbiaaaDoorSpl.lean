/- l1Split: a text cut at a byte. No conditions but bounds of lengths. -/
import Derived.Test.YtjeffognhcbiaaaDoorStrs
namespace Go.Proofs.YtjeffognhcbiaaaDoor
open Go Go.RowKit
def joinHd (p : List UInt8) : List (List UInt8) → List (List UInt8)
  | [] => []
  | h :: t => (p ++ h) :: t
def spl (b : UInt8) : List UInt8 → List (List UInt8)
  | [] => [[]]
  | c :: r => if c = b then [] :: spl b r else joinHd [c] (spl b r)
theorem joinHd_nil (x : List (List UInt8)) : joinHd [] x = x := by cases x <;> simp [joinHd]
theorem joinHd_join (p q : List UInt8) (x : List (List UInt8)) : joinHd p (joinHd q x) = joinHd (p ++ q) x := by cases x <;> simp [joinHd]
theorem joinHd_len (p : List UInt8) (x : List (List UInt8)) : (joinHd p x).length = x.length := by cases x <;> simp [joinHd]
theorem vU (b : UInt8) : ∀ l : List UInt8, 1 ≤ (spl b l).length ∧ (spl b l).length ≤ l.length + 1
  | [] => by simp [spl]
  | c :: r => by
    have := vU b r
    rw [spl]
    split
    · simp only [List.length_cons]; omega
    · simp only [joinHd_len, List.length_cons]; omega
theorem spl_mem (b : UInt8) : ∀ (l : List UInt8), ∀ x ∈ spl b l, x.length ≤ l.length
  | [], x, hx => by simp [spl] at hx; simp [hx]
  | c :: r, x, hx => by
    have ih := spl_mem b r
    rw [spl] at hx
    split at hx
    · rcases List.mem_cons.1 hx with rfl | hx
      · simp
      · have := ih x hx; simp only [List.length_cons]; omega
    · cases hs : spl b r with
      | nil => rw [hs] at hx; simp [joinHd] at hx
      | cons h t =>
        rw [hs] at hx ih
        rcases List.mem_cons.1 hx with rfl | hx
        · have := ih h (by simp); simp only [List.length_append, List.length_nil, List.length_cons]; omega
        · have := ih x (by simp [hx]); simp only [List.length_cons]; omega
theorem spl_no {b : UInt8} : ∀ {p : List UInt8}, b ∉ p → spl b p = [p]
  | [], _ => rfl
  | c :: p, h => by
    simp only [List.mem_cons, not_or] at h
    rw [spl, if_neg (fun e => h.1 e.symm), spl_no h.2]
    rfl
theorem spl_hit {b : UInt8} (r : List UInt8) : ∀ {p : List UInt8}, b ∉ p → spl b (p ++ b :: r) = p :: spl b r
  | [], _ => by rw [List.nil_append, spl, if_pos rfl]
  | c :: p, h => by
    simp only [List.mem_cons, not_or] at h
    rw [List.cons_append, spl, if_neg (fun e => h.1 e.symm), spl_hit r h.2]
    rfl
theorem piece_succ {l : List UInt8} {f k : Nat} {c : UInt8} (hf : f ≤ k) (hc : l[k]? = some c) : (l.drop f).take (k + 1 - f) = (l.drop f).take (k - f) ++ [c] := by
  rw [show k + 1 - f = (k - f) + 1 by omega, List.take_add_one, List.getElem?_drop, show f + (k - f) = k by omega, hc]
  rfl
theorem dropAt {l : List UInt8} {k : Nat} {c : UInt8} (hc : l[k]? = some c) : l.drop k = c :: l.drop (k + 1) := by
  obtain ⟨h1, h2⟩ := List.getElem?_eq_some_iff.1 hc
  rw [List.drop_eq_getElem_cons h1, h2]
set_option maxRecDepth 8000 in
theorem l1Split_pf (l : List UInt8) (b : UInt8) (hl : l.length ≤ 4000000) : PF Tryd.prog 59 [.c (str l), .c (.v (.int .u8 b.toNat))] [⟨9, 1, (spl b l).map w7⟩] (.c (.ref 0 0 (spl b l).length)) := by
  refine PF.enter (xJ _ _) Tryd.func59 rfl (by kernel_rfl) _ _ rfl rfl rfl (fun w0 mu I0 β0 gi dis => ?_)
  (repeat' (first|(apply xW;(first|exact Want.none_ rfl|(refine zX rfl rfl rfl rfl ?_;(first|assumption|exact dT ‹_›|exact dF ‹_›|exact rfl))))|(apply xF zH;exact rfl;exact rfl)|((first|(apply yC;exact rfl;exact rfl)|apply yD|apply xT|apply yH|(apply y7;exact rfl;exact rfl)|apply y8|(apply xE;exact rfl;exact rfl)|(apply y9;exact rfl;exact rfl)|apply y6|apply xY)<;>(first|exact zH|exact Nat.zero_add _|exact rfl|refine yM ?_|assumption|omega|exact ⟨rfl⟩|exact ⟨rfl,_,_,rfl,rfl⟩|exact lb rfl|(refine Bd.mk ?_;first|assumption|omega|(focus (simp;done))|(simp;omega)|decide)|(focus (apply oI;exact rfl;exact rfl;assumption))|(focus (refine ⟨rfl,_,_,rfl,?_⟩;omega))|exact xU rfl|exact wU ‹_›|(focus (simp;done))|(simp;omega)|(simp only [lA,lB,lC,lD,lE];omega)|exact xL rfl (by first|rfl|(simp;done)|(simp only [lA,lB,lC,lD,lE];omega))|exact xK rfl (by first|assumption|omega|(simp only [lA,lB,lC,lD,lE];omega))))|apply zQ|apply AWp.Q|apply zG|apply AWp.G|apply AWp.B|apply AWp.J|apply AWp.X|apply AWp.R|apply zP|apply zJ|apply zI|apply zL|apply zM|(refine zK rfl ?_)|(apply AWp.T;exact rfl;(first|assumption|exact dT ‹_›|exact dF ‹_›|exact rfl))|(apply AWp.F;exact rfl;(first|assumption|exact dT ‹_›|exact dF ‹_›|exact rfl))|((first|refine AWp.C rfl ?_ ?_|refine AWp.O _ rfl ?_ ?_)<;>intro hp<;>try (exfalso;omega))))
  refine AWp.U (σ := Nat × Nat × List (List UInt8)) (fun s => ⟨[(0, .c (str l)), (1, .c (.v (.int .u8 b.toNat))), (5, .c (.ref 0 0 s.2.2.length)), (6, .c (int s.2.1)), (7, .c (int s.1))], [(0, some ⟨9, 1, s.2.2.map w7⟩)], 1⟩)
    (fun s => s.2.1 ≤ s.1 ∧ s.1 ≤ l.length ∧ s.2.2.length ≤ s.1 ∧ spl b l = s.2.2 ++ joinHd ((l.drop s.2.1).take (s.1 - s.2.1)) (spl b (l.drop s.1))) (fun s => l.length - s.1) (0, 0, []) ⟨Nat.le_refl _, Nat.zero_le _, Nat.le_refl _, by simp [joinHd_nil]⟩ ?_ ?_
  · refine Weak.of [(0, some 0)] rfl ?_ ?_ <;> (repeat' (first|exact trivial|exact rfl|exact oRi ‹_›|exact oLi|apply And.intro|(apply cgI;first|omega|(simp;done)|(simp;omega))|(refine yB ?_;first|(focus (simp;done))|omega|(simp only [lA,lB,lC,lD,lE];omega))|refine ⟨_,rfl,rfl,rfl,OW.one ?_⟩|refine oWs rfl rfl rfl ?_ ?_|refine vwB ?_|refine vwS ?_|refine vwI ?_|refine fwB ?_|refine fwS ?_|refine fwI ?_|(refine aIm ?_;first|exact AllSc.nil|assumption)))
  · rintro ⟨k, f, out⟩ ⟨hf, hk, ho, he⟩
    dsimp only at hf hk ho he ⊢
    by_cases hlt : k < l.length
    · obtain ⟨c, hc⟩ := xM hlt
      have hlt' : (k : Int) < (l.length : Int) := by omega
      have hL : (out.map w7).length = out.length := List.length_map _
      have hd := dropAt hc
      by_cases hcb : c = b
      · have hb' : (c.toNat : Int) = (b.toNat : Int) := by rw [hcb]
        (repeat' (first|(apply xW;(first|exact Want.none_ rfl|(refine zX rfl rfl rfl rfl ?_;(first|assumption|exact dT ‹_›|exact dF ‹_›|exact rfl))))|(apply xF zH;exact rfl;exact rfl)|((first|(apply yC;exact rfl;exact rfl)|apply yD|apply xT|apply yH|(apply y7;exact rfl;exact rfl)|apply y8|(apply xE;exact rfl;exact rfl)|(apply y9;exact rfl;exact rfl)|apply y6|apply xY)<;>(first|exact zH|exact Nat.zero_add _|exact rfl|refine yM ?_|assumption|omega|exact ⟨rfl⟩|exact ⟨rfl,_,_,rfl,rfl⟩|exact lb rfl|(refine Bd.mk ?_;first|assumption|omega|(focus (simp;done))|(simp;omega)|decide)|(focus (apply oI;exact rfl;exact rfl;assumption))|(focus (refine ⟨rfl,_,_,rfl,?_⟩;omega))|exact xU rfl|exact wU ‹_›|(focus (simp;done))|(simp;omega)|(simp only [lA,lB,lC,lD,lE];omega)|exact xL rfl (by first|rfl|(simp;done)|(simp only [lA,lB,lC,lD,lE];omega))|exact xK rfl (by first|assumption|omega|(simp only [lA,lB,lC,lD,lE];omega))))|apply zQ|apply AWp.Q|apply zG|apply AWp.G|apply AWp.B|apply AWp.J|apply AWp.X|apply AWp.R|apply zP|apply zJ|apply zI|apply zL|apply zM|(refine zK rfl ?_)|(apply AWp.T;exact rfl;(first|assumption|exact dT ‹_›|exact dF ‹_›|exact rfl))|(apply AWp.F;exact rfl;(first|assumption|exact dT ‹_›|exact dF ‹_›|exact rfl))|((first|refine AWp.C rfl ?_ ?_|refine AWp.O _ rfl ?_ ?_)<;>intro hp<;>try (exfalso;omega))))
        refine ⟨(k + 1, k + 1, out ++ [(l.drop f).take (k - f)]), ⟨Nat.le_refl _, by omega, by simp; omega, ?_⟩, by dsimp only; omega, ?_⟩
        · rw [he, hd, spl, if_pos hcb, joinHd, Nat.sub_self, List.take_zero, joinHd_nil, List.append_nil]
          simp
        · refine Weak.of [(0, some 2)] rfl ?_ ?_ <;> (repeat' (first|exact trivial|exact rfl|exact oRi ‹_›|exact oLi|apply And.intro|(apply cgI;first|omega|(simp;done)|(simp;omega))|(refine yB ?_;first|(focus (simp;done))|omega|(simp only [lA,lB,lC,lD,lE];omega))|refine ⟨_,rfl,rfl,rfl,OW.one ?_⟩|refine oWs rfl rfl rfl ?_ ?_|refine vwB ?_|refine vwS ?_|refine vwI ?_|refine fwB ?_|refine fwS ?_|refine fwI ?_|(refine aIm ?_;first|exact AllSc.nil|assumption)))
          · simp [w7]
          · exact (strs_sc _).imm
      · have hb' : ¬ (c.toNat : Int) = (b.toNat : Int) := fun e => hcb (by
          have : c.toNat = b.toNat := by omega
          exact UInt8.toNat_inj.1 this)
        (repeat' (first|(apply xW;(first|exact Want.none_ rfl|(refine zX rfl rfl rfl rfl ?_;(first|assumption|exact dT ‹_›|exact dF ‹_›|exact rfl))))|(apply xF zH;exact rfl;exact rfl)|((first|(apply yC;exact rfl;exact rfl)|apply yD|apply xT|apply yH|(apply y7;exact rfl;exact rfl)|apply y8|(apply xE;exact rfl;exact rfl)|(apply y9;exact rfl;exact rfl)|apply y6|apply xY)<;>(first|exact zH|exact Nat.zero_add _|exact rfl|refine yM ?_|assumption|omega|exact ⟨rfl⟩|exact ⟨rfl,_,_,rfl,rfl⟩|exact lb rfl|(refine Bd.mk ?_;first|assumption|omega|(focus (simp;done))|(simp;omega)|decide)|(focus (apply oI;exact rfl;exact rfl;assumption))|(focus (refine ⟨rfl,_,_,rfl,?_⟩;omega))|exact xU rfl|exact wU ‹_›|(focus (simp;done))|(simp;omega)|(simp only [lA,lB,lC,lD,lE];omega)|exact xL rfl (by first|rfl|(simp;done)|(simp only [lA,lB,lC,lD,lE];omega))|exact xK rfl (by first|assumption|omega|(simp only [lA,lB,lC,lD,lE];omega))))|apply zQ|apply AWp.Q|apply zG|apply AWp.G|apply AWp.B|apply AWp.J|apply AWp.X|apply AWp.R|apply zP|apply zJ|apply zI|apply zL|apply zM|(refine zK rfl ?_)|(apply AWp.T;exact rfl;(first|assumption|exact dT ‹_›|exact dF ‹_›|exact rfl))|(apply AWp.F;exact rfl;(first|assumption|exact dT ‹_›|exact dF ‹_›|exact rfl))|((first|refine AWp.C rfl ?_ ?_|refine AWp.O _ rfl ?_ ?_)<;>intro hp<;>try (exfalso;omega))))
        refine ⟨(k + 1, f, out), ⟨by dsimp only; omega, by omega, by dsimp only; omega, ?_⟩, by dsimp only; omega, ?_⟩
        · dsimp only
          rw [he, hd, spl, if_neg hcb, joinHd_join, piece_succ hf hc]
        · refine Weak.of [(0, some 0)] rfl ?_ ?_ <;> (repeat' (first|exact trivial|exact rfl|exact oRi ‹_›|exact oLi|apply And.intro|(apply cgI;first|omega|(simp;done)|(simp;omega))|(refine yB ?_;first|(focus (simp;done))|omega|(simp only [lA,lB,lC,lD,lE];omega))|refine ⟨_,rfl,rfl,rfl,OW.one ?_⟩|refine oWs rfl rfl rfl ?_ ?_|refine vwB ?_|refine vwS ?_|refine vwI ?_|refine fwB ?_|refine fwS ?_|refine fwI ?_|(refine aIm ?_;first|exact AllSc.nil|assumption)))
          exact (strs_sc _).imm
    · have hlt' : ¬ (k : Int) < (l.length : Int) := by omega
      have hkl : k = l.length := by omega
      subst hkl
      have hL : (out.map w7).length = out.length := List.length_map _
      have e : spl b l = out ++ [(l.drop f).take (l.length - f)] := by
        rw [he, List.drop_length]
        simp [spl, joinHd]
      rw [e]
      (repeat' (first|(apply xW;(first|exact Want.none_ rfl|(refine zX rfl rfl rfl rfl ?_;(first|assumption|exact dT ‹_›|exact dF ‹_›|exact rfl))))|(apply xF zH;exact rfl;exact rfl)|((first|(apply yC;exact rfl;exact rfl)|apply yD|apply xT|apply yH|(apply y7;exact rfl;exact rfl)|apply y8|(apply xE;exact rfl;exact rfl)|(apply y9;exact rfl;exact rfl)|apply y6|apply xY)<;>(first|exact zH|exact Nat.zero_add _|exact rfl|refine yM ?_|assumption|omega|exact ⟨rfl⟩|exact ⟨rfl,_,_,rfl,rfl⟩|exact lb rfl|(refine Bd.mk ?_;first|assumption|omega|(focus (simp;done))|(simp;omega)|decide)|(focus (apply oI;exact rfl;exact rfl;assumption))|(focus (refine ⟨rfl,_,_,rfl,?_⟩;omega))|exact xU rfl|exact wU ‹_›|(focus (simp;done))|(simp;omega)|(simp only [lA,lB,lC,lD,lE];omega)|exact xL rfl (by first|rfl|(simp;done)|(simp only [lA,lB,lC,lD,lE];omega))|exact xK rfl (by first|assumption|omega|(simp only [lA,lB,lC,lD,lE];omega))))|apply zQ|apply AWp.Q|apply zG|apply AWp.G|apply AWp.B|apply AWp.J|apply AWp.X|apply AWp.R|apply zP|apply zJ|apply zI|apply zL|apply zM|(refine zK rfl ?_)|(apply AWp.T;exact rfl;(first|assumption|exact dT ‹_›|exact dF ‹_›|exact rfl))|(apply AWp.F;exact rfl;(first|assumption|exact dT ‹_›|exact dF ‹_›|exact rfl))|((first|refine AWp.C rfl ?_ ?_|refine AWp.O _ rfl ?_ ?_)<;>intro hp<;>try (exfalso;omega))))
      ((first|refine zT _ [(0, some 2)] (.cons (zO rfl) .nil) ?_ rfl ?_|refine zU _ [(0, some 2)] (.cons (zO rfl) .nil) ?_ rfl ?_) <;> (repeat' (first|exact trivial|exact rfl|exact oRi ‹_›|exact oLi|apply And.intro|(apply cgI;first|omega|(simp;done)|(simp;omega))|(refine yB ?_;first|(focus (simp;done))|omega|(simp only [lA,lB,lC,lD,lE];omega))|refine ⟨_,rfl,rfl,rfl,OW.one ?_⟩|refine oWs rfl rfl rfl ?_ ?_|refine vwB ?_|refine vwS ?_|refine vwI ?_|refine fwB ?_|refine fwS ?_|refine fwI ?_|(refine aIm ?_;first|exact AllSc.nil|assumption))))
      · simp [w7]
      · exact (strs_sc _).imm
end Go.Proofs.YtjeffognhcbiaaaDoor
