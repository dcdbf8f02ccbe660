/- Drawn dictionaries and known outlines. No conditions but bounds. -/
import Derived.Test.YtchpdclknbmdoaaDoorDcG
namespace Go.Proofs.YtchpdclknbmdoaaDoor
open Go Go.RowKit
theorem psS_one (e x : Ent) (s : List Ent × Bool) (k : Nat) (h : s.1.length ≤ k + if s.2 then 1 else 0) : (psS e x s).1.length ≤ k + 1 + if (psS e x s).2 then 1 else 0 := by
  obtain ⟨O, p⟩ := s
  by_cases hc : vK x.o e.o = 0
  · cases p with
    | true => rw [psS_B hc]; simp at h ⊢; omega
    | false => rw [psS_A hc]; simp at h ⊢; omega
  · by_cases hp : 0 ≤ vK x.o e.o ∧ p = false
    · obtain ⟨hge, rfl⟩ := hp
      rw [psS_C hc hge]; simp at h ⊢; omega
    · rw [psS_D hc hp]
      cases p <;> simp at h ⊢ <;> omega
theorem psT_one (es : List Ent) (e : Ent) : ∀ k, k ≤ es.length → (psT es e k).1.length ≤ k + if (psT es e k).2 then 1 else 0
  | 0, _ => Nat.zero_le _
  | k + 1, hk => by
    obtain ⟨x, hx⟩ := xR (show k < es.length by omega)
    rw [psT_succ hx]
    exact psS_one e x _ k (psT_one es e k (by omega))
theorem putE_one (es : List Ent) (e : Ent) : (kU es e).length ≤ es.length + 1 := by
  have h := psT_one es e es.length (Nat.le_refl _)
  rw [kU]
  split
  · rename_i h1; rw [h1] at h; simpa using h
  · rename_i h1
    rw [if_neg h1] at h
    rw [List.length_append]; simp; omega
def EO (e : Ent) : Prop := e.o.length ≤ 3 ∧ DS e.o ∧ e.t.length ≤ 100
def kF (xs : Nat → Ent) : Nat → List Ent
  | 0 => []
  | j + 1 => kU (kF xs j) (xs j)
theorem dicT_len (xs : Nat → Ent) : ∀ j, (kF xs j).length ≤ j
  | 0 => Nat.le_refl _
  | j + 1 => by
    have h1 := dicT_len xs j
    have h2 := putE_one (kF xs j) (xs j)
    rw [kF]; omega
theorem dicT_mem {xs : Nat → Ent} {n : Nat} (h : ∀ j, j < n → EO (xs j)) : ∀ j, j ≤ n → ∀ y ∈ kF xs j, EO y
  | 0, _, y, hy => by simp [kF] at hy
  | j + 1, hj, y, hy => putE_mem (P := EO) (h j (by omega)) (dicT_mem h j (by omega)) y hy
section
variable (code : List UInt8) (c : Cur) (hl : code.length ≤ 65536) (hc : c.a ≤ 3500000)
include hl hc
set_option maxRecDepth 8000 in
theorem entry_ex : ∃ (c' : Cur) (e : Ent), c'.a ≤ c.a + 62 ∧ EO e ∧ PFM Tryd.prog 128 [xT code c] [.c (.ptr 0 0 0)] [some (xT code c')] (.agg (wQ e)) := by
  obtain ⟨c1, o, a1, ho, p1⟩ := outline_ex code c hl (by omega)
  obtain ⟨c2, t, a2, ht, p2⟩ := translation_ex code c1 hl (by omega)
  have i1 := vY (b := ⟨3, 1, o.map xQ⟩) (zW code c1) (xO o).imm
  have i2 := y7 (zW code c2)
  have j1 := wC (zW code c)
  have j2 := wC (zW code c1)
  have hsc := xO o
  refine ⟨c2, ⟨o, t⟩, by omega, ⟨ho.2.1, ho.2.2, ht⟩, ?_⟩
  refine zD (xM _) (xX _) rfl Tryd.func128 rfl (by kernel_rfl) _ _ rfl rfl rfl (fun w0 mu I0 β0 gi dis => ?_)
  (repeat' (first|(apply xW;(first|exact Want.none_ rfl|(refine yA rfl rfl rfl rfl ?_;(first|assumption|exact dT ‹_›|exact dF ‹_›|exact rfl))))|(apply xF zH;exact rfl;exact rfl)|((first|apply yM|apply zZ|apply yG)<;>(first|exact zH|exact Nat.zero_add _|exact rfl|refine yN ?_|assumption|omega|exact ⟨rfl⟩|exact ⟨rfl,_,_,rfl,rfl⟩|exact lb rfl|(refine Bd.mk ?_;first|assumption|omega|(focus (simp;done))|(simp;omega)|decide)|exact zP ‹_›|exact zP (zP ‹_›)|(focus (simp;done))|(simp;omega)|(simp only [lA,lB,lC,lD,lE];omega)))|apply zS|apply AWp.Q|apply zG|apply AWp.G|apply zJ|(apply (zY (p1));(iterate 7 exact rfl);(focus (repeat (first|exact All2.nil|refine All2.cons rfl ?_)));exact rfl;(focus (repeat (first|exact MC.vc (VC.imm (zA _))|exact MC.vc (VC.imm (Imm.fn _ _ ‹_›))|exact MAs.nil|apply MAs.cons|apply MA.c|apply MA.agg|exact MCs.nil|apply MCs.cons|exact MC.ref rfl|exact MC.ptr rfl|exact MC.vc (VC.imm (Imm.v _))|exact MC.vc (VC.imm (Imm.sl _))|exact MC.vc (VC.imm (Imm.ip _))|exact MC.vc VC.nil)));(first|assumption|(apply xC;assumption)|(apply y7;assumption));(first|exact xD|assumption|(apply xB;assumption));exact rfl;exact rfl)|(apply (zY (p2));(iterate 7 exact rfl);(focus (repeat (first|exact All2.nil|refine All2.cons rfl ?_)));exact rfl;(focus (repeat (first|exact MC.vc (VC.imm (zA _))|exact MC.vc (VC.imm (Imm.fn _ _ ‹_›))|exact MAs.nil|apply MAs.cons|apply MA.c|apply MA.agg|exact MCs.nil|apply MCs.cons|exact MC.ref rfl|exact MC.ptr rfl|exact MC.vc (VC.imm (Imm.v _))|exact MC.vc (VC.imm (Imm.sl _))|exact MC.vc (VC.imm (Imm.ip _))|exact MC.vc VC.nil)));(first|assumption|(apply xC;assumption)|(apply y7;assumption));(first|exact xD|assumption|(apply xB;assumption));exact rfl;exact rfl)))
  refine AWp.weaken (Weak.frz 2 1 (out' := ⟨101, 2, [[.sl (o.map xQ), str t]]⟩) (qF rfl rfl) rfl rfl rfl hsc.imm rfl rfl ?_ (Weak.refl _ _)) ?_
  · show All2 _ [[Cell.ref 2 0 o.length, str t]] [[.sl (o.map xQ), str t]]
    exact .cons (.cons (.ref _ (by simp)) (.cons (.same _) .nil)) .nil
  apply AWp.R
  ((first|refine yE _ [(0, some 0)] (.cons (yP rfl rfl rfl zH rfl rfl rfl) .nil) ?_ rfl ?_|refine yF _ [(0, some 0)] (.cons (yP rfl rfl rfl zH rfl rfl rfl) .nil) ?_ rfl ?_) <;> (repeat' (first|exact trivial|exact rfl|exact Or.inr ⟨rfl,‹_›⟩|exact Or.inl ⟨rfl,trivial⟩|apply And.intro|exact congrArg (Value.int .i64) (by first|omega|(simp;done)|(simp;omega))|(refine yD ?_;first|(focus (simp;done))|omega|(simp only [lA,lB,lC,lD,lE];omega))|(refine ⟨_,rfl,rfl,rfl,OW.one ?_⟩)|(refine ⟨_,rfl,rfl,rfl,OW.same ?_ ?_⟩)|refine vwB ?_|refine vwS ?_|refine vwI ?_|refine fwB ?_|refine fwS ?_|refine fwI ?_|(refine aIm ?_;first|exact AllSc.nil|assumption))))
  all_goals first | exact zW _ _ | skip
end
section
variable (code : List UInt8) (c : Cur) (hl : code.length ≤ 65536) (hc : c.a ≤ 3000000)
include hl hc
set_option maxRecDepth 8000 in
theorem dictionary_ex : ∃ (c' : Cur) (es : List Ent), c'.a ≤ c.a + 700 ∧ (es.length ≤ 9 ∧ ∀ x ∈ es, EO x) ∧ PFM Tryd.prog 90 [xT code c] [.c (.ptr 0 0 0)] [some (xT code c')] (.agg (qW es)) := by
  obtain ⟨c1, n0, a1, hn0, p1⟩ := wF code c hl (by omega) 7 (by omega)
  have i1 := y7 (zW code c1)
  have j1 := wC (zW code c)
  obtain ⟨cs, xs, hc0, hcs⟩ := q8 (X := Ent) (fun c c' e => EO e ∧ PFM Tryd.prog 128 [xT code c] [.c (.ptr 0 0 0)] [some (xT code c')] (.agg (wQ e))) 62 3400000 (fun c hc => entry_ex code c hl (by omega)) c1 (3 + n0) (by omega)
  subst hc0
  have aN := (hcs (3 + n0) (Nat.le_refl _)).1
  have hE : ∀ j, j < 3 + n0 → EO (xs j) := fun j hj => (hcs j (by omega)).2.2.1
  have hM := dicT_mem hE
  have hN := dicT_len xs
  refine ⟨cs (3 + n0), kF xs (3 + n0), by omega, ⟨by have := hN (3 + n0); omega, hM _ (Nat.le_refl _)⟩, ?_⟩
  refine zD (xM _) (xX _) rfl Tryd.func90 rfl (by kernel_rfl) _ _ rfl rfl rfl (fun w0 mu I0 β0 gi dis => ?_)
  (repeat' (first|(apply xW;(first|exact Want.none_ rfl|(refine yA rfl rfl rfl rfl ?_;(first|assumption|exact dT ‹_›|exact dF ‹_›|exact rfl))))|(apply xF zH;exact rfl;exact rfl)|((first|(apply z6;exact rfl;exact rfl)|apply z7|(apply yY;exact rfl;exact rfl;exact rfl)|apply xA|(apply zV;exact rfl;exact rfl;exact zH;exact rfl;exact rfl)|apply zN|apply yM|apply zZ|apply yG)<;>(first|exact zH|exact Nat.zero_add _|exact rfl|refine yN ?_|assumption|omega|exact ⟨rfl⟩|exact ⟨rfl,_,_,rfl,rfl⟩|exact lb rfl|(refine Bd.mk ?_;first|assumption|omega|(focus (simp;done))|(simp;omega)|decide)|exact zP ‹_›|exact zP (zP ‹_›)|(focus (simp;done))|(simp;omega)|(simp only [lA,lB,lC,lD,lE];omega)))|apply zS|(refine yQ ?_ ?_;kernel_rfl)|apply AWp.Q|apply zG|apply AWp.G|apply AWp.B|apply AWp.J|apply AWp.X|apply AWp.R|apply zO|apply zJ|apply zI|apply zL|apply zM|(refine AWp.D ?_ ?_;kernel_rfl)|(refine zK rfl ?_)|(apply AWp.T;exact rfl;(first|assumption|exact dT ‹_›|exact dF ‹_›|exact rfl))|(apply AWp.F;exact rfl;(first|assumption|exact dT ‹_›|exact dF ‹_›|exact rfl))|(apply (zY (p1));(iterate 7 exact rfl);(focus (repeat (first|exact All2.nil|refine All2.cons rfl ?_)));exact rfl;(focus (repeat (first|exact MC.vc (VC.imm (zA _))|exact MC.vc (VC.imm (Imm.fn _ _ ‹_›))|exact MAs.nil|apply MAs.cons|apply MA.c|apply MA.agg|exact MCs.nil|apply MCs.cons|exact MC.ref rfl|exact MC.ptr rfl|exact MC.vc (VC.imm (Imm.v _))|exact MC.vc (VC.imm (Imm.sl _))|exact MC.vc (VC.imm (Imm.ip _))|exact MC.vc VC.nil)));(first|assumption|(apply xC;assumption)|(apply y7;assumption));(first|exact xD|assumption|(apply xB;assumption));exact rfl;exact rfl)|((first|refine AWp.C rfl ?_ ?_|refine AWp.O _ rfl ?_ ?_)<;>intro hp<;>(try (exfalso;omega)))))
  refine AWp.U (σ := Nat) (fun j => ⟨[(0, .c (.ptr 0 0 0)), (2, .c (.ptr 1 0 0)), (3, .c (.ptr 2 0 0)), (4, .c (int (3 + (n0 : Int) - j)))], [(0, some (xT code (cs j))), (1, some ⟨50, 1, [[.nil]]⟩), (2, some ⟨50, 1, [if j = 0 then [.nil] else qW (kF xs j)]⟩)], 3⟩) (fun j => j ≤ 3 + n0) (fun j => 3 + n0 - j) 0 (Nat.zero_le _) ?_ ?_
  · refine Weak.of [(0, some 0), (1, some 1), (2, some 2)] rfl ?_ ?_ <;> (repeat' (first|exact trivial|exact rfl|exact Or.inr ⟨rfl,‹_›⟩|exact Or.inl ⟨rfl,trivial⟩|apply And.intro|exact congrArg (Value.int .i64) (by first|omega|(simp;done)|(simp;omega))|(refine yD ?_;first|(focus (simp;done))|omega|(simp only [lA,lB,lC,lD,lE];omega))|(refine ⟨_,rfl,rfl,rfl,OW.one ?_⟩)|(refine ⟨_,rfl,rfl,rfl,OW.same ?_ ?_⟩)|refine vwB ?_|refine vwS ?_|refine vwI ?_|refine fwB ?_|refine fwS ?_|refine fwI ?_|(refine aIm ?_;first|exact AllSc.nil|assumption)))
    all_goals first | exact zW _ _ | skip
  · intro j hj
    obtain ⟨ha, hb, ⟨he1, he2, he3⟩, q⟩ := hcs j hj
    have hlen := hN j
    by_cases hlt : j < 3 + n0
    · have hlt' : (0 : Int) < 3 + (n0 : Int) - j := by omega
      have hput := l6Put_pf (kF xs j) (xs j) ⟨by omega, fun x hx => by have := (hM j (by omega) x hx).1; omega⟩ (by omega)
      have hz : kF xs (j + 1) = kU (kF xs j) (xs j) := rfl
      rw [← hz] at hput
      have k2 := y7 (zW code (cs (j + 1)))
      have m1 := wC (zW code (cs j))
      have i0 : ∀ obj : AObj, some obj ∈ ([] : List (Option AObj)) → ∀ x ∈ obj.els, ∀ c ∈ x, Imm c := fun _ h => by cases h
      rcases j with _ | j
      · rw [if_pos rfl]
        (repeat' (first|(apply xW;(first|exact Want.none_ rfl|(refine yA rfl rfl rfl rfl ?_;(first|assumption|exact dT ‹_›|exact dF ‹_›|exact rfl))))|(apply xF zH;exact rfl;exact rfl)|((first|(apply z6;exact rfl;exact rfl)|apply z7|(apply yY;exact rfl;exact rfl;exact rfl)|apply xA|(apply zV;exact rfl;exact rfl;exact zH;exact rfl;exact rfl)|apply zN|apply yM|apply zZ|apply yG)<;>(first|exact zH|exact Nat.zero_add _|exact rfl|refine yN ?_|assumption|omega|exact ⟨rfl⟩|exact ⟨rfl,_,_,rfl,rfl⟩|exact lb rfl|(refine Bd.mk ?_;first|assumption|omega|(focus (simp;done))|(simp;omega)|decide)|exact zP ‹_›|exact zP (zP ‹_›)|(focus (simp;done))|(simp;omega)|(simp only [lA,lB,lC,lD,lE];omega)))|apply zS|(refine yQ ?_ ?_;kernel_rfl)|apply AWp.Q|apply zG|apply AWp.G|apply AWp.B|apply AWp.J|apply AWp.X|apply AWp.R|apply zO|apply zJ|apply zI|apply zL|apply zM|(refine AWp.D ?_ ?_;kernel_rfl)|(refine zK rfl ?_)|(apply AWp.T;exact rfl;(first|assumption|exact dT ‹_›|exact dF ‹_›|exact rfl))|(apply AWp.F;exact rfl;(first|assumption|exact dT ‹_›|exact dF ‹_›|exact rfl))|(apply (zY (q));(iterate 7 exact rfl);(focus (repeat (first|exact All2.nil|refine All2.cons rfl ?_)));exact rfl;(focus (repeat (first|exact MC.vc (VC.imm (zA _))|exact MC.vc (VC.imm (Imm.fn _ _ ‹_›))|exact MAs.nil|apply MAs.cons|apply MA.c|apply MA.agg|exact MCs.nil|apply MCs.cons|exact MC.ref rfl|exact MC.ptr rfl|exact MC.vc (VC.imm (Imm.v _))|exact MC.vc (VC.imm (Imm.sl _))|exact MC.vc (VC.imm (Imm.ip _))|exact MC.vc VC.nil)));(first|assumption|(apply xC;assumption)|(apply y7;assumption));(first|exact xD|assumption|(apply xB;assumption));exact rfl;exact rfl)|(apply (zY (hput));(iterate 7 exact rfl);(focus (repeat (first|exact All2.nil|refine All2.cons rfl ?_)));exact rfl;(focus (repeat (first|exact MC.vc (VC.imm (zA _))|exact MC.vc (VC.imm (Imm.fn _ _ ‹_›))|exact MAs.nil|apply MAs.cons|apply MA.c|apply MA.agg|exact MCs.nil|apply MCs.cons|exact MC.ref rfl|exact MC.ptr rfl|exact MC.vc (VC.imm (Imm.v _))|exact MC.vc (VC.imm (Imm.sl _))|exact MC.vc (VC.imm (Imm.ip _))|exact MC.vc VC.nil)));(first|assumption|(apply xC;assumption)|(apply y7;assumption));(first|exact xD|assumption|(apply xB;assumption));exact rfl;exact rfl)|((first|refine AWp.C rfl ?_ ?_|refine AWp.O _ rfl ?_ ?_)<;>intro hp<;>(try (exfalso;omega)))))
        refine ⟨1, by omega, by omega, ?_⟩
        rw [if_neg (by omega)]
        refine Weak.of [(0, some 0), (1, some 1), (2, some 2)] rfl ?_ ?_ <;> (repeat' (first|exact trivial|exact rfl|exact Or.inr ⟨rfl,‹_›⟩|exact Or.inl ⟨rfl,trivial⟩|apply And.intro|exact congrArg (Value.int .i64) (by first|omega|(simp;done)|(simp;omega))|(refine yD ?_;first|(focus (simp;done))|omega|(simp only [lA,lB,lC,lD,lE];omega))|(refine ⟨_,rfl,rfl,rfl,OW.one ?_⟩)|(refine ⟨_,rfl,rfl,rfl,OW.same ?_ ?_⟩)|refine vwB ?_|refine vwS ?_|refine vwI ?_|refine fwB ?_|refine fwS ?_|refine fwI ?_|(refine aIm ?_;first|exact AllSc.nil|assumption)))
        all_goals exact zW _ _
      · rw [if_neg (by omega)]
        (repeat' (first|(apply xW;(first|exact Want.none_ rfl|(refine yA rfl rfl rfl rfl ?_;(first|assumption|exact dT ‹_›|exact dF ‹_›|exact rfl))))|(apply xF zH;exact rfl;exact rfl)|((first|(apply z6;exact rfl;exact rfl)|apply z7|(apply yY;exact rfl;exact rfl;exact rfl)|apply xA|(apply zV;exact rfl;exact rfl;exact zH;exact rfl;exact rfl)|apply zN|apply yM|apply zZ|apply yG)<;>(first|exact zH|exact Nat.zero_add _|exact rfl|refine yN ?_|assumption|omega|exact ⟨rfl⟩|exact ⟨rfl,_,_,rfl,rfl⟩|exact lb rfl|(refine Bd.mk ?_;first|assumption|omega|(focus (simp;done))|(simp;omega)|decide)|exact zP ‹_›|exact zP (zP ‹_›)|(focus (simp;done))|(simp;omega)|(simp only [lA,lB,lC,lD,lE];omega)))|apply zS|(refine yQ ?_ ?_;kernel_rfl)|apply AWp.Q|apply zG|apply AWp.G|apply AWp.B|apply AWp.J|apply AWp.X|apply AWp.R|apply zO|apply zJ|apply zI|apply zL|apply zM|(refine AWp.D ?_ ?_;kernel_rfl)|(refine zK rfl ?_)|(apply AWp.T;exact rfl;(first|assumption|exact dT ‹_›|exact dF ‹_›|exact rfl))|(apply AWp.F;exact rfl;(first|assumption|exact dT ‹_›|exact dF ‹_›|exact rfl))|(apply (zY (q));(iterate 7 exact rfl);(focus (repeat (first|exact All2.nil|refine All2.cons rfl ?_)));exact rfl;(focus (repeat (first|exact MC.vc (VC.imm (zA _))|exact MC.vc (VC.imm (Imm.fn _ _ ‹_›))|exact MAs.nil|apply MAs.cons|apply MA.c|apply MA.agg|exact MCs.nil|apply MCs.cons|exact MC.ref rfl|exact MC.ptr rfl|exact MC.vc (VC.imm (Imm.v _))|exact MC.vc (VC.imm (Imm.sl _))|exact MC.vc (VC.imm (Imm.ip _))|exact MC.vc VC.nil)));(first|assumption|(apply xC;assumption)|(apply y7;assumption));(first|exact xD|assumption|(apply xB;assumption));exact rfl;exact rfl)|(apply (zY (hput));(iterate 7 exact rfl);(focus (repeat (first|exact All2.nil|refine All2.cons rfl ?_)));exact rfl;(focus (repeat (first|exact MC.vc (VC.imm (zA _))|exact MC.vc (VC.imm (Imm.fn _ _ ‹_›))|exact MAs.nil|apply MAs.cons|apply MA.c|apply MA.agg|exact MCs.nil|apply MCs.cons|exact MC.ref rfl|exact MC.ptr rfl|exact MC.vc (VC.imm (Imm.v _))|exact MC.vc (VC.imm (Imm.sl _))|exact MC.vc (VC.imm (Imm.ip _))|exact MC.vc VC.nil)));(first|assumption|(apply xC;assumption)|(apply y7;assumption));(first|exact xD|assumption|(apply xB;assumption));exact rfl;exact rfl)|((first|refine AWp.C rfl ?_ ?_|refine AWp.O _ rfl ?_ ?_)<;>intro hp<;>(try (exfalso;omega)))))
        refine ⟨j + 2, by omega, by omega, ?_⟩
        rw [if_neg (by omega)]
        refine Weak.of [(0, some 0), (1, some 1), (2, some 2)] rfl ?_ ?_ <;> (repeat' (first|exact trivial|exact rfl|exact Or.inr ⟨rfl,‹_›⟩|exact Or.inl ⟨rfl,trivial⟩|apply And.intro|exact congrArg (Value.int .i64) (by first|omega|(simp;done)|(simp;omega))|(refine yD ?_;first|(focus (simp;done))|omega|(simp only [lA,lB,lC,lD,lE];omega))|(refine ⟨_,rfl,rfl,rfl,OW.one ?_⟩)|(refine ⟨_,rfl,rfl,rfl,OW.same ?_ ?_⟩)|refine vwB ?_|refine vwS ?_|refine vwI ?_|refine fwB ?_|refine fwS ?_|refine fwI ?_|(refine aIm ?_;first|exact AllSc.nil|assumption)))
        all_goals exact zW _ _
    · have hlt' : ¬ (0 : Int) < 3 + (n0 : Int) - j := by omega
      obtain rfl : j = 3 + n0 := by omega
      rw [if_neg (by omega)]
      (repeat' (first|(apply xW;(first|exact Want.none_ rfl|(refine yA rfl rfl rfl rfl ?_;(first|assumption|exact dT ‹_›|exact dF ‹_›|exact rfl))))|(apply xF zH;exact rfl;exact rfl)|((first|(apply z6;exact rfl;exact rfl)|apply z7|(apply yY;exact rfl;exact rfl;exact rfl)|apply xA|(apply zV;exact rfl;exact rfl;exact zH;exact rfl;exact rfl)|apply zN|apply yM|apply zZ|apply yG)<;>(first|exact zH|exact Nat.zero_add _|exact rfl|refine yN ?_|assumption|omega|exact ⟨rfl⟩|exact ⟨rfl,_,_,rfl,rfl⟩|exact lb rfl|(refine Bd.mk ?_;first|assumption|omega|(focus (simp;done))|(simp;omega)|decide)|exact zP ‹_›|exact zP (zP ‹_›)|(focus (simp;done))|(simp;omega)|(simp only [lA,lB,lC,lD,lE];omega)))|apply zS|(refine yQ ?_ ?_;kernel_rfl)|apply AWp.Q|apply zG|apply AWp.G|apply AWp.B|apply AWp.J|apply AWp.X|apply AWp.R|apply zO|apply zJ|apply zI|apply zL|apply zM|(refine AWp.D ?_ ?_;kernel_rfl)|(refine zK rfl ?_)|(apply AWp.T;exact rfl;(first|assumption|exact dT ‹_›|exact dF ‹_›|exact rfl))|(apply AWp.F;exact rfl;(first|assumption|exact dT ‹_›|exact dF ‹_›|exact rfl))|((first|refine AWp.C rfl ?_ ?_|refine AWp.O _ rfl ?_ ?_)<;>intro hp<;>(try (exfalso;omega)))))
      ((first|refine yE _ [(0, some 0)] (.cons (yP rfl rfl rfl zH rfl rfl rfl) .nil) ?_ rfl ?_|refine yF _ [(0, some 0)] (.cons (yP rfl rfl rfl zH rfl rfl rfl) .nil) ?_ rfl ?_) <;> (repeat' (first|exact trivial|exact rfl|exact Or.inr ⟨rfl,‹_›⟩|exact Or.inl ⟨rfl,trivial⟩|apply And.intro|exact congrArg (Value.int .i64) (by first|omega|(simp;done)|(simp;omega))|(refine yD ?_;first|(focus (simp;done))|omega|(simp only [lA,lB,lC,lD,lE];omega))|(refine ⟨_,rfl,rfl,rfl,OW.one ?_⟩)|(refine ⟨_,rfl,rfl,rfl,OW.same ?_ ?_⟩)|refine vwB ?_|refine vwS ?_|refine vwI ?_|refine fwB ?_|refine fwS ?_|refine fwI ?_|(refine aIm ?_;first|exact AllSc.nil|assumption))))
      all_goals exact zW _ _
end
section
variable (code : List UInt8) (c : Cur) (hl : code.length ≤ 65536) (hc : c.a ≤ 3000000) (es : List Ent) (hn : es.length ≤ 100) (he : ∀ x ∈ es, EO x)
include hl hc hn he
set_option maxRecDepth 8000 in
theorem known_ex : ∃ (c' : Cur) (l : List Int), c'.a ≤ c.a + 75 ∧ (l.length ≤ 8 ∧ DS l) ∧ PFM Tryd.prog 91 [xT code c] [.c (.ptr 0 0 0), .agg (qW es)] [some (xT code c'), some ⟨3, 1, l.map xQ⟩] (.c (.ref 1 0 l.length)) := by
  have hL : (es.map wQ).length = es.length := List.length_map _
  have j1 := wC (zW code c)
  rcases Nat.eq_zero_or_pos es.length with h0 | h0
  · obtain ⟨c1, l, a1, hll, p1⟩ := anyOutline_ex code c hl (by omega)
    have i1 := vY (b := ⟨3, 1, l.map xQ⟩) (zW code c1) (xO l).imm
    have h0' : ¬ (0 : Int) < ((es.map wQ).length : Int) := by omega
    refine ⟨c1, l, by omega, hll, ?_⟩
    refine zD (xY _ _) (xX _) rfl Tryd.func91 rfl (by kernel_rfl) _ _ rfl rfl rfl (fun w0 mu I0 β0 gi dis => ?_)
    (repeat' (first|(apply xW;(first|exact Want.none_ rfl|(refine yA rfl rfl rfl rfl ?_;(first|assumption|exact dT ‹_›|exact dF ‹_›|exact rfl))))|(apply xF zH;exact rfl;exact rfl)|((first|(apply z8;exact rfl;exact rfl)|apply zU|(apply zV;exact rfl;exact rfl;exact zH;exact rfl;exact rfl)|apply zN|apply zZ)<;>(first|exact zH|exact Nat.zero_add _|exact rfl|refine yN ?_|assumption|omega|exact ⟨rfl⟩|exact ⟨rfl,_,_,rfl,rfl⟩|exact lb rfl|(refine Bd.mk ?_;first|assumption|omega|(focus (simp;done))|(simp;omega)|decide)|(focus (simp;done))|(simp;omega)|(simp only [lA,lB,lC,lD,lE];omega)))|(apply yW;exact rfl;exact rfl;(first|assumption|exact dT ‹_›|exact dF ‹_›|exact rfl);exact rfl;exact rfl)|(apply yV;(iterate 5 exact rfl);(first|assumption|exact dT ‹_›|exact dF ‹_›|exact rfl))|(apply yL;(iterate 5 exact rfl))|apply zS|(refine yQ ?_ ?_;kernel_rfl)|apply AWp.Q|apply zG|apply AWp.G|apply AWp.J|apply AWp.R|apply zJ|(refine AWp.D ?_ ?_;kernel_rfl)|(apply AWp.T;exact rfl;(first|assumption|exact dT ‹_›|exact dF ‹_›|exact rfl))|(apply AWp.F;exact rfl;(first|assumption|exact dT ‹_›|exact dF ‹_›|exact rfl))|(apply (zY (p1));(iterate 7 exact rfl);(focus (repeat (first|exact All2.nil|refine All2.cons rfl ?_)));exact rfl;(focus (repeat (first|exact MC.vc (VC.imm (zA _))|exact MC.vc (VC.imm (Imm.fn _ _ ‹_›))|exact MAs.nil|apply MAs.cons|apply MA.c|apply MA.agg|exact MCs.nil|apply MCs.cons|exact MC.ref rfl|exact MC.ptr rfl|exact MC.vc (VC.imm (Imm.v _))|exact MC.vc (VC.imm (Imm.sl _))|exact MC.vc (VC.imm (Imm.ip _))|exact MC.vc VC.nil)));(first|assumption|(apply xC;assumption)|(apply y7;assumption));(first|exact xD|assumption|(apply xB;assumption));exact rfl;exact rfl)|((first|refine zT rfl rfl rfl ?_ ?_|refine zX rfl rfl rfl ?_ ?_)<;>intro hp<;>(try (exfalso;omega)))|((first|refine AWp.C rfl ?_ ?_|refine AWp.O _ rfl ?_ ?_)<;>intro hp<;>(try (exfalso;omega)))))
    ((first|refine yE _ [(0, some 0), (1, some 2)] (.cons (zR rfl) .nil) ?_ rfl ?_|refine yF _ [(0, some 0), (1, some 2)] (.cons (zR rfl) .nil) ?_ rfl ?_) <;> (repeat' (first|exact trivial|exact rfl|exact Or.inr ⟨rfl,‹_›⟩|exact Or.inl ⟨rfl,trivial⟩|apply And.intro|exact congrArg (Value.int .i64) (by first|omega|(simp;done)|(simp;omega))|(refine yD ?_;first|(focus (simp;done))|omega|(simp only [lA,lB,lC,lD,lE];omega))|(refine ⟨_,rfl,rfl,rfl,OW.one ?_⟩)|(refine ⟨_,rfl,rfl,rfl,OW.same ?_ ?_⟩)|refine vwB ?_|refine vwS ?_|refine vwI ?_|refine fwB ?_|refine fwS ?_|refine fwI ?_|(refine aIm ?_;first|exact AllSc.nil|assumption))))
    all_goals first | exact zW _ _ | exact (xO _).imm
  · have h0' : (0 : Int) < ((es.map wQ).length : Int) := by omega
    obtain ⟨c1, b, a1, p1⟩ := qD code c hl (by omega) 3 (by omega)
    have i1 := y7 (zW code c1)
    have j2 := wC (zW code c1)
    cases b with
    | true =>
      obtain ⟨c2, l, a2, hll, p2⟩ := anyOutline_ex code c1 hl (by omega)
      have i2 := vY (b := ⟨3, 1, l.map xQ⟩) (zW code c2) (xO l).imm
      refine ⟨c2, l, by omega, hll, ?_⟩
      refine zD (xY _ _) (xX _) rfl Tryd.func91 rfl (by kernel_rfl) _ _ rfl rfl rfl (fun w0 mu I0 β0 gi dis => ?_)
      (repeat' (first|(apply xW;(first|exact Want.none_ rfl|(refine yA rfl rfl rfl rfl ?_;(first|assumption|exact dT ‹_›|exact dF ‹_›|exact rfl))))|(apply xF zH;exact rfl;exact rfl)|((first|(apply z8;exact rfl;exact rfl)|apply zU|(apply zV;exact rfl;exact rfl;exact zH;exact rfl;exact rfl)|apply zN|apply zZ)<;>(first|exact zH|exact Nat.zero_add _|exact rfl|refine yN ?_|assumption|omega|exact ⟨rfl⟩|exact ⟨rfl,_,_,rfl,rfl⟩|exact lb rfl|(refine Bd.mk ?_;first|assumption|omega|(focus (simp;done))|(simp;omega)|decide)|(focus (simp;done))|(simp;omega)|(simp only [lA,lB,lC,lD,lE];omega)))|(apply yW;exact rfl;exact rfl;(first|assumption|exact dT ‹_›|exact dF ‹_›|exact rfl);exact rfl;exact rfl)|(apply yV;(iterate 5 exact rfl);(first|assumption|exact dT ‹_›|exact dF ‹_›|exact rfl))|(apply yL;(iterate 5 exact rfl))|apply zS|(refine yQ ?_ ?_;kernel_rfl)|apply AWp.Q|apply zG|apply AWp.G|apply AWp.J|apply AWp.R|apply zJ|(refine AWp.D ?_ ?_;kernel_rfl)|(apply AWp.T;exact rfl;(first|assumption|exact dT ‹_›|exact dF ‹_›|exact rfl))|(apply AWp.F;exact rfl;(first|assumption|exact dT ‹_›|exact dF ‹_›|exact rfl))|(apply (zY (p1));(iterate 7 exact rfl);(focus (repeat (first|exact All2.nil|refine All2.cons rfl ?_)));exact rfl;(focus (repeat (first|exact MC.vc (VC.imm (zA _))|exact MC.vc (VC.imm (Imm.fn _ _ ‹_›))|exact MAs.nil|apply MAs.cons|apply MA.c|apply MA.agg|exact MCs.nil|apply MCs.cons|exact MC.ref rfl|exact MC.ptr rfl|exact MC.vc (VC.imm (Imm.v _))|exact MC.vc (VC.imm (Imm.sl _))|exact MC.vc (VC.imm (Imm.ip _))|exact MC.vc VC.nil)));(first|assumption|(apply xC;assumption)|(apply y7;assumption));(first|exact xD|assumption|(apply xB;assumption));exact rfl;exact rfl)|(apply (zY (p2));(iterate 7 exact rfl);(focus (repeat (first|exact All2.nil|refine All2.cons rfl ?_)));exact rfl;(focus (repeat (first|exact MC.vc (VC.imm (zA _))|exact MC.vc (VC.imm (Imm.fn _ _ ‹_›))|exact MAs.nil|apply MAs.cons|apply MA.c|apply MA.agg|exact MCs.nil|apply MCs.cons|exact MC.ref rfl|exact MC.ptr rfl|exact MC.vc (VC.imm (Imm.v _))|exact MC.vc (VC.imm (Imm.sl _))|exact MC.vc (VC.imm (Imm.ip _))|exact MC.vc VC.nil)));(first|assumption|(apply xC;assumption)|(apply y7;assumption));(first|exact xD|assumption|(apply xB;assumption));exact rfl;exact rfl)|((first|refine zT rfl rfl rfl ?_ ?_|refine zX rfl rfl rfl ?_ ?_)<;>intro hp<;>(try (exfalso;omega)))|((first|refine AWp.C rfl ?_ ?_|refine AWp.O _ rfl ?_ ?_)<;>intro hp<;>(try (exfalso;omega)))))
      ((first|refine yE _ [(0, some 0), (1, some 2)] (.cons (zR rfl) .nil) ?_ rfl ?_|refine yF _ [(0, some 0), (1, some 2)] (.cons (zR rfl) .nil) ?_ rfl ?_) <;> (repeat' (first|exact trivial|exact rfl|exact Or.inr ⟨rfl,‹_›⟩|exact Or.inl ⟨rfl,trivial⟩|apply And.intro|exact congrArg (Value.int .i64) (by first|omega|(simp;done)|(simp;omega))|(refine yD ?_;first|(focus (simp;done))|omega|(simp only [lA,lB,lC,lD,lE];omega))|(refine ⟨_,rfl,rfl,rfl,OW.one ?_⟩)|(refine ⟨_,rfl,rfl,rfl,OW.same ?_ ?_⟩)|refine vwB ?_|refine vwS ?_|refine vwI ?_|refine fwB ?_|refine fwS ?_|refine fwI ?_|(refine aIm ?_;first|exact AllSc.nil|assumption))))
      all_goals first | exact zW _ _ | exact (xO _).imm
    | false =>
      obtain ⟨c2, k, a2, hk, p2⟩ := wF code c1 hl (by omega) es.length (by omega)
      rw [← hL] at p2
      have i2 := y7 (zW code c2)
      obtain ⟨x, hx⟩ := xR hk
      have hx' : (es.map wQ)[k]? = some (wQ x) := x5 hx
      obtain ⟨e1, e2, e3⟩ := he x (List.mem_of_getElem? hx)
      have p3 := l1Own_pf x.o (by omega)
      have hsx := xO x.o
      have hLx : (x.o.map xQ).length = x.o.length := List.length_map _
      refine ⟨c2, x.o, by omega, ⟨by omega, e2⟩, ?_⟩
      refine zD (xY _ _) (xX _) rfl Tryd.func91 rfl (by kernel_rfl) _ _ rfl rfl rfl (fun w0 mu I0 β0 gi dis => ?_)
      (repeat' (first|(apply xW;(first|exact Want.none_ rfl|(refine yA rfl rfl rfl rfl ?_;(first|assumption|exact dT ‹_›|exact dF ‹_›|exact rfl))))|(apply xF zH;exact rfl;exact rfl)|((first|(apply z8;exact rfl;exact rfl)|apply zU|(apply zV;exact rfl;exact rfl;exact zH;exact rfl;exact rfl)|apply zN|apply zZ)<;>(first|exact zH|exact Nat.zero_add _|exact rfl|refine yN ?_|assumption|omega|exact ⟨rfl⟩|exact ⟨rfl,_,_,rfl,rfl⟩|exact lb rfl|(refine Bd.mk ?_;first|assumption|omega|(focus (simp;done))|(simp;omega)|decide)|(focus (simp;done))|(simp;omega)|(simp only [lA,lB,lC,lD,lE];omega)))|(apply yW;exact rfl;exact rfl;(first|assumption|exact dT ‹_›|exact dF ‹_›|exact rfl);exact rfl;exact rfl)|(apply yV;(iterate 5 exact rfl);(first|assumption|exact dT ‹_›|exact dF ‹_›|exact rfl))|(apply yL;(iterate 5 exact rfl))|apply zS|(refine yQ ?_ ?_;kernel_rfl)|apply AWp.Q|apply zG|apply AWp.G|apply AWp.J|apply AWp.R|apply zJ|(refine AWp.D ?_ ?_;kernel_rfl)|(apply AWp.T;exact rfl;(first|assumption|exact dT ‹_›|exact dF ‹_›|exact rfl))|(apply AWp.F;exact rfl;(first|assumption|exact dT ‹_›|exact dF ‹_›|exact rfl))|(apply (zY (p1));(iterate 7 exact rfl);(focus (repeat (first|exact All2.nil|refine All2.cons rfl ?_)));exact rfl;(focus (repeat (first|exact MC.vc (VC.imm (zA _))|exact MC.vc (VC.imm (Imm.fn _ _ ‹_›))|exact MAs.nil|apply MAs.cons|apply MA.c|apply MA.agg|exact MCs.nil|apply MCs.cons|exact MC.ref rfl|exact MC.ptr rfl|exact MC.vc (VC.imm (Imm.v _))|exact MC.vc (VC.imm (Imm.sl _))|exact MC.vc (VC.imm (Imm.ip _))|exact MC.vc VC.nil)));(first|assumption|(apply xC;assumption)|(apply y7;assumption));(first|exact xD|assumption|(apply xB;assumption));exact rfl;exact rfl)|(apply (zY (p2));(iterate 7 exact rfl);(focus (repeat (first|exact All2.nil|refine All2.cons rfl ?_)));exact rfl;(focus (repeat (first|exact MC.vc (VC.imm (zA _))|exact MC.vc (VC.imm (Imm.fn _ _ ‹_›))|exact MAs.nil|apply MAs.cons|apply MA.c|apply MA.agg|exact MCs.nil|apply MCs.cons|exact MC.ref rfl|exact MC.ptr rfl|exact MC.vc (VC.imm (Imm.v _))|exact MC.vc (VC.imm (Imm.sl _))|exact MC.vc (VC.imm (Imm.ip _))|exact MC.vc VC.nil)));(first|assumption|(apply xC;assumption)|(apply y7;assumption));(first|exact xD|assumption|(apply xB;assumption));exact rfl;exact rfl)|(apply yH;(iterate 6 exact rfl);(iterate 2 (focus (repeat (first|exact VAs.nil|apply VAs.cons|apply VA.c|apply VA.agg|exact VCs.nil|(apply VCs.same;assumption)|apply VCs.cons|exact VC.imm (Imm.v _)|exact VC.imm (Imm.sl _)|exact VC.imm (Imm.ip _)|exact VC.imm ‹_›|exact VC.nil|(apply zB;exact rfl;exact rfl;(first|exact rfl|(focus (simp;done))|omega|(focus (simp only [lA,lB,lC,lD,lE];omega)));exact rfl;(first|assumption|(refine aIm ?_;assumption)))|(apply zC;exact rfl;exact rfl;(first|assumption|omega|(focus (simp only [lA,lB,lC,lD,lE];omega))|(focus (simp;done))|(focus (simp;omega)));exact rfl;(first|assumption|(refine aIm ?_;assumption)))|assumption))));(first|exact p3);(focus (repeat (first|exact trivial|exact Flat.v _|exact Flat.dead|exact Flat.ref _ _ _|exact Flat.nil|apply And.intro)));(first|apply yS|(apply yR;(focus (repeat (first|exact trivial|apply And.intro|(first|exact AllSc.nil|assumption))))));(first|exact xG _ _|exact xJ _ _ _|exact xK _ _ _ _|exact y3 _ _ _ _ _|exact xH _|exact y5 _ _|exact y4 _ _ _ _|exact yU _ _ _ _ _|exact yT _ _|exact xI _ _ _ _|exact rfl))|((first|refine zT rfl rfl rfl ?_ ?_|refine zX rfl rfl rfl ?_ ?_)<;>intro hp<;>(try (exfalso;omega)))|((first|refine AWp.C rfl ?_ ?_|refine AWp.O _ rfl ?_ ?_)<;>intro hp<;>(try (exfalso;omega)))))
      ((first|refine yE _ [(0, some 0), (1, some 2)] (.cons (zR rfl) .nil) ?_ rfl ?_|refine yF _ [(0, some 0), (1, some 2)] (.cons (zR rfl) .nil) ?_ rfl ?_) <;> (repeat' (first|exact trivial|exact rfl|exact Or.inr ⟨rfl,‹_›⟩|exact Or.inl ⟨rfl,trivial⟩|apply And.intro|exact congrArg (Value.int .i64) (by first|omega|(simp;done)|(simp;omega))|(refine yD ?_;first|(focus (simp;done))|omega|(simp only [lA,lB,lC,lD,lE];omega))|(refine ⟨_,rfl,rfl,rfl,OW.one ?_⟩)|(refine ⟨_,rfl,rfl,rfl,OW.same ?_ ?_⟩)|refine vwB ?_|refine vwS ?_|refine vwI ?_|refine fwB ?_|refine fwS ?_|refine fwI ?_|(refine aIm ?_;first|exact AllSc.nil|assumption))))
      all_goals first | exact zW _ _ | exact (xO _).imm
end
end Go.Proofs.YtchpdclknbmdoaaDoor
