/- An entry is put in its place in a dictionary. No conditions but bounds of lengths. -/
import Derived.Test.YtchpdclknbmdoaaDoorDcF
namespace Go.Proofs.YtchpdclknbmdoaaDoor
open Go Go.RowKit
theorem All2.appE {α β : Type} {R : α → β → Prop} {c : List α} {d : List β} (h' : All2 R c d) : ∀ {a : List α} {b : List β}, All2 R a b → All2 R (a ++ c) (b ++ d)
  | _, _, .nil => h'
  | _, _, .cons h hs => .cons h (All2.appE h' hs)
theorem fc_refl (o : Nat) (els : List (List Cell)) (l : List (List Cell)) : All2 (All2 (FC o els)) l l := All2.refl (fun l => All2.refl (fun c => .same c) l) l
def psS (e x : Ent) (s : List Ent × Bool) : List Ent × Bool :=
  let s1 := if 0 ≤ vK x.o e.o ∧ s.2 = false then (s.1 ++ [e], true) else s
  if vK x.o e.o = 0 then s1 else (s1.1 ++ [x], s1.2)
def psT (es : List Ent) (e : Ent) : Nat → List Ent × Bool
  | 0 => ([], false)
  | k + 1 => match es[k]? with
    | some x => psS e x (psT es e k)
    | none => psT es e k
theorem psT_succ {es : List Ent} {e x : Ent} {k : Nat} (h : es[k]? = some x) : psT es e (k + 1) = psS e x (psT es e k) := by rw [psT, h]
def kU (es : List Ent) (e : Ent) : List Ent := if (psT es e es.length).2 then (psT es e es.length).1 else (psT es e es.length).1 ++ [e]
theorem psS_A {e x : Ent} {O : List Ent} (h : vK x.o e.o = 0) : psS e x (O, false) = (O ++ [e], true) := by simp [psS, h]
theorem psS_B {e x : Ent} {O : List Ent} (h : vK x.o e.o = 0) : psS e x (O, true) = (O, true) := by simp [psS, h]
theorem psS_C {e x : Ent} {O : List Ent} (h : vK x.o e.o ≠ 0) (h' : 0 ≤ vK x.o e.o) : psS e x (O, false) = (O ++ [e] ++ [x], true) := by simp [psS, h, h']
theorem psS_D {e x : Ent} {O : List Ent} {p : Bool} (h : vK x.o e.o ≠ 0) (h' : ¬ (0 ≤ vK x.o e.o ∧ p = false)) : psS e x (O, p) = (O ++ [x], p) := by
  unfold psS
  dsimp only
  rw [if_neg h', if_neg h]
theorem psS_len (e x : Ent) (s : List Ent × Bool) : (psS e x s).1.length ≤ s.1.length + 2 := by
  unfold psS
  dsimp only
  split <;> split <;> simp
theorem psT_len (es : List Ent) (e : Ent) : ∀ k, k ≤ es.length → (psT es e k).1.length ≤ 2 * k
  | 0, _ => Nat.le_refl _
  | k + 1, hk => by
    obtain ⟨x, hx⟩ := xR (show k < es.length by omega)
    have h1 := psT_len es e k (by omega)
    have h2 := psS_len e x (psT es e k)
    rw [psT_succ hx]; omega
theorem psS_mem (e x : Ent) (s : List Ent × Bool) (y : Ent) (hy : y ∈ (psS e x s).1) : y ∈ s.1 ∨ y = e ∨ y = x := by
  have h1 : y ∈ (if 0 ≤ vK x.o e.o ∧ s.2 = false then (s.1 ++ [e], true) else s).1 → y ∈ s.1 ∨ y = e := by
    intro h
    split at h
    · rcases List.mem_append.1 h with h | h
      · exact .inl h
      · exact .inr (List.mem_singleton.1 h)
    · exact .inl h
  unfold psS at hy
  dsimp only at hy
  split at hy
  · rcases h1 hy with h | h
    · exact .inl h
    · exact .inr (.inl h)
  · rcases List.mem_append.1 hy with h | h
    · rcases h1 h with h | h
      · exact .inl h
      · exact .inr (.inl h)
    · exact .inr (.inr (List.mem_singleton.1 h))
theorem psT_mem {es : List Ent} {e : Ent} {P : Ent → Prop} (he : P e) (hes : ∀ x ∈ es, P x) : ∀ k, k ≤ es.length → ∀ y ∈ (psT es e k).1, P y
  | 0, _, y, hy => by simp [psT] at hy
  | k + 1, hk, y, hy => by
    obtain ⟨x, hx⟩ := xR (show k < es.length by omega)
    rw [psT_succ hx] at hy
    rcases psS_mem e x _ y hy with h | rfl | rfl
    · exact psT_mem he hes k (by omega) y h
    · exact he
    · exact hes _ (List.mem_of_getElem? hx)
theorem putE_mem {es : List Ent} {e : Ent} {P : Ent → Prop} (he : P e) (hes : ∀ x ∈ es, P x) : ∀ y ∈ kU es e, P y := by
  intro y hy
  rw [kU] at hy
  split at hy
  · exact psT_mem he hes _ (Nat.le_refl _) y hy
  · rcases List.mem_append.1 hy with hy | hy
    · exact psT_mem he hes _ (Nat.le_refl _) y hy
    · rw [List.mem_singleton.1 hy]; exact he
def EnB (es : List Ent) : Prop := es.length ≤ 100000 ∧ ∀ x ∈ es, x.o.length ≤ 1000000
set_option maxRecDepth 8000 in
theorem l6Put_pf (es : List Ent) (e : Ent) (hb : EnB es) (he : e.o.length ≤ 1000000) : PF Tryd.prog 127 [.agg (qW es), .agg (wQ e)] [] (.agg (qW (kU es e))) := by
  have hbl := hb.1
  have hL : (es.map wQ).length = es.length := List.length_map _
  have h0 := l1Own_pf e.o he
  have hsc := xO e.o
  have hLo : (e.o.map xQ).length = e.o.length := List.length_map _
  have himE := vQ es
  refine PF.enter (xY _ _) Tryd.func127 rfl (by kernel_rfl) _ _ rfl rfl rfl (fun w0 mu I0 β0 gi dis => ?_)
  (repeat' (first|(apply xW;(first|exact Want.none_ rfl|(refine yA rfl rfl rfl rfl ?_;(first|assumption|exact dT ‹_›|exact dF ‹_›|exact rfl))))|(apply xF zH;exact rfl;exact rfl)|((first|(apply z6;exact rfl;exact rfl)|apply z7|(apply z8;exact rfl;exact rfl)|apply zU|(apply zV;exact rfl;exact rfl;exact zH;exact rfl;exact rfl)|apply zN|apply yM|apply zQ|apply zZ|(apply yB;exact rfl;exact rfl)|apply yC|apply yG)<;>(first|exact zH|exact Nat.zero_add _|exact rfl|refine yN ?_|assumption|omega|exact ⟨rfl⟩|exact ⟨rfl,_,_,rfl,rfl⟩|exact lb rfl|(refine Bd.mk ?_;first|assumption|omega|(focus (simp;done))|(simp;omega)|decide)|exact zP ‹_›|exact zP (zP ‹_›)|exact yO rfl|exact xE ‹_›|(focus (simp;done))|(simp;omega)|(simp only [lA,lB,lC,lD,lE];omega)|exact yK rfl (by first|rfl|(simp;done)|(simp only [lA,lB,lC,lD,lE];omega))|exact yJ rfl (by first|assumption|omega|(simp only [lA,lB,lC,lD,lE];omega))))|(apply yW;exact rfl;exact rfl;(first|assumption|exact dT ‹_›|exact dF ‹_›|exact rfl);exact rfl;exact rfl)|(apply yV;(iterate 5 exact rfl);(first|assumption|exact dT ‹_›|exact dF ‹_›|exact rfl))|(apply yL;(iterate 5 exact rfl))|apply zS|(refine yQ ?_ ?_;kernel_rfl)|apply AWp.Q|apply zG|apply AWp.G|apply AWp.B|apply AWp.J|apply AWp.X|apply AWp.R|apply zO|apply zJ|apply zI|apply zL|apply zM|(refine AWp.D ?_ ?_;kernel_rfl)|(refine zK rfl ?_)|(apply AWp.T;exact rfl;(first|assumption|exact dT ‹_›|exact dF ‹_›|exact rfl))|(apply AWp.F;exact rfl;(first|assumption|exact dT ‹_›|exact dF ‹_›|exact rfl))|(apply yH;(iterate 6 exact rfl);(iterate 2 (focus (repeat (first|exact VAs.nil|apply VAs.cons|apply VA.c|apply VA.agg|exact VCs.nil|(apply VCs.same;assumption)|apply VCs.cons|exact VC.imm (Imm.v _)|exact VC.imm (Imm.sl _)|exact VC.imm (Imm.ip _)|exact VC.imm ‹_›|exact VC.nil|(apply zB;exact rfl;exact rfl;(first|exact rfl|(focus (simp;done))|omega|(focus (simp only [lA,lB,lC,lD,lE];omega)));exact rfl;(first|assumption|(refine aIm ?_;assumption)))|(apply zC;exact rfl;exact rfl;(first|assumption|omega|(focus (simp only [lA,lB,lC,lD,lE];omega))|(focus (simp;done))|(focus (simp;omega)));exact rfl;(first|assumption|(refine aIm ?_;assumption)))|assumption))));(first|exact h0);(focus (repeat (first|exact trivial|exact Flat.v _|exact Flat.dead|exact Flat.ref _ _ _|exact Flat.nil|apply And.intro)));(first|apply yS|(apply yR;(focus (repeat (first|exact trivial|apply And.intro|(first|exact AllSc.nil|assumption))))));(first|exact xG _ _|exact xJ _ _ _|exact xK _ _ _ _|exact y3 _ _ _ _ _|exact xH _|exact y5 _ _|exact y4 _ _ _ _|exact yU _ _ _ _ _|exact yT _ _|exact xI _ _ _ _|exact rfl))|((first|refine zT rfl rfl rfl ?_ ?_|refine zX rfl rfl rfl ?_ ?_)<;>intro hp<;>(try (exfalso;omega)))|((first|refine AWp.C rfl ?_ ?_|refine AWp.O _ rfl ?_ ?_)<;>intro hp<;>(try (exfalso;omega)))))
  refine AWp.U (σ := Nat) (fun k => ⟨[(2, .c (.ptr 0 0 0)), (3, .c (.ptr 1 0 0)), (4, .c (.ptr 2 0 0)), (5, .c (.ptr 3 0 0)), (6, .c (boo (psT es e k).2)), (7, .c (.ptr 4 0 0)), (8, .c (int k))],
    [(0, some ⟨50, 1, [qW es]⟩), (1, some ⟨101, 2, [wQ e]⟩), (2, some ⟨50, 1, [[.nil]]⟩), (3, some ⟨50, 1, [[.ref 5 0 (psT es e k).1.length]]⟩), (4, some ⟨101, 2, [wQ e]⟩), (5, some ⟨101, 2, (psT es e k).1.map wQ⟩)], 6⟩) (fun k => k ≤ es.length) (fun k => es.length - k) 0 (Nat.zero_le _) ?_ ?_
  · refine Weak.frz 4 5 (out' := ⟨101, 2, [wQ e]⟩) wE rfl rfl rfl hsc.imm rfl rfl ?_ ?_
    · show All2 _ [[Cell.ref 4 0 e.o.length, str e.t]] [wQ e]
      exact .cons (.cons (.ref _ hLo.symm) (.cons (.same _) .nil)) .nil
    · refine Weak.of [(0, some 0), (1, some 1), (2, some 2), (3, some 3), (4, some 5), (5, none)] rfl ?_ ?_ <;> (repeat' (first|exact trivial|exact rfl|exact Or.inr ⟨rfl,‹_›⟩|exact Or.inl ⟨rfl,trivial⟩|apply And.intro|exact congrArg (Value.int .i64) (by first|omega|(simp;done)|(simp;omega))|(refine yD ?_;first|(focus (simp;done))|omega|(simp only [lA,lB,lC,lD,lE];omega))|(refine ⟨_,rfl,rfl,rfl,OW.one ?_⟩)|(refine ⟨_,rfl,rfl,rfl,OW.same ?_ ?_⟩)|refine vwB ?_|refine vwS ?_|refine vwI ?_|refine fwB ?_|refine fwS ?_|refine fwI ?_|(refine aIm ?_;first|exact AllSc.nil|assumption)))
  · intro k hk
    have hlen := psT_len es e k hk
    have himO := vQ (psT es e k).1
    have hLO : ((psT es e k).1.map wQ).length = (psT es e k).1.length := List.length_map _
    by_cases hlt : k < es.length
    · obtain ⟨x, hx⟩ := xR hlt
      have hx' : (es.map wQ)[k]? = some (wQ x) := x5 hx
      have hlt' : (k : Int) < ((es.map wQ).length : Int) := by omega
      have hxo := hb.2 x (List.mem_of_getElem? hx)
      have h1 := l4Compare_pf x.o e.o (by omega) (by omega)
      have h2 := l1Own_pf x.o hxo
      have hsx := xO x.o
      have hLx : (x.o.map xQ).length = x.o.length := List.length_map _
      have hsu := psT_succ (e := e) hx
      generalize psT es e k = st at hlen himO hLO hsu
      obtain ⟨O, p⟩ := st
      dsimp only at hlen himO hLO hsu ⊢
      by_cases hc0 : vK x.o e.o = 0
      · have hge : 0 ≤ vK x.o e.o := by omega
        cases p with
        | false =>
          rw [psS_A hc0] at hsu
          (repeat' (first|(apply xW;(first|exact Want.none_ rfl|(refine yA rfl rfl rfl rfl ?_;(first|assumption|exact dT ‹_›|exact dF ‹_›|exact rfl))))|(apply xF zH;exact rfl;exact rfl)|((first|(apply z6;exact rfl;exact rfl)|apply z7|(apply z8;exact rfl;exact rfl)|apply zU|(apply zV;exact rfl;exact rfl;exact zH;exact rfl;exact rfl)|apply zN|apply yM|apply zQ|apply zZ|(apply yB;exact rfl;exact rfl)|apply yC|apply yG)<;>(first|exact zH|exact Nat.zero_add _|exact rfl|refine yN ?_|assumption|omega|exact ⟨rfl⟩|exact ⟨rfl,_,_,rfl,rfl⟩|exact lb rfl|(refine Bd.mk ?_;first|assumption|omega|(focus (simp;done))|(simp;omega)|decide)|exact zP ‹_›|exact zP (zP ‹_›)|exact yO rfl|exact xE ‹_›|(focus (simp;done))|(simp;omega)|(simp only [lA,lB,lC,lD,lE];omega)|exact yK rfl (by first|rfl|(simp;done)|(simp only [lA,lB,lC,lD,lE];omega))|exact yJ rfl (by first|assumption|omega|(simp only [lA,lB,lC,lD,lE];omega))))|(apply yW;exact rfl;exact rfl;(first|assumption|exact dT ‹_›|exact dF ‹_›|exact rfl);exact rfl;exact rfl)|(apply yV;(iterate 5 exact rfl);(first|assumption|exact dT ‹_›|exact dF ‹_›|exact rfl))|(apply yL;(iterate 5 exact rfl))|apply zS|(refine yQ ?_ ?_;kernel_rfl)|apply AWp.Q|apply zG|apply AWp.G|apply AWp.B|apply AWp.J|apply AWp.X|apply AWp.R|apply zO|apply zJ|apply zI|apply zL|apply zM|(refine AWp.D ?_ ?_;kernel_rfl)|(refine zK rfl ?_)|(apply AWp.T;exact rfl;(first|assumption|exact dT ‹_›|exact dF ‹_›|exact rfl))|(apply AWp.F;exact rfl;(first|assumption|exact dT ‹_›|exact dF ‹_›|exact rfl))|(apply yH;(iterate 6 exact rfl);(iterate 2 (focus (repeat (first|exact VAs.nil|apply VAs.cons|apply VA.c|apply VA.agg|exact VCs.nil|(apply VCs.same;assumption)|apply VCs.cons|exact VC.imm (Imm.v _)|exact VC.imm (Imm.sl _)|exact VC.imm (Imm.ip _)|exact VC.imm ‹_›|exact VC.nil|(apply zB;exact rfl;exact rfl;(first|exact rfl|(focus (simp;done))|omega|(focus (simp only [lA,lB,lC,lD,lE];omega)));exact rfl;(first|assumption|(refine aIm ?_;assumption)))|(apply zC;exact rfl;exact rfl;(first|assumption|omega|(focus (simp only [lA,lB,lC,lD,lE];omega))|(focus (simp;done))|(focus (simp;omega)));exact rfl;(first|assumption|(refine aIm ?_;assumption)))|assumption))));(first|exact h1|exact h2);(focus (repeat (first|exact trivial|exact Flat.v _|exact Flat.dead|exact Flat.ref _ _ _|exact Flat.nil|apply And.intro)));(first|apply yS|(apply yR;(focus (repeat (first|exact trivial|apply And.intro|(first|exact AllSc.nil|assumption))))));(first|exact xG _ _|exact xJ _ _ _|exact xK _ _ _ _|exact y3 _ _ _ _ _|exact xH _|exact y5 _ _|exact y4 _ _ _ _|exact yU _ _ _ _ _|exact yT _ _|exact xI _ _ _ _|exact rfl))|((first|refine zT rfl rfl rfl ?_ ?_|refine zX rfl rfl rfl ?_ ?_)<;>intro hp<;>(try (exfalso;omega)))|((first|refine AWp.C rfl ?_ ?_|refine AWp.O _ rfl ?_ ?_)<;>intro hp<;>(try (exfalso;omega)))))
          refine ⟨k + 1, by omega, by omega, ?_⟩
          rw [hsu]
          refine Weak.of [(0, some 0), (1, some 1), (2, some 2), (3, some 3), (4, some 4), (5, some 7)] rfl ?_ ?_ <;> (repeat' (first|exact trivial|exact rfl|exact Or.inr ⟨rfl,‹_›⟩|exact Or.inl ⟨rfl,trivial⟩|apply And.intro|exact congrArg (Value.int .i64) (by first|omega|(simp;done)|(simp;omega))|(refine yD ?_;first|(focus (simp;done))|omega|(simp only [lA,lB,lC,lD,lE];omega))|(refine ⟨_,rfl,rfl,rfl,OW.one ?_⟩)|(refine ⟨_,rfl,rfl,rfl,OW.same ?_ ?_⟩)|refine vwB ?_|refine vwS ?_|refine vwI ?_|refine fwB ?_|refine fwS ?_|refine fwI ?_|(refine aIm ?_;first|exact AllSc.nil|assumption)))
          all_goals first | exact vQ _ | (rw [List.map_append]; rfl)
        | true =>
          rw [psS_B hc0] at hsu
          (repeat' (first|(apply xW;(first|exact Want.none_ rfl|(refine yA rfl rfl rfl rfl ?_;(first|assumption|exact dT ‹_›|exact dF ‹_›|exact rfl))))|(apply xF zH;exact rfl;exact rfl)|((first|(apply z6;exact rfl;exact rfl)|apply z7|(apply z8;exact rfl;exact rfl)|apply zU|(apply zV;exact rfl;exact rfl;exact zH;exact rfl;exact rfl)|apply zN|apply yM|apply zQ|apply zZ|(apply yB;exact rfl;exact rfl)|apply yC|apply yG)<;>(first|exact zH|exact Nat.zero_add _|exact rfl|refine yN ?_|assumption|omega|exact ⟨rfl⟩|exact ⟨rfl,_,_,rfl,rfl⟩|exact lb rfl|(refine Bd.mk ?_;first|assumption|omega|(focus (simp;done))|(simp;omega)|decide)|exact zP ‹_›|exact zP (zP ‹_›)|exact yO rfl|exact xE ‹_›|(focus (simp;done))|(simp;omega)|(simp only [lA,lB,lC,lD,lE];omega)|exact yK rfl (by first|rfl|(simp;done)|(simp only [lA,lB,lC,lD,lE];omega))|exact yJ rfl (by first|assumption|omega|(simp only [lA,lB,lC,lD,lE];omega))))|(apply yW;exact rfl;exact rfl;(first|assumption|exact dT ‹_›|exact dF ‹_›|exact rfl);exact rfl;exact rfl)|(apply yV;(iterate 5 exact rfl);(first|assumption|exact dT ‹_›|exact dF ‹_›|exact rfl))|(apply yL;(iterate 5 exact rfl))|apply zS|(refine yQ ?_ ?_;kernel_rfl)|apply AWp.Q|apply zG|apply AWp.G|apply AWp.B|apply AWp.J|apply AWp.X|apply AWp.R|apply zO|apply zJ|apply zI|apply zL|apply zM|(refine AWp.D ?_ ?_;kernel_rfl)|(refine zK rfl ?_)|(apply AWp.T;exact rfl;(first|assumption|exact dT ‹_›|exact dF ‹_›|exact rfl))|(apply AWp.F;exact rfl;(first|assumption|exact dT ‹_›|exact dF ‹_›|exact rfl))|(apply yH;(iterate 6 exact rfl);(iterate 2 (focus (repeat (first|exact VAs.nil|apply VAs.cons|apply VA.c|apply VA.agg|exact VCs.nil|(apply VCs.same;assumption)|apply VCs.cons|exact VC.imm (Imm.v _)|exact VC.imm (Imm.sl _)|exact VC.imm (Imm.ip _)|exact VC.imm ‹_›|exact VC.nil|(apply zB;exact rfl;exact rfl;(first|exact rfl|(focus (simp;done))|omega|(focus (simp only [lA,lB,lC,lD,lE];omega)));exact rfl;(first|assumption|(refine aIm ?_;assumption)))|(apply zC;exact rfl;exact rfl;(first|assumption|omega|(focus (simp only [lA,lB,lC,lD,lE];omega))|(focus (simp;done))|(focus (simp;omega)));exact rfl;(first|assumption|(refine aIm ?_;assumption)))|assumption))));(first|exact h1|exact h2);(focus (repeat (first|exact trivial|exact Flat.v _|exact Flat.dead|exact Flat.ref _ _ _|exact Flat.nil|apply And.intro)));(first|apply yS|(apply yR;(focus (repeat (first|exact trivial|apply And.intro|(first|exact AllSc.nil|assumption))))));(first|exact xG _ _|exact xJ _ _ _|exact xK _ _ _ _|exact y3 _ _ _ _ _|exact xH _|exact y5 _ _|exact y4 _ _ _ _|exact yU _ _ _ _ _|exact yT _ _|exact xI _ _ _ _|exact rfl))|((first|refine zT rfl rfl rfl ?_ ?_|refine zX rfl rfl rfl ?_ ?_)<;>intro hp<;>(try (exfalso;omega)))|((first|refine AWp.C rfl ?_ ?_|refine AWp.O _ rfl ?_ ?_)<;>intro hp<;>(try (exfalso;omega)))))
          refine ⟨k + 1, by omega, by omega, ?_⟩
          rw [hsu]
          refine Weak.of [(0, some 0), (1, some 1), (2, some 2), (3, some 3), (4, some 4), (5, some 5)] rfl ?_ ?_ <;> (repeat' (first|exact trivial|exact rfl|exact Or.inr ⟨rfl,‹_›⟩|exact Or.inl ⟨rfl,trivial⟩|apply And.intro|exact congrArg (Value.int .i64) (by first|omega|(simp;done)|(simp;omega))|(refine yD ?_;first|(focus (simp;done))|omega|(simp only [lA,lB,lC,lD,lE];omega))|(refine ⟨_,rfl,rfl,rfl,OW.one ?_⟩)|(refine ⟨_,rfl,rfl,rfl,OW.same ?_ ?_⟩)|refine vwB ?_|refine vwS ?_|refine vwI ?_|refine fwB ?_|refine fwS ?_|refine fwI ?_|(refine aIm ?_;first|exact AllSc.nil|assumption)))
          all_goals exact vQ _
      · by_cases hcp : 0 ≤ vK x.o e.o ∧ p = false
        · obtain ⟨hge, rfl⟩ := hcp
          rw [psS_C hc0 hge] at hsu
          (repeat' (first|(apply xW;(first|exact Want.none_ rfl|(refine yA rfl rfl rfl rfl ?_;(first|assumption|exact dT ‹_›|exact dF ‹_›|exact rfl))))|(apply xF zH;exact rfl;exact rfl)|((first|(apply z6;exact rfl;exact rfl)|apply z7|(apply z8;exact rfl;exact rfl)|apply zU|(apply zV;exact rfl;exact rfl;exact zH;exact rfl;exact rfl)|apply zN|apply yM|apply zQ|apply zZ|(apply yB;exact rfl;exact rfl)|apply yC|apply yG)<;>(first|exact zH|exact Nat.zero_add _|exact rfl|refine yN ?_|assumption|omega|exact ⟨rfl⟩|exact ⟨rfl,_,_,rfl,rfl⟩|exact lb rfl|(refine Bd.mk ?_;first|assumption|omega|(focus (simp;done))|(simp;omega)|decide)|exact zP ‹_›|exact zP (zP ‹_›)|exact yO rfl|exact xE ‹_›|(focus (simp;done))|(simp;omega)|(simp only [lA,lB,lC,lD,lE];omega)|exact yK rfl (by first|rfl|(simp;done)|(simp only [lA,lB,lC,lD,lE];omega))|exact yJ rfl (by first|assumption|omega|(simp only [lA,lB,lC,lD,lE];omega))))|(apply yW;exact rfl;exact rfl;(first|assumption|exact dT ‹_›|exact dF ‹_›|exact rfl);exact rfl;exact rfl)|(apply yV;(iterate 5 exact rfl);(first|assumption|exact dT ‹_›|exact dF ‹_›|exact rfl))|(apply yL;(iterate 5 exact rfl))|apply zS|(refine yQ ?_ ?_;kernel_rfl)|apply AWp.Q|apply zG|apply AWp.G|apply AWp.B|apply AWp.J|apply AWp.X|apply AWp.R|apply zO|apply zJ|apply zI|apply zL|apply zM|(refine AWp.D ?_ ?_;kernel_rfl)|(refine zK rfl ?_)|(apply AWp.T;exact rfl;(first|assumption|exact dT ‹_›|exact dF ‹_›|exact rfl))|(apply AWp.F;exact rfl;(first|assumption|exact dT ‹_›|exact dF ‹_›|exact rfl))|(apply yH;(iterate 6 exact rfl);(iterate 2 (focus (repeat (first|exact VAs.nil|apply VAs.cons|apply VA.c|apply VA.agg|exact VCs.nil|(apply VCs.same;assumption)|apply VCs.cons|exact VC.imm (Imm.v _)|exact VC.imm (Imm.sl _)|exact VC.imm (Imm.ip _)|exact VC.imm ‹_›|exact VC.nil|(apply zB;exact rfl;exact rfl;(first|exact rfl|(focus (simp;done))|omega|(focus (simp only [lA,lB,lC,lD,lE];omega)));exact rfl;(first|assumption|(refine aIm ?_;assumption)))|(apply zC;exact rfl;exact rfl;(first|assumption|omega|(focus (simp only [lA,lB,lC,lD,lE];omega))|(focus (simp;done))|(focus (simp;omega)));exact rfl;(first|assumption|(refine aIm ?_;assumption)))|assumption))));(first|exact h1|exact h2);(focus (repeat (first|exact trivial|exact Flat.v _|exact Flat.dead|exact Flat.ref _ _ _|exact Flat.nil|apply And.intro)));(first|apply yS|(apply yR;(focus (repeat (first|exact trivial|apply And.intro|(first|exact AllSc.nil|assumption))))));(first|exact xG _ _|exact xJ _ _ _|exact xK _ _ _ _|exact y3 _ _ _ _ _|exact xH _|exact y5 _ _|exact y4 _ _ _ _|exact yU _ _ _ _ _|exact yT _ _|exact xI _ _ _ _|exact rfl))|((first|refine zT rfl rfl rfl ?_ ?_|refine zX rfl rfl rfl ?_ ?_)<;>intro hp<;>(try (exfalso;omega)))|((first|refine AWp.C rfl ?_ ?_|refine AWp.O _ rfl ?_ ?_)<;>intro hp<;>(try (exfalso;omega)))))
          refine ⟨k + 1, by omega, by omega, ?_⟩
          rw [hsu]
          refine Weak.frz 8 10 (out' := ⟨101, 2, O.map wQ ++ [wQ e] ++ [wQ x]⟩) wE rfl rfl rfl hsx.imm rfl rfl ?_ ?_
          · exact All2.appE (.cons (.cons (.ref _ hLx.symm) (.cons (.same _) .nil)) .nil) (fc_refl _ _ _)
          · refine Weak.of [(0, some 0), (1, some 1), (2, some 2), (3, some 3), (4, some 4), (5, some 10)] rfl ?_ ?_ <;> (repeat' (first|exact trivial|exact rfl|exact Or.inr ⟨rfl,‹_›⟩|exact Or.inl ⟨rfl,trivial⟩|apply And.intro|exact congrArg (Value.int .i64) (by first|omega|(simp;done)|(simp;omega))|(refine yD ?_;first|(focus (simp;done))|omega|(simp only [lA,lB,lC,lD,lE];omega))|(refine ⟨_,rfl,rfl,rfl,OW.one ?_⟩)|(refine ⟨_,rfl,rfl,rfl,OW.same ?_ ?_⟩)|refine vwB ?_|refine vwS ?_|refine vwI ?_|refine fwB ?_|refine fwS ?_|refine fwI ?_|(refine aIm ?_;first|exact AllSc.nil|assumption)))
            all_goals first | exact vQ _ | (rw [List.map_append, List.map_append]; rfl)
        · rw [psS_D hc0 hcp] at hsu
          have hcd : ¬ (0 ≤ vK x.o e.o) ∨ p = true := by cases p <;> simp_all
          rcases hcd with hcd | rfl
          all_goals (repeat' (first|(apply xW;(first|exact Want.none_ rfl|(refine yA rfl rfl rfl rfl ?_;(first|assumption|exact dT ‹_›|exact dF ‹_›|exact rfl))))|(apply xF zH;exact rfl;exact rfl)|((first|(apply z6;exact rfl;exact rfl)|apply z7|(apply z8;exact rfl;exact rfl)|apply zU|(apply zV;exact rfl;exact rfl;exact zH;exact rfl;exact rfl)|apply zN|apply yM|apply zQ|apply zZ|(apply yB;exact rfl;exact rfl)|apply yC|apply yG)<;>(first|exact zH|exact Nat.zero_add _|exact rfl|refine yN ?_|assumption|omega|exact ⟨rfl⟩|exact ⟨rfl,_,_,rfl,rfl⟩|exact lb rfl|(refine Bd.mk ?_;first|assumption|omega|(focus (simp;done))|(simp;omega)|decide)|exact zP ‹_›|exact zP (zP ‹_›)|exact yO rfl|exact xE ‹_›|(focus (simp;done))|(simp;omega)|(simp only [lA,lB,lC,lD,lE];omega)|exact yK rfl (by first|rfl|(simp;done)|(simp only [lA,lB,lC,lD,lE];omega))|exact yJ rfl (by first|assumption|omega|(simp only [lA,lB,lC,lD,lE];omega))))|(apply yW;exact rfl;exact rfl;(first|assumption|exact dT ‹_›|exact dF ‹_›|exact rfl);exact rfl;exact rfl)|(apply yV;(iterate 5 exact rfl);(first|assumption|exact dT ‹_›|exact dF ‹_›|exact rfl))|(apply yL;(iterate 5 exact rfl))|apply zS|(refine yQ ?_ ?_;kernel_rfl)|apply AWp.Q|apply zG|apply AWp.G|apply AWp.B|apply AWp.J|apply AWp.X|apply AWp.R|apply zO|apply zJ|apply zI|apply zL|apply zM|(refine AWp.D ?_ ?_;kernel_rfl)|(refine zK rfl ?_)|(apply AWp.T;exact rfl;(first|assumption|exact dT ‹_›|exact dF ‹_›|exact rfl))|(apply AWp.F;exact rfl;(first|assumption|exact dT ‹_›|exact dF ‹_›|exact rfl))|(apply yH;(iterate 6 exact rfl);(iterate 2 (focus (repeat (first|exact VAs.nil|apply VAs.cons|apply VA.c|apply VA.agg|exact VCs.nil|(apply VCs.same;assumption)|apply VCs.cons|exact VC.imm (Imm.v _)|exact VC.imm (Imm.sl _)|exact VC.imm (Imm.ip _)|exact VC.imm ‹_›|exact VC.nil|(apply zB;exact rfl;exact rfl;(first|exact rfl|(focus (simp;done))|omega|(focus (simp only [lA,lB,lC,lD,lE];omega)));exact rfl;(first|assumption|(refine aIm ?_;assumption)))|(apply zC;exact rfl;exact rfl;(first|assumption|omega|(focus (simp only [lA,lB,lC,lD,lE];omega))|(focus (simp;done))|(focus (simp;omega)));exact rfl;(first|assumption|(refine aIm ?_;assumption)))|assumption))));(first|exact h1|exact h2);(focus (repeat (first|exact trivial|exact Flat.v _|exact Flat.dead|exact Flat.ref _ _ _|exact Flat.nil|apply And.intro)));(first|apply yS|(apply yR;(focus (repeat (first|exact trivial|apply And.intro|(first|exact AllSc.nil|assumption))))));(first|exact xG _ _|exact xJ _ _ _|exact xK _ _ _ _|exact y3 _ _ _ _ _|exact xH _|exact y5 _ _|exact y4 _ _ _ _|exact yU _ _ _ _ _|exact yT _ _|exact xI _ _ _ _|exact rfl))|((first|refine zT rfl rfl rfl ?_ ?_|refine zX rfl rfl rfl ?_ ?_)<;>intro hp<;>(try (exfalso;omega)))|((first|refine AWp.C rfl ?_ ?_|refine AWp.O _ rfl ?_ ?_)<;>intro hp<;>(try (exfalso;omega)))))
          all_goals
            refine ⟨k + 1, by omega, by omega, ?_⟩
            rw [hsu]
            refine Weak.frz 6 8 (out' := ⟨101, 2, O.map wQ ++ [wQ x]⟩) wE rfl rfl rfl hsx.imm rfl rfl ?_ ?_
          all_goals first
            | exact All2.appE (.cons (.cons (.ref _ hLx.symm) (.cons (.same _) .nil)) .nil) (fc_refl _ _ _)
            | skip
          all_goals
            refine Weak.of [(0, some 0), (1, some 1), (2, some 2), (3, some 3), (4, some 4), (5, some 8)] rfl ?_ ?_ <;> (repeat' (first|exact trivial|exact rfl|exact Or.inr ⟨rfl,‹_›⟩|exact Or.inl ⟨rfl,trivial⟩|apply And.intro|exact congrArg (Value.int .i64) (by first|omega|(simp;done)|(simp;omega))|(refine yD ?_;first|(focus (simp;done))|omega|(simp only [lA,lB,lC,lD,lE];omega))|(refine ⟨_,rfl,rfl,rfl,OW.one ?_⟩)|(refine ⟨_,rfl,rfl,rfl,OW.same ?_ ?_⟩)|refine vwB ?_|refine vwS ?_|refine vwI ?_|refine fwB ?_|refine fwS ?_|refine fwI ?_|(refine aIm ?_;first|exact AllSc.nil|assumption)))
          all_goals first | exact vQ _ | (rw [List.map_append]; rfl)
    · have hlt' : ¬ (k : Int) < ((es.map wQ).length : Int) := by omega
      obtain rfl : k = es.length := by omega
      rw [kU]
      generalize psT es e es.length = st at hlen himO hLO
      obtain ⟨O, p⟩ := st
      dsimp only at hlen himO hLO ⊢
      cases p with
      | true =>
        rw [if_pos rfl]
        (repeat' (first|(apply xW;(first|exact Want.none_ rfl|(refine yA rfl rfl rfl rfl ?_;(first|assumption|exact dT ‹_›|exact dF ‹_›|exact rfl))))|(apply xF zH;exact rfl;exact rfl)|((first|(apply z6;exact rfl;exact rfl)|apply z7|(apply z8;exact rfl;exact rfl)|apply zU|(apply zV;exact rfl;exact rfl;exact zH;exact rfl;exact rfl)|apply zN|apply yM|apply zQ|apply zZ|(apply yB;exact rfl;exact rfl)|apply yC|apply yG)<;>(first|exact zH|exact Nat.zero_add _|exact rfl|refine yN ?_|assumption|omega|exact ⟨rfl⟩|exact ⟨rfl,_,_,rfl,rfl⟩|exact lb rfl|(refine Bd.mk ?_;first|assumption|omega|(focus (simp;done))|(simp;omega)|decide)|exact zP ‹_›|exact zP (zP ‹_›)|exact yO rfl|exact xE ‹_›|(focus (simp;done))|(simp;omega)|(simp only [lA,lB,lC,lD,lE];omega)|exact yK rfl (by first|rfl|(simp;done)|(simp only [lA,lB,lC,lD,lE];omega))|exact yJ rfl (by first|assumption|omega|(simp only [lA,lB,lC,lD,lE];omega))))|(apply yW;exact rfl;exact rfl;(first|assumption|exact dT ‹_›|exact dF ‹_›|exact rfl);exact rfl;exact rfl)|(apply yV;(iterate 5 exact rfl);(first|assumption|exact dT ‹_›|exact dF ‹_›|exact rfl))|(apply yL;(iterate 5 exact rfl))|apply zS|(refine yQ ?_ ?_;kernel_rfl)|apply AWp.Q|apply zG|apply AWp.G|apply AWp.B|apply AWp.J|apply AWp.X|apply zO|apply zJ|apply zI|apply zL|apply zM|(refine AWp.D ?_ ?_;kernel_rfl)|(refine zK rfl ?_)|(apply AWp.T;exact rfl;(first|assumption|exact dT ‹_›|exact dF ‹_›|exact rfl))|(apply AWp.F;exact rfl;(first|assumption|exact dT ‹_›|exact dF ‹_›|exact rfl))|(apply yH;(iterate 6 exact rfl);(iterate 2 (focus (repeat (first|exact VAs.nil|apply VAs.cons|apply VA.c|apply VA.agg|exact VCs.nil|(apply VCs.same;assumption)|apply VCs.cons|exact VC.imm (Imm.v _)|exact VC.imm (Imm.sl _)|exact VC.imm (Imm.ip _)|exact VC.imm ‹_›|exact VC.nil|(apply zB;exact rfl;exact rfl;(first|exact rfl|(focus (simp;done))|omega|(focus (simp only [lA,lB,lC,lD,lE];omega)));exact rfl;(first|assumption|(refine aIm ?_;assumption)))|(apply zC;exact rfl;exact rfl;(first|assumption|omega|(focus (simp only [lA,lB,lC,lD,lE];omega))|(focus (simp;done))|(focus (simp;omega)));exact rfl;(first|assumption|(refine aIm ?_;assumption)))|assumption))));(first|exact h0);(focus (repeat (first|exact trivial|exact Flat.v _|exact Flat.dead|exact Flat.ref _ _ _|exact Flat.nil|apply And.intro)));(first|apply yS|(apply yR;(focus (repeat (first|exact trivial|apply And.intro|(first|exact AllSc.nil|assumption))))));(first|exact xG _ _|exact xJ _ _ _|exact xK _ _ _ _|exact y3 _ _ _ _ _|exact xH _|exact y5 _ _|exact y4 _ _ _ _|exact yU _ _ _ _ _|exact yT _ _|exact xI _ _ _ _|exact rfl))|((first|refine zT rfl rfl rfl ?_ ?_|refine zX rfl rfl rfl ?_ ?_)<;>intro hp<;>(try (exfalso;omega)))|((first|refine AWp.C rfl ?_ ?_|refine AWp.O _ rfl ?_ ?_)<;>intro hp<;>(try (exfalso;omega)))))
        refine AWp.weaken (Weak.frz 5 2 (out' := ⟨50, 1, [qW O]⟩) wE rfl rfl rfl (vQ _) rfl rfl (.cons (.cons (.ref _ hLO.symm) .nil) .nil) (Weak.refl _ _)) ?_
        apply AWp.R
        ((first|refine yE _ [] (.cons (yP rfl rfl rfl zH rfl rfl rfl) .nil) ?_ rfl ?_|refine yF _ [] (.cons (yP rfl rfl rfl zH rfl rfl rfl) .nil) ?_ rfl ?_) <;> (repeat' (first|exact trivial|exact rfl|exact Or.inr ⟨rfl,‹_›⟩|exact Or.inl ⟨rfl,trivial⟩|apply And.intro|exact congrArg (Value.int .i64) (by first|omega|(simp;done)|(simp;omega))|(refine yD ?_;first|(focus (simp;done))|omega|(simp only [lA,lB,lC,lD,lE];omega))|(refine ⟨_,rfl,rfl,rfl,OW.one ?_⟩)|(refine ⟨_,rfl,rfl,rfl,OW.same ?_ ?_⟩)|refine vwB ?_|refine vwS ?_|refine vwI ?_|refine fwB ?_|refine fwS ?_|refine fwI ?_|(refine aIm ?_;first|exact AllSc.nil|assumption))))
      | false =>
        rw [if_neg (by simp)]
        have hOE : O.map wQ ++ [wQ e] = (O ++ [e]).map wQ := by rw [List.map_append]; rfl
        (repeat' (first|(apply xW;(first|exact Want.none_ rfl|(refine yA rfl rfl rfl rfl ?_;(first|assumption|exact dT ‹_›|exact dF ‹_›|exact rfl))))|(apply xF zH;exact rfl;exact rfl)|((first|(apply z6;exact rfl;exact rfl)|apply z7|(apply z8;exact rfl;exact rfl)|apply zU|(apply zV;exact rfl;exact rfl;exact zH;exact rfl;exact rfl)|apply zN|apply yM|apply zQ|apply zZ|(apply yB;exact rfl;exact rfl)|apply yC|apply yG)<;>(first|exact zH|exact Nat.zero_add _|exact rfl|refine yN ?_|assumption|omega|exact ⟨rfl⟩|exact ⟨rfl,_,_,rfl,rfl⟩|exact lb rfl|(refine Bd.mk ?_;first|assumption|omega|(focus (simp;done))|(simp;omega)|decide)|exact zP ‹_›|exact zP (zP ‹_›)|exact yO rfl|exact xE ‹_›|(focus (simp;done))|(simp;omega)|(simp only [lA,lB,lC,lD,lE];omega)|exact yK rfl (by first|rfl|(simp;done)|(simp only [lA,lB,lC,lD,lE];omega))|exact yJ rfl (by first|assumption|omega|(simp only [lA,lB,lC,lD,lE];omega))))|(apply yW;exact rfl;exact rfl;(first|assumption|exact dT ‹_›|exact dF ‹_›|exact rfl);exact rfl;exact rfl)|(apply yV;(iterate 5 exact rfl);(first|assumption|exact dT ‹_›|exact dF ‹_›|exact rfl))|(apply yL;(iterate 5 exact rfl))|apply zS|(refine yQ ?_ ?_;kernel_rfl)|apply AWp.Q|apply zG|apply AWp.G|apply AWp.B|apply AWp.J|apply AWp.X|apply zO|apply zJ|apply zI|apply zL|apply zM|(refine AWp.D ?_ ?_;kernel_rfl)|(refine zK rfl ?_)|(apply AWp.T;exact rfl;(first|assumption|exact dT ‹_›|exact dF ‹_›|exact rfl))|(apply AWp.F;exact rfl;(first|assumption|exact dT ‹_›|exact dF ‹_›|exact rfl))|(apply yH;(iterate 6 exact rfl);(iterate 2 (focus (repeat (first|exact VAs.nil|apply VAs.cons|apply VA.c|apply VA.agg|exact VCs.nil|(apply VCs.same;assumption)|apply VCs.cons|exact VC.imm (Imm.v _)|exact VC.imm (Imm.sl _)|exact VC.imm (Imm.ip _)|exact VC.imm ‹_›|exact VC.nil|(apply zB;exact rfl;exact rfl;(first|exact rfl|(focus (simp;done))|omega|(focus (simp only [lA,lB,lC,lD,lE];omega)));exact rfl;(first|assumption|(refine aIm ?_;assumption)))|(apply zC;exact rfl;exact rfl;(first|assumption|omega|(focus (simp only [lA,lB,lC,lD,lE];omega))|(focus (simp;done))|(focus (simp;omega)));exact rfl;(first|assumption|(refine aIm ?_;assumption)))|assumption))));(first|exact h0);(focus (repeat (first|exact trivial|exact Flat.v _|exact Flat.dead|exact Flat.ref _ _ _|exact Flat.nil|apply And.intro)));(first|apply yS|(apply yR;(focus (repeat (first|exact trivial|apply And.intro|(first|exact AllSc.nil|assumption))))));(first|exact xG _ _|exact xJ _ _ _|exact xK _ _ _ _|exact y3 _ _ _ _ _|exact xH _|exact y5 _ _|exact y4 _ _ _ _|exact yU _ _ _ _ _|exact yT _ _|exact xI _ _ _ _|exact rfl))|((first|refine zT rfl rfl rfl ?_ ?_|refine zX rfl rfl rfl ?_ ?_)<;>intro hp<;>(try (exfalso;omega)))|((first|refine AWp.C rfl ?_ ?_|refine AWp.O _ rfl ?_ ?_)<;>intro hp<;>(try (exfalso;omega)))))
        refine AWp.weaken (Weak.frz 7 2 (out' := ⟨50, 1, [qW (O ++ [e])]⟩) wE rfl rfl rfl ?_ rfl rfl (.cons (.cons ?_ .nil) .nil) (Weak.refl _ _)) ?_
        · show ∀ x ∈ O.map wQ ++ [wQ e], _
          rw [hOE]; exact vQ _
        · show FC 7 (O.map wQ ++ [wQ e]) (Cell.ref 7 0 ((O.map wQ).length + 1)) (.sl ((O ++ [e]).map wQ))
          rw [← hOE]; exact .ref _ (by simp)
        apply AWp.R
        ((first|refine yE _ [] (.cons (yP rfl rfl rfl zH rfl rfl rfl) .nil) ?_ rfl ?_|refine yF _ [] (.cons (yP rfl rfl rfl zH rfl rfl rfl) .nil) ?_ rfl ?_) <;> (repeat' (first|exact trivial|exact rfl|exact Or.inr ⟨rfl,‹_›⟩|exact Or.inl ⟨rfl,trivial⟩|apply And.intro|exact congrArg (Value.int .i64) (by first|omega|(simp;done)|(simp;omega))|(refine yD ?_;first|(focus (simp;done))|omega|(simp only [lA,lB,lC,lD,lE];omega))|(refine ⟨_,rfl,rfl,rfl,OW.one ?_⟩)|(refine ⟨_,rfl,rfl,rfl,OW.same ?_ ?_⟩)|refine vwB ?_|refine vwS ?_|refine vwI ?_|refine fwB ?_|refine fwS ?_|refine fwI ?_|(refine aIm ?_;first|exact AllSc.nil|assumption))))
end Go.Proofs.YtchpdclknbmdoaaDoor
