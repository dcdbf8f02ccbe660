/- An entry is put in its place in a dictionary. No conditions but bounds of lengths. -/
import Derived.Test.YtchpdclknbmdoaaGreatDoorDcF
namespace Go.Proofs.YtchpdclknbmdoaaGreatDoor
open Go Go.RowKit
theorem All2.appE {α β : Type} {R : α → β → Prop} {c : List α} {d : List β} (h' : All2 R c d) : ∀ {a : List α} {b : List β}, All2 R a b → All2 R (a ++ c) (b ++ d)
  | _, _, .nil => h'
  | _, _, .cons h hs => .cons h (All2.appE h' hs)
theorem fc_refl (o : Nat) (els : List (List Cell)) (l : List (List Cell)) : All2 (All2 (FC o els)) l l := All2.refl (fun l => All2.refl (fun c => .same c) l) l
def psS (e x : Ent) (s : List Ent × Bool) : List Ent × Bool :=
  let s1 := if 0 ≤ wK x.o e.o ∧ s.2 = false then (s.1 ++ [e], true) else s
  if wK x.o e.o = 0 then s1 else (s1.1 ++ [x], s1.2)
def psT (es : List Ent) (e : Ent) : Nat → List Ent × Bool
  | 0 => ([], false)
  | k + 1 => match es[k]? with
    | some x => psS e x (psT es e k)
    | none => psT es e k
theorem psT_succ {es : List Ent} {e x : Ent} {k : Nat} (h : es[k]? = some x) : psT es e (k + 1) = psS e x (psT es e k) := by rw [psT, h]
def kL (es : List Ent) (e : Ent) : List Ent := if (psT es e es.length).2 then (psT es e es.length).1 else (psT es e es.length).1 ++ [e]
theorem psS_A {e x : Ent} {O : List Ent} (h : wK x.o e.o = 0) : psS e x (O, false) = (O ++ [e], true) := by simp [psS, h]
theorem psS_B {e x : Ent} {O : List Ent} (h : wK x.o e.o = 0) : psS e x (O, true) = (O, true) := by simp [psS, h]
theorem psS_C {e x : Ent} {O : List Ent} (h : wK x.o e.o ≠ 0) (h' : 0 ≤ wK x.o e.o) : psS e x (O, false) = (O ++ [e] ++ [x], true) := by simp [psS, h, h']
theorem psS_D {e x : Ent} {O : List Ent} {p : Bool} (h : wK x.o e.o ≠ 0) (h' : ¬ (0 ≤ wK x.o e.o ∧ p = false)) : psS e x (O, p) = (O ++ [x], p) := by
  unfold psS
  dsimp only
  rw [if_neg h', if_neg h]
theorem psS_len (e x : Ent) (s : List Ent × Bool) : (psS e x s).1.length ≤ s.1.length + 2 := by
  unfold psS
  dsimp only
  split <;> split <;> simp
theorem psT_len (es : List Ent) (e : Ent) : ∀ k, k ≤ es.length → (psT es e k).1.length ≤ 2 * k
  | 0, _ => Nat.le_refl _
  | k + 1, hk => by
    obtain ⟨x, hx⟩ := xY (show k < es.length by omega)
    have h1 := psT_len es e k (by omega)
    have h2 := psS_len e x (psT es e k)
    rw [psT_succ hx]; omega
theorem psS_mem (e x : Ent) (s : List Ent × Bool) (y : Ent) (hy : y ∈ (psS e x s).1) : y ∈ s.1 ∨ y = e ∨ y = x := by
  have h1 : y ∈ (if 0 ≤ wK x.o e.o ∧ s.2 = false then (s.1 ++ [e], true) else s).1 → y ∈ s.1 ∨ y = e := by
    intro h
    split at h
    · rcases List.mem_append.1 h with h | h
      · exact .inl h
      · exact .inr (List.mem_singleton.1 h)
    · exact .inl h
  unfold psS at hy
  dsimp only at hy
  split at hy
  · rcases h1 hy with h | h
    · exact .inl h
    · exact .inr (.inl h)
  · rcases List.mem_append.1 hy with h | h
    · rcases h1 h with h | h
      · exact .inl h
      · exact .inr (.inl h)
    · exact .inr (.inr (List.mem_singleton.1 h))
theorem psT_mem {es : List Ent} {e : Ent} {P : Ent → Prop} (he : P e) (hes : ∀ x ∈ es, P x) : ∀ k, k ≤ es.length → ∀ y ∈ (psT es e k).1, P y
  | 0, _, y, hy => by simp [psT] at hy
  | k + 1, hk, y, hy => by
    obtain ⟨x, hx⟩ := xY (show k < es.length by omega)
    rw [psT_succ hx] at hy
    rcases psS_mem e x _ y hy with h | rfl | rfl
    · exact psT_mem he hes k (by omega) y h
    · exact he
    · exact hes _ (List.mem_of_getElem? hx)
theorem putE_mem {es : List Ent} {e : Ent} {P : Ent → Prop} (he : P e) (hes : ∀ x ∈ es, P x) : ∀ y ∈ kL es e, P y := by
  intro y hy
  rw [kL] at hy
  split at hy
  · exact psT_mem he hes _ (Nat.le_refl _) y hy
  · rcases List.mem_append.1 hy with hy | hy
    · exact psT_mem he hes _ (Nat.le_refl _) y hy
    · rw [List.mem_singleton.1 hy]; exact he
def EnB (es : List Ent) : Prop := es.length ≤ 100000 ∧ ∀ x ∈ es, x.o.length ≤ 1000000
theorem l6PutO_pf (es : List Ent) (e : Ent) (hb : EnB es) (he : e.o.length ≤ 1000000) : PF Tryz.prog 157 [.agg (x3 es), .agg (xO e)] [⟨98, 2, (kL es e).map xO⟩] (.agg [.ref 0 0 (kL es e).length]) := by
  have hbl := hb.1
  have hL : (es.map xO).length = es.length := List.length_map _
  have h0 := l1Own_pf e.o he
  have hsc := xI e.o
  have hLo : (e.o.map yU).length = e.o.length := List.length_map _
  have himE := x7 es
  refine PF.enter (xX _ _) Tryz.func157 rfl (by kernel_rfl) _ _ rfl rfl rfl (fun w0 mu I0 β0 gi dis => ?_)
  (repeat' (first|(apply xW;((exact Want.none_ rfl)))|(apply xF zI;exact rfl;exact rfl)|((first|apply yS|apply zV|apply yE)<;>(first|exact zI|exact rfl|refine yI ?_|exact lb rfl|(refine Bd.mk ?_;(focus (simp;done)))))|apply zS|(refine yN ?_ ?_;kernel_rfl)|apply AWp.Q|apply zH|apply AWp.G|apply AWp.B|(refine AWp.D ?_ ?_;kernel_rfl)|(apply yD;(iterate 6 exact rfl);(iterate 2 (focus (repeat (first|exact VAs.nil|apply VAs.cons|apply VA.c|exact VCs.nil|exact VC.imm (Imm.sl _)))));((exact h0));(focus (repeat ((exact Flat.ref _ _ _))));((apply yK;(focus (repeat (first|exact trivial|apply And.intro|((assumption)))))));((exact xA _ _ _ _)))))
  refine AWp.U (σ := Nat) (fun k => ⟨[(2, .c (.ptr 0 0 0)), (3, .c (.ptr 1 0 0)), (4, .c (.ptr 2 0 0)), (5, .c (.ptr 3 0 0)), (6, .c (boo (psT es e k).2)), (7, .c (.ptr 4 0 0)), (8, .c (int k))],
    [(0, some ⟨26, 1, [x3 es]⟩), (1, some ⟨98, 2, [xO e]⟩), (2, some ⟨26, 1, [[.nil]]⟩), (3, some ⟨26, 1, [[.ref 5 0 (psT es e k).1.length]]⟩), (4, some ⟨98, 2, [xO e]⟩), (5, some ⟨98, 2, (psT es e k).1.map xO⟩)], 6⟩) (fun k => k ≤ es.length) (fun k => es.length - k) 0 (Nat.zero_le _) ?_ ?_
  · refine Weak.frz 4 5 (out' := ⟨98, 2, [xO e]⟩) vS rfl rfl rfl hsc.imm rfl rfl ?_ ?_
    · show All2 _ [[Cell.ref 4 0 e.o.length, str e.t]] [xO e]
      exact .cons (.cons (.ref _ hLo.symm) (.cons (.same _) .nil)) .nil
    · refine Weak.of [(0, some 0), (1, some 1), (2, some 2), (3, some 3), (4, some 5), (5, none)] rfl ?_ ?_ <;> (repeat' (first|exact trivial|exact rfl|apply And.intro|refine ⟨_,rfl,rfl,rfl,OW.one ?_⟩))
  · intro k hk
    have hlen := psT_len es e k hk
    have himO := x7 (psT es e k).1
    have hLO : ((psT es e k).1.map xO).length = (psT es e k).1.length := List.length_map _
    by_cases hlt : k < es.length
    · obtain ⟨x, hx⟩ := xY hlt
      have hx' : (es.map xO)[k]? = some (xO x) := xS hx
      have hlt' : (k : Int) < ((es.map xO).length : Int) := by omega
      have hxo := hb.2 x (List.mem_of_getElem? hx)
      have h1 := l4Compare_pf x.o e.o (by omega) (by omega)
      have h2 := l1Own_pf x.o hxo
      have hsx := xI x.o
      have hLx : (x.o.map yU).length = x.o.length := List.length_map _
      have hsu := psT_succ (e := e) hx
      generalize psT es e k = st at hlen himO hLO hsu
      obtain ⟨O, p⟩ := st
      dsimp only at hlen himO hLO hsu ⊢
      by_cases hc0 : wK x.o e.o = 0
      · have hge : 0 ≤ wK x.o e.o := by omega
        cases p with
        | false =>
          rw [psS_A hc0] at hsu
          (repeat' (first|(apply xW;(first|exact Want.none_ rfl|(refine z6 rfl rfl rfl rfl ?_;((exact dT ‹_›)))))|(apply xF zI;exact rfl;exact rfl)|((first|apply z8|(apply yC;exact rfl;exact rfl)|apply zT|(apply yQ;exact rfl;exact rfl)|apply yE)<;>(first|exact zI|exact rfl|refine yI ?_|assumption|omega|exact lb rfl|(refine Bd.mk ?_;(simp;omega))|exact xH rfl))|(apply y4;exact rfl;exact rfl;((exact dT ‹_›));exact rfl;exact rfl)|apply zS|(refine yN ?_ ?_;kernel_rfl)|apply AWp.Q|apply zH|apply AWp.G|apply AWp.B|apply AWp.J|apply zJ|(refine AWp.D ?_ ?_;kernel_rfl)|(apply AWp.T;exact rfl;(first|exact dT ‹_›|exact rfl))|(apply yD;(iterate 6 exact rfl);(iterate 2 (focus (repeat (first|exact VAs.nil|apply VAs.cons|apply VA.c|exact VCs.nil|exact VC.imm (Imm.sl _)))));((exact h1));(focus (repeat ((exact Flat.v _))));((apply yM));((exact xE _ _)))|(((refine AWp.C rfl ?_ ?_))<;>intro hp<;>try (exfalso;omega))))
          refine ⟨k + 1, by omega, by omega, ?_⟩
          rw [hsu]
          refine Weak.of [(0, some 0), (1, some 1), (2, some 2), (3, some 3), (4, some 4), (5, some 7)] rfl ?_ ?_ <;> (repeat' (first|exact trivial|exact rfl|apply And.intro|(refine yB ?_;(focus (simp;done)))|refine ⟨_,rfl,rfl,rfl,OW.one ?_⟩|refine oWs rfl rfl rfl ?_ ?_))
          all_goals first | exact x7 _ | (rw [List.map_append]; rfl)
        | true =>
          rw [psS_B hc0] at hsu
          (repeat' (first|(apply xW;(first|exact Want.none_ rfl|(refine z6 rfl rfl rfl rfl ?_;((exact dT ‹_›)))))|(apply xF zI;exact rfl;exact rfl)|((first|apply z8|(apply yC;exact rfl;exact rfl))<;>(first|exact zI|exact rfl|refine yI ?_|assumption|omega))|(apply y4;exact rfl;exact rfl;((exact dT ‹_›));exact rfl;exact rfl)|apply zS|(refine yN ?_ ?_;kernel_rfl)|apply AWp.Q|apply zH|apply AWp.G|apply AWp.B|apply AWp.J|apply zJ|(refine AWp.D ?_ ?_;kernel_rfl)|(apply AWp.T;exact rfl;((exact dT ‹_›)))|(apply AWp.F;exact rfl;((exact rfl)))|(apply yD;(iterate 6 exact rfl);(iterate 2 (focus (repeat (first|exact VAs.nil|apply VAs.cons|apply VA.c|exact VCs.nil|exact VC.imm (Imm.sl _)))));((exact h1));(focus (repeat ((exact Flat.v _))));((apply yM));((exact xE _ _)))|(((refine AWp.C rfl ?_ ?_))<;>intro hp<;>try (exfalso;omega))))
          refine ⟨k + 1, by omega, by omega, ?_⟩
          rw [hsu]
          refine Weak.of [(0, some 0), (1, some 1), (2, some 2), (3, some 3), (4, some 4), (5, some 5)] rfl ?_ ?_ <;> (repeat' (first|exact trivial|exact rfl|apply And.intro|refine ⟨_,rfl,rfl,rfl,OW.one ?_⟩|refine oWs rfl rfl rfl ?_ ?_))
          all_goals exact x7 _
      · by_cases hcp : 0 ≤ wK x.o e.o ∧ p = false
        · obtain ⟨hge, rfl⟩ := hcp
          rw [psS_C hc0 hge] at hsu
          (repeat' (first|(apply xW;(first|exact Want.none_ rfl|(refine z6 rfl rfl rfl rfl ?_;((exact dT ‹_›)))))|(apply xF zI;exact rfl;exact rfl)|((first|apply z8|(apply yC;exact rfl;exact rfl)|apply yS|apply zT|(apply yQ;exact rfl;exact rfl)|apply yE)<;>(first|exact zI|exact rfl|refine yI ?_|assumption|omega|exact lb rfl|(refine Bd.mk ?_;first|(focus (simp;done))|(simp;omega))|exact xH rfl|(focus (simp;done))))|(apply y4;exact rfl;exact rfl;((exact dT ‹_›));exact rfl;exact rfl)|apply zS|(refine yN ?_ ?_;kernel_rfl)|apply AWp.Q|apply zH|apply AWp.G|apply AWp.B|apply AWp.J|apply zJ|(refine AWp.D ?_ ?_;kernel_rfl)|(apply AWp.T;exact rfl;(first|exact dT ‹_›|exact rfl))|(apply yD;(iterate 6 exact rfl);(iterate 2 (focus (repeat (first|exact VAs.nil|apply VAs.cons|apply VA.c|exact VCs.nil|exact VC.imm (Imm.sl _)))));(first|exact h1|exact h2);(focus (repeat (first|exact Flat.v _|exact Flat.ref _ _ _)));(first|apply yM|(apply yK;(focus (repeat (first|exact trivial|apply And.intro|((assumption)))))));(first|exact xE _ _|exact xA _ _ _ _))))
          refine ⟨k + 1, by omega, by omega, ?_⟩
          rw [hsu]
          refine Weak.frz 8 10 (out' := ⟨98, 2, O.map xO ++ [xO e] ++ [xO x]⟩) vS rfl rfl rfl hsx.imm rfl rfl ?_ ?_
          · exact All2.appE (.cons (.cons (.ref _ hLx.symm) (.cons (.same _) .nil)) .nil) (fc_refl _ _ _)
          · refine Weak.of [(0, some 0), (1, some 1), (2, some 2), (3, some 3), (4, some 4), (5, some 10)] rfl ?_ ?_ <;> (repeat' (first|exact trivial|exact rfl|apply And.intro|(refine yB ?_;(focus (simp;done)))|refine ⟨_,rfl,rfl,rfl,OW.one ?_⟩|refine oWs rfl rfl rfl ?_ ?_))
            all_goals first | exact x7 _ | (rw [List.map_append, List.map_append]; rfl)
        · rw [psS_D hc0 hcp] at hsu
          have hcd : ¬ (0 ≤ wK x.o e.o) ∨ p = true := by cases p <;> simp_all
          rcases hcd with hcd | rfl
          all_goals (repeat' (first|(apply xW;(first|exact Want.none_ rfl|(refine z6 rfl rfl rfl rfl ?_;((exact dT ‹_›)))))|(apply xF zI;exact rfl;exact rfl)|((first|apply z8|(apply yC;exact rfl;exact rfl)|apply yS|apply zT|(apply yQ;exact rfl;exact rfl)|apply yE)<;>(first|exact zI|exact rfl|refine yI ?_|assumption|omega|exact lb rfl|(refine Bd.mk ?_;first|(focus (simp;done))|(simp;omega))|exact xH rfl))|(apply y4;exact rfl;exact rfl;(first|exact dT ‹_›|exact dF ‹_›);exact rfl;exact rfl)|(apply y3;(iterate 5 exact rfl);((exact dF ‹_›)))|apply zS|(refine yN ?_ ?_;kernel_rfl)|apply AWp.Q|apply zH|apply AWp.G|apply AWp.B|apply AWp.J|apply zJ|(refine AWp.D ?_ ?_;kernel_rfl)|(apply AWp.T;exact rfl;((exact dT ‹_›)))|(apply AWp.F;exact rfl;((exact rfl)))|(apply yD;(iterate 6 exact rfl);(iterate 2 (focus (repeat (first|exact VAs.nil|apply VAs.cons|apply VA.c|exact VCs.nil|exact VC.imm (Imm.sl _)))));(first|exact h1|exact h2);(focus (repeat (first|exact Flat.v _|exact Flat.ref _ _ _)));(first|apply yM|(apply yK;(focus (repeat (first|exact trivial|apply And.intro|((assumption)))))));(first|exact xE _ _|exact xA _ _ _ _))|(((refine z7 rfl rfl rfl ?_ ?_))<;>intro hp<;>try (exfalso;omega))))
          all_goals
            refine ⟨k + 1, by omega, by omega, ?_⟩
            rw [hsu]
            refine Weak.frz 6 8 (out' := ⟨98, 2, O.map xO ++ [xO x]⟩) vS rfl rfl rfl hsx.imm rfl rfl ?_ ?_
          all_goals first
            | exact All2.appE (.cons (.cons (.ref _ hLx.symm) (.cons (.same _) .nil)) .nil) (fc_refl _ _ _)
            | skip
          all_goals
            refine Weak.of [(0, some 0), (1, some 1), (2, some 2), (3, some 3), (4, some 4), (5, some 8)] rfl ?_ ?_ <;> (repeat' (first|exact trivial|exact rfl|apply And.intro|(refine yB ?_;(focus (simp;done)))|refine ⟨_,rfl,rfl,rfl,OW.one ?_⟩|refine oWs rfl rfl rfl ?_ ?_))
          all_goals first | exact x7 _ | (rw [List.map_append]; rfl)
    · have hlt' : ¬ (k : Int) < ((es.map xO).length : Int) := by omega
      obtain rfl : k = es.length := by omega
      rw [kL]
      generalize psT es e es.length = st at hlen himO hLO
      obtain ⟨O, p⟩ := st
      dsimp only at hlen himO hLO ⊢
      cases p with
      | true =>
        rw [if_pos rfl]
        (repeat' (first|(apply xW;((exact Want.none_ rfl)))|(apply xF zI;exact rfl;exact rfl)|(((apply yE))<;>(first|exact zI|exact rfl|refine yI ?_|exact lb rfl))|apply zS|apply AWp.Q|apply zH|apply AWp.G|apply AWp.J|apply AWp.X|apply AWp.R|apply zR|apply zO|(apply AWp.F;exact rfl;(first|exact dF ‹_›|exact rfl))))
        (((refine zX _ [(0, some 5)] (.cons (yY rfl rfl rfl zI rfl rfl rfl) .nil) ?_ rfl ?_)) <;> (repeat' (first|exact trivial|exact rfl|apply And.intro|refine oWs rfl rfl rfl ?_ ?_)))
        all_goals first | exact x7 _ | skip
      | false =>
        rw [if_neg (by simp)]
        have hOE : O.map xO ++ [xO e] = (O ++ [e]).map xO := by rw [List.map_append]; rfl
        (repeat' (first|(apply xW;((exact Want.none_ rfl)))|(apply xF zI;exact rfl;exact rfl)|((first|apply zT|(apply yQ;exact rfl;exact rfl)|apply yE)<;>(first|exact zI|exact rfl|refine yI ?_|omega|exact lb rfl|(refine Bd.mk ?_;(simp;omega))|exact xH rfl))|apply zS|apply AWp.Q|apply zH|apply AWp.G|apply AWp.X|apply AWp.R|apply zR|apply zO|(apply AWp.T;exact rfl;((exact rfl)))|(apply AWp.F;exact rfl;((exact dF ‹_›)))))
        (((refine zX _ [(0, some 7)] (.cons (yY rfl rfl rfl zI rfl rfl rfl) .nil) ?_ rfl ?_)) <;> (repeat' (first|exact trivial|exact rfl|apply And.intro|(refine yB ?_;(focus (simp;done)))|refine oWs rfl rfl rfl ?_ ?_)))
        all_goals first | exact x7 _ | exact hOE | (simp; done) | skip
end Go.Proofs.YtchpdclknbmdoaaGreatDoor
