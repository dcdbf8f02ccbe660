/- Drawn dictionaries and known outlines. -/
import Derived.Test.YtjeffognhcbiaaaGreatDoorDcF
namespace Go.Proofs.YtjeffognhcbiaaaGreatDoor
open Go Go.RowKit
theorem All2.appE {α β : Type} {R : α → β → Prop} {c : List α} {d : List β} (h' : All2 R c d) : ∀ {a : List α} {b : List β}, All2 R a b → All2 R (a ++ c) (b ++ d)
  | _, _, .nil => h'
  | _, _, .cons h hs => .cons h (All2.appE h' hs)
theorem fc_refl (o : Nat) (els : List (List Cell)) (l : List (List Cell)) : All2 (All2 (FC o els)) l l := All2.refl (fun l => All2.refl (fun c => .same c) l) l
def psS (e x : Ent) (s : List Ent × Bool) : List Ent × Bool :=
  let s1 := if 0 ≤ wP x.o e.o ∧ s.2 = false then (s.1 ++ [e], true) else s
  if wP x.o e.o = 0 then s1 else (s1.1 ++ [x], s1.2)
def psT (es : List Ent) (e : Ent) : Nat → List Ent × Bool
  | 0 => ([], false)
  | k + 1 => match es[k]? with
    | some x => psS e x (psT es e k)
    | none => psT es e k
theorem psT_succ {es : List Ent} {e x : Ent} {k : Nat} (h : es[k]? = some x) : psT es e (k + 1) = psS e x (psT es e k) := by rw [psT, h]
def kZ (es : List Ent) (e : Ent) : List Ent := if (psT es e es.length).2 then (psT es e es.length).1 else (psT es e es.length).1 ++ [e]
theorem psS_A {e x : Ent} {O : List Ent} (h : wP x.o e.o = 0) : psS e x (O, false) = (O ++ [e], true) := by simp [psS, h]
theorem psS_B {e x : Ent} {O : List Ent} (h : wP x.o e.o = 0) : psS e x (O, true) = (O, true) := by simp [psS, h]
theorem psS_C {e x : Ent} {O : List Ent} (h : wP x.o e.o ≠ 0) (h' : 0 ≤ wP x.o e.o) : psS e x (O, false) = (O ++ [e] ++ [x], true) := by simp [psS, h, h']
theorem psS_D {e x : Ent} {O : List Ent} {p : Bool} (h : wP x.o e.o ≠ 0) (h' : ¬ (0 ≤ wP x.o e.o ∧ p = false)) : psS e x (O, p) = (O ++ [x], p) := by
  unfold psS
  dsimp only
  rw [if_neg h', if_neg h]
theorem psS_len (e x : Ent) (s : List Ent × Bool) : (psS e x s).1.length ≤ s.1.length + 2 := by
  unfold psS
  dsimp only
  split <;> split <;> simp
theorem psT_len (es : List Ent) (e : Ent) : ∀ k, k ≤ es.length → (psT es e k).1.length ≤ 2 * k
  | 0, _ => Nat.le_refl _
  | k + 1, hk => by
    obtain ⟨x, hx⟩ := xT (show k < es.length by omega)
    have h1 := psT_len es e k (by omega)
    have h2 := psS_len e x (psT es e k)
    rw [psT_succ hx]; omega
theorem psS_mem (e x : Ent) (s : List Ent × Bool) (y : Ent) (hy : y ∈ (psS e x s).1) : y ∈ s.1 ∨ y = e ∨ y = x := by
  have h1 : y ∈ (if 0 ≤ wP x.o e.o ∧ s.2 = false then (s.1 ++ [e], true) else s).1 → y ∈ s.1 ∨ y = e := by
    intro h
    split at h
    · rcases List.mem_append.1 h with h | h
      · exact .inl h
      · exact .inr (List.mem_singleton.1 h)
    · exact .inl h
  unfold psS at hy
  dsimp only at hy
  split at hy
  · rcases h1 hy with h | h
    · exact .inl h
    · exact .inr (.inl h)
  · rcases List.mem_append.1 hy with h | h
    · rcases h1 h with h | h
      · exact .inl h
      · exact .inr (.inl h)
    · exact .inr (.inr (List.mem_singleton.1 h))
theorem psT_mem {es : List Ent} {e : Ent} {P : Ent → Prop} (he : P e) (hes : ∀ x ∈ es, P x) : ∀ k, k ≤ es.length → ∀ y ∈ (psT es e k).1, P y
  | 0, _, y, hy => by simp [psT] at hy
  | k + 1, hk, y, hy => by
    obtain ⟨x, hx⟩ := xT (show k < es.length by omega)
    rw [psT_succ hx] at hy
    rcases psS_mem e x _ y hy with h | rfl | rfl
    · exact psT_mem he hes k (by omega) y h
    · exact he
    · exact hes _ (List.mem_of_getElem? hx)
theorem putE_mem {es : List Ent} {e : Ent} {P : Ent → Prop} (he : P e) (hes : ∀ x ∈ es, P x) : ∀ y ∈ kZ es e, P y := by
  intro y hy
  rw [kZ] at hy
  split at hy
  · exact psT_mem he hes _ (Nat.le_refl _) y hy
  · rcases List.mem_append.1 hy with hy | hy
    · exact psT_mem he hes _ (Nat.le_refl _) y hy
    · rw [List.mem_singleton.1 hy]; exact he
def EnB (es : List Ent) : Prop := es.length ≤ 100000 ∧ ∀ x ∈ es, x.o.length ≤ 1000000
theorem l6PutO_pf (es : List Ent) (e : Ent) (hb : EnB es) (he : e.o.length ≤ 1000000) : PF Tryz.prog 136 [.agg (wG es), .agg (xS e)] [⟨82, 2, (kZ es e).map xS⟩] (.agg [.ref 0 0 (kZ es e).length]) := by
  have hbl := hb.1
  have hL : (es.map xS).length = es.length := List.length_map _
  have h0 := l1Own_pf e.o he
  have hsc := xM e.o
  have hLo : (e.o.map xE).length = e.o.length := List.length_map _
  have himE := wC es
  refine PF.enter (xG _ _) Tryz.func136 rfl (by kernel_rfl) _ _ rfl rfl rfl (fun w0 mu I0 β0 gi dis => ?_)
  (repeat' (first|(apply xW;((exact Want.none_ rfl)))|(apply xF zI;exact rfl;exact rfl)|((first|apply y4|apply yB|apply yH)<;>(first|exact zI|exact rfl|refine yG ?_|exact lb rfl|(refine Bd.mk ?_;(focus (simp;done)))))|apply zR|(refine yT ?_ ?_;kernel_rfl)|apply AWp.Q|apply zH|apply AWp.G|apply AWp.B|(refine AWp.D ?_ ?_;kernel_rfl)|(apply yA;(iterate 6 exact rfl);(iterate 2 (focus (repeat (first|exact VAs.nil|apply VAs.cons|apply VA.c|exact VCs.nil|exact VC.imm (Imm.sl _)))));((exact h0));(focus (repeat ((exact Flat.ref _ _ _))));((apply yK;(focus (repeat (first|exact trivial|apply And.intro|((assumption)))))));((exact xA _ _ _ _)))))
  refine AWp.U (σ := Nat) (fun k => ⟨[(2, .c (.ptr 0 0 0)), (3, .c (.ptr 1 0 0)), (4, .c (.ptr 2 0 0)), (5, .c (.ptr 3 0 0)), (6, .c (boo (psT es e k).2)), (7, .c (.ptr 4 0 0)), (8, .c (int k))],
    [(0, some ⟨35, 1, [wG es]⟩), (1, some ⟨82, 2, [xS e]⟩), (2, some ⟨35, 1, [[.nil]]⟩), (3, some ⟨35, 1, [[.ref 5 0 (psT es e k).1.length]]⟩), (4, some ⟨82, 2, [xS e]⟩), (5, some ⟨82, 2, (psT es e k).1.map xS⟩)], 6⟩) (fun k => k ≤ es.length) (fun k => es.length - k) 0 (Nat.zero_le _) ?_ ?_
  · refine Weak.frz 4 5 (out' := ⟨82, 2, [xS e]⟩) qF rfl rfl rfl hsc.imm rfl rfl ?_ ?_
    · show All2 _ [[Cell.ref 4 0 e.o.length, str e.t]] [xS e]
      exact .cons (.cons (.ref _ hLo.symm) (.cons (.same _) .nil)) .nil
    · refine Weak.of [(0, some 0), (1, some 1), (2, some 2), (3, some 3), (4, some 5), (5, none)] rfl ?_ ?_ <;> (repeat' (first|exact trivial|exact rfl|apply And.intro|refine ⟨_,rfl,rfl,rfl,OW.one ?_⟩))
  · intro k hk
    have hlen := psT_len es e k hk
    have himO := wC (psT es e k).1
    have hLO : ((psT es e k).1.map xS).length = (psT es e k).1.length := List.length_map _
    by_cases hlt : k < es.length
    · obtain ⟨x, hx⟩ := xT hlt
      have hx' : (es.map xS)[k]? = some (xS x) := xY hx
      have hlt' : (k : Int) < ((es.map xS).length : Int) := by omega
      have hxo := hb.2 x (List.mem_of_getElem? hx)
      have h1 := l4Compare_pf x.o e.o (by omega) (by omega)
      have h2 := l1Own_pf x.o hxo
      have hsx := xM x.o
      have hLx : (x.o.map xE).length = x.o.length := List.length_map _
      have hsu := psT_succ (e := e) hx
      generalize psT es e k = st at hlen himO hLO hsu
      obtain ⟨O, p⟩ := st
      dsimp only at hlen himO hLO hsu ⊢
      by_cases hc0 : wP x.o e.o = 0
      · have hge : 0 ≤ wP x.o e.o := by omega
        cases p with
        | false =>
          rw [psS_A hc0] at hsu
          (repeat' (first|(apply xW;(first|exact Want.none_ rfl|(refine zX rfl rfl rfl rfl ?_;((exact dT ‹_›)))))|(apply xF zI;exact rfl;exact rfl)|((first|apply zZ|(apply yN;exact rfl;exact rfl)|apply zU|(apply yZ;exact rfl;exact rfl)|apply yH)<;>(first|exact zI|exact rfl|refine yG ?_|assumption|omega|exact lb rfl|(refine Bd.mk ?_;(simp;omega))|exact xH rfl))|(apply yR;exact rfl;exact rfl;((exact dT ‹_›));exact rfl;exact rfl)|apply zR|(refine yT ?_ ?_;kernel_rfl)|apply AWp.Q|apply zH|apply AWp.G|apply AWp.B|apply AWp.J|apply zJ|(refine AWp.D ?_ ?_;kernel_rfl)|(apply AWp.T;exact rfl;(first|exact dT ‹_›|exact rfl))|(apply yA;(iterate 6 exact rfl);(iterate 2 (focus (repeat (first|exact VAs.nil|apply VAs.cons|apply VA.c|exact VCs.nil|exact VC.imm (Imm.sl _)))));((exact h1));(focus (repeat ((exact Flat.v _))));((apply yJ));((exact xB _ _)))|(((refine AWp.C rfl ?_ ?_))<;>intro hp<;>try (exfalso;omega))))
          refine ⟨k + 1, by omega, by omega, ?_⟩
          rw [hsu]
          refine Weak.of [(0, some 0), (1, some 1), (2, some 2), (3, some 3), (4, some 4), (5, some 7)] rfl ?_ ?_ <;> (repeat' (first|exact trivial|exact rfl|apply And.intro|(refine z8 ?_;(focus (simp;done)))|refine ⟨_,rfl,rfl,rfl,OW.one ?_⟩|refine oWs rfl rfl rfl ?_ ?_))
          all_goals first | exact wC _ | (rw [List.map_append]; rfl)
        | true =>
          rw [psS_B hc0] at hsu
          (repeat' (first|(apply xW;(first|exact Want.none_ rfl|(refine zX rfl rfl rfl rfl ?_;((exact dT ‹_›)))))|(apply xF zI;exact rfl;exact rfl)|((first|apply zZ|(apply yN;exact rfl;exact rfl))<;>(first|exact zI|exact rfl|refine yG ?_|assumption|omega))|(apply yR;exact rfl;exact rfl;((exact dT ‹_›));exact rfl;exact rfl)|apply zR|(refine yT ?_ ?_;kernel_rfl)|apply AWp.Q|apply zH|apply AWp.G|apply AWp.B|apply AWp.J|apply zJ|(refine AWp.D ?_ ?_;kernel_rfl)|(apply AWp.T;exact rfl;((exact dT ‹_›)))|(apply AWp.F;exact rfl;((exact rfl)))|(apply yA;(iterate 6 exact rfl);(iterate 2 (focus (repeat (first|exact VAs.nil|apply VAs.cons|apply VA.c|exact VCs.nil|exact VC.imm (Imm.sl _)))));((exact h1));(focus (repeat ((exact Flat.v _))));((apply yJ));((exact xB _ _)))|(((refine AWp.C rfl ?_ ?_))<;>intro hp<;>try (exfalso;omega))))
          refine ⟨k + 1, by omega, by omega, ?_⟩
          rw [hsu]
          refine Weak.of [(0, some 0), (1, some 1), (2, some 2), (3, some 3), (4, some 4), (5, some 5)] rfl ?_ ?_ <;> (repeat' (first|exact trivial|exact rfl|apply And.intro|refine ⟨_,rfl,rfl,rfl,OW.one ?_⟩|refine oWs rfl rfl rfl ?_ ?_))
          all_goals exact wC _
      · by_cases hcp : 0 ≤ wP x.o e.o ∧ p = false
        · obtain ⟨hge, rfl⟩ := hcp
          rw [psS_C hc0 hge] at hsu
          (repeat' (first|(apply xW;(first|exact Want.none_ rfl|(refine zX rfl rfl rfl rfl ?_;((exact dT ‹_›)))))|(apply xF zI;exact rfl;exact rfl)|((first|apply zZ|(apply yN;exact rfl;exact rfl)|apply y4|apply zU|(apply yZ;exact rfl;exact rfl)|apply yH)<;>(first|exact zI|exact rfl|refine yG ?_|assumption|omega|exact lb rfl|(refine Bd.mk ?_;first|(focus (simp;done))|(simp;omega))|exact xH rfl|(focus (simp;done))))|(apply yR;exact rfl;exact rfl;((exact dT ‹_›));exact rfl;exact rfl)|apply zR|(refine yT ?_ ?_;kernel_rfl)|apply AWp.Q|apply zH|apply AWp.G|apply AWp.B|apply AWp.J|apply zJ|(refine AWp.D ?_ ?_;kernel_rfl)|(apply AWp.T;exact rfl;(first|exact dT ‹_›|exact rfl))|(apply yA;(iterate 6 exact rfl);(iterate 2 (focus (repeat (first|exact VAs.nil|apply VAs.cons|apply VA.c|exact VCs.nil|exact VC.imm (Imm.sl _)))));(first|exact h1|exact h2);(focus (repeat (first|exact Flat.v _|exact Flat.ref _ _ _)));(first|apply yJ|(apply yK;(focus (repeat (first|exact trivial|apply And.intro|((assumption)))))));(first|exact xB _ _|exact xA _ _ _ _))))
          refine ⟨k + 1, by omega, by omega, ?_⟩
          rw [hsu]
          refine Weak.frz 8 10 (out' := ⟨82, 2, O.map xS ++ [xS e] ++ [xS x]⟩) qF rfl rfl rfl hsx.imm rfl rfl ?_ ?_
          · exact All2.appE (.cons (.cons (.ref _ hLx.symm) (.cons (.same _) .nil)) .nil) (fc_refl _ _ _)
          · refine Weak.of [(0, some 0), (1, some 1), (2, some 2), (3, some 3), (4, some 4), (5, some 10)] rfl ?_ ?_ <;> (repeat' (first|exact trivial|exact rfl|apply And.intro|(refine z8 ?_;(focus (simp;done)))|refine ⟨_,rfl,rfl,rfl,OW.one ?_⟩|refine oWs rfl rfl rfl ?_ ?_))
            all_goals first | exact wC _ | (rw [List.map_append, List.map_append]; rfl)
        · rw [psS_D hc0 hcp] at hsu
          have hcd : ¬ (0 ≤ wP x.o e.o) ∨ p = true := by cases p <;> simp_all
          rcases hcd with hcd | rfl
          all_goals (repeat' (first|(apply xW;(first|exact Want.none_ rfl|(refine zX rfl rfl rfl rfl ?_;((exact dT ‹_›)))))|(apply xF zI;exact rfl;exact rfl)|((first|apply zZ|(apply yN;exact rfl;exact rfl)|apply y4|apply zU|(apply yZ;exact rfl;exact rfl)|apply yH)<;>(first|exact zI|exact rfl|refine yG ?_|assumption|omega|exact lb rfl|(refine Bd.mk ?_;first|(focus (simp;done))|(simp;omega))|exact xH rfl))|(apply yR;exact rfl;exact rfl;(first|exact dT ‹_›|exact dF ‹_›);exact rfl;exact rfl)|(apply yS;(iterate 5 exact rfl);((exact dF ‹_›)))|apply zR|(refine yT ?_ ?_;kernel_rfl)|apply AWp.Q|apply zH|apply AWp.G|apply AWp.B|apply AWp.J|apply zJ|(refine AWp.D ?_ ?_;kernel_rfl)|(apply AWp.T;exact rfl;((exact dT ‹_›)))|(apply AWp.F;exact rfl;((exact rfl)))|(apply yA;(iterate 6 exact rfl);(iterate 2 (focus (repeat (first|exact VAs.nil|apply VAs.cons|apply VA.c|exact VCs.nil|exact VC.imm (Imm.sl _)))));(first|exact h1|exact h2);(focus (repeat (first|exact Flat.v _|exact Flat.ref _ _ _)));(first|apply yJ|(apply yK;(focus (repeat (first|exact trivial|apply And.intro|((assumption)))))));(first|exact xB _ _|exact xA _ _ _ _))|(((refine zT rfl rfl rfl ?_ ?_))<;>intro hp<;>try (exfalso;omega))))
          all_goals
            refine ⟨k + 1, by omega, by omega, ?_⟩
            rw [hsu]
            refine Weak.frz 6 8 (out' := ⟨82, 2, O.map xS ++ [xS x]⟩) qF rfl rfl rfl hsx.imm rfl rfl ?_ ?_
          all_goals first
            | exact All2.appE (.cons (.cons (.ref _ hLx.symm) (.cons (.same _) .nil)) .nil) (fc_refl _ _ _)
            | skip
          all_goals
            refine Weak.of [(0, some 0), (1, some 1), (2, some 2), (3, some 3), (4, some 4), (5, some 8)] rfl ?_ ?_ <;> (repeat' (first|exact trivial|exact rfl|apply And.intro|(refine z8 ?_;(focus (simp;done)))|refine ⟨_,rfl,rfl,rfl,OW.one ?_⟩|refine oWs rfl rfl rfl ?_ ?_))
          all_goals first | exact wC _ | (rw [List.map_append]; rfl)
    · have hlt' : ¬ (k : Int) < ((es.map xS).length : Int) := by omega
      obtain rfl : k = es.length := by omega
      rw [kZ]
      generalize psT es e es.length = st at hlen himO hLO
      obtain ⟨O, p⟩ := st
      dsimp only at hlen himO hLO ⊢
      cases p with
      | true =>
        rw [if_pos rfl]
        (repeat' (first|(apply xW;((exact Want.none_ rfl)))|(apply xF zI;exact rfl;exact rfl)|(((apply yH))<;>(first|exact zI|exact rfl|refine yG ?_|exact lb rfl))|apply zR|apply AWp.Q|apply zH|apply AWp.G|apply AWp.J|apply AWp.X|apply AWp.R|apply zQ|apply zO|(apply AWp.F;exact rfl;(first|exact dF ‹_›|exact rfl))))
        (((refine zV _ [(0, some 5)] (.cons (y5 rfl rfl rfl zI rfl rfl rfl) .nil) ?_ rfl ?_)) <;> (repeat' (first|exact trivial|exact rfl|apply And.intro|refine oWs rfl rfl rfl ?_ ?_)))
        all_goals first | exact wC _ | skip
      | false =>
        rw [if_neg (by simp)]
        have hOE : O.map xS ++ [xS e] = (O ++ [e]).map xS := by rw [List.map_append]; rfl
        (repeat' (first|(apply xW;((exact Want.none_ rfl)))|(apply xF zI;exact rfl;exact rfl)|((first|apply zU|(apply yZ;exact rfl;exact rfl)|apply yH)<;>(first|exact zI|exact rfl|refine yG ?_|omega|exact lb rfl|(refine Bd.mk ?_;(simp;omega))|exact xH rfl))|apply zR|apply AWp.Q|apply zH|apply AWp.G|apply AWp.X|apply AWp.R|apply zQ|apply zO|(apply AWp.T;exact rfl;((exact rfl)))|(apply AWp.F;exact rfl;((exact dF ‹_›)))))
        (((refine zV _ [(0, some 7)] (.cons (y5 rfl rfl rfl zI rfl rfl rfl) .nil) ?_ rfl ?_)) <;> (repeat' (first|exact trivial|exact rfl|apply And.intro|(refine z8 ?_;(focus (simp;done)))|refine oWs rfl rfl rfl ?_ ?_)))
        all_goals first | exact wC _ | exact hOE | (simp; done) | skip
end Go.Proofs.YtjeffognhcbiaaaGreatDoor
namespace Go.Proofs.YtjeffognhcbiaaaGreatDoor
open Go Go.RowKit
theorem psS_one (e x : Ent) (s : List Ent × Bool) (k : Nat) (h : s.1.length ≤ k + if s.2 then 1 else 0) : (psS e x s).1.length ≤ k + 1 + if (psS e x s).2 then 1 else 0 := by
  obtain ⟨O, p⟩ := s
  by_cases hc : wP x.o e.o = 0
  · cases p with
    | true => rw [psS_B hc]; simp at h ⊢; omega
    | false => rw [psS_A hc]; simp at h ⊢; omega
  · by_cases hp : 0 ≤ wP x.o e.o ∧ p = false
    · obtain ⟨hge, rfl⟩ := hp
      rw [psS_C hc hge]; simp at h ⊢; omega
    · rw [psS_D hc hp]
      cases p <;> simp at h ⊢ <;> omega
theorem psT_one (es : List Ent) (e : Ent) : ∀ k, k ≤ es.length → (psT es e k).1.length ≤ k + if (psT es e k).2 then 1 else 0
  | 0, _ => Nat.zero_le _
  | k + 1, hk => by
    obtain ⟨x, hx⟩ := xT (show k < es.length by omega)
    rw [psT_succ hx]
    exact psS_one e x _ k (psT_one es e k (by omega))
theorem putE_one (es : List Ent) (e : Ent) : (kZ es e).length ≤ es.length + 1 := by
  have h := psT_one es e es.length (Nat.le_refl _)
  rw [kZ]
  split
  · rename_i h1; rw [h1] at h; simpa using h
  · rename_i h1
    rw [if_neg h1] at h
    rw [List.length_append]; simp; omega
def EO (e : Ent) : Prop := e.o.length ≤ 3 ∧ DS e.o ∧ e.t.length ≤ 100
def qQ (xs : Nat → Ent) : Nat → List Ent
  | 0 => []
  | j + 1 => kZ (qQ xs j) (xs j)
theorem dicT_len (xs : Nat → Ent) : ∀ j, (qQ xs j).length ≤ j
  | 0 => Nat.le_refl _
  | j + 1 => by
    have h1 := dicT_len xs j
    have h2 := putE_one (qQ xs j) (xs j)
    rw [qQ]; omega
theorem dicT_mem {xs : Nat → Ent} {n : Nat} (h : ∀ j, j < n → EO (xs j)) : ∀ j, j ≤ n → ∀ y ∈ qQ xs j, EO y
  | 0, _, y, hy => by simp [qQ] at hy
  | j + 1, hj, y, hy => putE_mem (P := EO) (h j (by omega)) (dicT_mem h j (by omega)) y hy
theorem psS_ge (e x : Ent) (s : List Ent × Bool) : s.1.length ≤ (psS e x s).1.length := by
  obtain ⟨O, p⟩ := s
  by_cases hc : wP x.o e.o = 0
  · cases p with
    | true => rw [psS_B hc]; exact Nat.le_refl _
    | false => rw [psS_A hc]; simp
  · by_cases hp : 0 ≤ wP x.o e.o ∧ p = false
    · obtain ⟨hge, rfl⟩ := hp
      rw [psS_C hc hge]; simp
    · rw [psS_D hc hp]; simp
theorem psT_flag (es : List Ent) (e : Ent) : ∀ k, (psT es e k).2 = true → 1 ≤ (psT es e k).1.length
  | 0, h => by cases h
  | k + 1, h => by
    rw [psT] at h ⊢
    cases hk : es[k]? with
    | none => rw [hk] at h; exact psT_flag es e k h
    | some x =>
      rw [hk] at h
      dsimp only at h ⊢
      cases hp : (psT es e k).2 with
      | true => exact Nat.le_trans (psT_flag es e k hp) (psS_ge e x _)
      | false =>
        generalize psT es e k = st at h hp ⊢
        obtain ⟨O, p⟩ := st
        dsimp only at hp
        subst hp
        by_cases hc : wP x.o e.o = 0
        · rw [psS_A hc]; simp
        · by_cases hg : 0 ≤ wP x.o e.o
          · rw [psS_C hc hg]; simp
          · rw [psS_D hc (fun h => hg h.1)] at h; cases h
theorem putE_pos (es : List Ent) (e : Ent) : 1 ≤ (kZ es e).length := by
  rw [kZ]
  split
  · rename_i h; exact psT_flag es e _ h
  · simp
theorem dicT_pos (xs : Nat → Ent) {j : Nat} (h : 1 ≤ j) : 1 ≤ (qQ xs j).length := by
  obtain ⟨k, rfl⟩ : ∃ k, j = k + 1 := ⟨j - 1, by omega⟩
  rw [qQ]; exact putE_pos _ _
section
variable (code : List UInt8) (c : Cur) (hl : code.length ≤ 65536) (hc : c.a ≤ 3500000)
include hl hc
theorem entry_ex : ∃ (c' : Cur) (e : Ent), c'.a ≤ c.a + 62 ∧ EO e ∧ PFM Tryz.prog 100 [xV code c] [.c (.ptr 0 0 0)] [some (xV code c')] (.agg (xS e)) := by
  obtain ⟨c1, o, a1, ho, p1⟩ := outline_ex code c hl (by omega)
  obtain ⟨c2, t, a2, ht, p2⟩ := translation_ex code c1 hl (by omega)
  have i1 := qP (b := ⟨3, 1, o.map xE⟩) (yQ code c1) (xM o).imm
  have i2 := xK (yQ code c2)
  have j1 := wD (yQ code c)
  have j2 := wD (yQ code c1)
  have hsc := xM o
  refine ⟨c2, ⟨o, t⟩, by omega, ⟨ho.2.1, ho.2.2, ht⟩, ?_⟩
  refine zD (xJ _) (xQ _) rfl Tryz.func100 rfl (by kernel_rfl) _ _ rfl rfl rfl (fun w0 mu I0 β0 gi dis => ?_)
  (repeat' (first|(apply xW;((exact Want.none_ rfl)))|(apply xF zI;exact rfl;exact rfl)|((first|apply y4|apply yB|apply yH)<;>(first|exact zI|exact rfl|refine yG ?_|exact lb rfl|((try refine Bd.mk ?_);(focus (simp;done)))))|apply zR|apply AWp.Q|apply zH|apply AWp.G|(apply (yP (p1));(iterate 7 exact rfl);(focus (repeat (first|exact All2.nil|refine All2.cons rfl ?_)));exact rfl;(focus (repeat (first|exact MAs.nil|apply MAs.cons|apply MA.c|exact MC.ptr rfl)));((assumption));((assumption));exact rfl;exact rfl)|(apply (yP (p2));(iterate 7 exact rfl);(focus (repeat (first|exact All2.nil|refine All2.cons rfl ?_)));exact rfl;(focus (repeat (first|exact MAs.nil|apply MAs.cons|apply MA.c|exact MC.ptr rfl)));((assumption));((assumption));exact rfl;exact rfl)))
  refine AWp.weaken (Weak.frz 2 1 (out' := ⟨82, 2, [[.sl (o.map xE), str t]]⟩) (vT rfl rfl) rfl rfl rfl hsc.imm rfl rfl ?_ (Weak.refl _ _)) ?_
  · show All2 _ [[Cell.ref 2 0 o.length, str t]] [[.sl (o.map xE), str t]]
    exact .cons (.cons (.ref _ (by simp)) (.cons (.same _) .nil)) .nil
  apply AWp.R
  (((refine zV _ [(0, some 0)] (.cons (y5 rfl rfl rfl zI rfl rfl rfl) .nil) ?_ rfl ?_)) <;> (repeat' (first|exact trivial|exact rfl|apply And.intro|refine ⟨_,rfl,rfl,rfl,OW.one ?_⟩)))
  all_goals first | exact yQ _ _ | skip
end
section
variable (code : List UInt8) (c : Cur) (hl : code.length ≤ 65536) (hc : c.a ≤ 3000000)
include hl hc
theorem dictionaryO_ex : ∃ (c' : Cur) (es : List Ent), c'.a ≤ c.a + 700 ∧ (es.length ≤ 9 ∧ 1 ≤ es.length ∧ ∀ x ∈ es, EO x) ∧ PFM Tryz.prog 98 [xV code c] [.c (.ptr 0 0 0)] [some (xV code c'), some ⟨82, 2, es.map xS⟩] (.agg [.ref 1 0 es.length]) := by
  obtain ⟨c1, n0, a1, hn0, p1⟩ := wZ code c hl (by omega) 7 (by omega)
  have i1 := xK (yQ code c1)
  have j1 := wD (yQ code c)
  obtain ⟨cs, xs, hc0, hcs⟩ := kG (X := Ent) (fun c c' e => EO e ∧ PFM Tryz.prog 100 [xV code c] [.c (.ptr 0 0 0)] [some (xV code c')] (.agg (xS e))) 62 3400000 (fun c hc => entry_ex code c hl (by omega)) c1 (3 + n0) (by omega)
  subst hc0
  have aN := (hcs (3 + n0) (Nat.le_refl _)).1
  have hE : ∀ j, j < 3 + n0 → EO (xs j) := fun j hj => (hcs j (by omega)).2.2.1
  have hM := dicT_mem hE
  have hN := dicT_len xs
  refine ⟨cs (3 + n0), qQ xs (3 + n0), by omega, ⟨by have := hN (3 + n0); omega, dicT_pos xs (by omega), hM _ (Nat.le_refl _)⟩, ?_⟩
  refine zD (xJ _) (xQ _) rfl Tryz.func98 rfl (by kernel_rfl) _ _ rfl rfl rfl (fun w0 mu I0 β0 gi dis => ?_)
  (repeat' (first|(apply xW;((exact Want.none_ rfl)))|(apply xF zI;exact rfl;exact rfl)|((first|apply zZ|apply y4|apply yB|apply yH)<;>(first|exact zI|exact rfl|refine yG ?_|omega|exact lb rfl|((try refine Bd.mk ?_);(focus (simp;done)))))|apply zR|apply AWp.Q|apply zH|apply AWp.G|apply AWp.B|(apply (yP (p1));(iterate 7 exact rfl);(focus (repeat (first|exact All2.nil|refine All2.cons rfl ?_)));exact rfl;(focus (repeat (first|exact MAs.nil|apply MAs.cons|apply MA.c|exact MC.ptr rfl|exact MC.vc (VC.imm (Imm.v _)))));((assumption));((assumption));exact rfl;exact rfl)))
  refine AWp.U (σ := Nat) (fun j => ⟨[(0, .c (.ptr 0 0 0)), (2, .c (.ptr 1 0 0)), (3, .c (.ptr 2 0 0)), (4, .c (int (3 + (n0 : Int) - j)))], [(0, some (xV code (cs j))), (1, some ⟨35, 1, [[.nil]]⟩), (2, some ⟨35, 1, [[.ref 3 0 (qQ xs j).length]]⟩), (3, some ⟨82, 2, (qQ xs j).map xS⟩)], 4⟩) (fun j => j ≤ 3 + n0) (fun j => 3 + n0 - j) 0 (Nat.zero_le _) ?_ ?_
  · refine Weak.of [(0, some 0), (1, some 1), (2, some 2), (3, none)] rfl ?_ ?_ <;> (repeat' (first|exact trivial|exact rfl|apply And.intro|refine ⟨_,rfl,rfl,rfl,OW.one ?_⟩))
    all_goals first | exact yQ _ _ | skip
  · intro j hj
    obtain ⟨ha, hb, ⟨he1, he2, he3⟩, q⟩ := hcs j hj
    have hlen := hN j
    have hLD : ((qQ xs j).map xS).length = (qQ xs j).length := List.length_map _
    by_cases hlt : j < 3 + n0
    · have hlt' : (0 : Int) < 3 + (n0 : Int) - j := by omega
      have hput := l6PutO_pf (qQ xs j) (xs j) ⟨by omega, fun x hx => by have := (hM j (by omega) x hx).1; omega⟩ (by omega)
      have hz : qQ xs (j + 1) = kZ (qQ xs j) (xs j) := rfl
      rw [← hz] at hput
      have k2 := xK (yQ code (cs (j + 1)))
      have m1 := wD (yQ code (cs j))
      have k3 := xK (o := ⟨82, 2, (qQ xs (j + 1)).map xS⟩) (wC _)
      refine AWp.weaken (Weak.frz 3 2 (out' := ⟨35, 1, [wG (qQ xs j)]⟩) (vT rfl rfl) rfl rfl rfl (wC _) rfl rfl (.cons (.cons (.ref _ hLD.symm) .nil) .nil) (Weak.refl _ _)) ?_
      (repeat' (first|(apply xW;((exact Want.none_ rfl)))|(apply xF zI;exact rfl;exact rfl)|((first|apply y3|apply yH)<;>(first|exact zI|exact rfl|refine yG ?_|omega|exact lb rfl))|apply zR|(refine yT ?_ ?_;kernel_rfl)|apply AWp.Q|apply zH|apply AWp.G|apply AWp.B|apply AWp.J|apply zJ|(refine AWp.D ?_ ?_;kernel_rfl)|(apply AWp.T;exact rfl;((exact dT ‹_›)))|(apply (yP (q));(iterate 7 exact rfl);(focus (repeat (first|exact All2.nil|refine All2.cons rfl ?_)));exact rfl;(focus (repeat (first|exact MAs.nil|apply MAs.cons|apply MA.c|exact MC.ptr rfl)));((assumption));((assumption));exact rfl;exact rfl)|(apply (yP (hput));(iterate 7 exact rfl);(focus (repeat ((exact All2.nil))));exact rfl;(focus (repeat (first|exact MAs.nil|apply MAs.cons|apply MA.agg|exact MCs.nil|apply MCs.cons|exact MC.vc (VC.imm (Imm.v _))|exact MC.vc (VC.imm (Imm.sl _)))));((assumption));((exact xP));exact rfl;exact rfl)))
      refine ⟨j + 1, by omega, by omega, ?_⟩
      refine Weak.of [(0, some 0), (1, some 1), (2, some 2), (3, some 4)] rfl ?_ ?_ <;> (repeat' (first|exact trivial|exact rfl|apply And.intro|(apply cgI;(omega))|refine ⟨_,rfl,rfl,rfl,OW.one ?_⟩|refine oWs rfl rfl rfl ?_ ?_))
      all_goals first | exact yQ _ _ | exact wC _ | skip
    · have hlt' : ¬ (0 : Int) < 3 + (n0 : Int) - j := by omega
      obtain rfl : j = 3 + n0 := by omega
      (repeat' (first|(apply xW;((exact Want.none_ rfl)))|(apply xF zI;exact rfl;exact rfl)|(((apply yH))<;>(first|exact zI|exact rfl|refine yG ?_|exact lb rfl))|apply zR|apply AWp.Q|apply zH|apply AWp.G|apply AWp.X|apply AWp.R|apply zQ|apply zO|(apply AWp.F;exact rfl;((exact dF ‹_›)))))
      (((refine zV _ [(0, some 0), (1, some 3)] (.cons (y5 rfl rfl rfl zI rfl rfl rfl) .nil) ?_ rfl ?_)) <;> (repeat' (first|exact trivial|exact rfl|apply And.intro|refine ⟨_,rfl,rfl,rfl,OW.one ?_⟩|refine oWs rfl rfl rfl ?_ ?_)))
      all_goals first | exact yQ _ _ | exact wC _ | skip
end
section
variable (code : List UInt8) (c : Cur) (hl : code.length ≤ 65536) (hc : c.a ≤ 3000000) (es : List Ent) (hn : es.length ≤ 100) (he : ∀ x ∈ es, EO x)
include hl hc hn he
end
end Go.Proofs.YtjeffognhcbiaaaGreatDoor
