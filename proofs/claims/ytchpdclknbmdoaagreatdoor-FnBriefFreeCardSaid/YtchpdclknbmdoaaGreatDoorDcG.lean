/- An entry is put in its place in a dictionary. No conditions but bounds of lengths. -/
import Derived.Test.YtchpdclknbmdoaaGreatDoorDcF
namespace Go.Proofs.YtchpdclknbmdoaaGreatDoor
open Go Go.RowKit
theorem All2.appE {α β : Type} {R : α → β → Prop} {c : List α} {d : List β} (h' : All2 R c d) : ∀ {a : List α} {b : List β}, All2 R a b → All2 R (a ++ c) (b ++ d)
  | _, _, .nil => h'
  | _, _, .cons h hs => .cons h (All2.appE h' hs)
theorem fc_refl (o : Nat) (els : List (List Cell)) (l : List (List Cell)) : All2 (All2 (FC o els)) l l := All2.refl (fun l => All2.refl (fun c => .same c) l) l
theorem PFM.frzL {P : Program} {f : Nat} {ins : List AObj} {ags : List AVal} {outs : List (Option AObj)} {obj : AObj} {n : Nat} (h : PFM P f ins ags (outs ++ [some obj]) (.agg [.ref outs.length 0 n])) (hn : n = obj.els.length) (hi : ∀ x ∈ obj.els, ∀ c ∈ x, Imm c)
    (hal : ∀ i, i < ins.length → ∃ o, outs[i]? = some (some o)) (him : ∀ o, some o ∈ outs → ∀ x ∈ o.els, ∀ c ∈ x, Imm c) : PFM P f ins ags outs (.agg [.sl obj.els]) := by
  refine ⟨h.ok, fun I β w vals hI hgi hβ hobs hinj hargs => (h.run I β w vals hI hgi hβ hobs hinj hargs).mono ?_⟩
  rintro e w' ⟨v, I', β', he, hv, hk, hI', hgr, hdom, hin, hobs', hinj'⟩
  have ho : (outs ++ [some obj])[outs.length]? = some (some obj) := by simp
  have hold : ∀ (o : Nat) x, outs[o]? = some x → o < outs.length ∧ (outs ++ [some obj])[o]? = some x := fun o x hx => by
    have hlt := (List.getElem?_eq_some_iff.1 hx).1
    exact ⟨hlt, by rw [List.getElem?_append_left hlt]; exact hx⟩
  obtain ⟨B, hB, e2, e3, e4⟩ := hobs' _ obj ho
  let I2 : Nat → Prop := fun b => I' b ∨ B.blk = some b
  let β2 : Nat → Option BI := fun o => if o < outs.length then β' o else none
  have hII : ∀ b, I' b → I2 b := fun b h => .inl h
  have hfresh : ∀ b, B.blk = some b → w.heap.size ≤ b := fun b hb => by
    obtain ⟨_, k1, _⟩ := e4 b hb
    rcases k1 with ⟨i, Bi, h1, h2, h3⟩ | k1
    · obtain ⟨oi, hoi⟩ := hal i h1
      obtain ⟨g1, g2⟩ := hold i _ hoi
      exact absurd hb (hinj' i outs.length oi obj Bi B b g2 ho (by omega) (by rw [hin i h1]; exact h2) hB h3)
    · exact k1
  have hpr : ∀ v, Rep I' β' w' (.ref outs.length 0 n) v → RepI I2 w' (.sl obj.els) v := by
    intro v hv
    cases hv with
    | imm h5 => cases h5
    | refE _ _ A cap h5 => exact absurd rfl h5
    | ref0 _ sz C h5 =>
      rw [hB] at h5
      obtain rfl : B = ⟨none, sz, C⟩ := Option.some.inj h5
      rw [e3 rfl]
      exact .sl0 none 0
    | ref _ _ _ b sz cap C h5 h6 h7 =>
      rw [hB] at h5
      obtain rfl : B = ⟨some b, sz, C⟩ := Option.some.inj h5
      obtain ⟨k0, k1, k2, arr, k3, k4, k5, k6, k7⟩ := e4 b rfl
      simp only at k0
      subst k0
      have hex : ∀ (i j : Nat), ∃ u, ∀ x c, obj.els[i]? = some x → x[j]? = some c → w'.cell? ⟨b, 0 * obj.sz + i * obj.sz + j, none⟩ = some u ∧ RepI I2 w' c u := by
        intro i j
        cases hx : obj.els[i]? with
        | none => exact ⟨undef, fun x c h => by cases h⟩
        | some x =>
          cases hc : x[j]? with
          | none => exact ⟨undef, fun x' c h h' => by cases h; rw [hc] at h'; cases h'⟩
          | some c =>
            obtain ⟨u, hu, hru⟩ := k7 i j x c hx hc
            refine ⟨u, fun x' c' h h' => ?_⟩
            cases h; rw [hc] at h'; cases h'
            refine ⟨?_, (hi x (List.mem_of_getElem? hx) c (List.mem_of_getElem? hc) _ _ _ _ hru).mono hII (fun _ _ => rfl)⟩
            rw [cell_of_row w' b _ arr _ _ k3, Nat.zero_mul, Nat.zero_add]; exact hu
      exact .sl obj.els b (0 * obj.sz) obj.sz n cap (fun i j => Classical.choose (hex i j)) hn h6 e2 (.inr rfl) (fun i j x c hx hc => (Classical.choose_spec (hex i j) x c hx hc).1) (fun i j x c hx hc => (Classical.choose_spec (hex i j) x c hx hc).2)
  obtain ⟨us, rfl, hus⟩ := RepV.agg.1 hv
  cases hus with
  | cons hu hnil =>
  cases hnil with
  | nil =>
  refine ⟨_, I2, β2, he, RepV.agg.2 ⟨_, rfl, .cons (.imm (hpr _ hu)) .nil⟩, hk, fun b hb => ?_, fun b hb => ?_, fun o B' h => ?_, fun o hlt => ?_, fun o obj' hob => ?_, fun o o' obj1 obj2 B1 B2 b h1 h2 hne g1 g2 => ?_⟩
  · rcases hb with hb | hb
    · exact hI' b hb
    · exact ((hobs' _ obj ho).lt hB hb).1
  · refine ⟨fun h => ?_, fun h => .inl ((hgr b hb).2 h)⟩
    rcases h with h | h
    · exact (hgr b hb).1 h
    · have := hfresh b h; omega
  · simp only [β2] at h
    split at h
    · assumption
    · cases h
  · obtain ⟨oi, hoi⟩ := hal o hlt
    simp only [β2, if_pos (hold o _ hoi).1]
    exact hin o hlt
  · obtain ⟨g1, g2⟩ := hold o _ hob
    obtain ⟨B', hB', q2, q3, q4⟩ := hobs' o obj' g2
    refine ⟨B', by simp only [β2, if_pos g1]; exact hB', q2, q3, fun b hb => ?_⟩
    obtain ⟨k0, k1, k2, arr, k3, k4, k5, k6, k7⟩ := q4 b hb
    refine ⟨k0, k1, fun h => ?_, arr, k3, k4, k5, k6, fun i j x c hx hj => ?_⟩
    · rcases h with h | h
      · exact k2 h
      · exact hinj' o outs.length obj' obj B' B b g2 ho (by omega) hB' hB hb h
    · obtain ⟨u, hu, hru⟩ := k7 i j x c hx hj
      exact ⟨u, hu, .imm ((him obj' (List.mem_of_getElem? hob) x (List.mem_of_getElem? hx) c (List.mem_of_getElem? hj) _ _ _ _ hru).mono hII (fun _ _ => rfl))⟩
  · obtain ⟨l1, l2⟩ := hold o _ h1
    obtain ⟨l3, l4⟩ := hold o' _ h2
    simp only [β2, if_pos l1] at g1
    simp only [β2, if_pos l3] at g2
    exact hinj' o o' obj1 obj2 B1 B2 b l2 l4 hne g1 g2
def psS (e x : Ent) (s : List Ent × Bool) : List Ent × Bool :=
  let s1 := if 0 ≤ wM x.o e.o ∧ s.2 = false then (s.1 ++ [e], true) else s
  if wM x.o e.o = 0 then s1 else (s1.1 ++ [x], s1.2)
def psT (es : List Ent) (e : Ent) : Nat → List Ent × Bool
  | 0 => ([], false)
  | k + 1 => match es[k]? with
    | some x => psS e x (psT es e k)
    | none => psT es e k
theorem psT_succ {es : List Ent} {e x : Ent} {k : Nat} (h : es[k]? = some x) : psT es e (k + 1) = psS e x (psT es e k) := by rw [psT, h]
def putE (es : List Ent) (e : Ent) : List Ent := if (psT es e es.length).2 then (psT es e es.length).1 else (psT es e es.length).1 ++ [e]
theorem psS_A {e x : Ent} {O : List Ent} (h : wM x.o e.o = 0) : psS e x (O, false) = (O ++ [e], true) := by simp [psS, h]
theorem psS_B {e x : Ent} {O : List Ent} (h : wM x.o e.o = 0) : psS e x (O, true) = (O, true) := by simp [psS, h]
theorem psS_C {e x : Ent} {O : List Ent} (h : wM x.o e.o ≠ 0) (h' : 0 ≤ wM x.o e.o) : psS e x (O, false) = (O ++ [e] ++ [x], true) := by simp [psS, h, h']
theorem psS_D {e x : Ent} {O : List Ent} {p : Bool} (h : wM x.o e.o ≠ 0) (h' : ¬ (0 ≤ wM x.o e.o ∧ p = false)) : psS e x (O, p) = (O ++ [x], p) := by
  unfold psS
  dsimp only
  rw [if_neg h', if_neg h]
theorem psS_len (e x : Ent) (s : List Ent × Bool) : (psS e x s).1.length ≤ s.1.length + 2 := by
  unfold psS
  dsimp only
  split <;> split <;> simp
theorem psT_len (es : List Ent) (e : Ent) : ∀ k, k ≤ es.length → (psT es e k).1.length ≤ 2 * k
  | 0, _ => Nat.le_refl _
  | k + 1, hk => by
    obtain ⟨x, hx⟩ := xX (show k < es.length by omega)
    have h1 := psT_len es e k (by omega)
    have h2 := psS_len e x (psT es e k)
    rw [psT_succ hx]; omega
theorem psS_mem (e x : Ent) (s : List Ent × Bool) (y : Ent) (hy : y ∈ (psS e x s).1) : y ∈ s.1 ∨ y = e ∨ y = x := by
  have h1 : y ∈ (if 0 ≤ wM x.o e.o ∧ s.2 = false then (s.1 ++ [e], true) else s).1 → y ∈ s.1 ∨ y = e := by
    intro h
    split at h
    · rcases List.mem_append.1 h with h | h
      · exact .inl h
      · exact .inr (List.mem_singleton.1 h)
    · exact .inl h
  unfold psS at hy
  dsimp only at hy
  split at hy
  · rcases h1 hy with h | h
    · exact .inl h
    · exact .inr (.inl h)
  · rcases List.mem_append.1 hy with h | h
    · rcases h1 h with h | h
      · exact .inl h
      · exact .inr (.inl h)
    · exact .inr (.inr (List.mem_singleton.1 h))
theorem psT_mem {es : List Ent} {e : Ent} {P : Ent → Prop} (he : P e) (hes : ∀ x ∈ es, P x) : ∀ k, k ≤ es.length → ∀ y ∈ (psT es e k).1, P y
  | 0, _, y, hy => by simp [psT] at hy
  | k + 1, hk, y, hy => by
    obtain ⟨x, hx⟩ := xX (show k < es.length by omega)
    rw [psT_succ hx] at hy
    rcases psS_mem e x _ y hy with h | rfl | rfl
    · exact psT_mem he hes k (by omega) y h
    · exact he
    · exact hes _ (List.mem_of_getElem? hx)
theorem putE_mem {es : List Ent} {e : Ent} {P : Ent → Prop} (he : P e) (hes : ∀ x ∈ es, P x) : ∀ y ∈ putE es e, P y := by
  intro y hy
  rw [putE] at hy
  split at hy
  · exact psT_mem he hes _ (Nat.le_refl _) y hy
  · rcases List.mem_append.1 hy with hy | hy
    · exact psT_mem he hes _ (Nat.le_refl _) y hy
    · rw [List.mem_singleton.1 hy]; exact he
def EnB (es : List Ent) : Prop := es.length ≤ 100000 ∧ ∀ x ∈ es, x.o.length ≤ 1000000
theorem l6PutO_pf (es : List Ent) (e : Ent) (hb : EnB es) (he : e.o.length ≤ 1000000) : PF Tryz.prog 157 [.agg (wI es), .agg (xR e)] [⟨98, 2, (putE es e).map xR⟩] (.agg [.ref 0 0 (putE es e).length]) := by
  have hbl := hb.1
  have hL : (es.map xR).length = es.length := List.length_map _
  have h0 := l1Own_pf e.o he
  have hsc := xJ e.o
  have hLo : (e.o.map y4).length = e.o.length := List.length_map _
  have himE := x8 es
  refine PF.enter (x5 _ _) Tryz.func157 rfl (by kernel_rfl) _ _ rfl rfl rfl (fun w0 mu I0 β0 gi dis => ?_)
  (repeat' (first|(apply xW;((exact Want.none_ rfl)))|(apply xF zK;exact rfl;exact rfl)|((first|apply yS|apply zX|apply yD)<;>(first|exact zK|exact rfl|refine yO ?_|exact lb rfl|(refine Bd.mk ?_;(focus (simp;done)))))|apply zV|(refine yN ?_ ?_;kernel_rfl)|apply AWp.Q|apply zJ|apply AWp.G|apply AWp.B|(refine AWp.D ?_ ?_;kernel_rfl)|(apply yM;(iterate 6 exact rfl);(iterate 2 (focus (repeat (first|exact VAs.nil|apply VAs.cons|apply VA.c|exact VCs.nil|exact VC.imm (Imm.sl _)))));((exact h0));(focus (repeat ((exact Flat.ref _ _ _))));((apply yZ;(focus (repeat (first|exact trivial|apply And.intro|((assumption)))))));((exact xP _ _ _ _)))))
  refine AWp.U (σ := Nat) (fun k => ⟨[(2, .c (.ptr 0 0 0)), (3, .c (.ptr 1 0 0)), (4, .c (.ptr 2 0 0)), (5, .c (.ptr 3 0 0)), (6, .c (boo (psT es e k).2)), (7, .c (.ptr 4 0 0)), (8, .c (int k))],
    [(0, some ⟨26, 1, [wI es]⟩), (1, some ⟨98, 2, [xR e]⟩), (2, some ⟨26, 1, [[.nil]]⟩), (3, some ⟨26, 1, [[.ref 5 0 (psT es e k).1.length]]⟩), (4, some ⟨98, 2, [xR e]⟩), (5, some ⟨98, 2, (psT es e k).1.map xR⟩)], 6⟩) (fun k => k ≤ es.length) (fun k => es.length - k) 0 (Nat.zero_le _) ?_ ?_
  · refine Weak.frz 4 5 (out' := ⟨98, 2, [xR e]⟩) wJ rfl rfl rfl hsc.imm rfl rfl ?_ ?_
    · show All2 _ [[Cell.ref 4 0 e.o.length, str e.t]] [xR e]
      exact .cons (.cons (.ref _ hLo.symm) (.cons (.same _) .nil)) .nil
    · refine Weak.of [(0, some 0), (1, some 1), (2, some 2), (3, some 3), (4, some 5), (5, none)] rfl ?_ ?_ <;> (repeat' (first|exact trivial|exact rfl|apply And.intro|refine ⟨_,rfl,rfl,rfl,OW.one ?_⟩))
  · intro k hk
    have hlen := psT_len es e k hk
    have himO := x8 (psT es e k).1
    have hLO : ((psT es e k).1.map xR).length = (psT es e k).1.length := List.length_map _
    by_cases hlt : k < es.length
    · obtain ⟨x, hx⟩ := xX hlt
      have hx' : (es.map xR)[k]? = some (xR x) := xZ hx
      have hlt' : (k : Int) < ((es.map xR).length : Int) := by omega
      have hxo := hb.2 x (List.mem_of_getElem? hx)
      have h1 := l4Compare_pf x.o e.o (by omega) (by omega)
      have h2 := l1Own_pf x.o hxo
      have hsx := xJ x.o
      have hLx : (x.o.map y4).length = x.o.length := List.length_map _
      have hsu := psT_succ (e := e) hx
      generalize psT es e k = st at hlen himO hLO hsu
      obtain ⟨O, p⟩ := st
      dsimp only at hlen himO hLO hsu ⊢
      by_cases hc0 : wM x.o e.o = 0
      · have hge : 0 ≤ wM x.o e.o := by omega
        cases p with
        | false =>
          rw [psS_A hc0] at hsu
          (repeat' (first|(apply xW;(first|exact Want.none_ rfl|(refine zZ rfl rfl rfl rfl ?_;((exact dT ‹_›)))))|(apply xF zK;exact rfl;exact rfl)|((first|apply yF|(apply yJ;exact rfl;exact rfl)|apply zQ|(apply yB;exact rfl;exact rfl)|apply yD)<;>(first|exact zK|exact rfl|refine yO ?_|assumption|omega|exact lb rfl|(refine Bd.mk ?_;(simp;omega))|exact yU rfl))|(apply y8;exact rfl;exact rfl;((exact dT ‹_›));exact rfl;exact rfl)|apply zV|(refine yN ?_ ?_;kernel_rfl)|apply AWp.Q|apply zJ|apply AWp.G|apply AWp.B|apply AWp.J|apply zL|(refine AWp.D ?_ ?_;kernel_rfl)|(apply AWp.T;exact rfl;(first|exact dT ‹_›|exact rfl))|(apply yM;(iterate 6 exact rfl);(iterate 2 (focus (repeat (first|exact VAs.nil|apply VAs.cons|apply VA.c|exact VCs.nil|exact VC.imm (Imm.sl _)))));((exact h1));(focus (repeat ((exact Flat.v _))));((apply yX));((exact xO _ _)))|(((refine AWp.C rfl ?_ ?_))<;>intro hp<;>try (exfalso;omega))))
          refine ⟨k + 1, by omega, by omega, ?_⟩
          rw [hsu]
          refine Weak.of [(0, some 0), (1, some 1), (2, some 2), (3, some 3), (4, some 4), (5, some 7)] rfl ?_ ?_ <;> (repeat' (first|exact trivial|exact rfl|apply And.intro|(refine yG ?_;(focus (simp;done)))|refine ⟨_,rfl,rfl,rfl,OW.one ?_⟩|refine oWs rfl rfl rfl ?_ ?_))
          all_goals first | exact x8 _ | (rw [List.map_append]; rfl)
        | true =>
          rw [psS_B hc0] at hsu
          (repeat' (first|(apply xW;(first|exact Want.none_ rfl|(refine zZ rfl rfl rfl rfl ?_;((exact dT ‹_›)))))|(apply xF zK;exact rfl;exact rfl)|((first|apply yF|(apply yJ;exact rfl;exact rfl))<;>(first|exact zK|exact rfl|refine yO ?_|assumption|omega))|(apply y8;exact rfl;exact rfl;((exact dT ‹_›));exact rfl;exact rfl)|apply zV|(refine yN ?_ ?_;kernel_rfl)|apply AWp.Q|apply zJ|apply AWp.G|apply AWp.B|apply AWp.J|apply zL|(refine AWp.D ?_ ?_;kernel_rfl)|(apply AWp.T;exact rfl;((exact dT ‹_›)))|(apply AWp.F;exact rfl;((exact rfl)))|(apply yM;(iterate 6 exact rfl);(iterate 2 (focus (repeat (first|exact VAs.nil|apply VAs.cons|apply VA.c|exact VCs.nil|exact VC.imm (Imm.sl _)))));((exact h1));(focus (repeat ((exact Flat.v _))));((apply yX));((exact xO _ _)))|(((refine AWp.C rfl ?_ ?_))<;>intro hp<;>try (exfalso;omega))))
          refine ⟨k + 1, by omega, by omega, ?_⟩
          rw [hsu]
          refine Weak.of [(0, some 0), (1, some 1), (2, some 2), (3, some 3), (4, some 4), (5, some 5)] rfl ?_ ?_ <;> (repeat' (first|exact trivial|exact rfl|apply And.intro|refine ⟨_,rfl,rfl,rfl,OW.one ?_⟩|refine oWs rfl rfl rfl ?_ ?_))
          all_goals exact x8 _
      · by_cases hcp : 0 ≤ wM x.o e.o ∧ p = false
        · obtain ⟨hge, rfl⟩ := hcp
          rw [psS_C hc0 hge] at hsu
          (repeat' (first|(apply xW;(first|exact Want.none_ rfl|(refine zZ rfl rfl rfl rfl ?_;((exact dT ‹_›)))))|(apply xF zK;exact rfl;exact rfl)|((first|apply yF|(apply yJ;exact rfl;exact rfl)|apply yS|apply zQ|(apply yB;exact rfl;exact rfl)|apply yD)<;>(first|exact zK|exact rfl|refine yO ?_|assumption|omega|exact lb rfl|(refine Bd.mk ?_;first|(focus (simp;done))|(simp;omega))|exact yU rfl|(focus (simp;done))))|(apply y8;exact rfl;exact rfl;((exact dT ‹_›));exact rfl;exact rfl)|apply zV|(refine yN ?_ ?_;kernel_rfl)|apply AWp.Q|apply zJ|apply AWp.G|apply AWp.B|apply AWp.J|apply zL|(refine AWp.D ?_ ?_;kernel_rfl)|(apply AWp.T;exact rfl;(first|exact dT ‹_›|exact rfl))|(apply yM;(iterate 6 exact rfl);(iterate 2 (focus (repeat (first|exact VAs.nil|apply VAs.cons|apply VA.c|exact VCs.nil|exact VC.imm (Imm.sl _)))));(first|exact h1|exact h2);(focus (repeat (first|exact Flat.v _|exact Flat.ref _ _ _)));(first|apply yX|(apply yZ;(focus (repeat (first|exact trivial|apply And.intro|((assumption)))))));(first|exact xO _ _|exact xP _ _ _ _))))
          refine ⟨k + 1, by omega, by omega, ?_⟩
          rw [hsu]
          refine Weak.frz 8 10 (out' := ⟨98, 2, O.map xR ++ [xR e] ++ [xR x]⟩) wJ rfl rfl rfl hsx.imm rfl rfl ?_ ?_
          · exact All2.appE (.cons (.cons (.ref _ hLx.symm) (.cons (.same _) .nil)) .nil) (fc_refl _ _ _)
          · refine Weak.of [(0, some 0), (1, some 1), (2, some 2), (3, some 3), (4, some 4), (5, some 10)] rfl ?_ ?_ <;> (repeat' (first|exact trivial|exact rfl|apply And.intro|(refine yG ?_;(focus (simp;done)))|refine ⟨_,rfl,rfl,rfl,OW.one ?_⟩|refine oWs rfl rfl rfl ?_ ?_))
            all_goals first | exact x8 _ | (rw [List.map_append, List.map_append]; rfl)
        · rw [psS_D hc0 hcp] at hsu
          have hcd : ¬ (0 ≤ wM x.o e.o) ∨ p = true := by cases p <;> simp_all
          rcases hcd with hcd | rfl
          all_goals (repeat' (first|(apply xW;(first|exact Want.none_ rfl|(refine zZ rfl rfl rfl rfl ?_;((exact dT ‹_›)))))|(apply xF zK;exact rfl;exact rfl)|((first|apply yF|(apply yJ;exact rfl;exact rfl)|apply yS|apply zQ|(apply yB;exact rfl;exact rfl)|apply yD)<;>(first|exact zK|exact rfl|refine yO ?_|assumption|omega|exact lb rfl|(refine Bd.mk ?_;first|(focus (simp;done))|(simp;omega))|exact yU rfl))|(apply y8;exact rfl;exact rfl;(first|exact dT ‹_›|exact dF ‹_›);exact rfl;exact rfl)|(apply y7;(iterate 5 exact rfl);((exact dF ‹_›)))|apply zV|(refine yN ?_ ?_;kernel_rfl)|apply AWp.Q|apply zJ|apply AWp.G|apply AWp.B|apply AWp.J|apply zL|(refine AWp.D ?_ ?_;kernel_rfl)|(apply AWp.T;exact rfl;((exact dT ‹_›)))|(apply AWp.F;exact rfl;((exact rfl)))|(apply yM;(iterate 6 exact rfl);(iterate 2 (focus (repeat (first|exact VAs.nil|apply VAs.cons|apply VA.c|exact VCs.nil|exact VC.imm (Imm.sl _)))));(first|exact h1|exact h2);(focus (repeat (first|exact Flat.v _|exact Flat.ref _ _ _)));(first|apply yX|(apply yZ;(focus (repeat (first|exact trivial|apply And.intro|((assumption)))))));(first|exact xO _ _|exact xP _ _ _ _))|(((refine z7 rfl rfl rfl ?_ ?_))<;>intro hp<;>try (exfalso;omega))))
          all_goals
            refine ⟨k + 1, by omega, by omega, ?_⟩
            rw [hsu]
            refine Weak.frz 6 8 (out' := ⟨98, 2, O.map xR ++ [xR x]⟩) wJ rfl rfl rfl hsx.imm rfl rfl ?_ ?_
          all_goals first
            | exact All2.appE (.cons (.cons (.ref _ hLx.symm) (.cons (.same _) .nil)) .nil) (fc_refl _ _ _)
            | skip
          all_goals
            refine Weak.of [(0, some 0), (1, some 1), (2, some 2), (3, some 3), (4, some 4), (5, some 8)] rfl ?_ ?_ <;> (repeat' (first|exact trivial|exact rfl|apply And.intro|(refine yG ?_;(focus (simp;done)))|refine ⟨_,rfl,rfl,rfl,OW.one ?_⟩|refine oWs rfl rfl rfl ?_ ?_))
          all_goals first | exact x8 _ | (rw [List.map_append]; rfl)
    · have hlt' : ¬ (k : Int) < ((es.map xR).length : Int) := by omega
      obtain rfl : k = es.length := by omega
      rw [putE]
      generalize psT es e es.length = st at hlen himO hLO
      obtain ⟨O, p⟩ := st
      dsimp only at hlen himO hLO ⊢
      cases p with
      | true =>
        rw [if_pos rfl]
        (repeat' (first|(apply xW;((exact Want.none_ rfl)))|(apply xF zK;exact rfl;exact rfl)|(((apply yD))<;>(first|exact zK|exact rfl|refine yO ?_|exact lb rfl))|apply zV|apply AWp.Q|apply zJ|apply AWp.G|apply AWp.J|apply AWp.X|apply AWp.R|apply zU|apply zR|(apply AWp.F;exact rfl;(first|exact dF ‹_›|exact rfl))))
        (((refine z6 _ [(0, some 5)] (.cons (xC rfl rfl rfl zK rfl rfl rfl) .nil) ?_ rfl ?_)) <;> (repeat' (first|exact trivial|exact rfl|apply And.intro|refine oWs rfl rfl rfl ?_ ?_)))
        all_goals first | exact x8 _ | skip
      | false =>
        rw [if_neg (by simp)]
        have hOE : O.map xR ++ [xR e] = (O ++ [e]).map xR := by rw [List.map_append]; rfl
        (repeat' (first|(apply xW;((exact Want.none_ rfl)))|(apply xF zK;exact rfl;exact rfl)|((first|apply zQ|(apply yB;exact rfl;exact rfl)|apply yD)<;>(first|exact zK|exact rfl|refine yO ?_|omega|exact lb rfl|(refine Bd.mk ?_;(simp;omega))|exact yU rfl))|apply zV|apply AWp.Q|apply zJ|apply AWp.G|apply AWp.X|apply AWp.R|apply zU|apply zR|(apply AWp.T;exact rfl;((exact rfl)))|(apply AWp.F;exact rfl;((exact dF ‹_›)))))
        (((refine z6 _ [(0, some 7)] (.cons (xC rfl rfl rfl zK rfl rfl rfl) .nil) ?_ rfl ?_)) <;> (repeat' (first|exact trivial|exact rfl|apply And.intro|(refine yG ?_;(focus (simp;done)))|refine oWs rfl rfl rfl ?_ ?_)))
        all_goals first | exact x8 _ | exact hOE | (simp; done) | skip
theorem l6Put_pf (es : List Ent) (e : Ent) (hb : EnB es) (he : e.o.length ≤ 1000000) : PF Tryz.prog 157 [.agg (wI es), .agg (xR e)] [] (.agg (wI (putE es e))) :=
  PFM.frzL (outs := []) (l6PutO_pf es e hb he) (by simp) (x8 _) (fun i h => absurd h (Nat.not_lt_zero i)) (fun o h => by cases h)
end Go.Proofs.YtchpdclknbmdoaaGreatDoor
