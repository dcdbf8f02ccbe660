/- TapePieces of both programs, TapeRuns, TapeStrokes. -/
import Derived.Test.YtchpdclknbmdoaaGreatDoorMrB
import Derived.Test.YtchpdclknbmdoaaGreatDoorMrP
import Derived.Test.YtchpdclknbmdoaaGreatDoorSgD
namespace Go.Proofs.YtchpdclknbmdoaaGreatDoor
open Go Go.RowKit
def PB (p : Pc) : Prop := (0 ≤ p.f ∧ p.f ≤ 1000000) ∧ 0 ≤ p.n ∧ p.n ≤ 1000000
theorem seg_PB {es : List Ent} {l : List Int} (hl : l.length ≤ 1000) : ∀ p ∈ seg es l, PB p := fun p hp => by
  obtain ⟨a, h1, h2, rfl⟩ := segF_mem l.length 0 (by omega) p hp
  obtain ⟨c1, c2, c3, c4, _⟩ := vQ es l a
  refine ⟨⟨by omega, by omega⟩, by omega, by omega⟩
theorem eR_at {rs : List (List Int)} {j : Nat} {r : List Int} (h : rs[j]? = some r) : (rs.map eR)[j]? = some [.sl (r.map yX)] := xS h
theorem eR_one (rs : List (List Int)) : ∀ x ∈ rs.map eR, x.length = 1 := by
  intro x hx
  obtain ⟨p, _, rfl⟩ := List.mem_map.1 hx
  rfl
theorem run_le {rs : List (List Int)} {j : Nat} {r : List Int} (h : rs[j]? = some r) : r.length ≤ rs.flatten.length := by
  have h1 := fl_take h
  have h2 := fl_le rs (j + 1)
  omega
theorem rsP_cnt (t : List Itm) : ∀ k, k + 1 ≤ t.length → (rsP t (k + 1)).1.length ≤ k
  | 0, h => by
    obtain ⟨i, hi⟩ := xP (show 0 < t.length by omega)
    rw [rsP_one hi]; exact Nat.zero_le _
  | k + 1, h => by
    have ih := rsP_cnt t k (by omega)
    obtain ⟨i, hi⟩ := xP (show k + 1 < t.length by omega)
    cases hb : i.b with
    | true => rw [rsP_bar hi hb, List.length_append]; simp only [List.length_cons, List.length_nil]; omega
    | false => rw [rsP_non hi hb]; dsimp only; omega
theorem runsT_len (t : List Itm) : (runsT t).length ≤ t.length := by
  rw [runsT]
  split
  · exact Nat.zero_le _
  · rcases h0 : t.length with _ | n
    · contradiction
    · have := rsP_cnt t n (by omega)
      rw [List.length_append]
      simp only [List.length_cons, List.length_nil]
      omega
theorem strokesT_pf (t : List Itm) (hl : t.length ≤ 4000000) : PF Tryz.prog 92 [.agg (xX t)] [⟨3, 1, (t.map Itm.s).map yX⟩] (.c (.ref 0 0 t.length)) := by
  have hL : (t.map xA).length = t.length := List.length_map _
  refine PF.enter (y9 _) Tryz.func92 rfl (by kernel_rfl) _ _ rfl rfl rfl (fun w0 mu I0 β0 gi dis => ?_)
  (repeat' (first|(apply xW;((exact Want.none_ rfl)))|(apply xF zI;exact rfl;exact rfl)|(((apply zR))<;>(first|exact zI|exact rfl|refine yJ ?_))|apply zT|apply AWp.Q|apply zH|apply AWp.G|apply AWp.B))
  refine AWp.U (σ := Nat) (fun k => ⟨[(3, .c (.ref 0 0 k)), (8, .c (.sl (t.map xA))), (9, .c (int t.length)), (10, .c (int k))], [(0, some ⟨3, 1, ((t.take k).map Itm.s).map yX⟩)], 1⟩) (fun k => k ≤ t.length) (fun k => t.length - k) 0 (Nat.zero_le _) ?_ ?_
  · refine Weak.of [(0, some 1)] rfl ?_ ?_ <;> (repeat' (first|exact trivial|exact rfl|apply And.intro|(apply cgI;(omega))|refine oWs rfl rfl rfl ?_ ?_|(refine aIm ?_;(exact AllSc.nil))))
  · intro k hk
    have hsc := y8 ((t.take k).map Itm.s)
    have hlk : (((t.take k).map Itm.s).map yX).length = k := by rw [List.length_map, List.length_map, List.length_take]; omega
    by_cases hlt : k < t.length
    · obtain ⟨c, hc⟩ := xP hlt
      have hc' : (t.map xA)[k]? = some (xA c) := xS hc
      have hlt' : (k : Int) < (t.length : Int) := by omega
      (repeat' (first|(apply xW;((exact Want.none_ rfl)))|(apply xF zI;exact rfl;exact rfl)|((first|apply zY|(apply z6;exact rfl;exact rfl)|apply zR|apply zW|(apply yH;exact rfl;exact rfl)|apply yE)<;>(first|exact zI|exact rfl|refine yJ ?_|assumption|omega|exact lb rfl|(refine Bd.mk ?_;first|(focus (simp;done))|(simp;omega))))|apply zT|apply AWp.Q|apply zH|apply AWp.G|apply AWp.B|apply AWp.J|apply zJ|(apply AWp.T;exact rfl;((exact dT ‹_›)))))
      refine ⟨k + 1, by omega, by omega, ?_⟩
      rw [wY hc, List.map_append, List.map_append]
      refine Weak.of [(0, some 3)] rfl ?_ ?_ <;> (repeat' (first|exact trivial|exact rfl|apply And.intro|refine oWs rfl rfl rfl ?_ ?_))
      all_goals first | (rw [← List.map_append]; exact (y8 _).imm) | (rw [hlk]; rfl) | skip
    · have hlt' : ¬ (k : Int) < (t.length : Int) := by omega
      obtain rfl : k = t.length := by omega
      rw [List.take_of_length_le (Nat.le_refl _)]
      (repeat' (first|(apply xW;((exact Want.none_ rfl)))|(apply xF zI;exact rfl;exact rfl)|apply zT|apply AWp.Q|apply zH|apply AWp.G|apply AWp.X|apply AWp.R|apply zP|apply zN|(apply AWp.F;exact rfl;((exact dF ‹_›)))))
      (((refine z7 _ [(0, some 0)] (.cons (zS rfl) .nil) ?_ rfl ?_)) <;> (repeat' (first|exact trivial|exact rfl|apply And.intro|refine oWs rfl rfl rfl ?_ ?_)))
      all_goals exact (y8 _).imm
theorem tapeRunsY_pf (t : List Itm) (hb : vY t) (h : wF t = true) : PF Tryz.prog 28 [.agg (xX t)] [⟨27, 1, (runsT t).map eR⟩] (.tup [.c (.ref 0 0 (runsT t).length), .c (boo true)]) := by
  have h1 := x6 t hb
  rw [h] at h1
  have h2 := runs_pf t hb
  have i1 := y7 (o := ⟨27, 1, (runsT t).map eR⟩) (wZ (runsT t))
  refine PF.enter (y9 _) Tryz.func28 rfl (by kernel_rfl) _ _ rfl rfl rfl (fun w0 mu I0 β0 gi dis => ?_)
  (repeat' (first|(apply xW;((exact Want.none_ rfl)))|(apply xF zI;exact rfl;exact rfl)|apply zT|apply AWp.Q|apply zH|apply AWp.G|apply AWp.J|apply AWp.R|(apply AWp.F;exact rfl;((exact rfl)))|(apply (yD (h2));(iterate 7 exact rfl);(focus (repeat ((exact All2.nil))));exact rfl;(focus (repeat (first|exact MAs.nil|apply MAs.cons|apply MA.agg|exact MCs.nil|apply MCs.cons|exact MC.vc (VC.imm (Imm.sl _)))));((assumption));((exact xH));exact rfl;exact rfl)|(apply yI;(iterate 6 exact rfl);(iterate 2 (focus (repeat (first|exact VAs.nil|apply VAs.cons|apply VA.agg|exact VCs.nil|apply VCs.cons|exact VC.imm (Imm.sl _)))));((exact h1));(focus (repeat ((exact Flat.v _))));((apply yO));((exact xE _ _)))))
  (((refine z7 _ [(0, some 1)] (.cons (zS rfl) (.cons (zS rfl) .nil)) ?_ rfl ?_)) <;> (repeat' (first|exact trivial|exact rfl|apply And.intro|refine oWs rfl rfl rfl ?_ ?_)))
  all_goals exact wZ _
theorem tapeRunsN_pf (t : List Itm) (hb : vY t) (h : wF t = false) : PF Tryz.prog 28 [.agg (xX t)] [] (.tup [.c .nil, .c (boo false)]) := by
  have h1 := x6 t hb
  rw [h] at h1
  refine PF.enter (y9 _) Tryz.func28 rfl (by kernel_rfl) _ _ rfl rfl rfl (fun w0 mu I0 β0 gi dis => ?_)
  (repeat' (first|(apply xW;((exact Want.none_ rfl)))|(apply xF zI;exact rfl;exact rfl)|apply zT|apply AWp.Q|apply zH|apply AWp.G|apply AWp.R|apply zK|(apply AWp.T;exact rfl;((exact rfl)))|(apply yI;(iterate 6 exact rfl);(iterate 2 (focus (repeat (first|exact VAs.nil|apply VAs.cons|apply VA.agg|exact VCs.nil|apply VCs.cons|exact VC.imm (Imm.sl _)))));((exact h1));(focus (repeat ((exact Flat.v _))));((apply yO));((exact xE _ _)))))
  (((refine z7 _ [] (.cons (zS rfl) (.cons (zS rfl) .nil)) ?_ rfl ?_)) <;> (repeat' (first|exact trivial|exact rfl|apply And.intro)))
theorem tapeStrokesY_pf (t : List Itm) (hb : vY t) (h : wF t = true) : PF Tryz.prog 29 [.agg (xX t)] [⟨3, 1, (t.map Itm.s).map yX⟩] (.tup [.c (.ref 0 0 t.length), .c (boo true)]) := by
  have h1 := x6 t hb
  rw [h] at h1
  have h2 := strokesT_pf t hb
  have hsc := y8 (t.map Itm.s)
  refine PF.enter (y9 _) Tryz.func29 rfl (by kernel_rfl) _ _ rfl rfl rfl (fun w0 mu I0 β0 gi dis => ?_)
  (repeat' (first|(apply xW;((exact Want.none_ rfl)))|(apply xF zI;exact rfl;exact rfl)|apply zT|apply AWp.Q|apply zH|apply AWp.G|apply AWp.J|apply AWp.R|(apply AWp.F;exact rfl;((exact rfl)))|(apply yI;(iterate 6 exact rfl);(iterate 2 (focus (repeat (first|exact VAs.nil|apply VAs.cons|apply VA.agg|exact VCs.nil|apply VCs.cons|exact VC.imm (Imm.sl _)))));(first|exact h1|exact h2);(focus (repeat (first|exact Flat.v _|exact Flat.ref _ _ _)));(first|apply yO|(apply yP;(focus (repeat (first|exact trivial|apply And.intro|((assumption)))))));(first|exact xE _ _|exact xD _ _ _ _))))
  (((refine z7 _ [(0, some 1)] (.cons (zS rfl) (.cons (zS rfl) .nil)) ?_ rfl ?_)) <;> (repeat' (first|exact trivial|exact rfl|apply And.intro|refine oWs rfl rfl rfl ?_ ?_|(refine aIm ?_;(assumption)))))
  all_goals exact hsc.imm
theorem tapeStrokesN_pf (t : List Itm) (hb : vY t) (h : wF t = false) : PF Tryz.prog 29 [.agg (xX t)] [] (.tup [.c .nil, .c (boo false)]) := by
  have h1 := x6 t hb
  rw [h] at h1
  refine PF.enter (y9 _) Tryz.func29 rfl (by kernel_rfl) _ _ rfl rfl rfl (fun w0 mu I0 β0 gi dis => ?_)
  (repeat' (first|(apply xW;((exact Want.none_ rfl)))|(apply xF zI;exact rfl;exact rfl)|apply zT|apply AWp.Q|apply zH|apply AWp.G|apply AWp.R|apply zK|(apply AWp.T;exact rfl;((exact rfl)))|(apply yI;(iterate 6 exact rfl);(iterate 2 (focus (repeat (first|exact VAs.nil|apply VAs.cons|apply VA.agg|exact VCs.nil|apply VCs.cons|exact VC.imm (Imm.sl _)))));((exact h1));(focus (repeat ((exact Flat.v _))));((apply yO));((exact xE _ _)))))
  (((refine z7 _ [] (.cons (zS rfl) (.cons (zS rfl) .nil)) ?_ rfl ?_)) <;> (repeat' (first|exact trivial|exact rfl|apply And.intro)))
def vR (es : List Ent) (t : List Itm) : Bool := qB es && wF t
def tpc (es : List Ent) (t : List Itm) : List Pc := tpF es 0 (runsT t)
theorem tpcOk_no {es : List Ent} {t : List Itm} (h : vR es t = false) : qB es = false ∨ (qB es = true ∧ wF t = false) := by
  rw [vR] at h
  cases h1 : qB es with
  | false => exact .inl rfl
  | true => rw [h1] at h; exact .inr ⟨rfl, h⟩
section
variable (es : List Ent) (t : List Itm) (hb : qU es) (ht : vY t)
include hb ht
theorem implTpN_pf (h : vR es t = false) : PF Tryz.prog 26 [.agg (wG es), .agg (xX t)] [] (.tup [.c .nil, .c (boo false)]) := by
  have h1 := implGood_pf es hb
  have h2 := x6 t ht
  rcases tpcOk_no h with e1 | ⟨e1, e2⟩
  · rw [e1] at h1
    refine PF.enter (xY _ _) Tryz.func26 rfl (by kernel_rfl) _ _ rfl rfl rfl (fun w0 mu I0 β0 gi dis => ?_)
    (repeat' (first|(apply xW;((exact Want.none_ rfl)))|(apply xF zI;exact rfl;exact rfl)|(apply yW;exact rfl;exact rfl;((exact rfl));exact rfl;exact rfl)|(apply yV;(iterate 5 exact rfl);((exact rfl)))|apply zT|apply AWp.Q|apply zH|apply AWp.G|apply AWp.R|apply zK|(apply AWp.T;exact rfl;((exact rfl)))|(apply yI;(iterate 6 exact rfl);(iterate 2 (focus (repeat (first|exact VAs.nil|apply VAs.cons|apply VA.agg|exact VCs.nil|apply VCs.cons|exact VC.imm (Imm.sl _)))));((exact h1));(focus (repeat ((exact Flat.v _))));((apply yO));((exact xE _ _)))))
    (((refine z7 _ [] (.cons (zS rfl) (.cons (zS rfl) .nil)) ?_ rfl ?_)) <;> (repeat' (first|exact trivial|exact rfl|apply And.intro)))
  · rw [e1] at h1
    rw [e2] at h2
    refine PF.enter (xY _ _) Tryz.func26 rfl (by kernel_rfl) _ _ rfl rfl rfl (fun w0 mu I0 β0 gi dis => ?_)
    (repeat' (first|(apply xW;(first|exact Want.none_ rfl|(refine zZ rfl rfl rfl rfl ?_;((exact rfl)))))|(apply xF zI;exact rfl;exact rfl)|(apply yW;exact rfl;exact rfl;((exact rfl));exact rfl;exact rfl)|apply zT|apply AWp.Q|apply zH|apply AWp.G|apply AWp.R|apply zK|(apply AWp.T;exact rfl;((exact rfl)))|(apply yI;(iterate 6 exact rfl);(iterate 2 (focus (repeat (first|exact VAs.nil|apply VAs.cons|apply VA.agg|exact VCs.nil|apply VCs.cons|exact VC.imm (Imm.sl _)))));(first|exact h1|exact h2);(focus (repeat ((exact Flat.v _))));((apply yO));((exact xE _ _)))))
    (((refine z7 _ [] (.cons (zS rfl) (.cons (zS rfl) .nil)) ?_ rfl ?_)) <;> (repeat' (first|exact trivial|exact rfl|apply And.intro)))
theorem specTpN_pf (h : vR es t = false) : PF Tryz.prog 27 [.agg (wG es), .agg (xX t)] [] (.tup [.c .nil, .c (boo false)]) := by
  have h1 := l6Good_pf es hb
  have h2 := specValidT_pf t ht
  rcases tpcOk_no h with e1 | ⟨e1, e2⟩
  · rw [e1] at h1
    refine PF.enter (xY _ _) Tryz.func27 rfl (by kernel_rfl) _ _ rfl rfl rfl (fun w0 mu I0 β0 gi dis => ?_)
    (repeat' (first|(apply xW;((exact Want.none_ rfl)))|(apply xF zI;exact rfl;exact rfl)|(apply yW;exact rfl;exact rfl;((exact rfl));exact rfl;exact rfl)|(apply yV;(iterate 5 exact rfl);((exact rfl)))|apply zT|apply AWp.Q|apply zH|apply AWp.G|apply AWp.R|apply zK|(apply AWp.T;exact rfl;((exact rfl)))|(apply yI;(iterate 6 exact rfl);(iterate 2 (focus (repeat (first|exact VAs.nil|apply VAs.cons|apply VA.agg|exact VCs.nil|apply VCs.cons|exact VC.imm (Imm.sl _)))));((exact h1));(focus (repeat ((exact Flat.v _))));((apply yO));((exact xE _ _)))))
    (((refine z7 _ [] (.cons (zS rfl) (.cons (zS rfl) .nil)) ?_ rfl ?_)) <;> (repeat' (first|exact trivial|exact rfl|apply And.intro)))
  · rw [e1] at h1
    rw [e2] at h2
    refine PF.enter (xY _ _) Tryz.func27 rfl (by kernel_rfl) _ _ rfl rfl rfl (fun w0 mu I0 β0 gi dis => ?_)
    (repeat' (first|(apply xW;(first|exact Want.none_ rfl|(refine zZ rfl rfl rfl rfl ?_;((exact rfl)))))|(apply xF zI;exact rfl;exact rfl)|(apply yW;exact rfl;exact rfl;((exact rfl));exact rfl;exact rfl)|apply zT|apply AWp.Q|apply zH|apply AWp.G|apply AWp.R|apply zK|(apply AWp.T;exact rfl;((exact rfl)))|(apply yI;(iterate 6 exact rfl);(iterate 2 (focus (repeat (first|exact VAs.nil|apply VAs.cons|apply VA.agg|exact VCs.nil|apply VCs.cons|exact VC.imm (Imm.sl _)))));(first|exact h1|exact h2);(focus (repeat ((exact Flat.v _))));((apply yO));((exact xE _ _)))))
    (((refine z7 _ [] (.cons (zS rfl) (.cons (zS rfl) .nil)) ?_ rfl ?_)) <;> (repeat' (first|exact trivial|exact rfl|apply And.intro)))
theorem implTpY_pf (h : vR es t = true) : PF Tryz.prog 26 [.agg (wG es), .agg (xX t)] [⟨55, 3, (tpc es t).map x7⟩] (.tup [.c (.ref 0 0 (tpc es t).length), .c (boo true)]) := by
  rw [vR, Bool.and_eq_true] at h
  have h1 := implGood_pf es hb
  have h2 := x6 t ht
  rw [h.1] at h1
  rw [h.2] at h2
  have h60 := (tapeOk_parts h.2).1
  have h3 := runs_pf t ht
  have hfl := congrArg List.length (runsT_ok t).2
  rw [List.length_map] at hfl
  rw [tpc]
  have hrn := runsT_len t
  generalize runsT t = rs at h3 hfl hrn
  have i1 := y7 (o := ⟨27, 1, rs.map eR⟩) (wZ rs)
  have hLr : (rs.map eR).length = rs.length := List.length_map _
  have hone := eR_one rs
  refine PF.enter (xY _ _) Tryz.func26 rfl (by kernel_rfl) _ _ rfl rfl rfl (fun w0 mu I0 β0 gi dis => ?_)
  (repeat' (first|(apply xW;(first|exact Want.none_ rfl|(refine zZ rfl rfl rfl rfl ?_;((exact rfl)))))|(apply xF zI;exact rfl;exact rfl)|(((apply zR))<;>(first|exact zI|exact rfl|refine yJ ?_))|(apply yW;exact rfl;exact rfl;((exact rfl));exact rfl;exact rfl)|apply zT|apply AWp.Q|apply zH|apply AWp.G|apply AWp.B|apply AWp.J|(apply AWp.F;exact rfl;((exact rfl)))|(apply (yD (h3));(iterate 7 exact rfl);(focus (repeat ((exact All2.nil))));exact rfl;(focus (repeat (first|exact MAs.nil|apply MAs.cons|apply MA.agg|exact MCs.nil|apply MCs.cons|exact MC.vc (VC.imm (Imm.sl _)))));((assumption));((exact xH));exact rfl;exact rfl)|(apply yI;(iterate 6 exact rfl);(iterate 2 (focus (repeat (first|exact VAs.nil|apply VAs.cons|apply VA.agg|exact VCs.nil|apply VCs.cons|exact VC.imm (Imm.sl _)))));(first|exact h1|exact h2);(focus (repeat ((exact Flat.v _))));((apply yO));((exact xE _ _)))))
  refine AWp.U (σ := Nat) (fun j => ⟨[(2, .c (.ptr 0 0 0)), (6, .c (.ref 1 0 (tpF es 0 (rs.take j)).length)), (7, .c (int (rs.take j).flatten.length)), (22, .c (.ref 2 0 rs.length)), (23, .c (int rs.length)), (24, .c (int j))], [(0, some ⟨26, 1, [wG es]⟩), (1, some ⟨55, 3, (tpF es 0 (rs.take j)).map x7⟩), (2, some ⟨27, 1, rs.map eR⟩)], 3⟩) (fun j => j ≤ rs.length) (fun j => rs.length - j) 0 (Nat.zero_le _) ?_ ?_
  · refine Weak.of [(0, some 0), (1, some 2), (2, some 3)] rfl ?_ ?_ <;> (repeat' (first|exact trivial|exact rfl|apply And.intro|refine ⟨_,rfl,rfl,rfl,OW.one ?_⟩|refine oWs rfl rfl rfl ?_ ?_|(refine aIm ?_;(exact AllSc.nil))))
    all_goals first | exact wZ _ | skip
  · intro j hj
    have hfj := fl_le rs j
    have hsP := vF (tpF es 0 (rs.take j))
    have hlP := tpF_len es (rs.take j) 0
    by_cases hlt : j < rs.length
    · obtain ⟨r, hr⟩ := xP hlt
      have hr' := eR_at hr
      have hlt' : (j : Int) < (rs.length : Int) := by omega
      have hrl := run_le hr
      have h4 := segment_pf es r hb (by omega)
      have hgl := segF_len es r 0
      have hgp := seg_PB (es := es) (l := r) (by omega)
      rw [← seg] at hgl
      have htk := tp_take (es := es) hr
      have hfk := fl_take hr
      have hrL : (r.map yX).length = r.length := List.length_map _
      generalize seg es r = S at h4 hgl hgp htk
      have hsS := vF S
      have hSL : (S.map x7).length = S.length := List.length_map _
      generalize hA : tpF es 0 (rs.take j) = A at htk hsP hlP ⊢
      generalize (rs.take j).flatten.length = fr at htk hfk hfj hlP ⊢
      (repeat' (first|(apply xW;((exact Want.none_ rfl)))|(apply xF zI;exact rfl;exact rfl)|((first|apply zV|(apply zU;exact rfl;exact rfl;exact zI;exact rfl;exact rfl))<;>(first|exact zI|exact Nat.zero_add _|exact rfl|refine yJ ?_|assumption))|apply zT|apply AWp.Q|apply zH|apply AWp.G|apply AWp.B|apply AWp.J|(apply AWp.T;exact rfl;((exact dT ‹_›)))|(apply yI;(iterate 6 exact rfl);(iterate 2 (focus (repeat (first|exact VAs.nil|apply VAs.cons|apply VA.c|apply VA.agg|exact VCs.nil|apply VCs.cons|exact VC.imm (Imm.sl _)))));((exact h4));(focus (repeat ((exact Flat.ref _ _ _))));((apply yP;(focus (repeat (first|exact trivial|apply And.intro|((assumption)))))));((exact xD _ _ _ _)))))
      refine AWp.U (σ := Nat) (fun i => ⟨[(2, .c (.ptr 0 0 0)), (6, .c (.ref 1 0 (A ++ (S.take i).map (sh fr)).length)), (7, .c (int fr)), (9, .c (.sl (r.map yX))), (22, .c (.ref 2 0 rs.length)), (23, .c (int rs.length)), (24, .c (int j)), (30, .c (.ref 3 0 S.length)), (31, .c (int S.length)), (32, .c (int i))], [(0, some ⟨26, 1, [wG es]⟩), (1, some ⟨55, 3, (A ++ (S.take i).map (sh fr)).map x7⟩), (2, some ⟨27, 1, rs.map eR⟩), (3, some ⟨55, 3, S.map x7⟩)], 4⟩) (fun i => i ≤ S.length) (fun i => S.length - i) 0 (Nat.zero_le _) ?_ ?_
      · rw [List.take_zero, List.map_nil, List.append_nil]
        refine Weak.of [(0, some 0), (1, some 1), (2, some 2), (3, some 3)] rfl ?_ ?_ <;> (repeat' (first|exact trivial|exact rfl|apply And.intro|refine ⟨_,rfl,rfl,rfl,OW.one ?_⟩|refine oWs rfl rfl rfl ?_ ?_|(refine aIm ?_;(assumption))))
        all_goals first | exact wZ _ | exact hsP.imm | exact hsS.imm | skip
      · intro i hi
        have hsQ := vF (A ++ (S.take i).map (sh fr))
        have hLQ : ((A ++ (S.take i).map (sh fr)).map x7).length = (A ++ (S.take i).map (sh fr)).length := List.length_map _
        have hlQ : (A ++ (S.take i).map (sh fr)).length = A.length + i := by rw [List.length_append, List.length_map, List.length_take]; omega
        by_cases hil : i < S.length
        · obtain ⟨p, hp⟩ := xP hil
          have hp' : (S.map x7)[i]? = some (x7 p) := xS hp
          have hil' : (i : Int) < (S.length : Int) := by omega
          obtain ⟨⟨q1, q2⟩, q3, q4⟩ := hgp p (List.mem_of_getElem? hp)
          have hst : A ++ (S.take (i + 1)).map (sh fr) = (A ++ (S.take i).map (sh fr)) ++ [sh fr p] := by rw [wY hp, List.map_append, List.append_assoc]; rfl
          generalize A ++ (S.take i).map (sh fr) = Q at hsQ hLQ hlQ hst
          (repeat' (first|(apply xW;((exact Want.none_ rfl)))|(apply xF zI;exact rfl;exact rfl)|((first|apply zY|apply zV|apply zO|apply yT|apply zR|apply zW|(apply yH;exact rfl;exact rfl)|apply yE)<;>(first|exact zI|exact Nat.zero_add _|exact rfl|refine yJ ?_|assumption|omega|exact lb rfl|(refine Bd.mk ?_;first|(focus (simp;done))|(simp;omega))|exact yU rfl))|apply zT|apply AWp.Q|apply zH|apply AWp.G|apply AWp.B|apply AWp.J|apply zJ|(apply AWp.T;exact rfl;((exact dT ‹_›)))))
          refine ⟨i + 1, by omega, by omega, ?_⟩
          rw [hst, vP]
          refine Weak.of [(0, some 0), (1, some 6), (2, some 2), (3, some 3)] rfl ?_ ?_ <;> (repeat' (first|exact trivial|exact rfl|apply And.intro|(refine yB ?_;(focus (simp;done)))|refine ⟨_,rfl,rfl,rfl,OW.one ?_⟩|refine oWs rfl rfl rfl ?_ ?_|(refine aIm ?_;(assumption))))
          all_goals first | exact wZ _ | exact hsS.imm | (rw [← vP]; exact (vF _).imm) | (rw [hLQ, List.length_append]; rfl) | rfl | skip
        · have hil' : ¬ (i : Int) < (S.length : Int) := by omega
          rw [List.take_of_length_le (by omega)] at hsQ hLQ hlQ ⊢
          rw [← htk] at hsQ hLQ hlQ ⊢
          (repeat' (first|(apply xW;((exact Want.none_ rfl)))|(apply xF zI;exact rfl;exact rfl)|(((apply zY))<;>(first|exact rfl|refine yJ ?_|omega))|apply zT|apply AWp.Q|apply zH|apply AWp.G|apply AWp.X|apply zP|apply zJ|apply zN|(apply AWp.F;exact rfl;((exact dF ‹_›)))))
          refine ⟨j + 1, by omega, by omega, ?_⟩
          rw [hfk]
          refine Weak.of [(0, some 0), (1, some 1), (2, some 2)] rfl ?_ ?_ <;> (repeat' (first|exact trivial|exact rfl|apply And.intro|(apply cgI;(omega))|refine ⟨_,rfl,rfl,rfl,OW.one ?_⟩|refine oWs rfl rfl rfl ?_ ?_|(refine aIm ?_;(assumption))))
          all_goals first | exact wZ _ | exact hsQ.imm | skip
    · have hlt' : ¬ (j : Int) < (rs.length : Int) := by omega
      rw [List.take_of_length_le (by omega)] at hsP ⊢
      (repeat' (first|(apply xW;((exact Want.none_ rfl)))|(apply xF zI;exact rfl;exact rfl)|apply zT|apply AWp.Q|apply zH|apply AWp.G|apply AWp.X|apply AWp.R|apply zP|apply zN|(apply AWp.F;exact rfl;((exact dF ‹_›)))))
      (((refine z7 _ [(0, some 1)] (.cons (zS rfl) (.cons (zS rfl) .nil)) ?_ rfl ?_)) <;> (repeat' (first|exact trivial|exact rfl|apply And.intro|refine oWs rfl rfl rfl ?_ ?_|(refine aIm ?_;(assumption)))))
      all_goals exact hsP.imm
theorem specTpY_pf (h : vR es t = true) : PF Tryz.prog 27 [.agg (wG es), .agg (xX t)] [⟨55, 3, (tpc es t).map x7⟩] (.tup [.c (.ref 0 0 (tpc es t).length), .c (boo true)]) := by
  rw [vR, Bool.and_eq_true] at h
  have h1 := l6Good_pf es hb
  have h2 := specValidT_pf t ht
  rw [h.1] at h1
  rw [h.2] at h2
  have h60 := (tapeOk_parts h.2).1
  have h3 := l16Runs_pf t ht
  have hfl := congrArg List.length (runsT_ok t).2
  rw [List.length_map] at hfl
  rw [tpc]
  have hrn := runsT_len t
  generalize runsT t = rs at h3 hfl hrn
  have i1 := y7 (o := ⟨27, 1, rs.map eR⟩) (wZ rs)
  have hLr : (rs.map eR).length = rs.length := List.length_map _
  have hone := eR_one rs
  refine PF.enter (xY _ _) Tryz.func27 rfl (by kernel_rfl) _ _ rfl rfl rfl (fun w0 mu I0 β0 gi dis => ?_)
  (repeat' (first|(apply xW;(first|exact Want.none_ rfl|(refine zZ rfl rfl rfl rfl ?_;((exact rfl)))))|(apply xF zI;exact rfl;exact rfl)|(((apply zR))<;>(first|exact zI|exact rfl|refine yJ ?_))|(apply yW;exact rfl;exact rfl;((exact rfl));exact rfl;exact rfl)|apply zT|apply AWp.Q|apply zH|apply AWp.G|apply AWp.B|apply AWp.J|(apply AWp.F;exact rfl;((exact rfl)))|(apply (yD (h3));(iterate 7 exact rfl);(focus (repeat ((exact All2.nil))));exact rfl;(focus (repeat (first|exact MAs.nil|apply MAs.cons|apply MA.agg|exact MCs.nil|apply MCs.cons|exact MC.vc (VC.imm (Imm.sl _)))));((assumption));((exact xH));exact rfl;exact rfl)|(apply yI;(iterate 6 exact rfl);(iterate 2 (focus (repeat (first|exact VAs.nil|apply VAs.cons|apply VA.agg|exact VCs.nil|apply VCs.cons|exact VC.imm (Imm.sl _)))));(first|exact h1|exact h2);(focus (repeat ((exact Flat.v _))));((apply yO));((exact xE _ _)))))
  refine AWp.U (σ := Nat) (fun j => ⟨[(2, .c (.ptr 0 0 0)), (6, .c (.ref 1 0 (tpF es 0 (rs.take j)).length)), (7, .c (.ref 2 0 rs.length)), (8, .c (int (rs.take j).flatten.length)), (9, .c (int j))], [(0, some ⟨26, 1, [wG es]⟩), (1, some ⟨55, 3, (tpF es 0 (rs.take j)).map x7⟩), (2, some ⟨27, 1, rs.map eR⟩)], 3⟩) (fun j => j ≤ rs.length) (fun j => rs.length - j) 0 (Nat.zero_le _) ?_ ?_
  · refine Weak.of [(0, some 0), (1, some 2), (2, some 3)] rfl ?_ ?_ <;> (repeat' (first|exact trivial|exact rfl|apply And.intro|refine ⟨_,rfl,rfl,rfl,OW.one ?_⟩|refine oWs rfl rfl rfl ?_ ?_|(refine aIm ?_;(exact AllSc.nil))))
    all_goals first | exact wZ _ | skip
  · intro j hj
    have hfj := fl_le rs j
    have hsP := vF (tpF es 0 (rs.take j))
    have hlP := tpF_len es (rs.take j) 0
    by_cases hlt : j < rs.length
    · obtain ⟨r, hr⟩ := xP hlt
      have hr' := eR_at hr
      have hlt' : (j : Int) < (rs.length : Int) := by omega
      have hrl := run_le hr
      have h4 := l11Segment_pf es r hb (by omega)
      have hgl := segF_len es r 0
      have hgp := seg_PB (es := es) (l := r) (by omega)
      rw [← seg] at hgl
      have htk := tp_take (es := es) hr
      have hfk := fl_take hr
      have hrL : (r.map yX).length = r.length := List.length_map _
      generalize seg es r = S at h4 hgl hgp htk
      have hsS := vF S
      have hSL : (S.map x7).length = S.length := List.length_map _
      generalize hA : tpF es 0 (rs.take j) = A at htk hsP hlP ⊢
      generalize (rs.take j).flatten.length = fr at htk hfk hfj hlP ⊢
      (repeat' (first|(apply xW;((exact Want.none_ rfl)))|(apply xF zI;exact rfl;exact rfl)|((first|apply zV|(apply zU;exact rfl;exact rfl;exact zI;exact rfl;exact rfl))<;>(first|exact zI|exact Nat.zero_add _|exact rfl|refine yJ ?_|assumption))|apply zT|(refine yL ?_ ?_;kernel_rfl)|apply AWp.Q|apply zH|apply AWp.G|apply AWp.B|apply AWp.J|(refine AWp.D ?_ ?_;kernel_rfl)|(apply AWp.T;exact rfl;((exact dT ‹_›)))|(apply yI;(iterate 6 exact rfl);(iterate 2 (focus (repeat (first|exact VAs.nil|apply VAs.cons|apply VA.c|apply VA.agg|exact VCs.nil|apply VCs.cons|exact VC.imm (Imm.sl _)))));((exact h4));(focus (repeat ((exact Flat.ref _ _ _))));((apply yP;(focus (repeat (first|exact trivial|apply And.intro|((assumption)))))));((exact xD _ _ _ _)))))
      refine AWp.U (σ := Nat) (fun i => ⟨[(2, .c (.ptr 0 0 0)), (6, .c (.ref 1 0 (A ++ (S.take i).map (sh fr)).length)), (7, .c (.ref 2 0 rs.length)), (8, .c (int fr)), (9, .c (int j)), (10, .c (.ref 3 0 S.length)), (11, .c (int i))], [(0, some ⟨26, 1, [wG es]⟩), (1, some ⟨55, 3, (A ++ (S.take i).map (sh fr)).map x7⟩), (2, some ⟨27, 1, rs.map eR⟩), (3, some ⟨55, 3, S.map x7⟩)], 4⟩) (fun i => i ≤ S.length) (fun i => S.length - i) 0 (Nat.zero_le _) ?_ ?_
      · rw [List.take_zero, List.map_nil, List.append_nil]
        refine Weak.of [(0, some 0), (1, some 1), (2, some 2), (3, some 3)] rfl ?_ ?_ <;> (repeat' (first|exact trivial|exact rfl|apply And.intro|refine ⟨_,rfl,rfl,rfl,OW.one ?_⟩|refine oWs rfl rfl rfl ?_ ?_|(refine aIm ?_;(assumption))))
        all_goals first | exact wZ _ | exact hsP.imm | exact hsS.imm | skip
      · intro i hi
        have hsQ := vF (A ++ (S.take i).map (sh fr))
        have hLQ : ((A ++ (S.take i).map (sh fr)).map x7).length = (A ++ (S.take i).map (sh fr)).length := List.length_map _
        have hlQ : (A ++ (S.take i).map (sh fr)).length = A.length + i := by rw [List.length_append, List.length_map, List.length_take]; omega
        by_cases hil : i < S.length
        · obtain ⟨p, hp⟩ := xP hil
          have hp' : (S.map x7)[i]? = some (x7 p) := xS hp
          have hil' : (i : Int) < (S.length : Int) := by omega
          obtain ⟨⟨q1, q2⟩, q3, q4⟩ := hgp p (List.mem_of_getElem? hp)
          have hst : A ++ (S.take (i + 1)).map (sh fr) = (A ++ (S.take i).map (sh fr)) ++ [sh fr p] := by rw [wY hp, List.map_append, List.append_assoc]; rfl
          generalize A ++ (S.take i).map (sh fr) = Q at hsQ hLQ hlQ hst
          (repeat' (first|(apply xW;((exact Want.none_ rfl)))|(apply xF zI;exact rfl;exact rfl)|((first|apply zY|apply zV|(apply zU;exact rfl;exact rfl;exact zI;exact rfl;exact rfl)|apply yT|apply zR|(apply yH;exact rfl;exact rfl))<;>(first|exact zI|exact Nat.zero_add _|exact rfl|refine yJ ?_|assumption|omega|(refine Bd.mk ?_;first|(focus (simp;done))|(simp;omega))|exact yU rfl))|apply zT|(refine yL ?_ ?_;kernel_rfl)|apply AWp.Q|apply zH|apply AWp.G|apply AWp.B|apply AWp.J|apply zJ|(refine AWp.D ?_ ?_;kernel_rfl)|(apply AWp.T;exact rfl;((exact dT ‹_›)))))
          refine ⟨i + 1, by omega, by omega, ?_⟩
          rw [hst, vP]
          refine Weak.of [(0, some 0), (1, some 5), (2, some 2), (3, some 3)] rfl ?_ ?_ <;> (repeat' (first|exact trivial|exact rfl|apply And.intro|(refine yB ?_;(focus (simp;done)))|refine ⟨_,rfl,rfl,rfl,OW.one ?_⟩|refine oWs rfl rfl rfl ?_ ?_|(refine aIm ?_;(assumption))))
          all_goals first | exact wZ _ | exact hsS.imm | (rw [← vP]; exact (vF _).imm) | (rw [hLQ, List.length_append]; rfl) | rfl | skip
        · have hil' : ¬ (i : Int) < (S.length : Int) := by omega
          rw [List.take_of_length_le (by omega)] at hsQ hLQ hlQ ⊢
          rw [← htk] at hsQ hLQ hlQ ⊢
          (repeat' (first|(apply xW;((exact Want.none_ rfl)))|(apply xF zI;exact rfl;exact rfl)|((first|apply zY|apply zV|(apply zU;exact rfl;exact rfl;exact zI;exact rfl;exact rfl))<;>(first|exact zI|exact Nat.zero_add _|exact rfl|refine yJ ?_|assumption|omega))|apply zT|apply AWp.Q|apply zH|apply AWp.G|apply AWp.X|apply zP|apply zJ|apply zN|(apply AWp.F;exact rfl;((exact dF ‹_›)))))
          refine ⟨j + 1, by omega, by omega, ?_⟩
          rw [hfk]
          refine Weak.of [(0, some 0), (1, some 1), (2, some 2)] rfl ?_ ?_ <;> (repeat' (first|exact trivial|exact rfl|apply And.intro|(apply cgI;(omega))|refine ⟨_,rfl,rfl,rfl,OW.one ?_⟩|refine oWs rfl rfl rfl ?_ ?_|(refine aIm ?_;(assumption))))
          all_goals first | exact wZ _ | exact hsQ.imm | skip
    · have hlt' : ¬ (j : Int) < (rs.length : Int) := by omega
      rw [List.take_of_length_le (by omega)] at hsP ⊢
      (repeat' (first|(apply xW;((exact Want.none_ rfl)))|(apply xF zI;exact rfl;exact rfl)|apply zT|apply AWp.Q|apply zH|apply AWp.G|apply AWp.X|apply AWp.R|apply zP|apply zN|(apply AWp.F;exact rfl;((exact dF ‹_›)))))
      (((refine z7 _ [(0, some 1)] (.cons (zS rfl) (.cons (zS rfl) .nil)) ?_ rfl ?_)) <;> (repeat' (first|exact trivial|exact rfl|apply And.intro|refine oWs rfl rfl rfl ?_ ?_|(refine aIm ?_;(assumption)))))
      all_goals exact hsP.imm
end
end Go.Proofs.YtchpdclknbmdoaaGreatDoor
