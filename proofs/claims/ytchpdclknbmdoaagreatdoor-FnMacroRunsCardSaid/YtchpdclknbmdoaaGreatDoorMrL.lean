/- FnMacroRuns returns true. No conditions but the bound of the code's length. -/
import Derived.Test.YtchpdclknbmdoaaGreatDoorMrC
import Derived.Test.YtchpdclknbmdoaaGreatDoorMrD
import Derived.Test.YtchpdclknbmdoaaGreatDoorRL
namespace Go.Proofs.YtchpdclknbmdoaaGreatDoor
open Go Go.RowKit
theorem rPieces_pf (l : List Pc) (hl : l.length ≤ 4000000) : PF Tryz.prog 30 [.c (.sl (l.map x7)), .c (.sl (l.map x7))] [] (.c (boo true)) := by
  have hL : (l.map x7).length = l.length := List.length_map _
  refine PF.enter (xY _ _) Tryz.func30 rfl (by kernel_rfl) _ _ rfl rfl rfl (fun w0 mu I0 β0 gi dis => ?_)
  (repeat' (first|(apply xW;((exact Want.none_ rfl)))|(apply xF zI;exact rfl;exact rfl)|apply zT|apply AWp.Q|apply zH|apply AWp.G|apply AWp.B|apply AWp.J|(((refine AWp.C rfl ?_ ?_))<;>intro hp<;>try (exfalso;omega))))
  all_goals first | (exfalso; simp at *; done) | skip
  refine AWp.U (σ := Nat) (fun k => ⟨[(0, .c (.sl (l.map x7))), (1, .c (.sl (l.map x7))), (5, .c (int k))], [], 0⟩) (fun k => k ≤ l.length) (fun k => l.length - k) 0 (Nat.zero_le _) ?_ ?_
  · refine Weak.of [] rfl ?_ ?_ <;> (repeat' (first|exact trivial|exact rfl|apply And.intro))
  · rintro k hk
    by_cases hlt : k < l.length
    · obtain ⟨c, hc⟩ := xP hlt
      have hc' : (l.map x7)[k]? = some (x7 c) := xS hc
      have hlt' : (k : Int) < ((l.map x7).length : Int) := by omega
      (repeat' (first|(apply xW;((exact Want.none_ rfl)))|(apply xF zI;exact rfl;exact rfl)|(((apply z6;exact rfl;exact rfl))<;>(first|exact zI|exact rfl|refine yJ ?_|assumption))|apply zT|apply AWp.Q|apply zH|apply AWp.G|apply AWp.B|apply AWp.J|(refine AWp.D ?_ ?_;kernel_rfl)|(apply AWp.T;exact rfl;((exact dT ‹_›)))))
      apply (rx_cmpA (neQ_run c c _ _))
      iterate 5 exact rfl
      rw [neQ_self]
      (repeat' (first|(apply xW;((exact Want.none_ rfl)))|(apply xF zI;exact rfl;exact rfl)|(((apply zY))<;>(first|exact rfl|refine yJ ?_|omega))|apply zT|(refine yL ?_ ?_;kernel_rfl)|apply zH|apply AWp.G|apply AWp.J|apply zJ|(apply AWp.F;exact rfl;((exact rfl)))))
      refine ⟨k + 1, by omega, by omega, ?_⟩
      refine Weak.of [] rfl ?_ ?_ <;> (repeat' (first|exact trivial|exact rfl|apply And.intro))
    · have hlt' : ¬ (k : Int) < ((l.map x7).length : Int) := by omega
      (repeat' (first|(apply xW;((exact Want.none_ rfl)))|(apply xF zI;exact rfl;exact rfl)|apply zT|apply AWp.Q|apply zH|apply AWp.G|apply AWp.X|apply AWp.R|apply zP|apply zN|(apply AWp.F;exact rfl;((exact dF ‹_›)))))
      (((refine z7 _ [] (.cons (zS rfl) .nil) ?_ rfl ?_)) <;> (repeat' (first|exact trivial|exact rfl)))
theorem fl_next {rs : List (List Int)} {j : Nat} {r : List Int} (h : rs[j]? = some r) : (rs.take (j + 1)).flatten = (rs.take j).flatten ++ r := by
  rw [wY h, List.flatten_append, List.flatten_singleton]
section
variable (code : List UInt8) (hl : code.length ≤ 65536) (es : List Ent) (T : List Itm) (hB : qU es) (hT : T.length ≤ 61)
  (hd : PF Tryz.prog 25 [.c (.sl (code.map vA))] [] (.tup [.agg (wG es), .agg (xX T)]))
include hl hB hT hd
set_option maxHeartbeats 4000000 in
theorem mrL_bad (h : wF T = false) : PF Tryz.prog 5 [.c (.sl (code.map vA))] [] (.c (boo true)) := by
  have i0 : ∀ obj : AObj, some obj ∈ ([] : List (Option AObj)) → ∀ x ∈ obj.els, ∀ c ∈ x, Imm c := fun _ h => by cases h
  have hb : vY T := by rw [vY]; omega
  have h1 := rBig_pf code (by omega)
  rw [decide_eq_false (by omega)] at h1
  have hn : vR es T = false := by rw [vR, h, Bool.and_false]
  have hI := implTpN_pf es T hB hb hn
  have hS := specTpN_pf es T hB hb hn
  have hR := tapeRunsN_pf T hb h
  have hK := tapeStrokesN_pf T hb h
  have hV := x6 T hb
  rw [h] at hV
  refine PF.enter (y9 _) Tryz.func5 rfl (by kernel_rfl) _ _ rfl rfl rfl (fun w0 mu I0 β0 gi dis => ?_)
  (repeat' (first|(apply xW;(first|exact Want.none_ rfl|(refine zZ rfl rfl rfl rfl ?_;((exact rfl)))))|(apply xF zI;exact rfl;exact rfl)|((first|apply zR|apply zW|apply yE)<;>(first|exact zI|exact rfl|refine yJ ?_|exact lb rfl))|(apply yW;exact rfl;exact rfl;((exact rfl));exact rfl;exact rfl)|apply zT|apply AWp.Q|apply zH|apply AWp.G|apply AWp.B|apply AWp.J|(apply AWp.F;exact rfl;((exact rfl)))|(apply (yD (hd));(iterate 7 exact rfl);(focus (repeat ((exact All2.nil))));exact rfl;(focus (repeat (first|exact MAs.nil|apply MAs.cons|apply MA.c|exact MC.vc (VC.imm (Imm.sl _)))));((assumption));((exact xH));exact rfl;exact rfl)|(apply yI;(iterate 6 exact rfl);(iterate 2 (focus (repeat (first|exact VAs.nil|apply VAs.cons|apply VA.c|apply VA.agg|exact VCs.nil|apply VCs.cons|exact VC.imm (Imm.sl _)|exact VC.nil))));(first|exact h1|exact hI|exact hS|exact hR|exact hK|exact hV|exact rPieces_pf [] (by simp));(focus (repeat (first|exact trivial|exact Flat.v _|exact Flat.nil|apply And.intro)));((apply yO));(first|exact xE _ _|exact y3 _ _))))
  refine AWp.U (σ := Unit) (fun _ => ⟨[(5, .c .nil), (6, .c (boo false)), (9, .c .nil), (11, .c .nil), (13, .c (.ref 0 0 0)), (14, .c (int 0))], [(0, some ⟨3, 1, []⟩)], 1⟩) (fun _ => True) (fun _ => 0) () trivial ?_ ?_
  · refine Weak.of [(0, some 2)] rfl ?_ ?_ <;> (repeat' (first|exact trivial|exact rfl|apply And.intro|refine oWs rfl rfl rfl ?_ ?_|(refine aIm ?_;(exact AllSc.nil))))
  · rintro ⟨⟩ _
    have hsE : AllSc ([] : List (List Cell)) := AllSc.nil
    have hR0 : PF Tryz.prog 23 [.c (.sl []), .c (.sl [])] [] (.c (boo true)) := rInts_pf [] (by simp)
    (repeat' (first|(apply xW;((exact Want.none_ rfl)))|(apply xF zI;exact rfl;exact rfl)|apply zT|apply AWp.Q|apply zH|apply AWp.G|apply AWp.B|apply AWp.J|apply AWp.X|apply zP|apply zN|(apply AWp.F;exact rfl;((exact rfl)))|(apply yI;(iterate 6 exact rfl);(iterate 2 (focus (repeat (first|exact VAs.nil|apply VAs.cons|apply VA.c|exact VCs.nil|exact VC.nil|(apply zB;exact rfl;exact rfl;((exact rfl));exact rfl;((refine aIm ?_;assumption)))))));((exact hR0));(focus (repeat ((exact Flat.v _))));((apply yO));((exact xE _ _)))))
    refine AWp.U (σ := Unit) (fun _ => ⟨[(5, .c .nil), (6, .c (boo false)), (15, .c (int 0)), (16, .c (int 0))], [], 0⟩) (fun _ => True) (fun _ => 0) () trivial ?_ ?_
    · refine Weak.of [] rfl ?_ ?_ <;> (repeat' (first|exact trivial|exact rfl|apply And.intro))
    · rintro ⟨⟩ _
      (repeat' (first|(apply xW;((exact Want.none_ rfl)))|(apply xF zI;exact rfl;exact rfl)|(apply yW;exact rfl;exact rfl;((exact dT ‹_›));exact rfl;exact rfl)|(apply yV;(iterate 5 exact rfl);((exact dT ‹_›)))|apply zT|apply AWp.Q|apply zH|apply AWp.G|apply AWp.X|apply AWp.R|apply zP|apply zN|(apply AWp.F;exact rfl;((exact rfl)))))
      (((refine z7 _ [] (.cons (zS rfl) .nil) ?_ rfl ?_)) <;> (repeat' (first|exact trivial|exact rfl)))
set_option maxHeartbeats 8000000 in
theorem mrL_flat (h : wF T = true) (h2 : qB es = false) : PF Tryz.prog 5 [.c (.sl (code.map vA))] [] (.c (boo true)) := by
  have i0 : ∀ obj : AObj, some obj ∈ ([] : List (Option AObj)) → ∀ x ∈ obj.els, ∀ c ∈ x, Imm c := fun _ h => by cases h
  have hb : vY T := by rw [vY]; omega
  have h1 := rBig_pf code (by omega)
  rw [decide_eq_false (by omega)] at h1
  have hn : vR es T = false := by rw [vR, h2, Bool.false_and]
  have hI := implTpN_pf es T hB hb hn
  have hS := specTpN_pf es T hB hb hn
  have hR := tapeRunsY_pf T hb h
  have hK := tapeStrokesY_pf T hb h
  have hV := x6 T hb
  rw [h] at hV
  have hfl := (runsT_ok T).2
  have hfL := congrArg List.length hfl
  rw [List.length_map] at hfL
  have hst : (T.map Itm.s).length = T.length := List.length_map _
  generalize T.map Itm.s = ST at hfl hK hst
  have hrn := runsT_len T
  generalize runsT T = rs at hfl hR hfL hrn
  have i1 := y7 (o := ⟨27, 1, rs.map eR⟩) (wZ rs)
  have hLr : (rs.map eR).length = rs.length := List.length_map _
  have hone := eR_one rs
  have hsS := y8 ST
  have hLS : (ST.map yX).length = ST.length := List.length_map _
  rw [← hst] at hK
  refine PF.enter (y9 _) Tryz.func5 rfl (by kernel_rfl) _ _ rfl rfl rfl (fun w0 mu I0 β0 gi dis => ?_)
  (repeat' (first|(apply xW;(first|exact Want.none_ rfl|(refine zZ rfl rfl rfl rfl ?_;((exact rfl)))))|(apply xF zI;exact rfl;exact rfl)|((first|apply zR|apply zW|apply yE)<;>(first|exact zI|exact rfl|refine yJ ?_|exact lb rfl))|(apply yW;exact rfl;exact rfl;((exact rfl));exact rfl;exact rfl)|apply zT|apply AWp.Q|apply zH|apply AWp.G|apply AWp.B|apply AWp.J|(apply AWp.F;exact rfl;((exact rfl)))|(apply (yD (hd));(iterate 7 exact rfl);(focus (repeat ((exact All2.nil))));exact rfl;(focus (repeat (first|exact MAs.nil|apply MAs.cons|apply MA.c|exact MC.vc (VC.imm (Imm.sl _)))));((assumption));((exact xH));exact rfl;exact rfl)|(apply (yD (hR));(iterate 7 exact rfl);(focus (repeat ((exact All2.nil))));exact rfl;(focus (repeat (first|exact MAs.nil|apply MAs.cons|apply MA.agg|exact MCs.nil|apply MCs.cons|exact MC.vc (VC.imm (Imm.sl _)))));((assumption));((exact xH));exact rfl;exact rfl)|(apply yI;(iterate 6 exact rfl);(iterate 2 (focus (repeat (first|exact VAs.nil|apply VAs.cons|apply VA.c|apply VA.agg|exact VCs.nil|apply VCs.cons|exact VC.imm (Imm.sl _)|exact VC.nil))));(first|exact h1|exact hI|exact hS|exact hK|exact hV|exact rPieces_pf [] (by simp));(focus (repeat (first|exact trivial|exact Flat.v _|exact Flat.ref _ _ _|exact Flat.nil|apply And.intro)));(first|apply yO|(apply yP;(focus (repeat (first|exact trivial|apply And.intro|((assumption)))))));(first|exact xE _ _|exact yZ _ _ _ _ _|exact y3 _ _))))
  refine AWp.U (σ := Nat) (fun j => ⟨[(5, .c .nil), (6, .c (boo false)), (9, .c (.ref 0 0 rs.length)), (11, .c (.ref 1 0 ST.length)), (13, .c (.ref 2 0 (rs.take j).flatten.length)), (14, .c (int j))], [(0, some ⟨27, 1, rs.map eR⟩), (1, some ⟨3, 1, ST.map yX⟩), (2, some ⟨3, 1, (rs.take j).flatten.map yX⟩)], 3⟩) (fun j => j ≤ rs.length) (fun j => rs.length - j) 0 (Nat.zero_le _) ?_ ?_
  · refine Weak.of [(0, some 2), (1, some 3), (2, some 4)] rfl ?_ ?_ <;> (repeat' (first|exact trivial|exact rfl|apply And.intro|refine oWs rfl rfl rfl ?_ ?_|(refine aIm ?_;first|exact AllSc.nil|assumption)))
    all_goals first | exact wZ _ | exact hsS.imm | skip
  · rintro j hj
    have hfj := fl_le rs j
    have hsF := y8 (rs.take j).flatten
    have hLF : ((rs.take j).flatten.map yX).length = (rs.take j).flatten.length := List.length_map _
    by_cases hlt : j < rs.length
    · obtain ⟨r, hr⟩ := xP hlt
      have hr' := eR_at hr
      have hlt' : (j : Int) < (rs.length : Int) := by omega
      have hrl := run_le hr
      have hr1 := ints_one r
      have hrL : (r.map yX).length = r.length := List.length_map _
      have hnx := fl_next hr
      generalize (rs.take j).flatten = F at hnx hfj hsF hLF ⊢
      (repeat' (first|(apply xW;((exact Want.none_ rfl)))|(apply xF zI;exact rfl;exact rfl)|((first|apply zY|apply zV|(apply zU;exact rfl;exact rfl;exact zI;exact rfl;exact rfl)|(apply yH;exact rfl;exact rfl))<;>(first|exact zI|exact Nat.zero_add _|exact rfl|refine yJ ?_|assumption|omega|(refine Bd.mk ?_;first|assumption|omega)))|apply zT|apply AWp.Q|apply zH|apply AWp.G|apply AWp.B|apply AWp.J|apply zJ|(apply AWp.T;exact rfl;((exact dT ‹_›)))))
      refine ⟨j + 1, by omega, by omega, ?_⟩
      rw [hnx, List.map_append]
      refine Weak.of [(0, some 0), (1, some 1), (2, some 3)] rfl ?_ ?_ <;> (repeat' (first|exact trivial|exact rfl|apply And.intro|(refine yB ?_;(focus (simp;done)))|refine oWs rfl rfl rfl ?_ ?_|(refine aIm ?_;(assumption))))
      all_goals first | exact wZ _ | exact hsS.imm | (rw [← List.map_append]; exact (y8 _).imm) | (rw [List.length_append]; simp; done) | skip
    · have hlt' : ¬ (j : Int) < (rs.length : Int) := by omega
      rw [List.take_of_length_le (by omega), hfl] at hsF hLF ⊢
      (repeat' (first|(apply xW;((exact Want.none_ rfl)))|(apply xF zI;exact rfl;exact rfl)|apply zT|apply AWp.Q|apply zH|apply AWp.G|apply AWp.B|apply AWp.J|apply AWp.X|apply zP|apply zN|(apply AWp.F;exact rfl;(first|exact dF ‹_›|exact rfl))|(apply yI;(iterate 6 exact rfl);(iterate 2 (focus (repeat (first|exact VAs.nil|apply VAs.cons|apply VA.c|exact VCs.nil|(apply zB;exact rfl;exact rfl;((focus (simp;done)));exact rfl;((refine aIm ?_;assumption)))))));((exact rInts_pf ST (by omega)));(focus (repeat ((exact Flat.v _))));((apply yO));((exact xE _ _)))))
      refine AWp.U (σ := Unit) (fun _ => ⟨[(5, .c .nil), (6, .c (boo false)), (15, .c (int 0)), (16, .c (int 0))], [], 0⟩) (fun _ => True) (fun _ => 0) () trivial ?_ ?_
      · refine Weak.of [] rfl ?_ ?_ <;> (repeat' (first|exact trivial|exact rfl|apply And.intro))
      · rintro ⟨⟩ _
        (repeat' (first|(apply xW;((exact Want.none_ rfl)))|(apply xF zI;exact rfl;exact rfl)|(apply yW;exact rfl;exact rfl;((exact dT ‹_›));exact rfl;exact rfl)|(apply yV;(iterate 5 exact rfl);((exact dT ‹_›)))|apply zT|apply AWp.Q|apply zH|apply AWp.G|apply AWp.X|apply AWp.R|apply zP|apply zN|(apply AWp.F;exact rfl;((exact rfl)))))
        (((refine z7 _ [] (.cons (zS rfl) .nil) ?_ rfl ?_)) <;> (repeat' (first|exact trivial|exact rfl)))
set_option maxHeartbeats 16000000 in
theorem mrL_good (h : wF T = true) (h2 : qB es = true) : PF Tryz.prog 5 [.c (.sl (code.map vA))] [] (.c (boo true)) := by
  have i0 : ∀ obj : AObj, some obj ∈ ([] : List (Option AObj)) → ∀ x ∈ obj.els, ∀ c ∈ x, Imm c := fun _ h => by cases h
  have hb : vY T := by rw [vY]; omega
  have h1 := rBig_pf code (by omega)
  rw [decide_eq_false (by omega)] at h1
  have hn : vR es T = true := by rw [vR, h2, h]; rfl
  have hI := implTpY_pf es T hB hb hn
  have hS := specTpY_pf es T hB hb hn
  have hR := tapeRunsY_pf T hb h
  have hK := tapeStrokesY_pf T hb h
  have hV := x6 T hb
  rw [h] at hV
  obtain ⟨hok, hfl⟩ := runsT_ok T
  have hTl : Tl T 0 (tpc es T) T.length := tpF_Tl hok
  have hPl := tpF_len es (runsT T) 0
  rw [← tpc] at hPl
  have hfL := congrArg List.length hfl
  rw [List.length_map] at hfL
  have hst : (T.map Itm.s).length = T.length := List.length_map _
  generalize T.map Itm.s = ST at hfl hK hst
  rw [hfL] at hPl
  generalize tpc es T = P at hTl hPl hI hS
  have hrn := runsT_len T
  generalize runsT T = rs at hfl hR hfL hrn
  have i1 := y7 (o := ⟨27, 1, rs.map eR⟩) (wZ rs)
  have hLr : (rs.map eR).length = rs.length := List.length_map _
  have hone := eR_one rs
  have hsS := y8 ST
  have hLS : (ST.map yX).length = ST.length := List.length_map _
  have hsP := vF P
  have hLP : (P.map x7).length = P.length := List.length_map _
  rw [← hst] at hK
  have hP := rPieces_pf P (by omega)
  have hLT : (T.map xA).length = T.length := List.length_map _
  refine PF.enter (y9 _) Tryz.func5 rfl (by kernel_rfl) _ _ rfl rfl rfl (fun w0 mu I0 β0 gi dis => ?_)
  (repeat' (first|(apply xW;(first|exact Want.none_ rfl|(refine zZ rfl rfl rfl rfl ?_;((exact rfl)))))|(apply xF zI;exact rfl;exact rfl)|((first|apply zR|apply zW|apply yE)<;>(first|exact zI|exact rfl|refine yJ ?_|exact lb rfl))|(apply yW;exact rfl;exact rfl;((exact rfl));exact rfl;exact rfl)|apply zT|apply AWp.Q|apply zH|apply AWp.G|apply AWp.B|apply AWp.J|(apply AWp.F;exact rfl;((exact rfl)))|(apply (yD (hd));(iterate 7 exact rfl);(focus (repeat ((exact All2.nil))));exact rfl;(focus (repeat (first|exact MAs.nil|apply MAs.cons|apply MA.c|exact MC.vc (VC.imm (Imm.sl _)))));((assumption));((exact xH));exact rfl;exact rfl)|(apply (yD (hR));(iterate 7 exact rfl);(focus (repeat ((exact All2.nil))));exact rfl;(focus (repeat (first|exact MAs.nil|apply MAs.cons|apply MA.agg|exact MCs.nil|apply MCs.cons|exact MC.vc (VC.imm (Imm.sl _)))));((assumption));((exact xH));exact rfl;exact rfl)|(apply yI;(iterate 6 exact rfl);(iterate 2 (focus (repeat (first|exact VAs.nil|apply VAs.cons|apply VA.c|apply VA.agg|exact VCs.nil|apply VCs.cons|exact VC.imm (Imm.sl _)|(apply zB;exact rfl;exact rfl;((focus (simp;done)));exact rfl;((refine aIm ?_;assumption)))))));(first|exact h1|exact hI|exact hS|exact hK|exact hV|exact hP);(focus (repeat (first|exact trivial|exact Flat.v _|exact Flat.ref _ _ _|apply And.intro)));(first|apply yO|(apply yP;(focus (repeat (first|exact trivial|apply And.intro|((assumption)))))));(first|exact xE _ _|exact yZ _ _ _ _ _))))
  refine AWp.U (σ := Nat) (fun j => ⟨[(4, .c (.ptr 0 0 0)), (5, .c (.ref 1 0 P.length)), (6, .c (boo true)), (9, .c (.ref 2 0 rs.length)), (11, .c (.ref 3 0 ST.length)), (13, .c (.ref 4 0 (rs.take j).flatten.length)), (14, .c (int j))], [(0, some ⟨45, 1, [xX T]⟩), (1, some ⟨55, 3, P.map x7⟩), (2, some ⟨27, 1, rs.map eR⟩), (3, some ⟨3, 1, ST.map yX⟩), (4, some ⟨3, 1, (rs.take j).flatten.map yX⟩)], 5⟩) (fun j => j ≤ rs.length) (fun j => rs.length - j) 0 (Nat.zero_le _) ?_ ?_
  · refine Weak.of [(0, some 1), (1, some 2), (2, some 4), (3, some 5), (4, some 6)] rfl ?_ ?_ <;> (repeat' (first|exact trivial|exact rfl|apply And.intro|refine ⟨_,rfl,rfl,rfl,OW.one ?_⟩|refine oWs rfl rfl rfl ?_ ?_|(refine aIm ?_;first|exact AllSc.nil|assumption)))
    all_goals first | exact wZ _ | exact hsS.imm | exact hsP.imm | exact vK T | skip
  · rintro j hj
    have hfj := fl_le rs j
    have hsF := y8 (rs.take j).flatten
    have hLF : ((rs.take j).flatten.map yX).length = (rs.take j).flatten.length := List.length_map _
    by_cases hlt : j < rs.length
    · obtain ⟨r, hr⟩ := xP hlt
      have hr' := eR_at hr
      have hlt' : (j : Int) < (rs.length : Int) := by omega
      have hrl := run_le hr
      have hr1 := ints_one r
      have hrL : (r.map yX).length = r.length := List.length_map _
      have hnx := fl_next hr
      generalize (rs.take j).flatten = F at hnx hfj hsF hLF ⊢
      (repeat' (first|(apply xW;((exact Want.none_ rfl)))|(apply xF zI;exact rfl;exact rfl)|((first|apply zY|apply zV|(apply zU;exact rfl;exact rfl;exact zI;exact rfl;exact rfl)|(apply yH;exact rfl;exact rfl))<;>(first|exact zI|exact Nat.zero_add _|exact rfl|refine yJ ?_|assumption|omega|(refine Bd.mk ?_;first|assumption|omega)))|apply zT|apply AWp.Q|apply zH|apply AWp.G|apply AWp.B|apply AWp.J|apply zJ|(apply AWp.T;exact rfl;((exact dT ‹_›)))))
      refine ⟨j + 1, by omega, by omega, ?_⟩
      rw [hnx, List.map_append]
      refine Weak.of [(0, some 0), (1, some 1), (2, some 2), (3, some 3), (4, some 5)] rfl ?_ ?_ <;> (repeat' (first|exact trivial|exact rfl|apply And.intro|(refine yB ?_;(focus (simp;done)))|refine ⟨_,rfl,rfl,rfl,OW.one ?_⟩|refine oWs rfl rfl rfl ?_ ?_|(refine aIm ?_;(assumption))))
      all_goals first | exact wZ _ | exact hsS.imm | exact hsP.imm | exact vK T | (rw [← List.map_append]; exact (y8 _).imm) | (rw [List.length_append]; simp; done) | skip
    · have hlt' : ¬ (j : Int) < (rs.length : Int) := by omega
      rw [List.take_of_length_le (by omega), hfl] at hsF hLF ⊢
      (repeat' (first|(apply xW;((exact Want.none_ rfl)))|(apply xF zI;exact rfl;exact rfl)|apply zT|apply AWp.Q|apply zH|apply AWp.G|apply AWp.B|apply AWp.J|apply AWp.X|apply zP|apply zN|(apply AWp.F;exact rfl;(first|exact dF ‹_›|exact rfl))|(apply yI;(iterate 6 exact rfl);(iterate 2 (focus (repeat (first|exact VAs.nil|apply VAs.cons|apply VA.c|exact VCs.nil|(apply zB;exact rfl;exact rfl;((focus (simp;done)));exact rfl;((refine aIm ?_;assumption)))))));((exact rInts_pf ST (by omega)));(focus (repeat ((exact Flat.v _))));((apply yO));((exact xE _ _)))))
      refine AWp.U (σ := Nat × Nat) (fun q => ⟨[(4, .c (.ptr 0 0 0)), (5, .c (.ref 1 0 P.length)), (6, .c (boo true)), (15, .c (int q.2)), (16, .c (int q.1))], [(0, some ⟨45, 1, [xX T]⟩), (1, some ⟨55, 3, P.map x7⟩)], 2⟩) (fun q => q.1 ≤ P.length ∧ Tl T q.2 (P.drop q.1) T.length) (fun q => P.length - q.1) (0, 0) ⟨Nat.zero_le _, hTl⟩ ?_ ?_
      · refine Weak.of [(0, some 0), (1, some 1)] rfl ?_ ?_ <;> (repeat' (first|exact trivial|exact rfl|apply And.intro|refine ⟨_,rfl,rfl,rfl,OW.one ?_⟩|refine oWs rfl rfl rfl ?_ ?_|(refine aIm ?_;(assumption))))
        all_goals first | exact hsP.imm | exact vK T | skip
      · rintro ⟨k, a⟩ ⟨hk, hq⟩
        dsimp only at hk hq ⊢
        by_cases hkl : k < P.length
        · obtain ⟨p, hp⟩ := xP hkl
          obtain ⟨n, e1, e2, hn1, hNB, hq'⟩ := Tl.at hq hp
          obtain ⟨pf, pn, pt⟩ := p
          simp only at e1 e2
          subst e1 e2
          have hp' : (P.map x7)[k]? = some [int (a : Nat), int (n : Nat), str pt] := xS hp
          have hkl' : (k : Int) < (P.length : Int) := by omega
          have hs1 : ¬ ((a : Int) ≠ (a : Int)) := fun e => e rfl
          have hs2 : ¬ ((n : Int) < 1) := by omega
          have hbd := hNB.1
          (repeat' (first|(apply xW;(first|exact Want.none_ rfl|(refine zZ rfl rfl rfl rfl ?_;((exact dF ‹_›)))))|(apply xF zI;exact rfl;exact rfl)|((first|apply zY|apply zV|apply zO|apply zW|apply yE)<;>(first|exact zI|exact Nat.zero_add _|exact rfl|refine yJ ?_|assumption|omega|exact lb rfl))|(apply yW;exact rfl;exact rfl;((exact dF ‹_›));exact rfl;exact rfl)|apply zT|apply AWp.Q|apply zH|apply AWp.G|apply AWp.B|apply AWp.J|(apply AWp.T;exact rfl;((exact dT ‹_›)))|(apply AWp.F;exact rfl;((exact dF ‹_›)))))
          refine AWp.U (σ := Nat) (fun x => ⟨[(4, .c (.ptr 0 0 0)), (5, .c (.ref 1 0 P.length)), (6, .c (boo true)), (15, .c (int a)), (16, .c (int k)), (17, .c (.ptr 2 0 0)), (18, .c (int x))], [(0, some ⟨45, 1, [xX T]⟩), (1, some ⟨55, 3, P.map x7⟩), (2, some ⟨55, 3, [[int (a : Nat), int (n : Nat), str pt]]⟩)], 3⟩) (fun x => a < x ∧ x ≤ a + n) (fun x => a + n - x) (a + 1) ⟨by omega, by omega⟩ ?_ ?_
          · refine Weak.of [(0, some 0), (1, some 1), (2, some 2)] rfl ?_ ?_ <;> (repeat' (first|exact trivial|exact rfl|apply And.intro|refine ⟨_,rfl,rfl,rfl,OW.one ?_⟩|refine oWs rfl rfl rfl ?_ ?_|(refine aIm ?_;(assumption))))
            all_goals first | exact hsP.imm | exact vK T | skip
          · rintro x ⟨hx1, hx2⟩
            by_cases hx : x < a + n
            · obtain ⟨i, hi⟩ := xP (show x < T.length by omega)
              have hib := hNB.2 x i hx1 hx hi
              have hi' : (T.map xA)[x]? = some [int i.s, boo false] := by rw [← hib]; exact xS hi
              have hx' : (x : Int) < (a : Int) + (n : Int) := by omega
              (repeat' (first|(apply xW;((exact Want.none_ rfl)))|(apply xF zI;exact rfl;exact rfl)|((first|apply zY|(apply z6;exact rfl;exact rfl))<;>(first|exact zI|exact rfl|refine yJ ?_|assumption|omega))|apply zT|apply AWp.Q|apply zH|apply AWp.G|apply AWp.B|apply AWp.J|apply zJ|(apply AWp.T;exact rfl;((exact dT ‹_›)))|(apply AWp.F;exact rfl;((exact rfl)))))
              refine ⟨x + 1, ⟨by omega, by omega⟩, by omega, ?_⟩
              refine Weak.of [(0, some 0), (1, some 1), (2, some 2)] rfl ?_ ?_ <;> (repeat' (first|exact trivial|exact rfl|apply And.intro|refine ⟨_,rfl,rfl,rfl,OW.one ?_⟩|refine oWs rfl rfl rfl ?_ ?_|(refine aIm ?_;(assumption))))
              all_goals first | exact hsP.imm | exact vK T | skip
            · have hx' : ¬ (x : Int) < (a : Int) + (n : Int) := by omega
              (repeat' (first|(apply xW;((exact Want.none_ rfl)))|(apply xF zI;exact rfl;exact rfl)|(((apply zY))<;>(first|exact rfl|refine yJ ?_|omega))|apply zT|apply AWp.Q|apply zH|apply AWp.G|apply AWp.X|apply zP|apply zJ|apply zN|(apply AWp.F;exact rfl;((exact dF ‹_›)))))
              refine ⟨(k + 1, a + n), ⟨by dsimp only; omega, hq'⟩, by dsimp only; omega, ?_⟩
              refine Weak.of [(0, some 0), (1, some 1)] rfl ?_ ?_ <;> (repeat' (first|exact trivial|exact rfl|apply And.intro|refine ⟨_,rfl,rfl,rfl,OW.one ?_⟩|refine oWs rfl rfl rfl ?_ ?_|(refine aIm ?_;(assumption))))
              all_goals first | exact hsP.imm | exact vK T | skip
        · have hkl' : ¬ (k : Int) < (P.length : Int) := by omega
          rw [List.drop_eq_nil_of_le (by omega)] at hq
          have hq2 : a = T.length := hq
          subst hq2
          (repeat' (first|(apply xW;(first|exact Want.none_ rfl|(refine zZ rfl rfl rfl rfl ?_;((exact rfl)))))|(apply xF zI;exact rfl;exact rfl)|(apply yW;exact rfl;exact rfl;((exact rfl));exact rfl;exact rfl)|apply zT|apply AWp.Q|apply zH|apply AWp.G|apply AWp.X|apply AWp.R|apply zP|apply zN|(apply AWp.F;exact rfl;((exact dF ‹_›)))))
          (((refine z7 _ [] (.cons (zS rfl) .nil) ?_ rfl ?_)) <;> (repeat' (first|exact trivial|refine vwB ?_)))
          all_goals first | (simp; done) | skip
end
theorem lawMr_pf (code : List UInt8) (hc : code.length ≤ 9223372036854775807) : PF Tryz.prog 5 [.c (.sl (code.map vA))] [] (.c (boo true)) := by
  by_cases hbg : 65536 < code.length
  · have h1 := rBig_pf code hc
    rw [decide_eq_true (by omega)] at h1
    refine PF.enter (y9 _) Tryz.func5 rfl (by kernel_rfl) _ _ rfl rfl rfl (fun w0 mu I0 β0 gi dis => ?_)
    (repeat' (first|(apply xW;((exact Want.none_ rfl)))|(apply xF zI;exact rfl;exact rfl)|apply zT|apply AWp.Q|apply zH|apply AWp.G|apply AWp.R|apply zK|(apply AWp.T;exact rfl;((exact rfl)))|(apply yI;(iterate 6 exact rfl);(iterate 2 (focus (repeat (first|exact VAs.nil|apply VAs.cons|apply VA.c|exact VCs.nil|exact VC.imm (Imm.sl _)))));((exact h1));(focus (repeat ((exact Flat.v _))));((apply yO));((exact xE _ _)))))
    (((refine z7 _ [] (.cons (zS rfl) .nil) ?_ rfl ?_)) <;> (repeat' (first|exact trivial|exact rfl)))
  · have hbg' : code.length ≤ 65536 := by omega
    obtain ⟨es, T, hB, hT, hd⟩ := drawTp_ex code hbg'
    cases h : wF T with
    | false => exact mrL_bad code hbg' es T hB hT hd h
    | true =>
      cases h2 : qB es with
      | false => exact mrL_flat code hbg' es T hB hT hd h h2
      | true => exact mrL_good code hbg' es T hB hT hd h h2
end Go.Proofs.YtchpdclknbmdoaaGreatDoor
