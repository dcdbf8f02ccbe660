/- Drawn tapes: the walk. -/
import Derived.Test.YtchpdclknbmdoaaGreatDoorTpN
namespace Go.Proofs.YtchpdclknbmdoaaGreatDoor
open Go Go.RowKit
def tailQ (code : List UInt8) (s s' : Cur × List Itm) : Prop :=
  ∃ (c1 : Cur) (b : Bool), PFM Tryz.prog 75 [xQ code s.1] [.c (.ptr 0 0 0), .c (int ((15 : Nat) : Int))] [some (xQ code c1)] (.c (boo b)) ∧
    ((b = false ∧ s' = (c1, s.2)) ∨ (b = true ∧ s.2.length = 0 ∧ s' = (c1, s.2)) ∨ (b = true ∧ s.2.length ≠ 0 ∧ ∃ (c2 : Cur) (v : Nat), PFM Tryz.prog 77 [xQ code c1] [.c (.ptr 0 0 0), .c (int ((3 : Nat) : Int))] [some (xQ code c2)] (.c (int (v : Nat))) ∧
      ((v = 0 ∧ ∃ i, s.2[0]? = some i ∧ s' = (c2, s.2.set 0 ⟨i.s, true⟩)) ∨
       (v = 1 ∧ ∃ (c3 c4 : Cur) (k : Nat) (x : Int) (i : Itm), PFM Tryz.prog 77 [xQ code c2] [.c (.ptr 0 0 0), .c (int ((s.2.length : Nat) : Int))] [some (xQ code c3)] (.c (int (k : Nat))) ∧
          PFM Tryz.prog 76 [xQ code c3, ⟨3, 1, bd4.map yX⟩] [.c (.ptr 0 0 0), .c (.ref 1 0 4)] [some (xQ code c4), some ⟨3, 1, bd4.map yX⟩] (.c (int x)) ∧ s.2[k]? = some i ∧ s' = (c4, s.2.set k ⟨x, i.b⟩)) ∨
       (v = 2 ∧ c2.a ≤ 6000000 ∧ s' = fin code 61 c2 s.2))))
theorem tail_ex (code : List UInt8) (hl : code.length ≤ 65536) (s : Cur × List Itm) (hc : s.1.a ≤ 5000000) (hT : s.2.length ≤ 60) : ∃ s', (s'.1.a ≤ s.1.a + 70 ∧ s'.2.length ≤ 61) ∧ tailQ code s s' := by
  obtain ⟨c1, b, a1, p1⟩ := qH code s.1 hl (by omega) 15 (by omega)
  cases b with
  | false => exact ⟨(c1, s.2), ⟨by dsimp only; omega, by dsimp only; omega⟩, c1, false, p1, .inl ⟨rfl, rfl⟩⟩
  | true =>
    by_cases h0 : s.2.length = 0
    · exact ⟨(c1, s.2), ⟨by dsimp only; omega, by dsimp only; omega⟩, c1, true, p1, .inr (.inl ⟨rfl, h0, rfl⟩)⟩
    · obtain ⟨c2, v, a2, hv, p2⟩ := wT code c1 hl (by omega) 3 (by omega)
      have hv3 : v = 0 ∨ v = 1 ∨ v = 2 := by omega
      rcases hv3 with rfl | rfl | rfl
      · obtain ⟨i, hi⟩ := xP (show 0 < s.2.length by omega)
        exact ⟨(c2, s.2.set 0 ⟨i.s, true⟩), ⟨by dsimp only; omega, by rw [List.length_set]; omega⟩, c1, true, p1, .inr (.inr ⟨rfl, h0, c2, 0, p2, .inl ⟨rfl, i, hi, rfl⟩⟩)⟩
      · obtain ⟨c3, k, a3, hk, p3⟩ := wT code c2 hl (by omega) s.2.length (by omega)
        obtain ⟨c4, x, a4, _, p4⟩ := among_ex code c3 hl (by omega) bd4 4 (by omega) (by decide)
        obtain ⟨i, hi⟩ := xP hk
        exact ⟨(c4, s.2.set k ⟨x, i.b⟩), ⟨by dsimp only; omega, by rw [List.length_set]; omega⟩, c1, true, p1, .inr (.inr ⟨rfl, h0, c2, 1, p2, .inr (.inl ⟨rfl, c3, c4, k, x, i, p3, p4, hi, rfl⟩)⟩)⟩
      · have hf := fin_ok code 61 c2 s.2 (by omega)
        exact ⟨fin code 61 c2 s.2, ⟨by omega, hf.2⟩, c1, true, p1, .inr (.inr ⟨rfl, h0, c2, 2, p2, .inr (.inr ⟨rfl, by omega, rfl⟩)⟩)⟩
set_option maxHeartbeats 4000000 in
theorem draw_ex (code : List UInt8) (c : Cur) (hl : code.length ≤ 65536) (hc : c.a ≤ 1000000) : ∃ (c' : Cur) (T : List Itm) (es : List Ent), c'.a ≤ c.a + 2000 ∧ (T.length ≤ 61 ∧ es.length ≤ 9 ∧ ∀ x ∈ es, EO x) ∧
    PFM Tryz.prog 86 [xQ code c] [.c (.ptr 0 0 0)] [some (xQ code c')] (.tup [.agg (xX T), .agg (wG es)]) := by
  obtain ⟨c1, es, a1, ⟨hes, heo⟩, p1⟩ := dictionary_ex code c hl (by omega)
  obtain ⟨c2, n0, a2, hn0, p2⟩ := wT code c1 hl (by omega) 4 (by omega)
  obtain ⟨f, hf0, hf⟩ := outer_ex code hl c2 n0 (by omega) (by omega) es (by omega) heo
  have hfN := (hf n0 (Nat.le_refl _)).1
  obtain ⟨s', ⟨a3, hT'⟩, ht⟩ := tail_ex code hl (f n0) (by omega) hfN.2
  refine ⟨s'.1, s'.2, es, by omega, ⟨hT', hes, heo⟩, ?_⟩
  have i1 := y7 (yC code c1)
  have i2 := y7 (yC code c2)
  have j1 := wD (yC code c)
  have j2 := wD (yC code c1)
  refine zD (y9 _) (xV _) rfl Tryz.func86 rfl (by kernel_rfl) _ _ rfl rfl rfl (fun w0 mu I0 β0 gi dis => ?_)
  (repeat' (first|(apply xW;((exact Want.none_ rfl)))|(apply xF zI;exact rfl;exact rfl)|((first|apply yT|apply zW|apply yE)<;>(first|exact zI|exact rfl|refine yJ ?_|exact lb rfl|(refine Bd.mk ?_;(focus (simp;done)))))|apply zT|apply AWp.Q|apply zH|apply AWp.G|apply AWp.B|(apply (yD (p1));(iterate 7 exact rfl);(focus (repeat (first|exact All2.nil|refine All2.cons rfl ?_)));exact rfl;(focus (repeat (first|exact MAs.nil|apply MAs.cons|apply MA.c|exact MC.ptr rfl)));((assumption));((assumption));exact rfl;exact rfl)|(apply (yD (p2));(iterate 7 exact rfl);(focus (repeat (first|exact All2.nil|refine All2.cons rfl ?_)));exact rfl;(focus (repeat (first|exact MAs.nil|apply MAs.cons|apply MA.c|exact MC.ptr rfl|exact MC.vc (VC.imm (Imm.v _)))));((assumption));((assumption));exact rfl;exact rfl)))
  refine AWp.join (σ := Unit) (fun _ => ⟨[(0, .c (.ptr 0 0 0)), (2, .c (.ptr 1 0 0)), (3, .c (.ptr 2 0 0)), (4, .c (.ptr 3 0 0)), (5, .c (.ptr 4 0 0))], [(0, some (xQ code (f n0).1)), (1, some ⟨45, 1, [[.nil]]⟩), (2, some ⟨26, 1, [[.nil]]⟩), (3, some ⟨26, 1, [wG es]⟩), (4, some ⟨45, 1, [[.ref 5 0 (f n0).2.length]]⟩), (5, some ⟨57, 2, (f n0).2.map xA⟩)], 6⟩) (fun _ => True) ?_ ?_
  · refine AWp.U (σ := Nat) (fun j => ⟨[(0, .c (.ptr 0 0 0)), (2, .c (.ptr 1 0 0)), (3, .c (.ptr 2 0 0)), (4, .c (.ptr 3 0 0)), (5, .c (.ptr 4 0 0)), (6, .c (int n0)), (7, .c (int j))], [(0, some (xQ code (f j).1)), (1, some ⟨45, 1, [[.nil]]⟩), (2, some ⟨26, 1, [[.nil]]⟩), (3, some ⟨26, 1, [wG es]⟩), (4, some ⟨45, 1, [[.ref 5 0 (f j).2.length]]⟩), (5, some ⟨57, 2, (f j).2.map xA⟩)], 6⟩) (fun j => j ≤ n0) (fun j => n0 - j) 0 (Nat.zero_le _) ?_ ?_
    · rw [hf0]
      refine Weak.of [(0, some 0), (1, some 1), (2, some 2), (3, some 3), (4, some 4), (5, none)] rfl ?_ ?_ <;> (repeat' (first|exact trivial|exact rfl|apply And.intro|refine ⟨_,rfl,rfl,rfl,OW.one ?_⟩))
      all_goals exact yC _ _
    · intro j hj
      obtain ⟨⟨ha, hb⟩, hq⟩ := hf j hj
      by_cases hlt : j < n0
      · have hlt' : (j : Int) < (n0 : Int) := by omega
        obtain ⟨cm, l, g, hll, am, pm, hg0, hg, hgm⟩ := hq hlt
        clear hq
        generalize f j = sj at ha hb am pm hg0 hg hgm ⊢
        obtain ⟨cj, T⟩ := sj
        dsimp only at ha hb am pm hg0 hg hgm ⊢
        have k1 := vX (b := ⟨3, 1, l.map yX⟩) (yC code cm) (y8 l).imm
        have m1 := wD (yC code cj)
        (repeat' (first|(apply xW;((exact Want.none_ rfl)))|(apply xF zI;exact rfl;exact rfl)|apply zT|apply AWp.Q|apply zH|apply AWp.G|apply AWp.B|apply AWp.J|(apply AWp.T;exact rfl;((exact dT ‹_›)))|(apply (yD (pm));(iterate 7 exact rfl);(focus (repeat (first|exact All2.nil|refine All2.cons rfl ?_)));exact rfl;(focus (repeat (first|exact MAs.nil|apply MAs.cons|apply MA.c|apply MA.agg|exact MCs.nil|apply MCs.cons|exact MC.ptr rfl|exact MC.vc (VC.imm (Imm.sl _)))));((assumption));((assumption));exact rfl;exact rfl)))
        have hm : wA l T ≤ 8 ∧ wA l T ≤ 60 - T.length ∧ wA l T ≤ l.length := by unfold wA; omega
        refine AWp.U (σ := Nat) (fun k => ⟨[(0, .c (.ptr 0 0 0)), (2, .c (.ptr 1 0 0)), (3, .c (.ptr 2 0 0)), (4, .c (.ptr 3 0 0)), (5, .c (.ptr 4 0 0)), (6, .c (int n0)), (7, .c (int j)), (8, .c (.ref 6 0 l.length)), (9, .c (int k))], [(0, some (xQ code (g k).1)), (1, some ⟨45, 1, [[.nil]]⟩), (2, some ⟨26, 1, [[.nil]]⟩), (3, some ⟨26, 1, [wG es]⟩), (4, some ⟨45, 1, [[.ref 5 0 (g k).2.length]]⟩), (5, some ⟨57, 2, (g k).2.map xA⟩), (6, some ⟨3, 1, l.map yX⟩)], 7⟩) (fun k => k ≤ wA l T) (fun k => wA l T - k) 0 (Nat.zero_le _) ?_ ?_
        · rw [hg0]
          refine Weak.of [(0, some 0), (1, some 1), (2, some 2), (3, some 3), (4, some 4), (5, some 5), (6, some 6)] rfl ?_ ?_ <;> (repeat' (first|exact trivial|exact rfl|apply And.intro|refine ⟨_,rfl,rfl,rfl,OW.one ?_⟩|refine oWs rfl rfl rfl ?_ ?_))
          all_goals first | exact yC _ _ | exact (wW _).imm | exact (y8 _).imm
        · intro k hk
          obtain ⟨⟨hka, hkl⟩, hkq⟩ := hg k hk
          have hLl : (l.map yX).length = l.length := List.length_map _
          have hsT := wW (g k).2
          have hLT : ((g k).2.map xA).length = (g k).2.length := List.length_map _
          by_cases hklt : k < wA l T
          · obtain ⟨x, b, hx, hT1, hcase⟩ := hkq hklt
            have hx' : (l.map yX)[k]? = some (yX x) := xS hx
            have h1 : (k : Int) < (l.length : Int) := by omega
            have h2 : ((g k).2.length : Int) < 60 := by omega
            rcases hcase with ⟨h0, hc1, rfl⟩ | ⟨h0, pq⟩
            · have h0' : ¬ (0 : Int) < ((g k).2.length : Int) := by omega
              (repeat' (first|(apply xW;(first|exact Want.none_ rfl|(refine zZ rfl rfl rfl rfl ?_;((exact dT ‹_›)))))|(apply xF zI;exact rfl;exact rfl)|((first|apply zY|apply zV|(apply zU;exact rfl;exact rfl;exact zI;exact rfl;exact rfl)|apply yT|apply zR|(apply yH;exact rfl;exact rfl)|apply yE)<;>(first|exact zI|exact Nat.zero_add _|exact rfl|refine yJ ?_|assumption|omega|exact lb rfl|(refine Bd.mk ?_;first|(focus (simp;done))|(simp;omega))|exact yU rfl))|(apply yW;exact rfl;exact rfl;(first|exact dT ‹_›|exact dF ‹_›);exact rfl;exact rfl)|(apply yV;(iterate 5 exact rfl);((exact dF ‹_›)))|apply zT|(refine yL ?_ ?_;kernel_rfl)|apply AWp.Q|apply zH|apply AWp.G|apply AWp.B|apply AWp.J|apply zJ|(refine AWp.D ?_ ?_;kernel_rfl)|(apply AWp.T;exact rfl;((exact dT ‹_›)))))
              refine ⟨k + 1, by omega, by omega, ?_⟩
              rw [hc1, hT1]
              refine Weak.of [(0, some 0), (1, some 1), (2, some 2), (3, some 3), (4, some 4), (5, some 8), (6, some 6)] rfl ?_ ?_ <;> (repeat' (first|exact trivial|exact rfl|apply And.intro|(refine yB ?_;(focus (simp;done)))|refine ⟨_,rfl,rfl,rfl,OW.one ?_⟩|refine oWs rfl rfl rfl ?_ ?_))
              all_goals first | exact yC _ _ | exact (wW _).imm | exact (y8 _).imm | (rw [itm_snoc]; rfl) | (simp; done) | skip
            · have h0' : (0 : Int) < ((g k).2.length : Int) := by omega
              have k2 := y7 (yC code (g (k + 1)).1)
              have m2 := wD (yC code (g k).1)
              (repeat' (first|(apply xW;(first|exact Want.none_ rfl|(refine zZ rfl rfl rfl rfl ?_;((exact dT ‹_›)))))|(apply xF zI;exact rfl;exact rfl)|((first|apply zY|apply zV|(apply zU;exact rfl;exact rfl;exact zI;exact rfl;exact rfl)|apply yT|apply zR|(apply yH;exact rfl;exact rfl)|apply yE)<;>(first|exact zI|exact Nat.zero_add _|exact rfl|refine yJ ?_|assumption|omega|exact lb rfl|(refine Bd.mk ?_;first|(focus (simp;done))|(simp;omega))|exact yU rfl))|(apply yW;exact rfl;exact rfl;((exact dT ‹_›));exact rfl;exact rfl)|apply zT|(refine yL ?_ ?_;kernel_rfl)|apply AWp.Q|apply zH|apply AWp.G|apply AWp.B|apply AWp.J|apply zJ|(refine AWp.D ?_ ?_;kernel_rfl)|(apply AWp.T;exact rfl;((exact dT ‹_›)))|(apply (yD (pq));(iterate 7 exact rfl);(focus (repeat (first|exact All2.nil|refine All2.cons rfl ?_)));exact rfl;(focus (repeat (first|exact MAs.nil|apply MAs.cons|apply MA.c|exact MC.ptr rfl|exact MC.vc (VC.imm (Imm.v _)))));((assumption));((assumption));exact rfl;exact rfl)))
              refine ⟨k + 1, by omega, by omega, ?_⟩
              rw [hT1]
              refine Weak.of [(0, some 0), (1, some 1), (2, some 2), (3, some 3), (4, some 4), (5, some 8), (6, some 6)] rfl ?_ ?_ <;> (repeat' (first|exact trivial|exact rfl|apply And.intro|(refine yB ?_;(focus (simp;done)))|refine ⟨_,rfl,rfl,rfl,OW.one ?_⟩|refine oWs rfl rfl rfl ?_ ?_))
              all_goals first | exact yC _ _ | exact (wW _).imm | exact (y8 _).imm | (rw [itm_snoc]; rfl) | (simp; done) | skip
          · have hke : k = wA l T := by omega
            subst hke
            have hend : l.length ≤ wA l T ∨ (g (wA l T)).2.length = 60 := by
              unfold wA at hkl hk ⊢
              omega
            rw [hgm] at hend hsT hLT ⊢
            by_cases he1 : l.length ≤ wA l T
            · have h1 : ¬ ((wA l T : Nat) : Int) < (l.length : Int) := by omega
              (repeat' (first|(apply xW;((exact Want.none_ rfl)))|(apply xF zI;exact rfl;exact rfl)|(((apply zY))<;>(first|exact rfl|refine yJ ?_|omega))|(apply yW;exact rfl;exact rfl;((exact dF ‹_›));exact rfl;exact rfl)|(apply yV;(iterate 5 exact rfl);((exact dF ‹_›)))|apply zT|apply AWp.Q|apply zH|apply AWp.G|apply AWp.X|apply zP|apply zJ|apply zN|(apply AWp.F;exact rfl;((exact rfl)))))
              refine ⟨j + 1, by omega, by omega, ?_⟩
              refine Weak.of [(0, some 0), (1, some 1), (2, some 2), (3, some 3), (4, some 4), (5, some 5)] rfl ?_ ?_ <;> (repeat' (first|exact trivial|exact rfl|apply And.intro|refine ⟨_,rfl,rfl,rfl,OW.one ?_⟩|refine oWs rfl rfl rfl ?_ ?_|(refine aIm ?_;(assumption))))
              all_goals first | exact yC _ _ | exact (wW _).imm
            · have h1 : ((wA l T : Nat) : Int) < (l.length : Int) := by omega
              have h2 : ¬ ((f (j + 1)).2.length : Int) < 60 := by omega
              (repeat' (first|(apply xW;(first|exact Want.none_ rfl|(refine zZ rfl rfl rfl rfl ?_;((exact dT ‹_›)))))|(apply xF zI;exact rfl;exact rfl)|(((apply zY))<;>(first|exact rfl|refine yJ ?_|omega))|(apply yW;exact rfl;exact rfl;((exact dT ‹_›));exact rfl;exact rfl)|apply zT|apply AWp.Q|apply zH|apply AWp.G|apply AWp.X|apply zP|apply zJ|apply zN|(apply AWp.F;exact rfl;((exact dF ‹_›)))))
              refine ⟨j + 1, by omega, by omega, ?_⟩
              refine Weak.of [(0, some 0), (1, some 1), (2, some 2), (3, some 3), (4, some 4), (5, some 5)] rfl ?_ ?_ <;> (repeat' (first|exact trivial|exact rfl|apply And.intro|refine ⟨_,rfl,rfl,rfl,OW.one ?_⟩|refine oWs rfl rfl rfl ?_ ?_|(refine aIm ?_;(assumption))))
              all_goals first | exact yC _ _ | exact (wW _).imm
      · have hlt' : ¬ (j : Int) < (n0 : Int) := by omega
        obtain rfl : j = n0 := by omega
        (repeat' (first|(apply xW;((exact Want.none_ rfl)))|(apply xF zI;exact rfl;exact rfl)|apply zT|apply AWp.Q|apply zH|apply AWp.G|apply AWp.X|apply zP|(apply AWp.F;exact rfl;((exact dF ‹_›)))))
        refine joinK.mk () trivial ?_
        refine Weak.of [(0, some 0), (1, some 1), (2, some 2), (3, some 3), (4, some 4), (5, some 5)] rfl ?_ ?_ <;> (repeat' (first|exact trivial|exact rfl|apply And.intro|refine ⟨_,rfl,rfl,rfl,OW.one ?_⟩|refine oWs rfl rfl rfl ?_ ?_))
        all_goals first | exact yC _ _ | exact (wW _).imm
  · rintro _ _
    generalize f n0 = s0 at hfN a3 ht
    obtain ⟨cN, T⟩ := s0
    dsimp only at hfN a3 ht ⊢
    have hsT := wW T
    have hLT : (T.map xA).length = T.length := List.length_map _
    have h2T := itms_two T
    obtain ⟨d1, b, q1, hcase⟩ := ht
    dsimp only at q1 hcase
    have k1 := y7 (yC code d1)
    have m1 := wD (yC code cN)
    rcases hcase with ⟨rfl, rfl⟩ | ⟨rfl, h0, rfl⟩ | ⟨rfl, h0, d2, v, q2, hcase⟩
    · (repeat' (first|(apply xW;((exact Want.none_ rfl)))|(apply xF zI;exact rfl;exact rfl)|(((apply yE))<;>(first|exact zI|exact rfl|refine yJ ?_|exact lb rfl))|(apply yW;exact rfl;exact rfl;((exact rfl));exact rfl;exact rfl)|(apply yV;(iterate 5 exact rfl);((exact rfl)))|apply zT|(refine yL ?_ ?_;kernel_rfl)|apply AWp.Q|apply zH|apply AWp.G|apply AWp.J|(refine AWp.D ?_ ?_;kernel_rfl)|(apply AWp.F;exact rfl;((exact rfl)))|(apply (yD (q1));(iterate 7 exact rfl);(focus (repeat (first|exact All2.nil|refine All2.cons rfl ?_)));exact rfl;(focus (repeat (first|exact MAs.nil|apply MAs.cons|apply MA.c|exact MC.ptr rfl|exact MC.vc (VC.imm (Imm.v _)))));((assumption));((assumption));exact rfl;exact rfl)))
      refine AWp.weaken (Weak.frz 5 1 (out' := ⟨45, 1, [xX (T)]⟩) (wU rfl rfl) rfl rfl rfl ?_ rfl rfl (.cons (.cons ?_ .nil) .nil) (Weak.refl _ _)) ?_
      · exact hsT.imm
      · exact .ref _ (by simp)
      apply AWp.R
      (((refine z7 _ [(0, some 0)] (.cons (y4 rfl rfl rfl zI rfl rfl rfl) (.cons (y4 rfl rfl rfl zI rfl rfl rfl) .nil)) ?_ rfl ?_)) <;> (repeat' (first|exact trivial|exact rfl|apply And.intro|refine ⟨_,rfl,rfl,rfl,OW.one ?_⟩)))
      all_goals exact yC _ _
    · have h0' : ¬ (0 : Int) < (T.length : Int) := by omega
      (repeat' (first|(apply xW;(first|exact Want.none_ rfl|(refine zZ rfl rfl rfl rfl ?_;((exact rfl)))))|(apply xF zI;exact rfl;exact rfl)|(((apply yE))<;>(first|exact zI|exact rfl|refine yJ ?_|exact lb rfl))|(apply yW;exact rfl;exact rfl;((exact rfl));exact rfl;exact rfl)|apply zT|(refine yL ?_ ?_;kernel_rfl)|apply AWp.Q|apply zH|apply AWp.G|apply AWp.J|(refine AWp.D ?_ ?_;kernel_rfl)|(apply AWp.F;exact rfl;((exact dF ‹_›)))|(apply (yD (q1));(iterate 7 exact rfl);(focus (repeat (first|exact All2.nil|refine All2.cons rfl ?_)));exact rfl;(focus (repeat (first|exact MAs.nil|apply MAs.cons|apply MA.c|exact MC.ptr rfl|exact MC.vc (VC.imm (Imm.v _)))));((assumption));((assumption));exact rfl;exact rfl)))
      refine AWp.weaken (Weak.frz 5 1 (out' := ⟨45, 1, [xX (T)]⟩) (wU rfl rfl) rfl rfl rfl ?_ rfl rfl (.cons (.cons ?_ .nil) .nil) (Weak.refl _ _)) ?_
      · exact hsT.imm
      · exact .ref _ (by simp)
      apply AWp.R
      (((refine z7 _ [(0, some 0)] (.cons (y4 rfl rfl rfl zI rfl rfl rfl) (.cons (y4 rfl rfl rfl zI rfl rfl rfl) .nil)) ?_ rfl ?_)) <;> (repeat' (first|exact trivial|exact rfl|apply And.intro|refine ⟨_,rfl,rfl,rfl,OW.one ?_⟩)))
      all_goals exact yC _ _
    · have h0' : (0 : Int) < (T.length : Int) := by omega
      have k2 := y7 (yC code d2)
      have m2 := wD (yC code d1)
      rcases hcase with ⟨rfl, i, hi, rfl⟩ | ⟨rfl, d3, d4, k, x, i, q3, q4, hi, rfl⟩ | ⟨rfl, hd2, rfl⟩
      · have hi' : (T.map xA)[0]? = some (xA i) := xS hi
        (repeat' (first|(apply xW;(first|exact Want.none_ rfl|(refine zZ rfl rfl rfl rfl ?_;((exact rfl)))))|(apply xF zI;exact rfl;exact rfl)|((first|apply zV|apply yE)<;>(first|exact zI|exact Nat.zero_add _|exact rfl|refine yJ ?_|assumption|exact lb rfl|(simp;omega)))|(apply yW;exact rfl;exact rfl;((exact rfl));exact rfl;exact rfl)|apply zT|(refine yL ?_ ?_;kernel_rfl)|apply AWp.Q|apply zH|apply AWp.G|apply AWp.B|apply zJ|(refine AWp.D ?_ ?_;kernel_rfl)|(apply AWp.T;exact rfl;(first|exact dT ‹_›|exact rfl))|(apply (yD (q1));(iterate 7 exact rfl);(focus (repeat (first|exact All2.nil|refine All2.cons rfl ?_)));exact rfl;(focus (repeat (first|exact MAs.nil|apply MAs.cons|apply MA.c|exact MC.ptr rfl|exact MC.vc (VC.imm (Imm.v _)))));((assumption));((assumption));exact rfl;exact rfl)|(apply (yD (q2));(iterate 7 exact rfl);(focus (repeat (first|exact All2.nil|refine All2.cons rfl ?_)));exact rfl;(focus (repeat (first|exact MAs.nil|apply MAs.cons|apply MA.c|exact MC.ptr rfl|exact MC.vc (VC.imm (Imm.v _)))));((assumption));((assumption));exact rfl;exact rfl)))
        refine AWp.weaken (Weak.frz 5 1 (out' := ⟨45, 1, [xX (T.set 0 ⟨i.s, true⟩)]⟩) (wU rfl rfl) rfl rfl rfl ?_ rfl rfl (.cons (.cons ?_ .nil) .nil) (Weak.refl _ _)) ?_
        · show ∀ x ∈ (T.map xA).set 0 (xA ⟨i.s, true⟩), _
          rw [← List.map_set]; exact (wW _).imm
        · show FC 5 ((T.map xA).set 0 (xA ⟨i.s, true⟩)) (Cell.ref 5 0 T.length) (.sl ((T.set 0 ⟨i.s, true⟩).map xA))
          rw [List.map_set]; exact .ref _ (by simp)
        apply AWp.R
        (((refine z7 _ [(0, some 0)] (.cons (y4 rfl rfl rfl zI rfl rfl rfl) (.cons (y4 rfl rfl rfl zI rfl rfl rfl) .nil)) ?_ rfl ?_)) <;> (repeat' (first|exact trivial|exact rfl|apply And.intro|refine ⟨_,rfl,rfl,rfl,OW.one ?_⟩)))
        all_goals exact yC _ _
      · have hi' : (T.map xA)[k]? = some (xA i) := xS hi
        have k3 := y7 (yC code d3)
        have m3 := wD (yC code d2)
        have k4 := vX (b := ⟨3, 1, bd4.map yX⟩) (yC code d4) (y8 bd4).imm
        have m4 := kC (b := ⟨3, 1, bd4.map yX⟩) (yC code d3) (y8 bd4).imm
        have hkT := (List.getElem?_eq_some_iff.1 hi).1
        (repeat' (first|(apply xW;(first|exact Want.none_ rfl|(refine zZ rfl rfl rfl rfl ?_;((exact rfl)))))|(apply xF zI;exact rfl;exact rfl)|((first|apply zV|apply zR|apply yE)<;>(first|exact zI|exact Nat.zero_add _|exact rfl|refine yJ ?_|assumption|exact lb rfl))|(apply yW;exact rfl;exact rfl;((exact rfl));exact rfl;exact rfl)|apply zT|(refine yL ?_ ?_;kernel_rfl)|apply AWp.Q|apply zH|apply AWp.G|apply AWp.B|apply zJ|(refine AWp.D ?_ ?_;kernel_rfl)|(apply AWp.T;exact rfl;(first|exact dT ‹_›|exact rfl))|(apply AWp.F;exact rfl;((exact rfl)))|(apply (yD (q1));(iterate 7 exact rfl);(focus (repeat (first|exact All2.nil|refine All2.cons rfl ?_)));exact rfl;(focus (repeat (first|exact MAs.nil|apply MAs.cons|apply MA.c|exact MC.ptr rfl|exact MC.vc (VC.imm (Imm.v _)))));((assumption));((assumption));exact rfl;exact rfl)|(apply (yD (q2));(iterate 7 exact rfl);(focus (repeat (first|exact All2.nil|refine All2.cons rfl ?_)));exact rfl;(focus (repeat (first|exact MAs.nil|apply MAs.cons|apply MA.c|exact MC.ptr rfl|exact MC.vc (VC.imm (Imm.v _)))));((assumption));((assumption));exact rfl;exact rfl)|(apply (yD (q3));(iterate 7 exact rfl);(focus (repeat (first|exact All2.nil|refine All2.cons rfl ?_)));exact rfl;(focus (repeat (first|exact MAs.nil|apply MAs.cons|apply MA.c|exact MC.ptr rfl|exact MC.vc (VC.imm (Imm.v _)))));((assumption));((assumption));exact rfl;exact rfl)|(apply (yD (q4));(iterate 7 exact rfl);(focus (repeat (first|exact All2.nil|refine All2.cons rfl ?_)));exact rfl;(focus (repeat (first|exact MAs.nil|apply MAs.cons|apply MA.c|exact MC.ref rfl|exact MC.ptr rfl)));((assumption));((assumption));exact rfl;exact rfl)))
        refine AWp.weaken (Weak.frz 5 1 (out' := ⟨45, 1, [xX (T.set k ⟨x, i.b⟩)]⟩) (wU rfl rfl) rfl rfl rfl ?_ rfl rfl (.cons (.cons ?_ .nil) .nil) (Weak.refl _ _)) ?_
        · show ∀ y ∈ (T.map xA).set k (xA ⟨x, i.b⟩), _
          rw [← List.map_set]; exact (wW _).imm
        · show FC 5 ((T.map xA).set k (xA ⟨x, i.b⟩)) (Cell.ref 5 0 T.length) (.sl ((T.set k ⟨x, i.b⟩).map xA))
          rw [List.map_set]; exact .ref _ (by simp)
        apply AWp.R
        (((refine z7 _ [(0, some 0)] (.cons (y4 rfl rfl rfl zI rfl rfl rfl) (.cons (y4 rfl rfl rfl zI rfl rfl rfl) .nil)) ?_ rfl ?_)) <;> (repeat' (first|exact trivial|exact rfl|apply And.intro|refine ⟨_,rfl,rfl,rfl,OW.one ?_⟩)))
        all_goals exact yC _ _
      · (repeat' (first|(apply xW;(first|exact Want.none_ rfl|(refine zZ rfl rfl rfl rfl ?_;((exact rfl)))))|(apply xF zI;exact rfl;exact rfl)|(apply yW;exact rfl;exact rfl;((exact rfl));exact rfl;exact rfl)|apply zT|apply AWp.Q|apply zH|apply AWp.G|apply AWp.B|(apply AWp.T;exact rfl;(first|exact dT ‹_›|exact rfl))|(apply AWp.F;exact rfl;((exact rfl)))|(apply (yD (q1));(iterate 7 exact rfl);(focus (repeat (first|exact All2.nil|refine All2.cons rfl ?_)));exact rfl;(focus (repeat (first|exact MAs.nil|apply MAs.cons|apply MA.c|exact MC.ptr rfl|exact MC.vc (VC.imm (Imm.v _)))));((assumption));((assumption));exact rfl;exact rfl)|(apply (yD (q2));(iterate 7 exact rfl);(focus (repeat (first|exact All2.nil|refine All2.cons rfl ?_)));exact rfl;(focus (repeat (first|exact MAs.nil|apply MAs.cons|apply MA.c|exact MC.ptr rfl|exact MC.vc (VC.imm (Imm.v _)))));((assumption));((assumption));exact rfl;exact rfl)))
        refine AWp.U (σ := Nat × Cur × List Itm) (fun s => ⟨[(0, .c (.ptr 0 0 0)), (2, .c (.ptr 1 0 0)), (3, .c (.ptr 2 0 0)), (4, .c (.ptr 3 0 0)), (5, .c (.ptr 4 0 0))], [(0, some (xQ code s.2.1)), (1, some ⟨45, 1, [[.nil]]⟩), (2, some ⟨26, 1, [[.nil]]⟩), (3, some ⟨26, 1, [wG es]⟩), (4, some ⟨45, 1, [[.ref 5 0 s.2.2.length]]⟩), (5, some ⟨57, 2, s.2.2.map xA⟩)], 6⟩)
          (fun s => fin code 61 d2 T = fin code s.1 s.2.1 s.2.2 ∧ 61 ≤ s.2.2.length + s.1 ∧ s.2.2.length ≤ 61 ∧ s.2.2.length ≠ 0 ∧ s.2.1.a + s.1 ≤ d2.a + 61) (fun s => s.1) (61, d2, T) ⟨rfl, by dsimp only; omega, by dsimp only; omega, h0, Nat.le_refl _⟩ ?_ ?_
        · refine Weak.of [(0, some 0), (1, some 1), (2, some 2), (3, some 3), (4, some 4), (5, some 5)] rfl ?_ ?_ <;> (repeat' (first|exact trivial|exact rfl|apply And.intro|refine ⟨_,rfl,rfl,rfl,OW.one ?_⟩|refine oWs rfl rfl rfl ?_ ?_|(refine aIm ?_;(assumption))))
          all_goals first | exact yC _ _ | exact (wW _).imm
        · rintro ⟨k, e, R⟩ ⟨hfin, g1, g2, g3, g4⟩
          dsimp only at hfin g1 g2 g3 g4 ⊢
          rw [hfin]
          have vv := vZ code e (n := 2) (by omega)
          have pe := vT code e hl (by omega) 2 (by omega)
          have ae := qN code e 2
          have k5 := y7 (yC code (pkC code e 2))
          have m5 := wD (yC code e)
          have hsR := wW R
          have hLR : (R.map xA).length = R.length := List.length_map _
          have hla : (R.map xA)[R.length - 1]? = some (xA (kA R)) := xS (last_at g3)
          have hi : (R.length : Int) - 1 = ((R.length - 1 : Nat) : Int) := by omega
          by_cases hc : (R.length : Int) < 60 + pkV code e 2
          · obtain ⟨k, rfl⟩ : ∃ q, k = q + 1 := ⟨k - 1, by omega⟩
            have hstep : fin code (k + 1) e R = fin code k (pkC code e 2) (R ++ [kA R]) := by rw [fin, if_pos hc]
            generalize pkV code e 2 = pv at vv pe hc
            rw [hstep]
            (repeat' (first|(apply xW;((exact Want.none_ rfl)))|(apply xF zI;exact rfl;exact rfl)|((first|apply zY|apply y6|apply zV|apply zO|apply zR|(apply yH;exact rfl;exact rfl)|apply yE)<;>(first|exact zI|exact Nat.zero_add _|exact rfl|refine yJ ?_|assumption|omega|exact lb rfl|(refine Bd.mk ?_;(simp;omega))|exact yU rfl))|(refine yL ?_ ?_;kernel_rfl)|apply AWp.Q|apply zH|apply AWp.B|apply AWp.J|apply zJ|(refine AWp.D ?_ ?_;kernel_rfl)|(apply AWp.T;exact rfl;((exact dT ‹_›)))|(apply (yD (pe));(iterate 7 exact rfl);(focus (repeat (first|exact All2.nil|refine All2.cons rfl ?_)));exact rfl;(focus (repeat (first|exact MAs.nil|apply MAs.cons|apply MA.c|exact MC.ptr rfl|exact MC.vc (VC.imm (Imm.v _)))));((assumption));((assumption));exact rfl;exact rfl)))
            have hRl : (R ++ [kA R]).length = R.length + 1 := by simp
            refine ⟨(k, pkC code e 2, R ++ [kA R]), ⟨rfl, by dsimp only; omega, by dsimp only; omega, by dsimp only; omega, by dsimp only; omega⟩, by dsimp only; omega, ?_⟩
            dsimp only
            rw [itm_snoc]
            refine Weak.of [(0, some 0), (1, some 1), (2, some 2), (3, some 3), (4, some 4), (5, some 7)] rfl ?_ ?_ <;> (repeat' (first|exact trivial|exact rfl|apply And.intro|(refine yB ?_;(focus (simp;done)))|refine ⟨_,rfl,rfl,rfl,OW.one ?_⟩|refine oWs rfl rfl rfl ?_ ?_))
            all_goals first | exact yC _ _ | (rw [← itm_snoc]; exact (wW _).imm) | (simp; done) | skip
          · have hstep : fin code k e R = (pkC code e 2, R) := by
              cases k with
              | zero => rw [fin]
              | succ k => rw [fin, if_neg hc]
            generalize pkV code e 2 = pv at vv pe hc
            rw [hstep]
            (repeat' (first|(apply xW;((exact Want.none_ rfl)))|(apply xF zI;exact rfl;exact rfl)|((first|apply zY|apply yE)<;>(first|exact zI|exact rfl|refine yJ ?_|omega|exact lb rfl))|(refine yL ?_ ?_;kernel_rfl)|apply AWp.Q|apply zH|apply AWp.X|apply zP|apply zJ|apply zN|(refine AWp.D ?_ ?_;kernel_rfl)|(apply AWp.F;exact rfl;((exact dF ‹_›)))|(apply (yD (pe));(iterate 7 exact rfl);(focus (repeat (first|exact All2.nil|refine All2.cons rfl ?_)));exact rfl;(focus (repeat (first|exact MAs.nil|apply MAs.cons|apply MA.c|exact MC.ptr rfl|exact MC.vc (VC.imm (Imm.v _)))));((assumption));((assumption));exact rfl;exact rfl)))
            refine AWp.weaken (Weak.frz 5 1 (out' := ⟨45, 1, [xX R]⟩) (wU rfl rfl) rfl rfl rfl ?_ rfl rfl (.cons (.cons ?_ .nil) .nil) (Weak.refl _ _)) ?_
            · exact hsR.imm
            · exact .ref _ (by simp)
            apply AWp.R
            (((refine z7 _ [(0, some 0)] (.cons (y4 rfl rfl rfl zI rfl rfl rfl) (.cons (y4 rfl rfl rfl zI rfl rfl rfl) .nil)) ?_ rfl ?_)) <;> (repeat' (first|exact trivial|exact rfl|apply And.intro|refine ⟨_,rfl,rfl,rfl,OW.one ?_⟩)))
            all_goals exact yC _ _
end Go.Proofs.YtchpdclknbmdoaaGreatDoor
