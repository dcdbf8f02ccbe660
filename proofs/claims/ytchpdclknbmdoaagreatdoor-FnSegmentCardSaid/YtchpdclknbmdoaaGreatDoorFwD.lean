/- FewestPieces of spec. -/
import Derived.Test.YtchpdclknbmdoaaGreatDoorFwC
namespace Go.Proofs.YtchpdclknbmdoaaGreatDoor
open Go Go.RowKit
def tv (es : List Ent) (l : List Int) (j : Nat) : Int := (((pC es l j).t : Nat) : Int)
theorem tv_end {es : List Ent} {l : List Int} {j : Nat} (h : l.length ≤ j) : tv es l j = 0 := by
  rw [tv, pC_end h]; rfl
def tK (es : List Ent) (l : List Int) (k : Nat) : List (List Cell) := (vN (l.length + 1) (gok k (tv es l) 0)).map yU
def tI (es : List Ent) (l : List Int) (i : Nat) (x : Int) : List (List Cell) := (vN (l.length + 1) (gfi i x (tv es l) 0)).map yU
theorem tK_len (es : List Ent) (l : List Int) (k : Nat) : (tK es l k).length = l.length + 1 := by rw [tK, List.length_map, wT]
theorem tI_len (es : List Ent) (l : List Int) (k : Nat) (x : Int) : (tI es l k x).length = l.length + 1 := by rw [tI, List.length_map, wT]
theorem tK_at {es : List Ent} {l : List Int} {k j : Nat} (h : k ≤ j) (hj : j ≤ l.length) : (tK es l k)[j]? = some [int (tv es l j)] := by
  have := wW (n := l.length + 1) (gok k (tv es l) 0) (j := j) (by omega)
  rw [gok_up _ _ h] at this
  exact xS this
theorem tI_me {es : List Ent} {l : List Int} {i : Nat} {x : Int} (h : i ≤ l.length) : (tI es l i x)[i]? = some [int x] := by
  have := wW (n := l.length + 1) (gfi i x (tv es l) 0) (j := i) (by omega)
  rw [gfi_at] at this
  exact xS this
theorem tK_low {es : List Ent} {l : List Int} {i : Nat} (h : i ≤ l.length) : (tK es l (i + 1))[i]? = some [int 0] := by
  have := wW (n := l.length + 1) (gok (i + 1) (tv es l) 0) (j := i) (by omega)
  rw [show gok (i + 1) (tv es l) 0 i = 0 from if_neg (by omega)] at this
  exact xS this
theorem tK_sc (es : List Ent) (l : List Int) (k : Nat) : AllSc (tK es l k) := xI _
theorem tI_sc (es : List Ent) (l : List Int) (k : Nat) (x : Int) : AllSc (tI es l k x) := xI _
theorem tK_new {es : List Ent} {l : List Int} {i : Nat} {x : Int} : (tK es l (i + 1)).set i [int x] = tI es l i x := by
  rw [tK, tI, ← tabA_new]; exact (List.map_set ..).symm
theorem tI_set {es : List Ent} {l : List Int} {i : Nat} {x y : Int} : (tI es l i x).set i [int y] = tI es l i y := by
  show ((vN (l.length + 1) (gfi i x (tv es l) 0)).map yU).set i (yU y) = _
  rw [← List.map_set, tabA_again]; rfl
theorem tI_done {es : List Ent} {l : List Int} {i : Nat} : tI es l i (tv es l i) = tK es l i := by rw [tI, tK, tabA_done]
theorem tK_zero {es : List Ent} {l : List Int} : List.replicate (l.length + 1) [int 0] = tK es l l.length := by
  rw [tK, ← tabA_zero (tv es l) 0 (fun j _ h => tv_end h), List.map_replicate]; rfl
theorem l1Most_pf (a b : Int) : PF Tryz.prog 69 [.c (int a), .c (int b)] [] (.c (int (max a b))) := by
  refine PF.enter (xX _ _) Tryz.func69 rfl (by kernel_rfl) _ _ rfl rfl rfl (fun w0 mu I0 β0 gi dis => ?_)
  (repeat' (first|(apply xW;((exact Want.none_ rfl)))|(apply xF zI;exact rfl;exact rfl)|apply zS|apply AWp.Q|apply zH|apply AWp.G|apply AWp.J|apply AWp.R|apply zK|(((refine AWp.C rfl ?_ ?_))<;>intro hp<;>try (exfalso;omega))))
  all_goals
    (((refine zX _ [] (.cons (zP rfl) .nil) ?_ rfl ?_)) <;> (repeat' (first|exact trivial|(apply cgI;(omega)))))
set_option maxHeartbeats 4000000 in
theorem specFew_pf (es : List Ent) (l : List Int) (hb : wX es) (hl : l.length ≤ 1000000) (h : mchOk es l = true) : PF Tryz.prog 14 [.agg (x3 es), .c (.sl (l.map yU))] [fwO es l] (.tup [.c (.ref 0 0 (few es l).length), .c (boo true)]) := by
  obtain ⟨hd, hs, h60, _⟩ := mchOk_parts h
  have h1 := vD es hb
  have h2 := wI l (by omega)
  rw [hd] at h1
  rw [hs] at h2
  have hL : (l.map yU).length = l.length := List.length_map _
  have h1l := vV l
  refine PF.enter (xX _ _) Tryz.func14 rfl (by kernel_rfl) _ _ rfl rfl rfl (fun w0 mu I0 β0 gi dis => ?_)
  (repeat' (first|(apply xW;(first|exact Want.none_ rfl|(refine z6 rfl rfl rfl rfl ?_;((exact rfl)))))|(apply xF zI;exact rfl;exact rfl)|((first|apply z8|apply yZ|apply zT|apply xZ)<;>(first|exact zI|exact rfl|refine yI ?_|omega|(refine Bd.mk ?_;(simp;omega))))|(apply y4;exact rfl;exact rfl;((exact rfl));exact rfl;exact rfl)|apply zS|apply AWp.Q|apply zH|apply AWp.G|apply AWp.B|apply AWp.J|(apply AWp.F;exact rfl;((exact rfl)))|(apply yD;(iterate 6 exact rfl);(iterate 2 (focus (repeat (first|exact VAs.nil|apply VAs.cons|apply VA.c|apply VA.agg|exact VCs.nil|apply VCs.cons|exact VC.imm (Imm.sl _)))));(first|exact h1|exact h2);(focus (repeat ((exact Flat.v _))));((apply yM));((exact xE _ _)))))
  refine AWp.U (σ := Nat) (fun k => ⟨[(1, .c (.sl (l.map yU))), (2, .c (.ptr 0 0 0)), (6, .c (.ref 1 0 0)), (7, .c (.ref 2 0 (l.length + 1))), (8, .c (.ref 3 0 (l.length + 1))), (9, .c (int ((k : Int) - 1)))], [(0, some ⟨26, 1, [x3 es]⟩), (1, some ⟨55, 3, []⟩), (2, some ⟨3, 1, cK 100 es l k⟩), (3, some ⟨3, 1, tK es l k⟩)], 4⟩) (fun k => k ≤ l.length) (fun k => k) l.length (Nat.le_refl _) ?_ ?_
  · refine Weak.of [(0, some 0), (1, some 1), (2, some 2), (3, some 3)] rfl ?_ ?_ <;> (repeat' (first|exact trivial|exact rfl|apply And.intro|(apply cgI;(omega))|(refine yB ?_;(focus (simp;done)))|refine ⟨_,rfl,rfl,rfl,OW.one ?_⟩|refine oWs rfl rfl rfl ?_ ?_|(refine aIm ?_;(exact AllSc.nil))))
    all_goals first | exact (cK_sc _ _ _ _).imm | exact (tK_sc _ _ _).imm | (show List.replicate _ _ = cK _ _ _ _; rw [hL, ← cK_zero]; rfl) | (show List.replicate _ _ = tK _ _ _; rw [hL, ← tK_zero]; rfl) | skip
  · rintro (_ | i) hk
    · have h0 : ¬ (0 : Int) ≤ ((0 : Nat) : Int) - 1 := by omega
      (repeat' (first|(apply xW;((exact Want.none_ rfl)))|(apply xF zI;exact rfl;exact rfl)|apply zS|apply AWp.Q|apply zH|apply AWp.G|apply AWp.B|apply AWp.X|apply zR|apply zO|(apply AWp.F;exact rfl;((exact dF ‹_›)))))
      refine AWp.U (σ := List Pc × Nat) (fun q => ⟨[(1, .c (.sl (l.map yU))), (2, .c (.ptr 0 0 0)), (6, .c (.ref 1 0 q.1.length)), (8, .c (.ref 2 0 (l.length + 1))), (13, .c (int q.2))], [(0, some ⟨26, 1, [x3 es]⟩), (1, some ⟨55, 3, q.1.map xQ⟩), (2, some ⟨3, 1, tK es l 0⟩)], 3⟩) (fun q => q.1 ++ fwF es l q.2 = few es l ∧ q.2 ≤ l.length ∧ q.1.length ≤ q.2) (fun q => l.length - q.2) ([], 0) ⟨rfl, Nat.zero_le _, Nat.le_refl _⟩ ?_ ?_
      · refine Weak.of [(0, some 0), (1, some 1), (2, some 3)] rfl ?_ ?_ <;> (repeat' (first|exact trivial|exact rfl|apply And.intro|refine ⟨_,rfl,rfl,rfl,OW.one ?_⟩|refine oWs rfl rfl rfl ?_ ?_|(refine aIm ?_;(exact AllSc.nil))))
        all_goals first | exact (tK_sc _ _ _).imm | skip
      · rintro ⟨out, f⟩ ⟨hall, hf, hol⟩
        dsimp only at hall hf hol ⊢
        have hsc := wA out
        have hsct := tK_sc es l 0
        have hlt0 := tK_len es l 0
        have hLo : (out.map xQ).length = out.length := List.length_map _
        by_cases hlt : f < l.length
        · have hlt' : (f : Int) < ((l.map yU).length : Int) := by omega
          obtain ⟨c1, c2, c3, c4⟩ := q9 es l f
          have hat := tK_at (es := es) (l := l) (Nat.zero_le f) (by omega)
          have hst := fwF_step (es := es) hlt
          have hcf := c2 hlt
          obtain ⟨_, _, q3, q4, q5⟩ := q8 es l hf
          rw [kT] at hst
          have hmo := l1Most_pf (tv es l f) 1
          have hmx : max (tv es l f) 1 = (ct1 es l f : Nat) := by rw [tv, ct1]; omega
          rw [tv] at hat hmo hmx
          rw [hmx] at hmo
          generalize hct : ct1 es l f = ct at *
          generalize htt : (pC es l f).t = t at *
          rcases t with _ | t
          · rw [pcC_zero] at hst
            have hpos : ¬ (0 : Int) < ((0 : Nat) : Int) := by omega
            (repeat' (first|(apply xW;((exact Want.none_ rfl)))|(apply xF zI;exact rfl;exact rfl)|((first|apply z8|apply zW|(apply zU;exact rfl;exact rfl;exact zI;exact rfl;exact rfl)|apply yS|apply zT|apply zV|(apply yQ;exact rfl;exact rfl)|apply yE)<;>(first|exact zI|exact Nat.zero_add _|exact rfl|refine yI ?_|assumption|omega|exact lb rfl|(refine Bd.mk ?_;first|(focus (simp;done))|(simp;omega))))|apply zS|apply AWp.Q|apply zH|apply AWp.G|apply AWp.B|apply AWp.J|apply zJ|(apply AWp.T;exact rfl;((exact dT ‹_›)))|(apply AWp.F;exact rfl;((exact dF ‹_›)))|(apply yD;(iterate 6 exact rfl);(iterate 2 (focus (repeat (first|exact VAs.nil|apply VAs.cons|apply VA.c|exact VCs.nil|exact VC.imm (Imm.v _)))));((exact hmo));(focus (repeat ((exact Flat.v _))));((apply yM));((exact xE _ _)))))
            refine ⟨(out ++ [⟨(f : Int), 1, []⟩], f + ct), ⟨by rw [← hall, hst, List.append_assoc]; rfl, hcf, by rw [List.length_append]; simp; omega⟩, by dsimp only; omega, ?_⟩
            dsimp only
            rw [vR]
            refine Weak.of [(0, some 0), (1, some 5), (2, some 2)] rfl ?_ ?_ <;> (repeat' (first|exact trivial|exact rfl|apply And.intro|(refine yB ?_;(focus (simp;done)))|refine ⟨_,rfl,rfl,rfl,OW.one ?_⟩|refine oWs rfl rfl rfl ?_ ?_|(refine aIm ?_;(assumption))))
            all_goals first | (rw [← vR]; exact (wA _).imm) | (simp; done) | (show _ = _; omega) | skip
          · rw [pcC_pos] at hst
            have hpos : (0 : Int) < ((t + 1 : Nat) : Int) := by omega
            have hsum : (f : Int) + ((t + 1 : Nat) : Int) = ((f + (t + 1) : Nat) : Int) := by omega
            have hg := l6Find_pf es (cut l f (t + 1)) hb (by rw [qL (by omega)]; omega)
            rw [qI, q5 (by omega)] at hg
            (repeat' (first|(apply xW;((exact Want.none_ rfl)))|(apply xF zI;exact rfl;exact rfl)|((first|apply z8|apply zW|(apply zU;exact rfl;exact rfl;exact zI;exact rfl;exact rfl)|apply yS|apply zT|apply zV|(apply yQ;exact rfl;exact rfl)|(apply yT;exact rfl;exact rfl)|apply yE)<;>(first|exact zI|exact Nat.zero_add _|exact rfl|refine yI ?_|assumption|omega|exact ⟨rfl,_,_,rfl,rfl⟩|exact lb rfl|(refine Bd.mk ?_;first|assumption|(focus (simp;done))|(simp;omega))))|apply zS|(refine yN ?_ ?_;kernel_rfl)|apply AWp.Q|apply zH|apply AWp.G|apply AWp.B|apply AWp.J|apply zJ|(refine AWp.D ?_ ?_;kernel_rfl)|(apply AWp.T;exact rfl;((exact dT ‹_›)))|(apply yD;(iterate 6 exact rfl);(iterate 2 (focus (repeat (first|exact VAs.nil|apply VAs.cons|apply VA.c|apply VA.agg|exact VCs.nil|apply VCs.cons|exact VC.imm (Imm.v _)|exact VC.imm (Imm.sl _)))));(first|exact hg|exact hmo);(focus (repeat (first|exact trivial|exact Flat.v _|apply And.intro)));((apply yM));(first|exact xE _ _|exact xB _ _ _))))
            refine ⟨(out ++ [⟨(f : Int), ((t + 1 : Nat) : Int), qC es (cut l f (t + 1))⟩], f + ct), ⟨by rw [← hall, hst, List.append_assoc]; rfl, hcf, by rw [List.length_append]; simp; omega⟩, by dsimp only; omega, ?_⟩
            dsimp only
            rw [vR]
            refine Weak.of [(0, some 0), (1, some 5), (2, some 2)] rfl ?_ ?_ <;> (repeat' (first|exact trivial|exact rfl|apply And.intro|(refine yB ?_;(focus (simp;done)))|refine ⟨_,rfl,rfl,rfl,OW.one ?_⟩|refine oWs rfl rfl rfl ?_ ?_|(refine aIm ?_;(assumption))))
            all_goals first | (rw [← vR]; exact (wA _).imm) | (simp; done) | (show _ = _; omega) | skip
        · have hlt' : ¬ (f : Int) < ((l.map yU).length : Int) := by omega
          rw [fwF_end (by omega), List.append_nil] at hall
          subst hall
          (repeat' (first|(apply xW;((exact Want.none_ rfl)))|(apply xF zI;exact rfl;exact rfl)|apply zS|apply AWp.Q|apply zH|apply AWp.G|apply AWp.X|apply AWp.R|apply zR|apply zO|(apply AWp.F;exact rfl;((exact dF ‹_›)))))
          (((refine zX _ [(0, some 1)] (.cons (zP rfl) (.cons (zP rfl) .nil)) ?_ rfl ?_)) <;> (repeat' (first|exact trivial|exact rfl|apply And.intro|refine oWs rfl rfl rfl ?_ ?_|(refine aIm ?_;(assumption)))))
          all_goals exact hsc.imm
    · have hfrom : ((i + 1 : Nat) : Int) - 1 = (i : Int) := by omega
      rw [hfrom]
      have hi : i < l.length := by omega
      have hge : (0 : Int) ≤ (i : Int) := by omega
      have hup : (i : Int) + 1 = ((i + 1 : Nat) : Int) := by omega
      have hat := cK_at (W := 100) (es := es) (l := l) (Nat.le_refl (i + 1)) (by omega)
      have hbd := ctW_bd (W := 100) (es := es) (j := i + 1) h60 (by omega) (by omega)
      have hlow1 := cK_low (W := 100) (es := es) (l := l) (i := i) (by omega)
      have hlow2 := tK_low (es := es) (l := l) (i := i) (by omega)
      have hl1 := cK_len 100 es l (i + 1)
      have hl2 := tK_len es l (i + 1)
      have hw0 : (101 : Int) + ctW 100 es l (i + 1) = inW 100 es l i 0 := by rw [inW_zero]; omega
      (repeat' (first|(apply xW;((exact Want.none_ rfl)))|(apply xF zI;exact rfl;exact rfl)|((first|apply z8|apply zW|(apply zU;exact rfl;exact rfl;exact zI;exact rfl;exact rfl)|apply yE)<;>(first|exact zI|exact Nat.zero_add _|exact rfl|refine yI ?_|assumption|omega|exact lb rfl|(simp;omega)))|apply zS|apply AWp.Q|apply zH|apply AWp.G|apply AWp.B|apply AWp.J|(apply AWp.T;exact rfl;((exact dT ‹_›)))))
      refine AWp.U (σ := Nat) (fun m => ⟨[(1, .c (.sl (l.map yU))), (2, .c (.ptr 0 0 0)), (6, .c (.ref 1 0 0)), (7, .c (.ref 2 0 (l.length + 1))), (8, .c (.ref 3 0 (l.length + 1))), (9, .c (int i)), (10, .c (int (m + 1 : Nat)))], [(0, some ⟨26, 1, [x3 es]⟩), (1, some ⟨55, 3, []⟩), (2, some ⟨3, 1, cI 100 es l i (inW 100 es l i m)⟩), (3, some ⟨3, 1, tI es l i ((inC es l i (pC es l) m).t : Nat)⟩)], 4⟩) (fun m => m ≤ 6 ∧ i + m ≤ l.length) (fun m => 6 - m) 0 ⟨Nat.zero_le _, by omega⟩ ?_ ?_
      · refine Weak.of [(0, some 0), (1, some 1), (2, some 2), (3, some 3)] rfl ?_ ?_ <;> (repeat' (first|exact trivial|exact rfl|apply And.intro|refine ⟨_,rfl,rfl,rfl,OW.one ?_⟩|refine oWs rfl rfl rfl ?_ ?_|(refine aIm ?_;(exact AllSc.nil))))
        all_goals first
          | exact (cI_sc _ _ _ _ _).imm
          | exact (tI_sc _ _ _ _).imm
          | (show (cK 100 es l (i + 1)).set i [int (101 + ctW 100 es l (i + 1))] = cI 100 es l i (inW 100 es l i 0); rw [cK_new, hw0])
          | (show (tK es l (i + 1)).set i [int 0] = tI es l i _; rw [tK_new, inC]; rfl)
      · rintro m ⟨hm6, hml⟩
        have hsc1 := cI_sc 100 es l i (inW 100 es l i m)
        have hsc2 := tI_sc es l i ((inC es l i (pC es l) m).t : Nat)
        by_cases hlt : m < 6 ∧ i + (m + 1) ≤ l.length
        · obtain ⟨hlt1, hlt2⟩ := hlt
          have hm61 : ((m + 1 : Nat) : Int) ≤ 6 := by omega
          have hsum : (i : Int) + ((m + 1 : Nat) : Int) = ((i + (m + 1) : Nat) : Int) := by omega
          have hmin : (i : Int) + ((m + 1 : Nat) : Int) ≤ ((l.map yU).length : Int) := by omega
          have hg := l6Find_pf es (cut l i (m + 1)) hb (by rw [qL (by omega)]; omega)
          rw [qI] at hg
          have hat2 := cI_up (W := 100) (es := es) (l := l) (k := i) (j := i + (m + 1)) (x := inW 100 es l i m) (by omega) hlt2
          have hme := cI_me (W := 100) (es := es) (l := l) (i := i) (x := inW 100 es l i m) (by omega)
          have hpm := tI_me (es := es) (l := l) (i := i) (x := ((inC es l i (pC es l) m).t : Nat)) (by omega)
          have hb1 := ctW_bd (W := 100) (es := es) (j := i + (m + 1)) h60 (by omega) hlt2
          have hb2 := inW_bd (W := 100) (es := es) (l := l) (i := i) (n := m) hi h60 (by omega)
          have hl3 := cI_len 100 es l i (inW 100 es l i m)
          have hl4 := tI_len es l i ((inC es l i (pC es l) m).t : Nat)
          cases hh : hasE es (cut l i (m + 1)) with
          | false =>
            rw [hh] at hg
            have e1 : inW 100 es l i (m + 1) = inW 100 es l i m := by rw [inW, inC_no hh]; rfl
            (repeat' (first|(apply xW;(first|exact Want.none_ rfl|(refine z6 rfl rfl rfl rfl ?_;((exact dT ‹_›)))))|(apply xF zI;exact rfl;exact rfl)|((first|apply z8|(apply yT;exact rfl;exact rfl))<;>(first|exact zI|exact rfl|refine yI ?_|omega|exact ⟨rfl,_,_,rfl,rfl⟩|(refine Bd.mk ?_;(assumption))))|(apply y4;exact rfl;exact rfl;(first|exact dT ‹_›|exact rfl);exact rfl;exact rfl)|(apply y3;(iterate 5 exact rfl);((exact rfl)))|apply zS|(refine yN ?_ ?_;kernel_rfl)|apply AWp.Q|apply zH|apply AWp.G|apply AWp.B|apply AWp.J|apply zJ|(refine AWp.D ?_ ?_;kernel_rfl)|(apply AWp.T;exact rfl;((exact dT ‹_›)))|(apply AWp.F;exact rfl;((exact rfl)))|(apply yD;(iterate 6 exact rfl);(iterate 2 (focus (repeat (first|exact VAs.nil|apply VAs.cons|apply VA.c|apply VA.agg|exact VCs.nil|apply VCs.cons|exact VC.imm (Imm.sl _)))));((exact hg));(focus (repeat (first|exact trivial|exact Flat.v _|apply And.intro)));((apply yM));((exact xB _ _ _)))))
            refine ⟨m + 1, ⟨by omega, by omega⟩, by omega, ?_⟩
            rw [e1, inC_no hh]
            refine Weak.of [(0, some 0), (1, some 1), (2, some 2), (3, some 3)] rfl ?_ ?_ <;> (repeat' (first|exact trivial|exact rfl|apply And.intro|refine ⟨_,rfl,rfl,rfl,OW.one ?_⟩|refine oWs rfl rfl rfl ?_ ?_|(refine aIm ?_;first|exact AllSc.nil|assumption)))
          | true =>
            rw [hh] at hg
            by_cases hle : ctW 100 es l (i + (m + 1)) + 1 ≤ inW 100 es l i m
            · obtain ⟨e1, e2⟩ := inC_yes hi h60 (by omega) hlt2 hh hle
              have hle' : 1 + ctW 100 es l (i + (m + 1)) ≤ inW 100 es l i m := by omega
              (repeat' (first|(apply xW;(first|exact Want.none_ rfl|(refine z6 rfl rfl rfl rfl ?_;(first|exact dT ‹_›|exact rfl))))|(apply xF zI;exact rfl;exact rfl)|((first|apply z8|apply zW|(apply zU;exact rfl;exact rfl;exact zI;exact rfl;exact rfl)|(apply yT;exact rfl;exact rfl)|apply yE)<;>(first|exact zI|exact Nat.zero_add _|exact rfl|refine yI ?_|assumption|omega|exact ⟨rfl,_,_,rfl,rfl⟩|exact lb rfl|(refine Bd.mk ?_;(assumption))))|(apply y4;exact rfl;exact rfl;(first|exact dT ‹_›|exact rfl);exact rfl;exact rfl)|apply zS|(refine yN ?_ ?_;kernel_rfl)|apply AWp.Q|apply zH|apply AWp.G|apply AWp.B|apply AWp.J|apply zJ|(refine AWp.D ?_ ?_;kernel_rfl)|(apply AWp.T;exact rfl;((exact dT ‹_›)))|(apply yD;(iterate 6 exact rfl);(iterate 2 (focus (repeat (first|exact VAs.nil|apply VAs.cons|apply VA.c|apply VA.agg|exact VCs.nil|apply VCs.cons|exact VC.imm (Imm.sl _)))));((exact hg));(focus (repeat (first|exact trivial|exact Flat.v _|apply And.intro)));((apply yM));((exact xB _ _ _)))))
              refine ⟨m + 1, ⟨by omega, by omega⟩, by omega, ?_⟩
              rw [e1, e2, Int.add_comm (ctW 100 es l (i + (m + 1))) 1]
              refine Weak.of [(0, some 0), (1, some 1), (2, some 2), (3, some 3)] rfl ?_ ?_ <;> (repeat' (first|exact trivial|exact rfl|apply And.intro|refine ⟨_,rfl,rfl,rfl,OW.one ?_⟩|refine oWs rfl rfl rfl ?_ ?_|(refine aIm ?_;(exact AllSc.nil))))
              all_goals first
                | exact (cI_sc _ _ _ _ _).imm
                | exact (tI_sc _ _ _ _).imm
                | exact cI_set
                | exact tI_set
            · have e2 := inC_gt hi h60 (by omega) hlt2 hle
              have hle' : ¬ 1 + ctW 100 es l (i + (m + 1)) ≤ inW 100 es l i m := by omega
              have e1 : inW 100 es l i (m + 1) = inW 100 es l i m := by rw [inW, e2]; rfl
              (repeat' (first|(apply xW;(first|exact Want.none_ rfl|(refine z6 rfl rfl rfl rfl ?_;(first|exact dT ‹_›|exact rfl))))|(apply xF zI;exact rfl;exact rfl)|((first|apply z8|apply zW|(apply zU;exact rfl;exact rfl;exact zI;exact rfl;exact rfl)|(apply yT;exact rfl;exact rfl))<;>(first|exact zI|exact Nat.zero_add _|exact rfl|refine yI ?_|assumption|omega|exact ⟨rfl,_,_,rfl,rfl⟩|(refine Bd.mk ?_;(assumption))))|(apply y4;exact rfl;exact rfl;(first|exact dT ‹_›|exact rfl);exact rfl;exact rfl)|apply zS|(refine yN ?_ ?_;kernel_rfl)|apply AWp.Q|apply zH|apply AWp.G|apply AWp.B|apply AWp.J|apply zJ|(refine AWp.D ?_ ?_;kernel_rfl)|(apply AWp.T;exact rfl;((exact dT ‹_›)))|(apply AWp.F;exact rfl;((exact dF ‹_›)))|(apply yD;(iterate 6 exact rfl);(iterate 2 (focus (repeat (first|exact VAs.nil|apply VAs.cons|apply VA.c|apply VA.agg|exact VCs.nil|apply VCs.cons|exact VC.imm (Imm.sl _)))));((exact hg));(focus (repeat (first|exact trivial|exact Flat.v _|apply And.intro)));((apply yM));((exact xB _ _ _)))))
              refine ⟨m + 1, ⟨by omega, by omega⟩, by omega, ?_⟩
              rw [e1, e2]
              refine Weak.of [(0, some 0), (1, some 1), (2, some 2), (3, some 3)] rfl ?_ ?_ <;> (repeat' (first|exact trivial|exact rfl|apply And.intro|refine ⟨_,rfl,rfl,rfl,OW.one ?_⟩|refine oWs rfl rfl rfl ?_ ?_|(refine aIm ?_;first|exact AllSc.nil|assumption)))
        · have hend : inC es l i (pC es l) m = pC es l i := by rw [inC_end hm6 (by omega), ← pC_step hi]
          have e1 : inW 100 es l i m = ctW 100 es l i := by rw [inW, hend]; rfl
          have e2 : (((inC es l i (pC es l) m).t : Nat) : Int) = tv es l i := by rw [hend]; rfl
          rw [e1, e2, cI_done, tI_done]
          have hsc3 := cK_sc 100 es l i
          have hsc4 := tK_sc es l i
          by_cases hm : m < 6
          · have hm61 : ((m + 1 : Nat) : Int) ≤ 6 := by omega
            have hmin : ¬ (i : Int) + ((m + 1 : Nat) : Int) ≤ ((l.map yU).length : Int) := by omega
            (repeat' (first|(apply xW;(first|exact Want.none_ rfl|(refine z6 rfl rfl rfl rfl ?_;((exact dT ‹_›)))))|(apply xF zI;exact rfl;exact rfl)|((first|apply z8|apply yZ)<;>(first|exact rfl|refine yI ?_|omega))|(apply y4;exact rfl;exact rfl;((exact dT ‹_›));exact rfl;exact rfl)|apply zS|apply AWp.Q|apply zH|apply AWp.G|apply AWp.X|apply zR|apply zJ|apply zO|(apply AWp.F;exact rfl;((exact dF ‹_›)))))
            refine ⟨i, by omega, by omega, ?_⟩
            refine Weak.of [(0, some 0), (1, some 1), (2, some 2), (3, some 3)] rfl ?_ ?_ <;> (repeat' (first|exact trivial|exact rfl|apply And.intro|refine ⟨_,rfl,rfl,rfl,OW.one ?_⟩|refine oWs rfl rfl rfl ?_ ?_|(refine aIm ?_;first|exact AllSc.nil|assumption)))
          · have hm61 : ¬ ((m + 1 : Nat) : Int) ≤ 6 := by omega
            (repeat' (first|(apply xW;((exact Want.none_ rfl)))|(apply xF zI;exact rfl;exact rfl)|(((apply yZ))<;>(first|exact rfl|refine yI ?_|omega))|(apply y4;exact rfl;exact rfl;((exact dF ‹_›));exact rfl;exact rfl)|(apply y3;(iterate 5 exact rfl);((exact dF ‹_›)))|apply zS|apply AWp.Q|apply zH|apply AWp.G|apply AWp.X|apply zR|apply zJ|apply zO|(apply AWp.F;exact rfl;((exact rfl)))))
            refine ⟨i, by omega, by omega, ?_⟩
            refine Weak.of [(0, some 0), (1, some 1), (2, some 2), (3, some 3)] rfl ?_ ?_ <;> (repeat' (first|exact trivial|exact rfl|apply And.intro|refine ⟨_,rfl,rfl,rfl,OW.one ?_⟩|refine oWs rfl rfl rfl ?_ ?_|(refine aIm ?_;first|exact AllSc.nil|assumption)))
end Go.Proofs.YtchpdclknbmdoaaGreatDoor
