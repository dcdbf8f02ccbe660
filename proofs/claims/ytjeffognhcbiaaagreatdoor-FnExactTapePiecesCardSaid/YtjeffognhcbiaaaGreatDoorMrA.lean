/- A tape's runs as lists of integers. -/
import Derived.Test.YtjeffognhcbiaaaGreatDoorTpA
namespace Go.Proofs.YtjeffognhcbiaaaGreatDoor
open Go Go.RowKit
def rsP (t : List Itm) : Nat → List (List Int) × List Int
  | 0 => ([], [])
  | k + 1 => match t[k]? with
    | some i => if k = 0 then ([], [i.s]) else if i.b then ((rsP t k).1 ++ [(rsP t k).2], [i.s]) else ((rsP t k).1, (rsP t k).2 ++ [i.s])
    | none => rsP t k
def runsT (t : List Itm) : List (List Int) := if t.length = 0 then [] else (rsP t t.length).1 ++ [(rsP t t.length).2]
theorem rsP_one {t : List Itm} {i : Itm} (h : t[0]? = some i) : rsP t 1 = ([], [i.s]) := by
  rw [rsP, h]; rfl
theorem rsP_bar {t : List Itm} {k : Nat} {i : Itm} (h : t[k + 1]? = some i) (hb : i.b = true) : rsP t (k + 2) = ((rsP t (k + 1)).1 ++ [(rsP t (k + 1)).2], [i.s]) := by
  rw [rsP, h]; simp [hb]
theorem rsP_non {t : List Itm} {k : Nat} {i : Itm} (h : t[k + 1]? = some i) (hb : i.b = false) : rsP t (k + 2) = ((rsP t (k + 1)).1, (rsP t (k + 1)).2 ++ [i.s]) := by
  rw [rsP, h]; simp [hb]
theorem rsP_len (t : List Itm) : ∀ k, (rsP t k).1.length ≤ k ∧ (rsP t k).2.length ≤ k
  | 0 => ⟨Nat.le_refl _, Nat.le_refl _⟩
  | k + 1 => by
    have ih := rsP_len t k
    rw [rsP]
    cases t[k]? with
    | none => exact ⟨Nat.le_succ_of_le ih.1, Nat.le_succ_of_le ih.2⟩
    | some i =>
      dsimp only
      split
      · exact ⟨Nat.zero_le _, by simp⟩
      · split <;> simp <;> omega
theorem All2.app {α β : Type} {R : α → β → Prop} {c : List α} {d : List β} (h' : All2 R c d) : ∀ {a : List α} {b : List β}, All2 R a b → All2 R (a ++ c) (b ++ d)
  | _, _, .nil => h'
  | _, _, .cons h hs => .cons h (All2.app h' hs)
theorem set_snoc {α : Type} {D : List α} {x y : α} {n : Nat} (h : n = D.length) : (D ++ [x]).set n y = D ++ [y] := by
  subst h; simp
def eR (r : List Int) : List Cell := [.sl (r.map yW)]
def rsS (t : List Itm) : Nat → AS
  | 0 => ⟨[(3, .c (.ref 0 0 0)), (8, .c (.sl (t.map yO))), (9, .c (int t.length)), (10, .c (int 0))], [(0, some ⟨50, 1, []⟩)], 1⟩
  | k + 1 => ⟨[(3, .c (.ref 0 0 ((rsP t (k + 1)).1.length + 1))), (8, .c (.sl (t.map yO))), (9, .c (int t.length)), (10, .c (int ((k + 1 : Nat) : Int)))], [(0, some ⟨50, 1, (rsP t (k + 1)).1.map eR ++ [[.ref 1 0 (rsP t (k + 1)).2.length]]⟩), (1, some ⟨3, 1, ((rsP t (k + 1)).2.map yW)⟩)], 2⟩
theorem cws_eR (ρ : Ren) : ∀ l : List (List Int), All2 (CWs ρ) (l.map eR) (l.map eR)
  | [] => .nil
  | _ :: l => .cons ⟨rfl, trivial⟩ (cws_eR ρ l)
theorem vI (l : List (List Int)) : ∀ x ∈ l.map eR, ∀ c ∈ x, Imm c := by
  intro x hx c hc
  obtain ⟨p, _, rfl⟩ := List.mem_map.1 hx
  simp only [eR, List.mem_singleton] at hc
  subst hc
  exact Imm.sl _
theorem runs_pf (t : List Itm) (hl : t.length ≤ 4000000) : PF Tryz.prog 37 [.agg (xU t)] [⟨50, 1, (runsT t).map eR⟩] (.c (.ref 0 0 (runsT t).length)) := by
  refine PF.enter (xL _) Tryz.func37 rfl (by kernel_rfl) _ _ rfl rfl rfl (fun w0 mu I0 β0 gi dis => ?_)
  have hL : (t.map yO).length = t.length := List.length_map _
  (repeat' (first|(apply xW;(first|exact Want.none_ rfl|(refine zY rfl rfl rfl rfl ?_;(first|assumption|exact dT ‹_›|exact dF ‹_›|exact rfl))))|(apply xF zH;exact rfl;exact rfl)|((first|(apply yB;exact rfl;exact rfl)|apply yA|(apply yT;exact rfl;exact rfl;exact rfl)|apply xB|(apply zX;exact rfl;exact rfl)|apply zT|(apply zR;exact rfl;exact rfl;exact zH;exact rfl;exact rfl)|apply zN|apply yE|apply zU|(apply yV;exact rfl;exact rfl)|apply yU|apply yM)<;>(first|exact zH|exact Nat.zero_add _|exact rfl|refine yH ?_|assumption|omega|exact ⟨rfl⟩|exact ⟨rfl,_,_,rfl,rfl⟩|exact lb rfl|(refine Bd.mk ?_;first|assumption|omega|(focus (simp;done))|(simp;omega)|decide)|exact zS ‹_›|exact zS (zS ‹_›)|exact xD rfl|exact x5 ‹_›|(focus (simp;done))|(simp;omega)|(simp only [lA,lB,lC,lD,lE];omega)|exact y4 rfl (by first|rfl|(simp;done)|(simp only [lA,lB,lC,lD,lE];omega))|exact y5 rfl (by first|assumption|omega|(simp only [lA,lB,lC,lD,lE];omega))))|(apply yY;exact rfl;exact rfl;(first|assumption|exact dT ‹_›|exact dF ‹_›|exact rfl);exact rfl;exact rfl)|(apply yX;(iterate 5 exact rfl);(first|assumption|exact dT ‹_›|exact dF ‹_›|exact rfl))|(apply yN;(iterate 5 exact rfl))|apply zQ|(refine yP ?_ ?_;kernel_rfl)|apply AWp.Q|apply zG|apply AWp.G|apply AWp.B|apply AWp.J|apply AWp.X|apply AWp.R|apply zO|apply zK|apply zI|apply zM|apply zL|(refine AWp.D ?_ ?_;kernel_rfl)|(refine zJ rfl ?_)|(apply AWp.T;exact rfl;(first|assumption|exact dT ‹_›|exact dF ‹_›|exact rfl))|(apply AWp.F;exact rfl;(first|assumption|exact dT ‹_›|exact dF ‹_›|exact rfl))|((first|refine yD rfl rfl rfl ?_ ?_|refine yG rfl rfl rfl ?_ ?_)<;>intro hp<;>try (exfalso;omega))|((first|refine AWp.C rfl ?_ ?_|refine AWp.O _ rfl ?_ ?_)<;>intro hp<;>try (exfalso;omega))))
  refine AWp.U (σ := Nat) (rsS t) (fun k => k ≤ t.length) (fun k => t.length - k) 0 (Nat.zero_le _) ?_ ?_
  · rw [rsS]
    refine Weak.of [(0, some 1)] rfl ?_ ?_ <;> (repeat' (first|exact trivial|exact rfl|exact oRi ‹_›|exact oLi|apply And.intro|(apply cgI;first|omega|(simp;done)|(simp;omega))|(refine yC ?_;first|(focus (simp;done))|omega|(simp only [lA,lB,lC,lD,lE];omega))|refine ⟨_,rfl,rfl,rfl,OW.one ?_⟩|refine oWs rfl rfl rfl ?_ ?_|refine vwB ?_|refine vwS ?_|refine vwI ?_|refine fwB ?_|refine fwS ?_|refine fwI ?_|(refine aIm ?_;first|exact AllSc.nil|assumption)))
  · intro k hk
    by_cases hlt : k < t.length
    · obtain ⟨c, hc⟩ := xM hlt
      have hc' : (t.map yO)[k]? = some (yO c) := xI hc
      have hlt' : (k : Int) < (t.length : Int) := by omega
      have hlen := rsP_len t k
      rcases k with _ | k
      · rw [rsS]
        (repeat' (first|(apply xW;(first|exact Want.none_ rfl|(refine zY rfl rfl rfl rfl ?_;(first|assumption|exact dT ‹_›|exact dF ‹_›|exact rfl))))|(apply xF zH;exact rfl;exact rfl)|((first|(apply yB;exact rfl;exact rfl)|apply yA|(apply yT;exact rfl;exact rfl;exact rfl)|apply xB|(apply zX;exact rfl;exact rfl)|apply zT|(apply zR;exact rfl;exact rfl;exact zH;exact rfl;exact rfl)|apply zN|apply yE|apply zU|(apply yV;exact rfl;exact rfl)|apply yU|apply yM)<;>(first|exact zH|exact Nat.zero_add _|exact rfl|refine yH ?_|assumption|omega|exact ⟨rfl⟩|exact ⟨rfl,_,_,rfl,rfl⟩|exact lb rfl|(refine Bd.mk ?_;first|assumption|omega|(focus (simp;done))|(simp;omega)|decide)|exact zS ‹_›|exact zS (zS ‹_›)|exact xD rfl|exact x5 ‹_›|(focus (simp;done))|(simp;omega)|(simp only [lA,lB,lC,lD,lE];omega)|exact y4 rfl (by first|rfl|(simp;done)|(simp only [lA,lB,lC,lD,lE];omega))|exact y5 rfl (by first|assumption|omega|(simp only [lA,lB,lC,lD,lE];omega))))|(apply yY;exact rfl;exact rfl;(first|assumption|exact dT ‹_›|exact dF ‹_›|exact rfl);exact rfl;exact rfl)|(apply yX;(iterate 5 exact rfl);(first|assumption|exact dT ‹_›|exact dF ‹_›|exact rfl))|(apply yN;(iterate 5 exact rfl))|apply zQ|(refine yP ?_ ?_;kernel_rfl)|apply AWp.Q|apply zG|apply AWp.G|apply AWp.B|apply AWp.J|apply AWp.X|apply AWp.R|apply zO|apply zK|apply zI|apply zM|apply zL|(refine AWp.D ?_ ?_;kernel_rfl)|(refine zJ rfl ?_)|(apply AWp.T;exact rfl;(first|assumption|exact dT ‹_›|exact dF ‹_›|exact rfl))|(apply AWp.F;exact rfl;(first|assumption|exact dT ‹_›|exact dF ‹_›|exact rfl))|((first|refine yD rfl rfl rfl ?_ ?_|refine yG rfl rfl rfl ?_ ?_)<;>intro hp<;>try (exfalso;omega))|((first|refine AWp.C rfl ?_ ?_|refine AWp.O _ rfl ?_ ?_)<;>intro hp<;>try (exfalso;omega))))
        refine ⟨1, by omega, by omega, ?_⟩
        rw [rsS, rsP_one hc]
        refine Weak.of [(0, some 4), (1, some 6)] rfl ?_ ?_ <;> (repeat' (first|exact trivial|exact rfl|exact oRi ‹_›|exact oLi|apply And.intro|(apply cgI;first|omega|(simp;done)|(simp;omega))|(refine yC ?_;first|(focus (simp;done))|omega|(simp only [lA,lB,lC,lD,lE];omega))|refine ⟨_,rfl,rfl,rfl,OW.one ?_⟩|refine oWs rfl rfl rfl ?_ ?_|refine vwB ?_|refine vwS ?_|refine vwI ?_|refine fwB ?_|refine fwS ?_|refine fwI ?_|(refine aIm ?_;first|exact AllSc.nil|assumption)))
      · rw [rsS]
        have hz : ¬ ((k + 1 : Nat) : Int) = 0 := by omega
        have hnl : ((rsP t (k + 1)).2.map yW).length = (rsP t (k + 1)).2.length := List.length_map _
        cases hb : c.b with
        | true =>
          have hX : ((rsP t (k + 1)).1.map eR ++ [[Cell.ref 1 0 (rsP t (k + 1)).2.length]]).length = (rsP t (k + 1)).1.length + 1 := by simp
          have hi : (((((rsP t (k + 1)).1.map eR ++ [[Cell.ref 1 0 (rsP t (k + 1)).2.length]]).length + 1 : Nat) : Int) - 1) = ((((rsP t (k + 1)).1.map eR ++ [[Cell.ref 1 0 (rsP t (k + 1)).2.length]]).length : Nat) : Int) := by omega
          have hr : (((rsP t (k + 1)).1.map eR ++ [[Cell.ref 1 0 (rsP t (k + 1)).2.length]]) ++ [[Cell.ref 3 0 0]])[((rsP t (k + 1)).1.map eR ++ [[Cell.ref 1 0 (rsP t (k + 1)).2.length]]).length]? = some [Cell.ref 3 0 0] := by simp
          (repeat' (first|(apply xW;(first|exact Want.none_ rfl|(refine zY rfl rfl rfl rfl ?_;(first|assumption|exact dT ‹_›|exact dF ‹_›|exact rfl))))|(apply xF zH;exact rfl;exact rfl)|((first|(apply yB;exact rfl;exact rfl)|apply yA|(apply yT;exact rfl;exact rfl;exact rfl)|apply xB|(apply zX;exact rfl;exact rfl)|apply zT|(apply zR;exact rfl;exact rfl;exact zH;exact rfl;exact rfl)|apply zN|apply yE|apply zU|(apply yV;exact rfl;exact rfl)|apply yU|apply yM)<;>(first|exact zH|exact Nat.zero_add _|exact rfl|refine yH ?_|assumption|omega|exact ⟨rfl⟩|exact ⟨rfl,_,_,rfl,rfl⟩|exact lb rfl|(refine Bd.mk ?_;first|assumption|omega|(focus (simp;done))|(simp;omega)|decide)|exact zS ‹_›|exact zS (zS ‹_›)|exact xD rfl|exact x5 ‹_›|(focus (simp;done))|(simp;omega)|(simp only [lA,lB,lC,lD,lE];omega)|exact y4 rfl (by first|rfl|(simp;done)|(simp only [lA,lB,lC,lD,lE];omega))|exact y5 rfl (by first|assumption|omega|(simp only [lA,lB,lC,lD,lE];omega))))|(apply yY;exact rfl;exact rfl;(first|assumption|exact dT ‹_›|exact dF ‹_›|exact rfl);exact rfl;exact rfl)|(apply yX;(iterate 5 exact rfl);(first|assumption|exact dT ‹_›|exact dF ‹_›|exact rfl))|(apply yN;(iterate 5 exact rfl))|apply zQ|(refine yP ?_ ?_;kernel_rfl)|apply AWp.Q|apply zG|apply AWp.G|apply AWp.B|apply AWp.J|apply AWp.X|apply AWp.R|apply zO|apply zK|apply zI|apply zM|apply zL|(refine AWp.D ?_ ?_;kernel_rfl)|(refine zJ rfl ?_)|(apply AWp.T;exact rfl;(first|assumption|exact dT ‹_›|exact dF ‹_›|exact rfl))|(apply AWp.F;exact rfl;(first|assumption|exact dT ‹_›|exact dF ‹_›|exact rfl))|((first|refine yD rfl rfl rfl ?_ ?_|refine yG rfl rfl rfl ?_ ?_)<;>intro hp<;>try (exfalso;omega))|((first|refine AWp.C rfl ?_ ?_|refine AWp.O _ rfl ?_ ?_)<;>intro hp<;>try (exfalso;omega))))
          refine ⟨k + 2, by omega, by omega, ?_⟩
          rw [rsS, rsP_bar hc hb]
          refine Weak.frz 1 5 (out' := ⟨50, 1, ((rsP t (k + 1)).1.map eR ++ [eR (rsP t (k + 1)).2]) ++ [[.ref 7 0 1]]⟩) vU rfl rfl rfl (vH _).imm rfl rfl ?_ ?_
          · show All2 _ (((rsP t (k + 1)).1.map eR ++ [[Cell.ref 1 0 (rsP t (k + 1)).2.length]] ++ [[Cell.ref 3 0 0]]).set ((rsP t (k + 1)).1.map eR ++ [[Cell.ref 1 0 (rsP t (k + 1)).2.length]]).length [Cell.ref 7 0 1]) _
            rw [set_snoc rfl]
            refine All2.app (.cons (.cons (.same _) .nil) .nil) (All2.app (.cons (.cons (.ref _ hnl.symm) .nil) .nil) (All2.refl (fun l => All2.refl (fun c => .same c) l) _))
          refine Weak.of [(0, some 5), (1, some 7)] rfl ?_ ?_
          · (repeat' (first|exact trivial|exact rfl|exact oRi ‹_›|exact oLi|apply And.intro|(apply cgI;first|omega|(simp;done)|(simp;omega))|(refine yC ?_;first|(focus (simp;done))|omega|(simp only [lA,lB,lC,lD,lE];omega))|refine ⟨_,rfl,rfl,rfl,OW.one ?_⟩|refine oWs rfl rfl rfl ?_ ?_|refine vwB ?_|refine vwS ?_|refine vwI ?_|refine fwB ?_|refine fwS ?_|refine fwI ?_|(refine aIm ?_;first|exact AllSc.nil|assumption)))
          refine ⟨⟨_, rfl, rfl, rfl, OW.all ?_⟩, ⟨_, rfl, rfl, rfl, OW.same ?_ (vH _).imm⟩, trivial⟩
          · show All2 _ _ (((rsP t (k + 1)).1 ++ [(rsP t (k + 1)).2]).map eR ++ [[Cell.ref 1 0 1]])
            rw [List.map_append]
            exact All2.app (.cons ⟨⟨rfl, rfl, rfl⟩, trivial⟩ .nil) (All2.app (.cons ⟨rfl, trivial⟩ .nil) (cws_eR _ _))
          · rfl
        | false =>
          have hi : (((rsP t (k + 1)).1.length + 1 : Nat) : Int) - 1 = (((rsP t (k + 1)).1.length : Nat) : Int) := by omega
          have hr : ((rsP t (k + 1)).1.map eR ++ [[Cell.ref 1 0 (rsP t (k + 1)).2.length]])[(rsP t (k + 1)).1.length]? = some [Cell.ref 1 0 (rsP t (k + 1)).2.length] := by
            rw [List.getElem?_append_right (by simp)]; simp
          (repeat' (first|(apply xW;(first|exact Want.none_ rfl|(refine zY rfl rfl rfl rfl ?_;(first|assumption|exact dT ‹_›|exact dF ‹_›|exact rfl))))|(apply xF zH;exact rfl;exact rfl)|((first|(apply yB;exact rfl;exact rfl)|apply yA|(apply yT;exact rfl;exact rfl;exact rfl)|apply xB|(apply zX;exact rfl;exact rfl)|apply zT|(apply zR;exact rfl;exact rfl;exact zH;exact rfl;exact rfl)|apply zN|apply yE|apply zU|(apply yV;exact rfl;exact rfl)|apply yU|apply yM)<;>(first|exact zH|exact Nat.zero_add _|exact rfl|refine yH ?_|assumption|omega|exact ⟨rfl⟩|exact ⟨rfl,_,_,rfl,rfl⟩|exact lb rfl|(refine Bd.mk ?_;first|assumption|omega|(focus (simp;done))|(simp;omega)|decide)|exact zS ‹_›|exact zS (zS ‹_›)|exact xD rfl|exact x5 ‹_›|(focus (simp;done))|(simp;omega)|(simp only [lA,lB,lC,lD,lE];omega)|exact y4 rfl (by first|rfl|(simp;done)|(simp only [lA,lB,lC,lD,lE];omega))|exact y5 rfl (by first|assumption|omega|(simp only [lA,lB,lC,lD,lE];omega))))|(apply yY;exact rfl;exact rfl;(first|assumption|exact dT ‹_›|exact dF ‹_›|exact rfl);exact rfl;exact rfl)|(apply yX;(iterate 5 exact rfl);(first|assumption|exact dT ‹_›|exact dF ‹_›|exact rfl))|(apply yN;(iterate 5 exact rfl))|apply zQ|(refine yP ?_ ?_;kernel_rfl)|apply AWp.Q|apply zG|apply AWp.G|apply AWp.B|apply AWp.J|apply AWp.X|apply AWp.R|apply zO|apply zK|apply zI|apply zM|apply zL|(refine AWp.D ?_ ?_;kernel_rfl)|(refine zJ rfl ?_)|(apply AWp.T;exact rfl;(first|assumption|exact dT ‹_›|exact dF ‹_›|exact rfl))|(apply AWp.F;exact rfl;(first|assumption|exact dT ‹_›|exact dF ‹_›|exact rfl))|((first|refine yD rfl rfl rfl ?_ ?_|refine yG rfl rfl rfl ?_ ?_)<;>intro hp<;>try (exfalso;omega))|((first|refine AWp.C rfl ?_ ?_|refine AWp.O _ rfl ?_ ?_)<;>intro hp<;>try (exfalso;omega))))
          refine ⟨k + 2, by omega, by omega, ?_⟩
          rw [rsS, rsP_non hc hb]
          refine Weak.of [(0, some 0), (1, some 4)] rfl ?_ ?_
          · (repeat' (first|exact trivial|exact rfl|exact oRi ‹_›|exact oLi|apply And.intro|(apply cgI;first|omega|(simp;done)|(simp;omega))|(refine yC ?_;first|(focus (simp;done))|omega|(simp only [lA,lB,lC,lD,lE];omega))|refine ⟨_,rfl,rfl,rfl,OW.one ?_⟩|refine oWs rfl rfl rfl ?_ ?_|refine vwB ?_|refine vwS ?_|refine vwI ?_|refine fwB ?_|refine fwS ?_|refine fwI ?_|(refine aIm ?_;first|exact AllSc.nil|assumption)))
          refine ⟨⟨_, rfl, rfl, rfl, OW.all ?_⟩, ⟨_, rfl, rfl, rfl, OW.same ?_ (vH _).imm⟩, trivial⟩
          · show All2 _ (((rsP t (k + 1)).1.map eR ++ [[Cell.ref 1 0 (rsP t (k + 1)).2.length]]).set (rsP t (k + 1)).1.length [Cell.ref 4 0 ((((rsP t (k + 1)).2.map yW)).length + 1)]) ((rsP t (k + 1)).1.map eR ++ [[Cell.ref 1 0 ((rsP t (k + 1)).2 ++ [c.s]).length]])
            rw [set_snoc (by simp), hnl]
            refine All2.app (.cons ⟨⟨rfl, rfl, ?_⟩, trivial⟩ .nil) (cws_eR _ _)
            simp
          · show ((rsP t (k + 1)).2.map yW) ++ [[int c.s]] = ((rsP t (k + 1)).2 ++ [c.s]).map yW
            rw [List.map_append]; rfl
    · have hlt' : ¬ (k : Int) < (t.length : Int) := by omega
      obtain rfl : k = t.length := by omega
      rcases h0 : t.length with _ | n
      · rw [rsS, runsT, if_pos h0]
        (repeat' (first|(apply xW;(first|exact Want.none_ rfl|(refine zY rfl rfl rfl rfl ?_;(first|assumption|exact dT ‹_›|exact dF ‹_›|exact rfl))))|(apply xF zH;exact rfl;exact rfl)|((first|(apply yB;exact rfl;exact rfl)|apply yA|(apply yT;exact rfl;exact rfl;exact rfl)|apply xB|(apply zX;exact rfl;exact rfl)|apply zT|(apply zR;exact rfl;exact rfl;exact zH;exact rfl;exact rfl)|apply zN|apply yE|apply zU|(apply yV;exact rfl;exact rfl)|apply yU|apply yM)<;>(first|exact zH|exact Nat.zero_add _|exact rfl|refine yH ?_|assumption|omega|exact ⟨rfl⟩|exact ⟨rfl,_,_,rfl,rfl⟩|exact lb rfl|(refine Bd.mk ?_;first|assumption|omega|(focus (simp;done))|(simp;omega)|decide)|exact zS ‹_›|exact zS (zS ‹_›)|exact xD rfl|exact x5 ‹_›|(focus (simp;done))|(simp;omega)|(simp only [lA,lB,lC,lD,lE];omega)|exact y4 rfl (by first|rfl|(simp;done)|(simp only [lA,lB,lC,lD,lE];omega))|exact y5 rfl (by first|assumption|omega|(simp only [lA,lB,lC,lD,lE];omega))))|(apply yY;exact rfl;exact rfl;(first|assumption|exact dT ‹_›|exact dF ‹_›|exact rfl);exact rfl;exact rfl)|(apply yX;(iterate 5 exact rfl);(first|assumption|exact dT ‹_›|exact dF ‹_›|exact rfl))|(apply yN;(iterate 5 exact rfl))|apply zQ|(refine yP ?_ ?_;kernel_rfl)|apply AWp.Q|apply zG|apply AWp.G|apply AWp.B|apply AWp.J|apply AWp.X|apply AWp.R|apply zO|apply zK|apply zI|apply zM|apply zL|(refine AWp.D ?_ ?_;kernel_rfl)|(refine zJ rfl ?_)|(apply AWp.T;exact rfl;(first|assumption|exact dT ‹_›|exact dF ‹_›|exact rfl))|(apply AWp.F;exact rfl;(first|assumption|exact dT ‹_›|exact dF ‹_›|exact rfl))|((first|refine yD rfl rfl rfl ?_ ?_|refine yG rfl rfl rfl ?_ ?_)<;>intro hp<;>try (exfalso;omega))|((first|refine AWp.C rfl ?_ ?_|refine AWp.O _ rfl ?_ ?_)<;>intro hp<;>try (exfalso;omega))))
        ((first|refine zW _ [(0, some 0)] (.cons (zP rfl) .nil) ?_ rfl ?_|refine zZ _ [(0, some 0)] (.cons (zP rfl) .nil) ?_ rfl ?_) <;> (repeat' (first|exact trivial|exact rfl|exact oRi ‹_›|exact oLi|apply And.intro|(apply cgI;first|omega|(simp;done)|(simp;omega))|(refine yC ?_;first|(focus (simp;done))|omega|(simp only [lA,lB,lC,lD,lE];omega))|refine ⟨_,rfl,rfl,rfl,OW.one ?_⟩|refine oWs rfl rfl rfl ?_ ?_|refine vwB ?_|refine vwS ?_|refine vwI ?_|refine fwB ?_|refine fwS ?_|refine fwI ?_|(refine aIm ?_;first|exact AllSc.nil|assumption))))
      · rw [rsS, runsT, if_neg (by omega), h0]
        have hnl : ((rsP t (n + 1)).2.map yW).length = (rsP t (n + 1)).2.length := List.length_map _
        have hln : ((n + 1 : Nat) : Int) = (t.length : Int) := by omega
        refine AWp.weaken (s' := ⟨[(3, .c (.ref 0 0 ((rsP t (n + 1)).1.length + 1))), (9, .c (int t.length)), (10, .c (int t.length))], [(0, some ⟨50, 1, ((rsP t (n + 1)).1 ++ [(rsP t (n + 1)).2]).map eR⟩)], 1⟩) ?_ ?_
        · refine Weak.frz 1 0 (out' := ⟨50, 1, ((rsP t (n + 1)).1 ++ [(rsP t (n + 1)).2]).map eR⟩) vU rfl rfl rfl (vH _).imm rfl rfl ?_ ?_
          · rw [List.map_append]
            exact All2.app (.cons (.cons (.ref _ hnl.symm) .nil) .nil) (All2.refl (fun l => All2.refl (fun c => .same c) l) _)
          · refine Weak.of [(0, some 0)] rfl ?_ ?_ <;> (repeat' (first|exact trivial|exact rfl|exact oRi ‹_›|exact oLi|apply And.intro|(apply cgI;first|omega|(simp;done)|(simp;omega))|(refine yC ?_;first|(focus (simp;done))|omega|(simp only [lA,lB,lC,lD,lE];omega))|refine ⟨_,rfl,rfl,rfl,OW.one ?_⟩|refine oWs rfl rfl rfl ?_ ?_|refine vwB ?_|refine vwS ?_|refine vwI ?_|refine fwB ?_|refine fwS ?_|refine fwI ?_|(refine aIm ?_;first|exact AllSc.nil|assumption)))
            exact vI _
        · (repeat' (first|(apply xW;(first|exact Want.none_ rfl|(refine zY rfl rfl rfl rfl ?_;(first|assumption|exact dT ‹_›|exact dF ‹_›|exact rfl))))|(apply xF zH;exact rfl;exact rfl)|((first|(apply yB;exact rfl;exact rfl)|apply yA|(apply yT;exact rfl;exact rfl;exact rfl)|apply xB|(apply zX;exact rfl;exact rfl)|apply zT|(apply zR;exact rfl;exact rfl;exact zH;exact rfl;exact rfl)|apply zN|apply yE|apply zU|(apply yV;exact rfl;exact rfl)|apply yU|apply yM)<;>(first|exact zH|exact Nat.zero_add _|exact rfl|refine yH ?_|assumption|omega|exact ⟨rfl⟩|exact ⟨rfl,_,_,rfl,rfl⟩|exact lb rfl|(refine Bd.mk ?_;first|assumption|omega|(focus (simp;done))|(simp;omega)|decide)|exact zS ‹_›|exact zS (zS ‹_›)|exact xD rfl|exact x5 ‹_›|(focus (simp;done))|(simp;omega)|(simp only [lA,lB,lC,lD,lE];omega)|exact y4 rfl (by first|rfl|(simp;done)|(simp only [lA,lB,lC,lD,lE];omega))|exact y5 rfl (by first|assumption|omega|(simp only [lA,lB,lC,lD,lE];omega))))|(apply yY;exact rfl;exact rfl;(first|assumption|exact dT ‹_›|exact dF ‹_›|exact rfl);exact rfl;exact rfl)|(apply yX;(iterate 5 exact rfl);(first|assumption|exact dT ‹_›|exact dF ‹_›|exact rfl))|(apply yN;(iterate 5 exact rfl))|apply zQ|(refine yP ?_ ?_;kernel_rfl)|apply AWp.Q|apply zG|apply AWp.G|apply AWp.B|apply AWp.J|apply AWp.X|apply AWp.R|apply zO|apply zK|apply zI|apply zM|apply zL|(refine AWp.D ?_ ?_;kernel_rfl)|(refine zJ rfl ?_)|(apply AWp.T;exact rfl;(first|assumption|exact dT ‹_›|exact dF ‹_›|exact rfl))|(apply AWp.F;exact rfl;(first|assumption|exact dT ‹_›|exact dF ‹_›|exact rfl))|((first|refine yD rfl rfl rfl ?_ ?_|refine yG rfl rfl rfl ?_ ?_)<;>intro hp<;>try (exfalso;omega))|((first|refine AWp.C rfl ?_ ?_|refine AWp.O _ rfl ?_ ?_)<;>intro hp<;>try (exfalso;omega))))
          ((first|refine zW _ [(0, some 0)] (.cons (zP rfl) .nil) ?_ rfl ?_|refine zZ _ [(0, some 0)] (.cons (zP rfl) .nil) ?_ rfl ?_) <;> (repeat' (first|exact trivial|exact rfl|exact oRi ‹_›|exact oLi|apply And.intro|(apply cgI;first|omega|(simp;done)|(simp;omega))|(refine yC ?_;first|(focus (simp;done))|omega|(simp only [lA,lB,lC,lD,lE];omega))|refine ⟨_,rfl,rfl,rfl,OW.one ?_⟩|refine oWs rfl rfl rfl ?_ ?_|refine vwB ?_|refine vwS ?_|refine vwI ?_|refine fwB ?_|refine fwS ?_|refine fwI ?_|(refine aIm ?_;first|exact AllSc.nil|assumption))))
          all_goals first | exact vI _ | (simp; done) | skip
end Go.Proofs.YtjeffognhcbiaaaGreatDoor
