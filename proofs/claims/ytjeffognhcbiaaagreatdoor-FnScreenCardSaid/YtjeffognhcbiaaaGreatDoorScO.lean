/- The program's screenOf, ScreenOf. No conditions but bounds of lengths. -/
import Derived.Test.YtjeffognhcbiaaaGreatDoorScN
import Derived.Test.YtjeffognhcbiaaaGreatDoorSRep
import Derived.Test.YtjeffognhcbiaaaGreatDoorTpGz
namespace Go.Proofs.YtjeffognhcbiaaaGreatDoor
open Go Go.RowKit
theorem idx_no : ∀ {u : List UInt8}, (35 : UInt8) ∉ u → Lib.index u [35] = -1
  | [], _ => rfl
  | b :: u, h => by
    rw [List.mem_cons, not_or] at h
    have h0 : ([35] : List UInt8).isPrefixOf (b :: u) = false := by
      simp [List.isPrefixOf, h.1]
    unfold Lib.index
    rw [h0, idx_no h.2]
    rfl
theorem idx_at0 (u : List UInt8) : Lib.index (35 :: u) [35] = 0 := by
  unfold Lib.index
  rw [show ([35] : List UInt8).isPrefixOf (35 :: u) = true by simp [List.isPrefixOf]]
  rfl
theorem cnt_no {u : List UInt8} (h : (35 : UInt8) ∉ u) : ∀ n, Lib.countFrom [35] n u = 0
  | 0 => rfl
  | n + 1 => by rw [Lib.countFrom, idx_no h]; rfl
theorem rep_raw {b : UInt8} {u : List UInt8} (h : (35 : UInt8) ∉ u) : Lib.replaceAll (b :: u) [35] [61] = rawL (b :: u) := by
  have hne : (([35] : List UInt8) == [61]) = false := by decide
  rw [Lib.replaceAll, Lib.replace, hne, Lib.replaceNum, if_pos (Or.inl (by decide)), if_neg (by decide), Lib.count]
  by_cases hb : b = 35
  · subst hb
    have e1 : Lib.countFrom [35] ((35 :: u).length + 1) (35 :: u) = 1 := by
      rw [Lib.countFrom, idx_at0, if_neg (by decide)]
      show 1 + Lib.countFrom [35] _ u = 1
      rw [cnt_no h]
    rw [e1, Lib.replaceK_hit _ _ 0 _ 0 (idx_at0 u), show rawL (35 :: u) = 61 :: u from (if_pos (by decide) : (if (((35 : UInt8).toNat : Nat) : Int) = 35 then 61 :: u else 35 :: u) = 61 :: u)]
    rfl
  · have hn : (35 : UInt8) ∉ b :: u := by
      rw [List.mem_cons, not_or]
      exact ⟨fun e => hb e.symm, h⟩
    have hb' : ¬ ((b.toNat : Nat) : Int) = 35 := fun e => hb (UInt8.toNat.inj (by show b.toNat = 35; omega))
    rw [cnt_no hn, rawL, if_neg hb']
    rfl
theorem trI_ok {s : List UInt8} (h : vY s = true) : trI s = .sl ((trR s).map xL) := by
  rw [trI, if_pos h, trR, if_pos h]
theorem screenOf_pf (l : List Int) (ps : List Pc) (hl : l.length ≤ 1000000) (hp60 : ps.length ≤ 60) (hok : ∀ p ∈ ps, PcOk l p) :
    PF Tryz.prog 47 [.c (.sl (l.map xE)), .c (.sl (ps.map wM))] [] (.tup [.c (str (scrT (atK l ps ps.length))), .c (boo (scrOk (atK l ps ps.length)))]) := by
  have hLl : (l.map xE).length = l.length := List.length_map _
  have hLp : (ps.map wM).length = ps.length := List.length_map _
  refine PF.enter (xG _ _) Tryz.func47 rfl (by kernel_rfl) _ _ rfl rfl rfl (fun w0 mu I0 β0 gi dis => ?_)
  (repeat' (first|(apply xW;((exact Want.none_ rfl)))|(apply xF zI;exact rfl;exact rfl)|(((apply zU))<;>(first|exact zI|exact rfl|refine yG ?_))|apply zR|apply AWp.Q|apply zH|apply AWp.G|apply AWp.B))
  refine AWp.U (σ := Nat) (fun k => ⟨[(0, .c (.sl (l.map xE))), (6, .c (.ref 0 0 (atK l ps k).length)), (14, .c (.sl (ps.map wM))), (15, .c (int ps.length)), (16, .c (int k))], [(0, some ⟨63, 2, (atK l ps k).map xL⟩)], 1⟩) (fun k => k ≤ ps.length) (fun k => ps.length - k) 0 (Nat.zero_le _) ?_ ?_
  · refine Weak.of [(0, some 0)] rfl ?_ ?_ <;> (repeat' (first|exact trivial|exact rfl|apply And.intro|(apply cgI;(omega))|refine oWs rfl rfl rfl ?_ ?_|(refine aIm ?_;(exact AllSc.nil))))
  · rintro k hk
    have hAl := (qY hok k hk).1
    have hLA : ((atK l ps k).map xL).length = (atK l ps k).length := List.length_map _
    have hsA := xZ (atK l ps k)
    by_cases hlt : k < ps.length
    · obtain ⟨p, hp⟩ := xT hlt
      have hp' : (ps.map wM)[k]? = some (wM p) := xY hp
      have hlt' : (k : Int) < (ps.length : Int) := by omega
      have hpo := hok p (List.mem_of_getElem? hp)
      have hS := atK_succ (l := l) hp
      by_cases ht : p.t = []
      · obtain ⟨a, n, h1, h2, h3, h4⟩ := hpo.ix
        have h2' : (l.map xE)[a]? = some [int (n : Int)] := xY h2
        have hal : a < l.length := (List.getElem?_eq_some_iff.1 h2).1
        have hal' : (a : Int) < ((l.map xE).length : Int) := by omega
        have hr := formatStroke_pf n h4 h3
        have hfl : (fmt n).length ≤ 46 := fmt_len n
        obtain ⟨b, u, e, hu⟩ := fmt_front h3 h4
        have hrp := replaceAll_pf (fmt n) [35] [61] (by omega) (Nat.le_refl _) (by decide)
        rw [show Lib.replaceAll (fmt n) [35] [61] = rawL (fmt n) by rw [e, rep_raw hu]] at hrp
        rw [atP_raw ht h1 h2] at hS
        generalize rawL (fmt n) = y at *
        generalize fmt n = z at *
        generalize atK l ps k = J at *
        (repeat' (first|(apply xW;((exact Want.none_ rfl)))|(apply xF zI;exact rfl;exact rfl)|((first|apply zZ|(apply yN;exact rfl;exact rfl)|apply y4|apply zU|apply yB|(apply yZ;exact rfl;exact rfl)|apply yH)<;>(first|exact zI|exact Nat.zero_add _|exact rfl|refine yG ?_|assumption|omega|exact lb rfl|(refine Bd.mk ?_;first|(focus (simp;done))|(simp;omega))|exact xH rfl))|apply zR|apply AWp.Q|apply zH|apply AWp.G|apply AWp.B|apply AWp.J|apply zJ|(apply AWp.T;exact rfl;((exact dT ‹_›)))|(apply yA;(iterate 6 exact rfl);(iterate 2 (focus (repeat (first|exact VAs.nil|apply VAs.cons|apply VA.c|exact VCs.nil|exact VC.imm (Imm.v _)))));(first|exact hr|exact hrp);(focus (repeat (first|exact trivial|exact Flat.v _|apply And.intro)));((apply yJ));(first|exact xB _ _|exact xC _ _ _))|(((refine AWp.C rfl ?_ ?_))<;>intro hp<;>try (exfalso;omega))))
        all_goals first | exact absurd ht (by assumption) | skip
        refine ⟨k + 1, by omega, by omega, ?_⟩
        rw [hS, wI]
        refine Weak.of [(0, some 3)] rfl ?_ ?_ <;> (repeat' (first|exact trivial|exact rfl|apply And.intro|(refine z8 ?_;(focus (simp;done)))|refine oWs rfl rfl rfl ?_ ?_))
        all_goals first | (rw [← wI]; exact (xZ _).imm) | (rw [hLA]; simp; done) | (simp; done) | skip
      · have htr := hpo.tr.resolve_left ht
        have hq := parseTr_pf p.t (by have := (qC htr).1; omega)
        rw [htr, trI_ok htr] at hq
        have htl := (trR_len htr).1
        rw [atP_tr ht] at hS
        have hLr : ((trR p.t).map xL).length = (trR p.t).length := List.length_map _
        have h2 := atms_two (trR p.t)
        have hsr := xZ (trR p.t)
        generalize trR p.t = R at *
        generalize atK l ps k = J at *
        have i0 : ∀ obj : AObj, some obj ∈ ([] : List (Option AObj)) → ∀ x ∈ obj.els, ∀ c ∈ x, Imm c := fun _ h => by cases h
        (repeat' (first|(apply xW;((exact Want.none_ rfl)))|(apply xF zI;exact rfl;exact rfl)|((first|apply zZ|(apply yN;exact rfl;exact rfl)|apply yB|(apply yZ;exact rfl;exact rfl)|apply yH)<;>(first|exact zI|exact rfl|refine yG ?_|assumption|omega|exact lb rfl|(refine Bd.mk ?_;first|assumption|omega)))|apply zR|apply AWp.Q|apply zH|apply AWp.G|apply AWp.B|apply AWp.J|apply AWp.X|apply zQ|apply zO|(apply AWp.T;exact rfl;((exact dT ‹_›)))|(apply (yP (hq));(iterate 7 exact rfl);(focus (repeat ((exact All2.nil))));exact rfl;(focus (repeat (first|exact MAs.nil|apply MAs.cons|apply MA.c|exact MC.vc (VC.imm (Imm.v _)))));((assumption));((exact xP));exact rfl;exact rfl)))
        refine ⟨k + 1, by omega, by omega, ?_⟩
        rw [hS, List.map_append]
        refine Weak.of [(0, some 2)] rfl ?_ ?_ <;> (repeat' (first|exact trivial|exact rfl|apply And.intro|(refine z8 ?_;(focus (simp;done)))|refine oWs rfl rfl rfl ?_ ?_))
        all_goals first | (rw [← List.map_append]; exact (xZ _).imm) | (rw [hLA]; simp; done) | (simp; done) | skip
    · have hlt' : ¬ (k : Int) < (ps.length : Int) := by omega
      obtain rfl : k = ps.length := by omega
      have hr := render_pf (atK l ps ps.length) (by omega) (qY hok ps.length (Nat.le_refl _)).2
      generalize scrT (atK l ps ps.length) = T at *
      generalize scrOk (atK l ps ps.length) = B at *
      generalize atK l ps ps.length = J at *
      (repeat' (first|(apply xW;((exact Want.none_ rfl)))|(apply xF zI;exact rfl;exact rfl)|apply zR|apply AWp.Q|apply zH|apply AWp.G|apply AWp.X|apply AWp.R|apply zQ|apply zO|(apply AWp.F;exact rfl;((exact dF ‹_›)))|(apply yA;(iterate 6 exact rfl);(iterate 2 (focus (repeat (first|exact VAs.nil|apply VAs.cons|apply VA.c|exact VCs.nil|(apply zA;exact rfl;exact rfl;((focus (simp;done)));exact rfl;((refine aIm ?_;assumption)))))));((exact hr));(focus (repeat (first|exact trivial|exact Flat.v _|apply And.intro)));((apply yJ));((exact xC _ _ _)))))
      (((refine zV _ [] (.cons (zN rfl) (.cons (zN rfl) .nil)) ?_ rfl ?_)) <;> (repeat' (first|exact trivial|exact rfl|apply And.intro)))
theorem implScr_pf (es : List Ent) (l : List Int) (hb : qG es) (hl : l.length ≤ 1000000) (h : vL es l = true) :
    PF Tryz.prog 20 [.agg (wG es), .c (.sl (l.map xE))] [] (.tup [.c (str (scrT (atL es l))), .c (boo (scrOk (atL es l)))]) := by
  have h1 := isMatched_pf es l hb hl
  have h2 := segment_pf es l hb hl
  have hsl : (seg es l).length ≤ 60 := by
    have h2 := segF_len es l 0
    have h3 := (wR h).2.2.1
    rw [seg]; omega
  have h3 := screenOf_pf l (seg es l) hl hsl (seg_ok h)
  rw [h] at h1
  have e : atK l (seg es l) (seg es l).length = atL es l := rfl
  rw [e] at h3
  clear e
  generalize atL es l = L at *
  have hps := vS (seg es l)
  have hLp : ((seg es l).map wM).length = (seg es l).length := List.length_map _
  generalize seg es l = S at *
  refine PF.enter (xG _ _) Tryz.func20 rfl (by kernel_rfl) _ _ rfl rfl rfl (fun w0 mu I0 β0 gi dis => ?_)
  (repeat' (first|(apply xW;((exact Want.none_ rfl)))|(apply xF zI;exact rfl;exact rfl)|apply zR|apply AWp.Q|apply zH|apply AWp.G|apply AWp.J|apply AWp.R|(apply AWp.F;exact rfl;((exact rfl)))|(apply yA;(iterate 6 exact rfl);(iterate 2 (focus (repeat (first|exact VAs.nil|apply VAs.cons|apply VA.c|apply VA.agg|exact VCs.nil|apply VCs.cons|exact VC.imm (Imm.sl _)|(apply zA;exact rfl;exact rfl;((focus (simp;done)));exact rfl;((refine aIm ?_;assumption)))))));(first|exact h1|exact h2|exact h3);(focus (repeat (first|exact trivial|exact Flat.v _|exact Flat.ref _ _ _|apply And.intro)));(first|apply yJ|(apply yK;(focus (repeat (first|exact trivial|apply And.intro|((assumption)))))));(first|exact xB _ _|exact xC _ _ _|exact xA _ _ _ _))))
  (((refine zV _ [] (.cons (zN rfl) (.cons (zN rfl) .nil)) ?_ rfl ?_)) <;> (repeat' (first|exact trivial|exact rfl|apply And.intro)))
end Go.Proofs.YtjeffognhcbiaaaGreatDoor
