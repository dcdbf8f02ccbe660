/- The screen by the model: l14Screen, ScreenOf. No conditions but bounds of lengths. -/
import Derived.Test.YtjeffognhcbiaaaGreatDoorScF
namespace Go.Proofs.YtjeffognhcbiaaaGreatDoor
open Go Go.RowKit
structure RunsW (l : List Atm) (k : Nat) : Prop where
  ok : StOk (stK l k)
  ln : (stK l k).t.length ≤ 2040
  lo : (stK l k).t.length ≤ 2000 → runA l stZ = runA (l.drop k) (stK l k)
  hi : ¬ (stK l k).t.length ≤ 2000 → runA l stZ = none
theorem RunsW.zero (l : List Atm) : RunsW l 0 := ⟨stZ_ok, Nat.zero_le _, fun _ => by rw [List.drop_zero]; rfl, fun h => absurd (Nat.zero_le _) h⟩
theorem RunsW.runs {l : List Atm} {k : Nat} (h : RunsW l k) (hl : (stK l k).t.length ≤ 2000) : Runs l k := ⟨h.ok, hl, h.lo hl⟩
theorem RunsW.succ {l : List Atm} {k : Nat} {a : Atm} (h : RunsW l k) (ha : l[k]? = some a) (hg : x6 a = true) (hl : (stK l k).t.length ≤ 2000) : RunsW l (k + 1) := by
  have hr := h.runs hl
  have h2 := apS_len (s := stK l k) (good_tlen hg)
  refine ⟨by rw [vG ha]; exact h.ok.ap hg, by rw [vG ha]; omega, fun h3 => ?_, fun h3 => run_long hr ha h3⟩
  exact (hr.succ ha hg h3).run
def sFail : List Atm → StD → Bool
  | [], _ => false
  | a :: l, s => !x6 a || decide (2000 < s.t.length) || sFail l (apS s a)
def outT (l : List Atm) : List UInt8 := if scrOk l then scrT l else if sFail l stZ then [] else (stK l l.length).t
theorem fail_step {l : List Atm} {k : Nat} {a : Atm} (h : l[k]? = some a) : sFail (l.drop k) (stK l k) = (!x6 a || decide (2000 < (stK l k).t.length) || sFail (l.drop (k + 1)) (stK l (k + 1))) := by
  rw [drop_cons h, sFail, vG h]
theorem outT_fail {l : List Atm} (h1 : scrOk l = false) (h2 : sFail l stZ = true) : outT l = [] := by rw [outT, h1, h2]; rfl
theorem outT_end {l : List Atm} (h : RunsW l l.length) (h2 : sFail l stZ = false) : outT l = (stK l l.length).t ∧ scrOk l = (stOk (stK l l.length) && decide (l.length ≤ 600)) := by
  by_cases hl : (stK l l.length).t.length ≤ 2000
  · have hr := h.lo hl
    rw [List.drop_length, runA] at hr
    rw [stOk_of h.ok hl, Bool.true_and]
    by_cases h6 : l.length ≤ 600
    · obtain ⟨e1, e2⟩ := scr_some hr h6
      rw [outT, e1, e2, decide_eq_true h6]
      exact ⟨rfl, rfl⟩
    · obtain ⟨e1, e2⟩ := scr_long h6
      rw [outT, e1, h2, decide_eq_false h6]
      exact ⟨rfl, rfl⟩
  · obtain ⟨e1, e2⟩ := qA (h.hi hl)
    rw [outT, e1, h2, stOk_long hl]
    exact ⟨rfl, rfl⟩
theorem scr_bad {l : List Atm} {k : Nat} {a : Atm} (h : RunsW l k) (ha : l[k]? = some a) (hg : x6 a = false) : scrOk l = false := by
  by_cases hl : (stK l k).t.length ≤ 2000
  · exact (qA (run_bad (h.runs hl) ha hg)).1
  · exact (qA (h.hi hl)).1
theorem l14Screen_pf (es : List Ent) (l : List Int) (hb : qG es) (hl : l.length ≤ 1000000) (h : vL es l = true) :
    PF Tryz.prog 49 [.agg (wG es), .c (.sl (l.map xE))] [] (.tup [.c (str (outT (atL es l))), .c (boo (scrOk (atL es l)))]) := by
  have hn := l12New_pf
  have hA := l14Atoms_pf es l hb hl h
  obtain ⟨hAl, hAt⟩ := atL_bd h
  generalize atL es l = L at *
  have hsL := xZ L
  have hLL : (L.map xL).length = L.length := List.length_map _
  refine PF.enter (xG _ _) Tryz.func49 rfl (by kernel_rfl) _ _ rfl rfl rfl (fun w0 mu I0 β0 gi dis => ?_)
  (repeat' (first|(apply xW;((exact Want.none_ rfl)))|(apply xF zI;exact rfl;exact rfl)|((first|apply yB|apply yH)<;>(first|exact zI|exact rfl|refine yG ?_|exact lb rfl))|apply zR|apply AWp.Q|apply zH|apply AWp.G|apply AWp.B|(apply yA;(iterate 6 exact rfl);(iterate 2 (focus (repeat (first|exact VAs.nil|apply VAs.cons|apply VA.c|apply VA.agg|exact VCs.nil|apply VCs.cons|exact VC.imm (Imm.v _)|exact VC.imm (Imm.sl _)))));(first|exact hn|exact hA);(focus (repeat (first|exact trivial|exact Flat.v _|exact Flat.ref _ _ _|apply And.intro)));(first|apply yJ|(apply yK;(focus (repeat (first|exact trivial|apply And.intro|((assumption)))))));(first|exact xA _ _ _ _|exact rfl))))
  refine AWp.U (σ := Nat) (fun k => ⟨[(2, .c (.ptr 0 0 0)), (6, .c (.ptr 1 0 0)), (7, .c (.ref 2 0 L.length)), (8, .c (int k))], [(0, some ⟨35, 1, [wG es]⟩), (1, some ⟨94, 5, [v8 (stK L k)]⟩), (2, some ⟨63, 2, L.map xL⟩)], 3⟩) (fun k => k ≤ L.length ∧ RunsW L k ∧ sFail L stZ = sFail (L.drop k) (stK L k)) (fun k => L.length - k) 0 ⟨Nat.zero_le _, RunsW.zero L, by rw [List.drop_zero]; rfl⟩ ?_ ?_
  · refine Weak.of [(0, some 0), (1, some 1), (2, some 2)] rfl ?_ ?_ <;> (repeat' (first|exact trivial|exact rfl|apply And.intro|refine ⟨_,rfl,rfl,rfl,OW.one ?_⟩|refine oWs rfl rfl rfl ?_ ?_|(refine aIm ?_;(assumption))))
    all_goals first | exact hsL.imm | skip
  · rintro k ⟨hk, hR, hF⟩
    have hln := hR.ln
    have hwl := hR.ok.w
    by_cases hlt : k < L.length
    · obtain ⟨a, ha⟩ := xT hlt
      have ha' : (L.map xL)[k]? = some (xL a) := xY ha
      have hlt' : (k : Int) < (L.length : Int) := by omega
      have hat := hAt a (List.mem_of_getElem? ha)
      have hg := l5Good_pf a (by omega)
      rw [fail_step ha] at hF
      cases hga : x6 a with
      | false =>
        rw [hga] at hg hF
        have e1 := scr_bad hR ha hga
        rw [e1, outT_fail e1 (by rw [hF]; rfl)]
        generalize stK L k = S at *
        (repeat' (first|(apply xW;((exact Want.none_ rfl)))|(apply xF zI;exact rfl;exact rfl)|((first|apply yD|apply zP)<;>(first|exact zI|exact Nat.zero_add _|exact rfl|refine yG ?_|assumption|exact lb rfl))|(apply yR;exact rfl;exact rfl;((exact rfl));exact rfl;exact rfl)|(apply yS;(iterate 5 exact rfl);((exact rfl)))|apply zR|apply AWp.Q|apply zH|apply AWp.G|apply AWp.B|apply AWp.J|apply AWp.R|apply zK|apply zL|(apply AWp.T;exact rfl;(first|exact dT ‹_›|exact rfl))|(apply yA;(iterate 6 exact rfl);(iterate 2 (focus (repeat (first|exact VAs.nil|apply VAs.cons|apply VA.agg|exact VCs.nil|apply VCs.cons|exact VC.imm (Imm.v _)))));((exact hg));(focus (repeat ((exact Flat.v _))));((apply yJ));((exact xB _ _)))))
        (((refine zV _ [] (.cons (zN rfl) (.cons (zN rfl) .nil)) ?_ rfl ?_)) <;> (repeat' (first|exact trivial|exact rfl|apply And.intro)))
      | true =>
        rw [hga] at hg hF
        have hS := vG ha
        by_cases h20 : (stK L k).t.length ≤ 2000
        · have hR1 := hR.succ ha hga h20
          have h20' : ¬ (2000 : Int) < ((stK L k).t.length : Int) := by omega
          rw [decide_eq_false (by omega)] at hF
          have hap := l12Apply_pf (stK L k) a (by omega) hwl (by omega) ((good_trim hga).1)
          obtain ⟨S1, e1⟩ : ∃ S1, S1 = stK L (k + 1) := ⟨_, rfl⟩
          rw [← hS, ← e1] at hap
          rw [← e1] at hF
          clear hS
          generalize stK L k = S at *
          (repeat' (first|(apply xW;(first|exact Want.none_ rfl|(refine zX rfl rfl rfl rfl ?_;((exact rfl)))))|(apply xF zI;exact rfl;exact rfl)|((first|apply zZ|apply yD|apply zP|apply yH)<;>(first|exact zI|exact Nat.zero_add _|exact rfl|refine yG ?_|assumption|omega|exact lb rfl))|(apply yR;exact rfl;exact rfl;((exact rfl));exact rfl;exact rfl)|apply zR|(refine yT ?_ ?_;kernel_rfl)|apply AWp.Q|apply zH|apply AWp.G|apply AWp.B|apply AWp.J|apply zJ|(refine AWp.D ?_ ?_;kernel_rfl)|(apply AWp.T;exact rfl;((exact dT ‹_›)))|(apply AWp.F;exact rfl;((exact dF ‹_›)))|(apply yA;(iterate 6 exact rfl);(iterate 2 (focus (repeat (first|exact VAs.nil|apply VAs.cons|apply VA.agg|exact VCs.nil|apply VCs.cons|exact VC.imm (Imm.v _)))));(first|exact hg|exact hap);(focus (repeat (first|exact trivial|exact Flat.v _|apply And.intro)));((apply yJ));(first|exact xB _ _|exact rfl))))
          refine ⟨k + 1, ⟨by omega, hR1, by rw [hF, e1]; rfl⟩, by omega, ?_⟩
          rw [← e1]
          refine Weak.of [(0, some 0), (1, some 1), (2, some 2)] rfl ?_ ?_ <;> (repeat' (first|exact trivial|exact rfl|apply And.intro|refine ⟨_,rfl,rfl,rfl,OW.one ?_⟩|refine oWs rfl rfl rfl ?_ ?_|(refine aIm ?_;(assumption))))
          all_goals first | exact hsL.imm | skip
        · have h20' : (2000 : Int) < ((stK L k).t.length : Int) := by omega
          have e1 := (qA (hR.hi h20)).1
          rw [e1, outT_fail e1 (by rw [hF, decide_eq_true (by omega)]; rfl)]
          generalize stK L k = S at *
          (repeat' (first|(apply xW;(first|exact Want.none_ rfl|(refine zX rfl rfl rfl rfl ?_;((exact rfl)))))|(apply xF zI;exact rfl;exact rfl)|((first|apply yD|apply zP)<;>(first|exact zI|exact Nat.zero_add _|exact rfl|refine yG ?_|assumption|exact lb rfl))|(apply yR;exact rfl;exact rfl;((exact rfl));exact rfl;exact rfl)|apply zR|apply AWp.Q|apply zH|apply AWp.G|apply AWp.B|apply AWp.J|apply AWp.R|apply zK|apply zL|(apply AWp.T;exact rfl;((exact dT ‹_›)))|(apply yA;(iterate 6 exact rfl);(iterate 2 (focus (repeat (first|exact VAs.nil|apply VAs.cons|apply VA.agg|exact VCs.nil|apply VCs.cons|exact VC.imm (Imm.v _)))));((exact hg));(focus (repeat ((exact Flat.v _))));((apply yJ));((exact xB _ _)))))
          (((refine zV _ [] (.cons (zN rfl) (.cons (zN rfl) .nil)) ?_ rfl ?_)) <;> (repeat' (first|exact trivial|exact rfl|apply And.intro)))
    · have hlt' : ¬ (k : Int) < (L.length : Int) := by omega
      obtain rfl : k = L.length := by omega
      rw [List.drop_length, sFail] at hF
      obtain ⟨e1, e2⟩ := outT_end hR hF
      have hgd := l12Good_pf (stK L L.length) (by omega)
      rw [e1, e2]
      generalize stK L L.length = S at *
      (repeat' (first|(apply xW;(first|exact Want.none_ rfl|(refine zX rfl rfl rfl rfl ?_;((assumption)))))|(apply xF zI;exact rfl;exact rfl)|(apply yR;exact rfl;exact rfl;((assumption));exact rfl;exact rfl)|(apply yS;(iterate 5 exact rfl);((assumption)))|apply zR|(refine yT ?_ ?_;kernel_rfl)|apply AWp.Q|apply zH|apply AWp.G|apply AWp.X|apply AWp.R|apply zQ|apply zO|(refine AWp.D ?_ ?_;kernel_rfl)|(apply AWp.F;exact rfl;((exact dF ‹_›)))|(apply yA;(iterate 6 exact rfl);(iterate 2 (focus (repeat (first|exact VAs.nil|apply VAs.cons|apply VA.agg|exact VCs.nil|apply VCs.cons|exact VC.imm (Imm.v _)))));((exact hgd));(focus (repeat ((exact Flat.v _))));((apply yJ));((exact xB _ _)))|(((refine zY rfl rfl rfl ?_ ?_))<;>intro hp<;>try (exfalso;omega))))
      all_goals
        (((refine zV _ [] (.cons (zN rfl) (.cons (zN rfl) .nil)) ?_ rfl ?_)) <;> (repeat' (first|exact trivial|exact rfl|apply And.intro|refine fwB ?_)))
      all_goals first | (rw [hp, Bool.true_and]; exact decide_eq_decide.2 (by omega)) | (simp [*]; done) | skip
theorem outT_ok {l : List Atm} (h : scrOk l = true) : outT l = scrT l := by rw [outT, if_pos h]
theorem scrT_no {l : List Atm} (h : scrOk l = false) : scrT l = [] := by
  rw [scrT]
  split
  · rename_i h6
    rw [scrOk, decide_eq_true h6, Bool.true_and] at h
    cases hr : runA l stZ with
    | none => rfl
    | some s => rw [hr] at h; cases h
  · rfl
theorem specScr_pf (es : List Ent) (l : List Int) (hb : qG es) (hl : l.length ≤ 1000000) (h : vL es l = true) :
    PF Tryz.prog 21 [.agg (wG es), .c (.sl (l.map xE))] [] (.tup [.c (str (scrT (atL es l))), .c (boo (scrOk (atL es l)))]) := by
  have h1 := l6Good_pf es hb
  have h2 := l11Strokes_pf l (by omega)
  have h3 := l14Screen_pf es l hb hl h
  obtain ⟨hd, hs, _, _⟩ := wR h
  rw [hd] at h1
  rw [hs] at h2
  cases hok : scrOk (atL es l) with
  | true =>
    rw [hok, outT_ok hok] at h3
    generalize scrT (atL es l) = T at *
    refine PF.enter (xG _ _) Tryz.func21 rfl (by kernel_rfl) _ _ rfl rfl rfl (fun w0 mu I0 β0 gi dis => ?_)
    (repeat' (first|(apply xW;(first|exact Want.none_ rfl|(refine zX rfl rfl rfl rfl ?_;((exact rfl)))))|(apply xF zI;exact rfl;exact rfl)|(apply yR;exact rfl;exact rfl;((exact rfl));exact rfl;exact rfl)|apply zR|apply AWp.Q|apply zH|apply AWp.G|apply AWp.J|apply AWp.R|(apply AWp.F;exact rfl;((exact rfl)))|(apply yA;(iterate 6 exact rfl);(iterate 2 (focus (repeat (first|exact VAs.nil|apply VAs.cons|apply VA.c|apply VA.agg|exact VCs.nil|apply VCs.cons|exact VC.imm (Imm.sl _)))));(first|exact h1|exact h2|exact h3);(focus (repeat (first|exact trivial|exact Flat.v _|apply And.intro)));((apply yJ));(first|exact xB _ _|exact xC _ _ _))))
    (((refine zV _ [] (.cons (zN rfl) (.cons (zN rfl) .nil)) ?_ rfl ?_)) <;> (repeat' (first|exact trivial|exact rfl|apply And.intro)))
  | false =>
    rw [hok] at h3
    rw [scrT_no hok]
    generalize outT (atL es l) = T at *
    refine PF.enter (xG _ _) Tryz.func21 rfl (by kernel_rfl) _ _ rfl rfl rfl (fun w0 mu I0 β0 gi dis => ?_)
    (repeat' (first|(apply xW;(first|exact Want.none_ rfl|(refine zX rfl rfl rfl rfl ?_;((exact rfl)))))|(apply xF zI;exact rfl;exact rfl)|(apply yR;exact rfl;exact rfl;((exact rfl));exact rfl;exact rfl)|apply zR|apply AWp.Q|apply zH|apply AWp.G|apply AWp.J|apply AWp.R|apply zK|(apply AWp.T;exact rfl;((exact rfl)))|(apply AWp.F;exact rfl;((exact rfl)))|(apply yA;(iterate 6 exact rfl);(iterate 2 (focus (repeat (first|exact VAs.nil|apply VAs.cons|apply VA.c|apply VA.agg|exact VCs.nil|apply VCs.cons|exact VC.imm (Imm.sl _)))));(first|exact h1|exact h2|exact h3);(focus (repeat (first|exact trivial|exact Flat.v _|apply And.intro)));((apply yJ));(first|exact xB _ _|exact xC _ _ _))))
    (((refine zV _ [] (.cons (zN rfl) (.cons (zN rfl) .nil)) ?_ rfl ?_)) <;> (repeat' (first|exact trivial|exact rfl|apply And.intro)))
end Go.Proofs.YtjeffognhcbiaaaGreatDoor
