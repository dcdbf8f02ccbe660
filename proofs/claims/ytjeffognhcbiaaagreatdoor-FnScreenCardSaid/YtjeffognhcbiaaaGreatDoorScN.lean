/- The program's ApplyAtom, ApplyAtoms, Render. No conditions but bounds of lengths. -/
import Derived.Test.YtjeffognhcbiaaaGreatDoorScM
import Derived.Test.YtjeffognhcbiaaaGreatDoorScG
namespace Go.Proofs.YtjeffognhcbiaaaGreatDoor
open Go Go.RowKit
theorem isPrintable_pf (s : List UInt8) (hs : s.length ≤ 4000000) : PF Tryz.prog 127 [.c (str s)] [] (.c (boo (s.all prB))) := by
  refine PF.enter (xJ _) Tryz.func127 rfl (by kernel_rfl) _ _ rfl rfl rfl (fun w0 mu I0 β0 gi dis => ?_)
  (repeat' (first|(apply xW;((exact Want.none_ rfl)))|(apply xF zI;exact rfl;exact rfl)|apply zR|apply AWp.Q|apply zH|apply AWp.G|apply AWp.B))
  refine AWp.U (σ := Nat) (fun k => ⟨[(0, .c (str s)), (5, .c (int s.length)), (6, .c (int k))], [], 0⟩) (fun k => k ≤ s.length ∧ (s.take k).all prB = true) (fun k => s.length - k) 0 ⟨Nat.zero_le _, rfl⟩ ?_ ?_
  · refine Weak.of [] rfl ?_ ?_ <;> (repeat' (first|exact trivial|exact rfl|apply And.intro))
  · rintro k ⟨hk, hall⟩
    by_cases hlt : k < s.length
    · obtain ⟨b, hb⟩ := xT hlt
      have hlt' : (k : Int) < (s.length : Int) := by omega
      by_cases g1 : ((b.toNat : Nat) : Int) < 32
      · rw [vK hb (show prB b = false from decide_eq_false (by omega))]
        (repeat' (first|(apply xW;((exact Want.none_ rfl)))|(apply xF zI;exact rfl;exact rfl)|(((apply xD))<;>(first|exact zI|exact rfl|refine yG ?_|assumption))|(apply yR;exact rfl;exact rfl;((exact dT ‹_›));exact rfl;exact rfl)|(apply yS;(iterate 5 exact rfl);((exact dT ‹_›)))|apply zR|apply AWp.Q|apply zH|apply AWp.G|apply AWp.B|apply AWp.J|apply AWp.R|apply zK|apply zL|(apply AWp.T;exact rfl;(first|exact dT ‹_›|exact rfl))))
        (((refine zV _ [] (.cons (zN rfl) .nil) ?_ rfl ?_)) <;> (repeat' (first|exact trivial|exact rfl)))
      · by_cases g2 : (126 : Int) < ((b.toNat : Nat) : Int)
        · rw [vK hb (show prB b = false from decide_eq_false (by omega))]
          (repeat' (first|(apply xW;(first|exact Want.none_ rfl|(refine zX rfl rfl rfl rfl ?_;((exact dF ‹_›)))))|(apply xF zI;exact rfl;exact rfl)|(((apply xD))<;>(first|exact zI|exact rfl|refine yG ?_|assumption))|(apply yR;exact rfl;exact rfl;((exact dF ‹_›));exact rfl;exact rfl)|apply zR|apply AWp.Q|apply zH|apply AWp.G|apply AWp.B|apply AWp.J|apply AWp.R|apply zK|apply zL|(apply AWp.T;exact rfl;((exact dT ‹_›)))))
          (((refine zV _ [] (.cons (zN rfl) .nil) ?_ rfl ?_)) <;> (repeat' (first|exact trivial|exact rfl)))
        · have hall' : (s.take (k + 1)).all prB = true := by rw [x5 hb, hall, show prB b = true from decide_eq_true (by omega)]; rfl
          (repeat' (first|(apply xW;(first|exact Want.none_ rfl|(refine zX rfl rfl rfl rfl ?_;((exact dF ‹_›)))))|(apply xF zI;exact rfl;exact rfl)|((first|apply zZ|apply xD)<;>(first|exact zI|exact rfl|refine yG ?_|assumption|omega))|(apply yR;exact rfl;exact rfl;((exact dF ‹_›));exact rfl;exact rfl)|apply zR|apply AWp.Q|apply zH|apply AWp.G|apply AWp.B|apply AWp.J|apply zJ|(apply AWp.T;exact rfl;((exact dT ‹_›)))|(apply AWp.F;exact rfl;((exact dF ‹_›)))))
          refine ⟨k + 1, ⟨by omega, hall'⟩, by omega, ?_⟩
          refine Weak.of [] rfl ?_ ?_ <;> (repeat' (first|exact trivial|exact rfl|apply And.intro))
    · have hlt' : ¬ (k : Int) < (s.length : Int) := by omega
      obtain rfl : k = s.length := by omega
      rw [List.take_of_length_le (Nat.le_refl _)] at hall
      rw [hall]
      (repeat' (first|(apply xW;((exact Want.none_ rfl)))|(apply xF zI;exact rfl;exact rfl)|apply zR|apply AWp.Q|apply zH|apply AWp.G|apply AWp.X|apply AWp.R|apply zQ|apply zO|(apply AWp.F;exact rfl;((exact dF ‹_›)))))
      (((refine zV _ [] (.cons (zN rfl) .nil) ?_ rfl ?_)) <;> (repeat' (first|exact trivial|exact rfl)))
theorem isState_pf (s : StD) (h : StOk s) (hl : s.t.length ≤ 2000) : PF Tryz.prog 83 [.agg (v8 s)] [] (.c (boo true)) := by
  have h1 := isPrintable_pf s.t (by omega)
  have h2 := jA (s.c : Nat) 0 2
  have h3 := jA (s.w : Nat) 0 (s.t.length : Nat)
  have hl' : (s.t.length : Int) ≤ 2000 := by omega
  have hc := h.c
  have hw := h.w
  rw [h.pr] at h1
  rw [show inZ ((s.c : Nat) : Int) 0 2 = true from decide_eq_true (by omega)] at h2
  rw [show inZ ((s.w : Nat) : Int) 0 ((s.t.length : Nat) : Int) = true from decide_eq_true (by omega)] at h3
  refine PF.enter (xJ _) Tryz.func83 rfl (by kernel_rfl) _ _ rfl rfl rfl (fun w0 mu I0 β0 gi dis => ?_)
  (repeat' (first|(apply xW;(first|exact Want.none_ rfl|(refine zX rfl rfl rfl rfl ?_;(first|exact dT ‹_›|exact rfl))))|(apply xF zI;exact rfl;exact rfl)|(apply yR;exact rfl;exact rfl;(first|exact dT ‹_›|exact rfl);exact rfl;exact rfl)|apply zR|apply AWp.Q|apply zH|apply AWp.G|apply AWp.R|(apply yA;(iterate 6 exact rfl);(iterate 2 (focus (repeat (first|exact VAs.nil|apply VAs.cons|apply VA.c|exact VCs.nil|exact VC.imm (Imm.v _)))));(first|exact h1|exact h2|exact h3);(focus (repeat ((exact Flat.v _))));((apply yJ));((exact xB _ _)))))
  (((refine zV _ [] (.cons (zN rfl) .nil) ?_ rfl ?_)) <;> (repeat' (first|exact trivial|exact rfl)))
def stN : StD := ⟨[], false, false, 0, 0⟩
def k8 (s : StD) (a : Atm) : Bool := x6 a && decide ((apS s a).t.length ≤ 2000)
def apR (s : StD) (a : Atm) : StD := if k8 s a then apS s a else stN
theorem applyAtom_pf (s : StD) (a : Atm) (h : StOk s) (hl : s.t.length ≤ 2000) (ha : a.t.length ≤ 60) : PF Tryz.prog 84 [.agg (v8 s), .agg (xL a)] [] (.tup [.agg (v8 (apR s a)), .c (boo (k8 s a))]) := by
  have h1 := isState_pf s h hl
  have h2 := isAtom_pf a (by omega)
  cases hg : x6 a with
  | false =>
    rw [hg] at h2
    have e1 : k8 s a = false := by rw [k8, hg]; rfl
    have e2 : apR s a = stN := by rw [apR, e1]; rfl
    rw [e1, e2]
    refine PF.enter (xG _ _) Tryz.func84 rfl (by kernel_rfl) _ _ rfl rfl rfl (fun w0 mu I0 β0 gi dis => ?_)
    (repeat' (first|(apply xW;(first|exact Want.none_ rfl|(refine zX rfl rfl rfl rfl ?_;((exact rfl)))))|(apply xF zI;exact rfl;exact rfl)|((first|apply y4|apply yB|apply yH)<;>(first|exact zI|exact rfl|refine yG ?_|exact lb rfl|((try refine Bd.mk ?_);(focus (simp;done)))))|(apply yR;exact rfl;exact rfl;((exact rfl));exact rfl;exact rfl)|apply zR|apply AWp.Q|apply zH|apply AWp.G|apply AWp.R|apply zK|(apply AWp.T;exact rfl;((exact rfl)))|(apply yA;(iterate 6 exact rfl);(iterate 2 (focus (repeat (first|exact VAs.nil|apply VAs.cons|apply VA.agg|exact VCs.nil|apply VCs.cons|exact VC.imm (Imm.v _)))));(first|exact h1|exact h2);(focus (repeat ((exact Flat.v _))));((apply yJ));((exact xB _ _)))))
    (((refine zV _ [] (.cons (y5 rfl rfl rfl zI rfl rfl rfl) (.cons (zN rfl) .nil)) ?_ rfl ?_)) <;> (repeat' (first|exact trivial|exact rfl|apply And.intro)))
  | true =>
    rw [hg] at h2
    have h3 := apply_pfm s a (by omega) h.w (by omega) ((good_trim hg).1)
    have i1 := xK (vI (apS s a))
    have j1 := wD (vI s)
    by_cases hq : (apS s a).t.length ≤ 2000
    · have e1 : k8 s a = true := by rw [k8, hg, decide_eq_true hq]; rfl
      have e2 : apR s a = apS s a := by rw [apR, e1]; rfl
      have hq' : ¬ (2000 : Int) < ((apS s a).t.length : Int) := by omega
      rw [e1, e2]
      generalize apS s a = S at *
      refine PF.enter (xG _ _) Tryz.func84 rfl (by kernel_rfl) _ _ rfl rfl rfl (fun w0 mu I0 β0 gi dis => ?_)
      (repeat' (first|(apply xW;(first|exact Want.none_ rfl|(refine zX rfl rfl rfl rfl ?_;((exact rfl)))))|(apply xF zI;exact rfl;exact rfl)|((first|apply yB|apply yH)<;>(first|exact zI|exact rfl|refine yG ?_|exact lb rfl))|(apply yR;exact rfl;exact rfl;((exact rfl));exact rfl;exact rfl)|apply zR|apply AWp.Q|apply zH|apply AWp.G|apply AWp.J|apply AWp.R|(apply AWp.F;exact rfl;(first|exact dF ‹_›|exact rfl))|(apply (yP (h3));(iterate 7 exact rfl);(focus (repeat (first|exact All2.nil|refine All2.cons rfl ?_)));exact rfl;(focus (repeat (first|exact MAs.nil|apply MAs.cons|apply MA.c|apply MA.agg|exact MCs.nil|apply MCs.cons|exact MC.ptr rfl|exact MC.vc (VC.imm (Imm.v _)))));((assumption));((assumption));exact rfl;exact rfl)|(apply yA;(iterate 6 exact rfl);(iterate 2 (focus (repeat (first|exact VAs.nil|apply VAs.cons|apply VA.agg|exact VCs.nil|apply VCs.cons|exact VC.imm (Imm.v _)))));(first|exact h1|exact h2);(focus (repeat ((exact Flat.v _))));((apply yJ));((exact xB _ _)))))
      (((refine zV _ [] (.cons (y5 rfl rfl rfl zI rfl rfl rfl) (.cons (zN rfl) .nil)) ?_ rfl ?_)) <;> (repeat' (first|exact trivial|exact rfl|apply And.intro)))
    · have e1 : k8 s a = false := by rw [k8, hg, decide_eq_false hq]; rfl
      have e2 : apR s a = stN := by rw [apR, e1]; rfl
      have hq' : (2000 : Int) < ((apS s a).t.length : Int) := by omega
      rw [e1, e2]
      generalize apS s a = S at *
      refine PF.enter (xG _ _) Tryz.func84 rfl (by kernel_rfl) _ _ rfl rfl rfl (fun w0 mu I0 β0 gi dis => ?_)
      (repeat' (first|(apply xW;(first|exact Want.none_ rfl|(refine zX rfl rfl rfl rfl ?_;((exact rfl)))))|(apply xF zI;exact rfl;exact rfl)|((first|apply y4|apply yB|apply yH)<;>(first|exact zI|exact rfl|refine yG ?_|exact lb rfl|((try refine Bd.mk ?_);(focus (simp;done)))))|(apply yR;exact rfl;exact rfl;((exact rfl));exact rfl;exact rfl)|apply zR|apply AWp.Q|apply zH|apply AWp.G|apply AWp.J|apply AWp.R|apply zK|(apply AWp.T;exact rfl;((exact dT ‹_›)))|(apply AWp.F;exact rfl;((exact rfl)))|(apply (yP (h3));(iterate 7 exact rfl);(focus (repeat (first|exact All2.nil|refine All2.cons rfl ?_)));exact rfl;(focus (repeat (first|exact MAs.nil|apply MAs.cons|apply MA.c|apply MA.agg|exact MCs.nil|apply MCs.cons|exact MC.ptr rfl|exact MC.vc (VC.imm (Imm.v _)))));((assumption));((assumption));exact rfl;exact rfl)|(apply yA;(iterate 6 exact rfl);(iterate 2 (focus (repeat (first|exact VAs.nil|apply VAs.cons|apply VA.agg|exact VCs.nil|apply VCs.cons|exact VC.imm (Imm.v _)))));(first|exact h1|exact h2);(focus (repeat ((exact Flat.v _))));((apply yJ));((exact xB _ _)))))
      (((refine zV _ [] (.cons (y5 rfl rfl rfl zI rfl rfl rfl) (.cons (zN rfl) .nil)) ?_ rfl ?_)) <;> (repeat' (first|exact trivial|exact rfl|apply And.intro)))
def resS (l : List Atm) : StD := if scrOk l then stK l l.length else stN
theorem resS_t (l : List Atm) (h : runA l stZ = some (stK l l.length) ∨ scrOk l = false) : (resS l).t = scrT l := by
  rw [resS]
  cases hk : scrOk l with
  | false => rw [scrT_no hk]; rfl
  | true =>
    rcases h with h | h
    · have h6 : l.length ≤ 600 := by
        rw [scrOk, Bool.and_eq_true, decide_eq_true_eq] at hk
        exact hk.1
      rw [if_pos rfl, (scr_some h h6).2]
    · rw [hk] at h; cases h
set_option maxHeartbeats 1000000 in
theorem applyAtoms_pf (L : List Atm) (hL : L.length ≤ 1000) (hA : ∀ a ∈ L, a.t.length ≤ 60) : PF Tryz.prog 54 [.agg (v8 stZ), .c (.sl (L.map xL))] [] (.tup [.agg (v8 (resS L)), .c (boo (scrOk L))]) := by
  have hLL : (L.map xL).length = L.length := List.length_map _
  have h1 := isState_pf stZ stZ_ok (Nat.zero_le _)
  by_cases h6 : L.length ≤ 600
  · have h6' : ¬ (600 : Int) < ((L.map xL).length : Int) := by omega
    refine PF.enter (xG _ _) Tryz.func54 rfl (by kernel_rfl) _ _ rfl rfl rfl (fun w0 mu I0 β0 gi dis => ?_)
    (repeat' (first|(apply xW;(first|exact Want.none_ rfl|(refine zX rfl rfl rfl rfl ?_;((exact rfl)))))|(apply xF zI;exact rfl;exact rfl)|(((apply yB))<;>(first|exact zI|exact rfl|refine yG ?_))|(apply yR;exact rfl;exact rfl;((exact rfl));exact rfl;exact rfl)|apply zR|apply AWp.Q|apply zH|apply AWp.G|apply AWp.B|apply AWp.J|(apply AWp.F;exact rfl;((exact dF ‹_›)))|(apply yA;(iterate 6 exact rfl);(iterate 2 (focus (repeat (first|exact VAs.nil|apply VAs.cons|apply VA.agg|exact VCs.nil|apply VCs.cons|exact VC.imm (Imm.v _)))));((exact h1));(focus (repeat ((exact Flat.v _))));((apply yJ));((exact xB _ _)))))
    refine AWp.U (σ := Nat) (fun k => ⟨[(2, .c (.ptr 0 0 0)), (4, .c (.ptr 1 0 0)), (19, .c (.sl (L.map xL))), (20, .c (int L.length)), (21, .c (int k))], [(0, some (stO (stK L k))), (1, some (stO stN))], 2⟩) (fun k => k ≤ L.length ∧ Runs L k) (fun k => L.length - k) 0 ⟨Nat.zero_le _, Runs.zero L⟩ ?_ ?_
    · refine Weak.of [(0, some 0), (1, some 1)] rfl ?_ ?_ <;> (repeat' (first|exact trivial|exact rfl|apply And.intro|(apply cgI;(omega))|refine ⟨_,rfl,rfl,rfl,OW.one ?_⟩))
    · rintro k ⟨hk, hR⟩
      by_cases hlt : k < L.length
      · obtain ⟨a, ha⟩ := xT hlt
        have ha' : (L.map xL)[k]? = some (xL a) := xY ha
        have hlt' : (k : Int) < (L.length : Int) := by omega
        have hp := applyAtom_pf (stK L k) a hR.ok hR.len (hA a (List.mem_of_getElem? ha))
        cases hok : k8 (stK L k) a with
        | false =>
          rw [hok] at hp
          have e1 : scrOk L = false := by
            rw [k8] at hok
            cases hg : x6 a with
            | false => exact (qA (run_bad hR ha hg)).1
            | true =>
              rw [hg, Bool.true_and, decide_eq_false_iff_not] at hok
              exact (qA (run_long hR ha (by rw [vG ha]; exact hok))).1
          have e2 : resS L = stN := by rw [resS, e1]; rfl
          rw [e1, e2]
          generalize stK L k = S at *
          generalize apR S a = S2 at *
          (repeat' (first|(apply xW;((exact Want.none_ rfl)))|(apply xF zI;exact rfl;exact rfl)|((first|(apply yN;exact rfl;exact rfl)|apply y4|apply yB|apply yH)<;>(first|exact zI|exact rfl|refine yG ?_|assumption|exact lb rfl|((try refine Bd.mk ?_);(focus (simp;done)))))|apply zR|apply AWp.Q|apply zH|apply AWp.G|apply AWp.B|apply AWp.J|apply AWp.R|apply zK|apply zL|(apply AWp.T;exact rfl;(first|exact dT ‹_›|exact rfl))|(apply yA;(iterate 6 exact rfl);(iterate 2 (focus (repeat (first|exact VAs.nil|apply VAs.cons|apply VA.agg|exact VCs.nil|apply VCs.cons|exact VC.imm (Imm.v _)))));((exact hp));(focus (repeat (first|exact trivial|exact Flat.v _|apply And.intro)));((apply yJ));((exact rfl)))))
          (((refine zV _ [] (.cons (y5 rfl rfl rfl zI rfl rfl rfl) (.cons (zN rfl) .nil)) ?_ rfl ?_)) <;> (repeat' (first|exact trivial|exact rfl|apply And.intro)))
        | true =>
          have e2 : apR (stK L k) a = stK L (k + 1) := by rw [apR, hok, vG ha]; rfl
          rw [hok, e2] at hp
          have hR1 : Runs L (k + 1) := by
            rw [k8, Bool.and_eq_true, decide_eq_true_eq] at hok
            exact hR.succ ha hok.1 (by rw [vG ha]; exact hok.2)
          clear hok e2
          obtain ⟨S1, e1⟩ : ∃ S1, S1 = stK L (k + 1) := ⟨_, rfl⟩
          rw [← e1] at hp
          generalize stK L k = S at *
          (repeat' (first|(apply xW;((exact Want.none_ rfl)))|(apply xF zI;exact rfl;exact rfl)|((first|apply zZ|(apply yN;exact rfl;exact rfl)|apply yB|apply yH)<;>(first|exact zI|exact rfl|refine yG ?_|assumption|omega|exact lb rfl))|apply zR|apply AWp.Q|apply zH|apply AWp.G|apply AWp.B|apply AWp.J|apply zJ|(apply AWp.T;exact rfl;((exact dT ‹_›)))|(apply AWp.F;exact rfl;((exact rfl)))|(apply yA;(iterate 6 exact rfl);(iterate 2 (focus (repeat (first|exact VAs.nil|apply VAs.cons|apply VA.agg|exact VCs.nil|apply VCs.cons|exact VC.imm (Imm.v _)))));((exact hp));(focus (repeat (first|exact trivial|exact Flat.v _|apply And.intro)));((apply yJ));((exact rfl)))))
          refine ⟨k + 1, ⟨by omega, hR1⟩, by omega, ?_⟩
          rw [← e1]
          refine Weak.of [(0, some 0), (1, some 1)] rfl ?_ ?_ <;> (repeat' (first|exact trivial|exact rfl|apply And.intro|refine ⟨_,rfl,rfl,rfl,OW.one ?_⟩))
      · have hlt' : ¬ (k : Int) < (L.length : Int) := by omega
        obtain rfl : k = L.length := by omega
        obtain ⟨e1, _⟩ := scr_some (run_all hR) h6
        have e2 : resS L = stK L L.length := by rw [resS, e1]; rfl
        rw [e1, e2]
        generalize stK L L.length = S at *
        (repeat' (first|(apply xW;((exact Want.none_ rfl)))|(apply xF zI;exact rfl;exact rfl)|(((apply yH))<;>(first|exact zI|exact rfl|refine yG ?_|exact lb rfl))|apply zR|apply AWp.Q|apply zH|apply AWp.G|apply AWp.X|apply AWp.R|apply zQ|apply zO|(apply AWp.F;exact rfl;((exact dF ‹_›)))))
        (((refine zV _ [] (.cons (y5 rfl rfl rfl zI rfl rfl rfl) (.cons (zN rfl) .nil)) ?_ rfl ?_)) <;> (repeat' (first|exact trivial|exact rfl|apply And.intro)))
  · have h6' : (600 : Int) < ((L.map xL).length : Int) := by omega
    obtain ⟨e1, _⟩ := scr_long h6
    have e2 : resS L = stN := by rw [resS, e1]; rfl
    rw [e1, e2]
    refine PF.enter (xG _ _) Tryz.func54 rfl (by kernel_rfl) _ _ rfl rfl rfl (fun w0 mu I0 β0 gi dis => ?_)
    (repeat' (first|(apply xW;(first|exact Want.none_ rfl|(refine zX rfl rfl rfl rfl ?_;((exact rfl)))))|(apply xF zI;exact rfl;exact rfl)|((first|apply y4|apply yB|apply yH)<;>(first|exact zI|exact rfl|refine yG ?_|exact lb rfl|((try refine Bd.mk ?_);(focus (simp;done)))))|(apply yR;exact rfl;exact rfl;((exact rfl));exact rfl;exact rfl)|apply zR|apply AWp.Q|apply zH|apply AWp.G|apply AWp.R|apply zK|(apply AWp.T;exact rfl;((exact dT ‹_›)))|(apply yA;(iterate 6 exact rfl);(iterate 2 (focus (repeat (first|exact VAs.nil|apply VAs.cons|apply VA.agg|exact VCs.nil|apply VCs.cons|exact VC.imm (Imm.v _)))));((exact h1));(focus (repeat ((exact Flat.v _))));((apply yJ));((exact xB _ _)))))
    (((refine zV _ [] (.cons (y5 rfl rfl rfl zI rfl rfl rfl) (.cons (zN rfl) .nil)) ?_ rfl ?_)) <;> (repeat' (first|exact trivial|exact rfl|apply And.intro)))
theorem runs_go {L : List Atm} : ∀ k, k ≤ L.length → Runs L k ∨ runA L stZ = none
  | 0, _ => .inl (Runs.zero L)
  | k + 1, h => by
    rcases runs_go (L := L) k (by omega) with hR | hR
    · obtain ⟨a, ha⟩ := xT (show k < L.length by omega)
      cases hg : x6 a with
      | false => exact .inr (run_bad hR ha hg)
      | true =>
        by_cases hl : (stK L (k + 1)).t.length ≤ 2000
        · exact .inl (hR.succ ha hg hl)
        · exact .inr (run_long hR ha hl)
    · exact .inr hR
theorem render_pf (L : List Atm) (hL : L.length ≤ 1000) (hA : ∀ a ∈ L, a.t.length ≤ 60) : PF Tryz.prog 26 [.c (.sl (L.map xL))] [] (.tup [.c (str (scrT L)), .c (boo (scrOk L))]) := by
  have hp := applyAtoms_pf L hL hA
  have e : (resS L).t = scrT L := resS_t L (by
    rcases runs_go (L := L) L.length (Nat.le_refl _) with h | h
    · exact .inl (run_all h)
    · exact .inr (qA h).1)
  rw [← e]
  generalize resS L = R at *
  generalize scrOk L = b at *
  refine PF.enter (xJ _) Tryz.func26 rfl (by kernel_rfl) _ _ rfl rfl rfl (fun w0 mu I0 β0 gi dis => ?_)
  (repeat' (first|(apply xW;((exact Want.none_ rfl)))|(apply xF zI;exact rfl;exact rfl)|((first|apply y4|apply yB|apply yH)<;>(first|exact zI|exact rfl|refine yG ?_|exact lb rfl|((try refine Bd.mk ?_);(focus (simp;done)))))|apply zR|apply AWp.Q|apply zH|apply AWp.G|apply AWp.R|(apply yA;(iterate 6 exact rfl);(iterate 2 (focus (repeat (first|exact VAs.nil|apply VAs.cons|apply VA.c|apply VA.agg|exact VCs.nil|apply VCs.cons|exact VC.imm (Imm.v _)|exact VC.imm (Imm.sl _)))));((exact hp));(focus (repeat (first|exact trivial|exact Flat.v _|apply And.intro)));((apply yJ));((exact rfl)))))
  (((refine zV _ [] (.cons (zN rfl) (.cons (zN rfl) .nil)) ?_ rfl ?_)) <;> (repeat' (first|exact trivial|exact rfl|apply And.intro)))
end Go.Proofs.YtjeffognhcbiaaaGreatDoor
