/- States, by the model: l12Put, l12Apply. No conditions but bounds of lengths. -/
import Derived.Test.YtjeffognhcbiaaaGreatDoorScD
namespace Go.Proofs.YtjeffognhcbiaaaGreatDoor
open Go Go.RowKit
theorem takeT {α : Type} (s : List α) (k : Nat) : (s.drop 0).take (k - 0) = s.take k := by rw [List.drop_zero, Nat.sub_zero]
theorem l12Put_pf (s : StD) (x : List UInt8) (hs : s.t.length ≤ 1000000) (hx : x.length ≤ 1000000) : PF Tryz.prog 111 [.agg (v8 s), .c (str x)] [] (.agg (v8 (wH s x))) := by
  obtain ⟨t, j, g, c, w⟩ := s
  have hs' : t.length ≤ 1000000 := hs
  have hc := l12Case_pf x c hx
  have hcl := casL_len c x
  cases j with
  | true =>
    have e : wH ⟨t, true, g, c, w⟩ x = ⟨t ++ casL c x, true, g, 0, t.length⟩ := rfl
    rw [e]
    generalize casL c x = y at *
    refine PF.enter (xG _ _) Tryz.func111 rfl (by kernel_rfl) _ _ rfl rfl rfl (fun w0 mu I0 β0 gi dis => ?_)
    (repeat' (first|(apply xW;((exact Want.none_ rfl)))|(apply xF zI;exact rfl;exact rfl)|((first|(apply z6;exact rfl;exact rfl)|apply yB|apply yH)<;>(first|exact zI|exact rfl|refine yG ?_|exact lb rfl|((try refine Bd.mk ?_);(omega))))|apply zR|(refine yT ?_ ?_;kernel_rfl)|apply AWp.Q|apply zH|apply AWp.G|apply AWp.J|apply AWp.R|(refine AWp.D ?_ ?_;kernel_rfl)|(apply AWp.F;exact rfl;((exact rfl)))|(apply yA;(iterate 6 exact rfl);(iterate 2 (focus (repeat (first|exact VAs.nil|apply VAs.cons|apply VA.c|exact VCs.nil|exact VC.imm (Imm.v _)))));((exact hc));(focus (repeat ((exact Flat.v _))));((apply yJ));((exact xB _ _)))))
    (((refine zV _ [] (.cons (y5 rfl rfl rfl zI rfl rfl rfl) .nil) ?_ rfl ?_)) <;> (repeat' (first|exact trivial|exact rfl|apply And.intro)))
  | false =>
    have e : wH ⟨t, false, g, c, w⟩ x = ⟨(t ++ [32]) ++ casL c x, false, g, 0, (t ++ [32]).length⟩ := rfl
    have hl : (t ++ [32]).length = t.length + 1 := by simp
    rw [e]
    generalize casL c x = y at *
    refine PF.enter (xG _ _) Tryz.func111 rfl (by kernel_rfl) _ _ rfl rfl rfl (fun w0 mu I0 β0 gi dis => ?_)
    (repeat' (first|(apply xW;((exact Want.none_ rfl)))|(apply xF zI;exact rfl;exact rfl)|((first|(apply z6;exact rfl;exact rfl)|apply yB|apply yH)<;>(first|exact zI|exact rfl|refine yG ?_|exact lb rfl|((try refine Bd.mk ?_);(simp;omega))))|apply zR|(refine yT ?_ ?_;kernel_rfl)|apply AWp.Q|apply zH|apply AWp.G|apply AWp.R|(refine AWp.D ?_ ?_;kernel_rfl)|(apply AWp.T;exact rfl;((exact rfl)))|(apply yA;(iterate 6 exact rfl);(iterate 2 (focus (repeat (first|exact VAs.nil|apply VAs.cons|apply VA.c|exact VCs.nil|exact VC.imm (Imm.v _)))));((exact hc));(focus (repeat ((exact Flat.v _))));((apply yJ));((exact xB _ _)))))
    (((refine zV _ [] (.cons (y5 rfl rfl rfl zI rfl rfl rfl) .nil) ?_ rfl ?_)) <;> (repeat' (first|exact trivial|exact rfl|apply And.intro)))
theorem apS_one (s : StD) (x : List UInt8) : apS s ⟨1, x⟩ = { wH s x with j := false, g := false } := rfl
theorem apS_three (s : StD) (x : List UInt8) : apS s ⟨3, x⟩ = { wH s x with j := true, g := false } := rfl
theorem apS_five (s : StD) (x : List UInt8) : apS s ⟨5, x⟩ = gluS s x := rfl
theorem apS_four (s : StD) (x : List UInt8) : apS s ⟨4, x⟩ = ⟨s.t ++ x, true, false, s.c, s.w⟩ := rfl
theorem apS_two (s : StD) (x : List UInt8) : apS s ⟨2, x⟩ = ⟨endT s x, false, false, s.c, s.w⟩ := rfl
theorem apS_six (s : StD) (x : List UInt8) : apS s ⟨6, x⟩ = ⟨s.t ++ x, false, false, 1, s.w⟩ := rfl
theorem apS_seven (s : StD) (x : List UInt8) : apS s ⟨7, x⟩ = ⟨s.t ++ x, false, false, s.c, s.w⟩ := rfl
theorem apS_eight (s : StD) (x : List UInt8) : apS s ⟨8, x⟩ = { s with c := 1 } := rfl
theorem apS_nine (s : StD) (x : List UInt8) : apS s ⟨9, x⟩ = { s with c := 2 } := rfl
theorem apS_ten (s : StD) (x : List UInt8) : apS s ⟨10, x⟩ = { s with t := s.t.take s.w ++ upL (s.t.drop s.w) } := rfl
theorem putS_len (s : StD) (x : List UInt8) : (wH s x).t.length ≤ s.t.length + 1 + x.length := by
  show (gap s ++ casL s.c x).length ≤ _
  rw [List.length_append, casL_len]
  have : (gap s).length ≤ s.t.length + 1 := by
    unfold gap
    split
    · omega
    · rw [List.length_append]; exact Nat.le_refl _
  omega
set_option maxHeartbeats 2000000 in
theorem l12Apply_pf (s : StD) (a : Atm) (hs : s.t.length ≤ 100000) (hw : s.w ≤ s.t.length) (ha : a.t.length ≤ 1000) (hk : 1 ≤ a.k ∧ a.k ≤ 10) : PF Tryz.prog 77 [.agg (v8 s), .agg (xL a)] [] (.agg (v8 (apS s a))) := by
  obtain ⟨t, j, g, c, w⟩ := s
  obtain ⟨k, x⟩ := a
  have hs' : t.length ≤ 100000 := hs
  have hx : x.length ≤ 1000 := ha
  have hw' : w ≤ t.length := hw
  have hk' : k = 1 ∨ k = 2 ∨ k = 3 ∨ k = 4 ∨ k = 5 ∨ k = 6 ∨ k = 7 ∨ k = 8 ∨ k = 9 ∨ k = 10 := by simp only at hk; omega
  clear hk hs ha hw
  rcases hk' with rfl | rfl | rfl | rfl | rfl | rfl | rfl | rfl | rfl | rfl
  · have hp := l12Put_pf ⟨t, j, g, c, w⟩ x (by show t.length ≤ _; omega) (by omega)
    rw [apS_one]
    have hl := putS_len ⟨t, j, g, c, w⟩ x
    obtain ⟨q, hq⟩ : ∃ q, wH ⟨t, j, g, c, w⟩ x = q := ⟨_, rfl⟩
    rw [hq] at hp hl ⊢
    clear hq
    refine PF.enter (xG _ _) Tryz.func77 rfl (by kernel_rfl) _ _ rfl rfl rfl (fun w0 mu I0 β0 gi dis => ?_)
    (repeat' (first|(apply xW;((exact Want.none_ rfl)))|(apply xF zI;exact rfl;exact rfl)|((first|apply yB|apply yH)<;>(first|exact zI|exact rfl|refine yG ?_|exact lb rfl))|apply zR|apply AWp.Q|apply zH|apply AWp.G|apply AWp.B|apply AWp.J|apply AWp.R|apply zJ|(apply AWp.T;exact rfl;((exact rfl)))|(apply yA;(iterate 6 exact rfl);(iterate 2 (focus (repeat (first|exact VAs.nil|apply VAs.cons|apply VA.c|apply VA.agg|exact VCs.nil|apply VCs.cons|exact VC.imm (Imm.v _)))));((exact hp));(focus (repeat (first|exact trivial|exact Flat.v _|apply And.intro)));((apply yJ));((exact rfl)))))
    (((refine zV _ [] (.cons (y5 rfl rfl rfl zI rfl rfl rfl) .nil) ?_ rfl ?_)) <;> (repeat' (first|exact trivial|exact rfl|apply And.intro)))
  · rw [apS_two]
    have hd : ((t.drop w).take (t.length - w)).length = t.length - w := by rw [vV, List.length_drop]
    have hj := joinS_pf ((t.drop w).take (t.length - w)) x (by omega) (by omega)
    have hjl := joinW_len ((t.drop w).take (t.length - w)) x
    rw [jnT] at hj
    cases hq : jE ((t.drop w).take (t.length - w)) x with
    | true =>
      have e : endT ⟨t, j, g, c, w⟩ x = (t.drop 0).take (w - 0) ++ joinW ((t.drop w).take (t.length - w)) x := by
        have hq' := hq
        rw [vV] at hq'
        rw [endT, takeT, vV]
        exact if_pos hq'
      rw [e]
      rw [hq, if_pos rfl] at hj
      generalize joinW ((t.drop w).take (t.length - w)) x = y at *
      refine PF.enter (xG _ _) Tryz.func77 rfl (by kernel_rfl) _ _ rfl rfl rfl (fun w0 mu I0 β0 gi dis => ?_)
      (repeat' (first|(apply xW;((exact Want.none_ rfl)))|(apply xF zI;exact rfl;exact rfl)|((first|(apply z6;exact rfl;exact rfl)|apply yB|(apply yM;exact rfl;exact rfl)|apply yH)<;>(first|exact zI|exact rfl|refine yG ?_|assumption|omega|exact ⟨rfl⟩|exact ⟨rfl,_,_,rfl,rfl⟩|exact lb rfl|(refine Bd.mk ?_;(simp;omega))))|apply zR|(refine yT ?_ ?_;kernel_rfl)|apply AWp.Q|apply zH|apply AWp.G|apply AWp.B|apply AWp.R|apply zJ|(refine AWp.D ?_ ?_;kernel_rfl)|(apply AWp.T;exact rfl;((exact rfl)))|(apply AWp.F;exact rfl;((exact rfl)))|(apply yA;(iterate 6 exact rfl);(iterate 2 (focus (repeat (first|exact VAs.nil|apply VAs.cons|apply VA.c|exact VCs.nil|exact VC.imm (Imm.v _)))));((exact hj));(focus (repeat (first|exact trivial|exact Flat.v _|apply And.intro)));((apply yJ));((exact xC _ _ _)))))
      (((refine zV _ [] (.cons (y5 rfl rfl rfl zI rfl rfl rfl) .nil) ?_ rfl ?_)) <;> (repeat' (first|exact trivial|exact rfl|apply And.intro)))
    | false =>
      have e : endT ⟨t, j, g, c, w⟩ x = t ++ x := by
        have hq' := hq
        rw [vV] at hq'
        rw [endT]
        exact if_neg (by show ¬ jE (t.drop w) x = true; rw [hq']; simp)
      rw [e]
      rw [hq, if_neg (by simp)] at hj
      refine PF.enter (xG _ _) Tryz.func77 rfl (by kernel_rfl) _ _ rfl rfl rfl (fun w0 mu I0 β0 gi dis => ?_)
      (repeat' (first|(apply xW;((exact Want.none_ rfl)))|(apply xF zI;exact rfl;exact rfl)|((first|(apply z6;exact rfl;exact rfl)|apply yB|(apply yM;exact rfl;exact rfl)|apply yH)<;>(first|exact zI|exact rfl|refine yG ?_|assumption|omega|exact ⟨rfl⟩|exact ⟨rfl,_,_,rfl,rfl⟩|exact lb rfl|(refine Bd.mk ?_;(simp;omega))))|apply zR|(refine yT ?_ ?_;kernel_rfl)|apply AWp.Q|apply zH|apply AWp.G|apply AWp.B|apply AWp.R|apply zJ|(refine AWp.D ?_ ?_;kernel_rfl)|(apply AWp.T;exact rfl;((exact rfl)))|(apply AWp.F;exact rfl;((exact rfl)))|(apply yA;(iterate 6 exact rfl);(iterate 2 (focus (repeat (first|exact VAs.nil|apply VAs.cons|apply VA.c|exact VCs.nil|exact VC.imm (Imm.v _)))));((exact hj));(focus (repeat (first|exact trivial|exact Flat.v _|apply And.intro)));((apply yJ));((exact xC _ _ _)))))
      (((refine zV _ [] (.cons (y5 rfl rfl rfl zI rfl rfl rfl) .nil) ?_ rfl ?_)) <;> (repeat' (first|exact trivial|exact rfl|apply And.intro)))
  · have hp := l12Put_pf ⟨t, j, g, c, w⟩ x (by show t.length ≤ _; omega) (by omega)
    rw [apS_three]
    have hl := putS_len ⟨t, j, g, c, w⟩ x
    obtain ⟨q, hq⟩ : ∃ q, wH ⟨t, j, g, c, w⟩ x = q := ⟨_, rfl⟩
    rw [hq] at hp hl ⊢
    clear hq
    refine PF.enter (xG _ _) Tryz.func77 rfl (by kernel_rfl) _ _ rfl rfl rfl (fun w0 mu I0 β0 gi dis => ?_)
    (repeat' (first|(apply xW;((exact Want.none_ rfl)))|(apply xF zI;exact rfl;exact rfl)|((first|apply yB|apply yH)<;>(first|exact zI|exact rfl|refine yG ?_|exact lb rfl))|apply zR|apply AWp.Q|apply zH|apply AWp.G|apply AWp.B|apply AWp.R|apply zJ|(apply AWp.T;exact rfl;((exact rfl)))|(apply AWp.F;exact rfl;((exact rfl)))|(apply yA;(iterate 6 exact rfl);(iterate 2 (focus (repeat (first|exact VAs.nil|apply VAs.cons|apply VA.c|apply VA.agg|exact VCs.nil|apply VCs.cons|exact VC.imm (Imm.v _)))));((exact hp));(focus (repeat (first|exact trivial|exact Flat.v _|apply And.intro)));((apply yJ));((exact rfl)))))
    (((refine zV _ [] (.cons (y5 rfl rfl rfl zI rfl rfl rfl) .nil) ?_ rfl ?_)) <;> (repeat' (first|exact trivial|exact rfl|apply And.intro)))
  · rw [apS_four]
    refine PF.enter (xG _ _) Tryz.func77 rfl (by kernel_rfl) _ _ rfl rfl rfl (fun w0 mu I0 β0 gi dis => ?_)
    (repeat' (first|(apply xW;((exact Want.none_ rfl)))|(apply xF zI;exact rfl;exact rfl)|((first|(apply z6;exact rfl;exact rfl)|apply yB|apply yH)<;>(first|exact zI|exact rfl|refine yG ?_|exact lb rfl|(refine Bd.mk ?_;(simp;omega))))|apply zR|apply AWp.Q|apply zH|apply AWp.G|apply AWp.B|apply AWp.R|apply zJ|(apply AWp.T;exact rfl;((exact rfl)))|(apply AWp.F;exact rfl;((exact rfl)))))
    (((refine zV _ [] (.cons (y5 rfl rfl rfl zI rfl rfl rfl) .nil) ?_ rfl ?_)) <;> (repeat' (first|exact trivial|exact rfl|apply And.intro)))
  · rw [apS_five]
    cases g with
    | true =>
      have hp := l12Put_pf ⟨t, true, true, c, w⟩ x (by show t.length ≤ _; omega) (by omega)
      have e : gluS ⟨t, j, true, c, w⟩ x = ⟨(wH ⟨t, true, true, c, w⟩ x).t, false, true, 0, w⟩ := by
        rw [gluS]; cases j <;> rfl
      have hc0 : (wH ⟨t, true, true, c, w⟩ x).c = 0 := rfl
      rw [e]
      obtain ⟨q, hq⟩ : ∃ q, wH ⟨t, true, true, c, w⟩ x = q := ⟨_, rfl⟩
      rw [hq] at hp hc0 ⊢
      obtain ⟨qt, qj, qg, qc, qw⟩ := q
      simp only at hc0
      subst hc0
      clear hq
      refine PF.enter (xG _ _) Tryz.func77 rfl (by kernel_rfl) _ _ rfl rfl rfl (fun w0 mu I0 β0 gi dis => ?_)
      (repeat' (first|(apply xW;((exact Want.none_ rfl)))|(apply xF zI;exact rfl;exact rfl)|((first|apply yB|apply yH)<;>(first|exact zI|exact rfl|refine yG ?_|exact lb rfl))|apply zR|apply AWp.Q|apply zH|apply AWp.G|apply AWp.B|apply AWp.R|apply zJ|(apply AWp.T;exact rfl;((exact rfl)))|(apply AWp.F;exact rfl;((exact rfl)))|(apply yA;(iterate 6 exact rfl);(iterate 2 (focus (repeat (first|exact VAs.nil|apply VAs.cons|apply VA.c|apply VA.agg|exact VCs.nil|apply VCs.cons|exact VC.imm (Imm.v _)))));((exact hp));(focus (repeat (first|exact trivial|exact Flat.v _|apply And.intro)));((apply yJ));((exact rfl)))))
      (((refine zV _ [] (.cons (y5 rfl rfl rfl zI rfl rfl rfl) .nil) ?_ rfl ?_)) <;> (repeat' (first|exact trivial|exact rfl|apply And.intro)))
    | false =>
      have hp := l12Put_pf ⟨t, j, false, c, w⟩ x (by show t.length ≤ _; omega) (by omega)
      have e : gluS ⟨t, j, false, c, w⟩ x = ⟨(wH ⟨t, j, false, c, w⟩ x).t, false, true, 0, (wH ⟨t, j, false, c, w⟩ x).w⟩ := by
        rw [gluS]; cases j <;> rfl
      have hc0 : (wH ⟨t, j, false, c, w⟩ x).c = 0 := rfl
      rw [e]
      obtain ⟨q, hq⟩ : ∃ q, wH ⟨t, j, false, c, w⟩ x = q := ⟨_, rfl⟩
      rw [hq] at hp hc0 ⊢
      obtain ⟨qt, qj, qg, qc, qw⟩ := q
      simp only at hc0
      subst hc0
      clear hq
      refine PF.enter (xG _ _) Tryz.func77 rfl (by kernel_rfl) _ _ rfl rfl rfl (fun w0 mu I0 β0 gi dis => ?_)
      (repeat' (first|(apply xW;((exact Want.none_ rfl)))|(apply xF zI;exact rfl;exact rfl)|((first|apply yB|apply yH)<;>(first|exact zI|exact rfl|refine yG ?_|exact lb rfl))|apply zR|apply AWp.Q|apply zH|apply AWp.G|apply AWp.B|apply AWp.J|apply AWp.R|apply zJ|(apply AWp.T;exact rfl;((exact rfl)))|(apply AWp.F;exact rfl;((exact rfl)))|(apply yA;(iterate 6 exact rfl);(iterate 2 (focus (repeat (first|exact VAs.nil|apply VAs.cons|apply VA.c|apply VA.agg|exact VCs.nil|apply VCs.cons|exact VC.imm (Imm.v _)))));((exact hp));(focus (repeat (first|exact trivial|exact Flat.v _|apply And.intro)));((apply yJ));((exact rfl)))))
      (((refine zV _ [] (.cons (y5 rfl rfl rfl zI rfl rfl rfl) .nil) ?_ rfl ?_)) <;> (repeat' (first|exact trivial|exact rfl|apply And.intro)))
  · rw [apS_six]
    refine PF.enter (xG _ _) Tryz.func77 rfl (by kernel_rfl) _ _ rfl rfl rfl (fun w0 mu I0 β0 gi dis => ?_)
    (repeat' (first|(apply xW;((exact Want.none_ rfl)))|(apply xF zI;exact rfl;exact rfl)|((first|(apply z6;exact rfl;exact rfl)|apply yB|apply yH)<;>(first|exact zI|exact rfl|refine yG ?_|exact lb rfl|(refine Bd.mk ?_;(simp;omega))))|apply zR|apply AWp.Q|apply zH|apply AWp.G|apply AWp.B|apply AWp.J|apply AWp.R|apply zJ|(apply AWp.T;exact rfl;((exact rfl)))|(apply AWp.F;exact rfl;((exact rfl)))))
    (((refine zV _ [] (.cons (y5 rfl rfl rfl zI rfl rfl rfl) .nil) ?_ rfl ?_)) <;> (repeat' (first|exact trivial|exact rfl|apply And.intro)))
  · rw [apS_seven]
    refine PF.enter (xG _ _) Tryz.func77 rfl (by kernel_rfl) _ _ rfl rfl rfl (fun w0 mu I0 β0 gi dis => ?_)
    (repeat' (first|(apply xW;((exact Want.none_ rfl)))|(apply xF zI;exact rfl;exact rfl)|((first|(apply z6;exact rfl;exact rfl)|apply yB|apply yH)<;>(first|exact zI|exact rfl|refine yG ?_|exact lb rfl|(refine Bd.mk ?_;(simp;omega))))|apply zR|apply AWp.Q|apply zH|apply AWp.G|apply AWp.B|apply AWp.J|apply AWp.R|apply zJ|(apply AWp.T;exact rfl;((exact rfl)))|(apply AWp.F;exact rfl;((exact rfl)))))
    (((refine zV _ [] (.cons (y5 rfl rfl rfl zI rfl rfl rfl) .nil) ?_ rfl ?_)) <;> (repeat' (first|exact trivial|exact rfl|apply And.intro)))
  · rw [apS_eight]
    refine PF.enter (xG _ _) Tryz.func77 rfl (by kernel_rfl) _ _ rfl rfl rfl (fun w0 mu I0 β0 gi dis => ?_)
    (repeat' (first|(apply xW;((exact Want.none_ rfl)))|(apply xF zI;exact rfl;exact rfl)|((first|apply yB|apply yH)<;>(first|exact zI|exact rfl|refine yG ?_|exact lb rfl))|apply zR|apply AWp.Q|apply zH|apply AWp.G|apply AWp.B|apply AWp.R|apply zJ|(apply AWp.T;exact rfl;((exact rfl)))|(apply AWp.F;exact rfl;((exact rfl)))))
    (((refine zV _ [] (.cons (y5 rfl rfl rfl zI rfl rfl rfl) .nil) ?_ rfl ?_)) <;> (repeat' (first|exact trivial|exact rfl|apply And.intro)))
  · rw [apS_nine]
    refine PF.enter (xG _ _) Tryz.func77 rfl (by kernel_rfl) _ _ rfl rfl rfl (fun w0 mu I0 β0 gi dis => ?_)
    (repeat' (first|(apply xW;((exact Want.none_ rfl)))|(apply xF zI;exact rfl;exact rfl)|((first|apply yB|apply yH)<;>(first|exact zI|exact rfl|refine yG ?_|exact lb rfl))|apply zR|apply AWp.Q|apply zH|apply AWp.G|apply AWp.B|apply AWp.R|apply zJ|(apply AWp.T;exact rfl;((exact rfl)))|(apply AWp.F;exact rfl;((exact rfl)))))
    (((refine zV _ [] (.cons (y5 rfl rfl rfl zI rfl rfl rfl) .nil) ?_ rfl ?_)) <;> (repeat' (first|exact trivial|exact rfl|apply And.intro)))
  · rw [apS_ten]
    have hd : ((t.drop w).take (t.length - w)).length = t.length - w := by rw [vV, List.length_drop]
    have hu : PF Tryz.prog 113 [.c (str ((t.drop w).take (t.length - w))), .c (int 1)] [] (.c (str (upL ((t.drop w).take (t.length - w))))) := l12Case_pf ((t.drop w).take (t.length - w)) 1 (by omega)
    have hul := upL_len ((t.drop w).take (t.length - w))
    have e : t.take w ++ upL (t.drop w) = (t.drop 0).take (w - 0) ++ upL ((t.drop w).take (t.length - w)) := by rw [takeT, vV]
    show PF _ _ _ _ (.agg (v8 ⟨t.take w ++ upL (t.drop w), j, g, c, w⟩))
    rw [e]
    generalize upL ((t.drop w).take (t.length - w)) = y at *
    refine PF.enter (xG _ _) Tryz.func77 rfl (by kernel_rfl) _ _ rfl rfl rfl (fun w0 mu I0 β0 gi dis => ?_)
    (repeat' (first|(apply xW;((exact Want.none_ rfl)))|(apply xF zI;exact rfl;exact rfl)|((first|(apply z6;exact rfl;exact rfl)|apply yB|(apply yM;exact rfl;exact rfl)|apply yH)<;>(first|exact zI|exact rfl|refine yG ?_|assumption|omega|exact ⟨rfl⟩|exact ⟨rfl,_,_,rfl,rfl⟩|exact lb rfl|(refine Bd.mk ?_;(simp;omega))))|apply zR|(refine yT ?_ ?_;kernel_rfl)|apply AWp.Q|apply zH|apply AWp.G|apply AWp.B|apply AWp.R|apply zJ|(refine AWp.D ?_ ?_;kernel_rfl)|(apply AWp.T;exact rfl;((exact rfl)))|(apply AWp.F;exact rfl;((exact rfl)))|(apply yA;(iterate 6 exact rfl);(iterate 2 (focus (repeat (first|exact VAs.nil|apply VAs.cons|apply VA.c|exact VCs.nil|exact VC.imm (Imm.v _)))));((exact hu));(focus (repeat ((exact Flat.v _))));((apply yJ));((exact xB _ _)))))
    (((refine zV _ [] (.cons (y5 rfl rfl rfl zI rfl rfl rfl) .nil) ?_ rfl ?_)) <;> (repeat' (first|exact trivial|exact rfl|apply And.intro)))
end Go.Proofs.YtjeffognhcbiaaaGreatDoor
