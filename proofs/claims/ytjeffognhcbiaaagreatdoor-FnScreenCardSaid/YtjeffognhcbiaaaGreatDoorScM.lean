/- States, by the program: glue, end, apply. No conditions but bounds of lengths. -/
import Derived.Test.YtjeffognhcbiaaaGreatDoorScJ
import Derived.Test.YtjeffognhcbiaaaGreatDoorScE
import Derived.Test.YtjeffognhcbiaaaGreatDoorDcB
namespace Go.Proofs.YtjeffognhcbiaaaGreatDoor
open Go Go.RowKit
theorem upper_pf (s : List UInt8) (hs : s.length ≤ 1000000) : PF Tryz.prog 162 [.c (str s)] [] (.c (str (upL s))) := by
  cases s with
  | nil =>
    refine PF.enter (xJ _) Tryz.func162 rfl (by kernel_rfl) _ _ rfl rfl rfl (fun w0 mu I0 β0 gi dis => ?_)
    (repeat' (first|(apply xW;((exact Want.none_ rfl)))|(apply xF zI;exact rfl;exact rfl)|(apply yR;exact rfl;exact rfl;((exact rfl));exact rfl;exact rfl)|(apply yS;(iterate 5 exact rfl);((exact rfl)))|apply zR|apply AWp.Q|apply zH|apply AWp.G|apply AWp.J|apply AWp.R|(apply AWp.F;exact rfl;((exact rfl)))))
    (((refine zV _ [] (.cons (zN rfl) .nil) ?_ rfl ?_)) <;> (repeat' (first|exact trivial|exact rfl)))
  | cons b r =>
    have hne : (b :: r) ≠ [] := by simp
    have hb : (b :: r)[0]? = some b := rfl
    have hl1 : 1 ≤ (b :: r).length := by simp
    have hr : r.length ≤ 1000000 := by simp at hs; omega
    cases hl : vU b with
    | true =>
      have hv := up_val hl
      have hs32 := sub32 hl
      have hl' := hl
      rw [vU, Bool.and_eq_true, decide_eq_true_eq, decide_eq_true_eq] at hl'
      obtain ⟨g1, g2⟩ := hl'
      refine PF.enter (xJ _) Tryz.func162 rfl (by kernel_rfl) _ _ rfl rfl rfl (fun w0 mu I0 β0 gi dis => ?_)
      (repeat' (first|(apply xW;(first|exact Want.none_ rfl|(refine zX rfl rfl rfl rfl ?_;((exact dT ‹_›)))))|(apply xF zI;exact rfl;exact rfl)|((first|apply zZ|(apply yO;exact rfl;exact rfl;exact rfl)|apply xD)<;>(first|exact zI|exact rfl|refine yG ?_|omega))|(apply yR;exact rfl;exact rfl;((exact dT ‹_›));exact rfl;exact rfl)|apply zR|apply AWp.Q|apply zH|apply AWp.G|(refine AWp.D ?_ ?_;kernel_rfl)|(apply AWp.T;exact rfl;((exact dT ‹_›)))))
      apply qN
      exact rfl
      exact rfl
      exact rfl
      (repeat' (first|(apply xW;((exact Want.none_ rfl)))|(apply xF zI;exact rfl;exact rfl)))
      apply (rx_convIS [b - 32])
      exact rfl
      exact rfl
      exact zI
      exact rfl
      exact rfl
      exact rfl
      exact rfl
      · rw [hv]; exact enc_one (by omega)
      (repeat' (first|(apply xW;((exact Want.none_ rfl)))|(apply xF zI;exact rfl;exact rfl)|((first|(apply z6;exact rfl;exact rfl)|(apply yM;exact rfl;exact rfl))<;>(first|exact zI|exact rfl|refine yG ?_|assumption|omega|exact ⟨rfl⟩|exact ⟨rfl,_,_,rfl,rfl⟩|(refine Bd.mk ?_;(simp;omega))))|(refine yT ?_ ?_;kernel_rfl)|apply zH|apply AWp.R|apply zK))
      (((refine zV _ [] (.cons (zN rfl) .nil) ?_ rfl ?_)) <;> (repeat' (first|exact trivial|refine vwS ?_)))
      all_goals first | (simp [upL, hl]; done) | skip
    | false =>
      have hl' := hl
      rw [vU, Bool.and_eq_false_iff, decide_eq_false_iff_not, decide_eq_false_iff_not] at hl'
      have e : upL (b :: r) = b :: r := by rw [upL, hl]; rfl
      rw [e]
      by_cases g1 : (97 : Int) ≤ ((b.toNat : Nat) : Int)
      · have g2 : ¬ ((b.toNat : Nat) : Int) ≤ 122 := hl'.resolve_left (fun h => h g1)
        refine PF.enter (xJ _) Tryz.func162 rfl (by kernel_rfl) _ _ rfl rfl rfl (fun w0 mu I0 β0 gi dis => ?_)
        (repeat' (first|(apply xW;(first|exact Want.none_ rfl|(refine zX rfl rfl rfl rfl ?_;((exact dT ‹_›)))))|(apply xF zI;exact rfl;exact rfl)|(((apply xD))<;>(first|exact zI|exact rfl|refine yG ?_))|(apply yR;exact rfl;exact rfl;((exact dT ‹_›));exact rfl;exact rfl)|apply zR|apply AWp.Q|apply zH|apply AWp.G|apply AWp.J|apply AWp.R|(apply AWp.F;exact rfl;((exact dF ‹_›)))))
        (((refine zV _ [] (.cons (zN rfl) .nil) ?_ rfl ?_)) <;> (repeat' (first|exact trivial|exact rfl)))
      · refine PF.enter (xJ _) Tryz.func162 rfl (by kernel_rfl) _ _ rfl rfl rfl (fun w0 mu I0 β0 gi dis => ?_)
        (repeat' (first|(apply xW;(first|exact Want.none_ rfl|(refine zX rfl rfl rfl rfl ?_;((exact dT ‹_›)))))|(apply xF zI;exact rfl;exact rfl)|(((apply xD))<;>(first|exact zI|exact rfl|refine yG ?_))|(apply yR;exact rfl;exact rfl;(first|exact dT ‹_›|exact dF ‹_›);exact rfl;exact rfl)|(apply yS;(iterate 5 exact rfl);((exact dF ‹_›)))|apply zR|apply AWp.Q|apply zH|apply AWp.G|apply AWp.J|apply AWp.R|(apply AWp.F;exact rfl;((exact rfl)))))
        (((refine zV _ [] (.cons (zN rfl) .nil) ?_ rfl ?_)) <;> (repeat' (first|exact trivial|exact rfl)))
theorem lower_pf (s : List UInt8) (hs : s.length ≤ 1000000) : PF Tryz.prog 185 [.c (str s)] [] (.c (str (loL s))) := by
  cases s with
  | nil =>
    refine PF.enter (xJ _) Tryz.func185 rfl (by kernel_rfl) _ _ rfl rfl rfl (fun w0 mu I0 β0 gi dis => ?_)
    (repeat' (first|(apply xW;((exact Want.none_ rfl)))|(apply xF zI;exact rfl;exact rfl)|(apply yR;exact rfl;exact rfl;((exact rfl));exact rfl;exact rfl)|(apply yS;(iterate 5 exact rfl);((exact rfl)))|apply zR|apply AWp.Q|apply zH|apply AWp.G|apply AWp.J|apply AWp.R|(apply AWp.F;exact rfl;((exact rfl)))))
    (((refine zV _ [] (.cons (zN rfl) .nil) ?_ rfl ?_)) <;> (repeat' (first|exact trivial|exact rfl)))
  | cons b r =>
    have hne : (b :: r) ≠ [] := by simp
    have hb : (b :: r)[0]? = some b := rfl
    have hl1 : 1 ≤ (b :: r).length := by simp
    have hr : r.length ≤ 1000000 := by simp at hs; omega
    cases hl : kP b with
    | true =>
      have hv := lo_val hl
      have hs32 := add32 hl
      have hl' := hl
      rw [kP, Bool.and_eq_true, decide_eq_true_eq, decide_eq_true_eq] at hl'
      obtain ⟨g1, g2⟩ := hl'
      rw [IntWalk.u8_in _ (by omega)] at hs32
      refine PF.enter (xJ _) Tryz.func185 rfl (by kernel_rfl) _ _ rfl rfl rfl (fun w0 mu I0 β0 gi dis => ?_)
      (repeat' (first|(apply xW;(first|exact Want.none_ rfl|(refine zX rfl rfl rfl rfl ?_;((exact dT ‹_›)))))|(apply xF zI;exact rfl;exact rfl)|((first|apply zZ|(apply yO;exact rfl;exact rfl;exact rfl)|apply xD)<;>(first|exact zI|exact rfl|refine yG ?_|omega))|(apply yR;exact rfl;exact rfl;((exact dT ‹_›));exact rfl;exact rfl)|apply zR|apply AWp.Q|apply zH|apply AWp.G|(refine AWp.D ?_ ?_;kernel_rfl)|(apply AWp.T;exact rfl;((exact dT ‹_›)))))
      apply qN
      exact rfl
      exact rfl
      exact rfl
      (repeat' (first|(apply xW;((exact Want.none_ rfl)))|(apply xF zI;exact rfl;exact rfl)))
      apply (rx_convIS [b + 32])
      exact rfl
      exact rfl
      exact zI
      exact rfl
      exact rfl
      exact rfl
      exact rfl
      · rw [hv]; exact enc_one (by omega)
      (repeat' (first|(apply xW;((exact Want.none_ rfl)))|(apply xF zI;exact rfl;exact rfl)|((first|(apply z6;exact rfl;exact rfl)|(apply yM;exact rfl;exact rfl))<;>(first|exact zI|exact rfl|refine yG ?_|assumption|omega|exact ⟨rfl⟩|exact ⟨rfl,_,_,rfl,rfl⟩|(refine Bd.mk ?_;(simp;omega))))|(refine yT ?_ ?_;kernel_rfl)|apply zH|apply AWp.R|apply zK))
      (((refine zV _ [] (.cons (zN rfl) .nil) ?_ rfl ?_)) <;> (repeat' (first|exact trivial|refine vwS ?_)))
      all_goals first | (simp [loL, hl]; done) | skip
    | false =>
      have hl' := hl
      rw [kP, Bool.and_eq_false_iff, decide_eq_false_iff_not, decide_eq_false_iff_not] at hl'
      have e : loL (b :: r) = b :: r := by rw [loL, hl]; rfl
      rw [e]
      by_cases g1 : (65 : Int) ≤ ((b.toNat : Nat) : Int)
      · have g2 : ¬ ((b.toNat : Nat) : Int) ≤ 90 := hl'.resolve_left (fun h => h g1)
        refine PF.enter (xJ _) Tryz.func185 rfl (by kernel_rfl) _ _ rfl rfl rfl (fun w0 mu I0 β0 gi dis => ?_)
        (repeat' (first|(apply xW;(first|exact Want.none_ rfl|(refine zX rfl rfl rfl rfl ?_;((exact dT ‹_›)))))|(apply xF zI;exact rfl;exact rfl)|(((apply xD))<;>(first|exact zI|exact rfl|refine yG ?_))|(apply yR;exact rfl;exact rfl;((exact dT ‹_›));exact rfl;exact rfl)|apply zR|apply AWp.Q|apply zH|apply AWp.G|apply AWp.J|apply AWp.R|(apply AWp.F;exact rfl;((exact dF ‹_›)))))
        (((refine zV _ [] (.cons (zN rfl) .nil) ?_ rfl ?_)) <;> (repeat' (first|exact trivial|exact rfl)))
      · refine PF.enter (xJ _) Tryz.func185 rfl (by kernel_rfl) _ _ rfl rfl rfl (fun w0 mu I0 β0 gi dis => ?_)
        (repeat' (first|(apply xW;(first|exact Want.none_ rfl|(refine zX rfl rfl rfl rfl ?_;((exact dT ‹_›)))))|(apply xF zI;exact rfl;exact rfl)|(((apply xD))<;>(first|exact zI|exact rfl|refine yG ?_))|(apply yR;exact rfl;exact rfl;(first|exact dT ‹_›|exact dF ‹_›);exact rfl;exact rfl)|(apply yS;(iterate 5 exact rfl);((exact dF ‹_›)))|apply zR|apply AWp.Q|apply zH|apply AWp.G|apply AWp.J|apply AWp.R|(apply AWp.F;exact rfl;((exact rfl)))))
        (((refine zV _ [] (.cons (zN rfl) .nil) ?_ rfl ?_)) <;> (repeat' (first|exact trivial|exact rfl)))
def stO (s : StD) : AObj := ⟨94, 5, [v8 s]⟩
theorem vI (s : StD) : ∀ x ∈ (stO s).els, ∀ c ∈ x, Imm c := by
  intro x hx c hc
  simp only [stO, List.mem_singleton] at hx
  subst hx
  simp only [v8, List.mem_cons, List.not_mem_nil, or_false] at hc
  rcases hc with rfl | rfl | rfl | rfl | rfl <;> exact Imm.v _
theorem put_pfm (s : StD) (x : List UInt8) (hs : s.t.length ≤ 1000000) (hx : x.length ≤ 1000000) : PFM Tryz.prog 159 [stO s] [.c (.ptr 0 0 0), .c (str x)] [some (stO (wH s x))] (.tup []) := by
  have hsc := vI (wH s x)
  obtain ⟨t, j, g, c, w⟩ := s
  have hs' : t.length ≤ 1000000 := hs
  have hu := upper_pf x hx
  have hlo := lower_pf x hx
  have hcl := casL_len c x
  have hul := upL_len x
  have hll := loL_len x
  have h32 : (t ++ [32]).length = t.length + 1 := by simp
  cases j with
  | true =>
    have e : wH ⟨t, true, g, c, w⟩ x = ⟨t ++ casL c x, true, g, 0, t.length⟩ := rfl
    rw [e] at hsc ⊢
    by_cases h1 : c = 1
    · subst h1
      have e1 : casL 1 x = upL x := rfl
      rw [e1] at hsc hcl ⊢
      generalize upL x = y at *
      refine zD (xG _ _) (xQ _) rfl Tryz.func159 rfl (by kernel_rfl) _ _ rfl rfl rfl (fun w0 mu I0 β0 gi dis => ?_)
      (repeat' (first|(apply xW;((exact Want.none_ rfl)))|(apply xF zI;exact rfl;exact rfl)|((first|(apply z6;exact rfl;exact rfl)|apply yH)<;>(first|exact zI|exact rfl|refine yG ?_|exact lb rfl|((try refine Bd.mk ?_);(omega))))|apply zR|apply AWp.Q|apply zH|apply AWp.G|apply AWp.B|apply AWp.J|apply zJ|(apply AWp.T;exact rfl;((exact rfl)))|(apply AWp.F;exact rfl;((exact rfl)))|(apply yA;(iterate 6 exact rfl);(iterate 2 (focus (repeat (first|exact VAs.nil|apply VAs.cons|apply VA.c|exact VCs.nil|exact VC.imm (Imm.v _)))));((exact hu));(focus (repeat ((exact Flat.v _))));((apply yJ));((exact xB _ _)))))
      (((refine zW _ [(0, some 0)] .nil ?_ rfl ?_)) <;> (repeat' (first|exact trivial|exact rfl|apply And.intro|refine ⟨_,rfl,rfl,rfl,OW.one ?_⟩)))
    · by_cases h2 : c = 2
      · subst h2
        have e1 : casL 2 x = loL x := rfl
        rw [e1] at hsc hcl ⊢
        generalize loL x = y at *
        refine zD (xG _ _) (xQ _) rfl Tryz.func159 rfl (by kernel_rfl) _ _ rfl rfl rfl (fun w0 mu I0 β0 gi dis => ?_)
        (repeat' (first|(apply xW;((exact Want.none_ rfl)))|(apply xF zI;exact rfl;exact rfl)|((first|(apply z6;exact rfl;exact rfl)|apply yH)<;>(first|exact zI|exact rfl|refine yG ?_|exact lb rfl|((try refine Bd.mk ?_);(omega))))|apply zR|apply AWp.Q|apply zH|apply AWp.G|apply AWp.B|apply AWp.J|apply zJ|(apply AWp.T;exact rfl;((exact rfl)))|(apply AWp.F;exact rfl;(first|exact dF ‹_›|exact rfl))|(apply yA;(iterate 6 exact rfl);(iterate 2 (focus (repeat (first|exact VAs.nil|apply VAs.cons|apply VA.c|exact VCs.nil|exact VC.imm (Imm.v _)))));((exact hlo));(focus (repeat ((exact Flat.v _))));((apply yJ));((exact xB _ _)))))
        (((refine zW _ [(0, some 0)] .nil ?_ rfl ?_)) <;> (repeat' (first|exact trivial|exact rfl|apply And.intro|refine ⟨_,rfl,rfl,rfl,OW.one ?_⟩)))
      · have e1 : casL c x = x := by rw [casL, if_neg h1, if_neg h2]
        have h1' : ¬ ((c : Nat) : Int) = 1 := by omega
        have h2' : ¬ ((c : Nat) : Int) = 2 := by omega
        rw [e1] at hsc hcl ⊢
        refine zD (xG _ _) (xQ _) rfl Tryz.func159 rfl (by kernel_rfl) _ _ rfl rfl rfl (fun w0 mu I0 β0 gi dis => ?_)
        (repeat' (first|(apply xW;((exact Want.none_ rfl)))|(apply xF zI;exact rfl;exact rfl)|((first|(apply z6;exact rfl;exact rfl)|apply yH)<;>(first|exact zI|exact rfl|refine yG ?_|exact lb rfl|((try refine Bd.mk ?_);(omega))))|apply zR|apply AWp.Q|apply zH|apply AWp.G|apply AWp.B|apply AWp.J|apply zJ|(apply AWp.F;exact rfl;(first|exact dF ‹_›|exact rfl))))
        (((refine zW _ [(0, some 0)] .nil ?_ rfl ?_)) <;> (repeat' (first|exact trivial|exact rfl|apply And.intro|refine ⟨_,rfl,rfl,rfl,OW.one ?_⟩)))
  | false =>
    have e : wH ⟨t, false, g, c, w⟩ x = ⟨(t ++ [32]) ++ casL c x, false, g, 0, (t ++ [32]).length⟩ := rfl
    rw [e] at hsc ⊢
    by_cases h1 : c = 1
    · subst h1
      have e1 : casL 1 x = upL x := rfl
      rw [e1] at hsc hcl ⊢
      generalize upL x = y at *
      refine zD (xG _ _) (xQ _) rfl Tryz.func159 rfl (by kernel_rfl) _ _ rfl rfl rfl (fun w0 mu I0 β0 gi dis => ?_)
      (repeat' (first|(apply xW;((exact Want.none_ rfl)))|(apply xF zI;exact rfl;exact rfl)|((first|(apply z6;exact rfl;exact rfl)|apply yH)<;>(first|exact zI|exact rfl|refine yG ?_|exact lb rfl|((try refine Bd.mk ?_);(simp;omega))))|apply zR|apply AWp.Q|apply zH|apply AWp.G|apply AWp.B|apply zJ|(apply AWp.T;exact rfl;((exact rfl)))|(apply yA;(iterate 6 exact rfl);(iterate 2 (focus (repeat (first|exact VAs.nil|apply VAs.cons|apply VA.c|exact VCs.nil|exact VC.imm (Imm.v _)))));((exact hu));(focus (repeat ((exact Flat.v _))));((apply yJ));((exact xB _ _)))))
      (((refine zW _ [(0, some 0)] .nil ?_ rfl ?_)) <;> (repeat' (first|exact trivial|exact rfl|apply And.intro|refine ⟨_,rfl,rfl,rfl,OW.one ?_⟩)))
    · by_cases h2 : c = 2
      · subst h2
        have e1 : casL 2 x = loL x := rfl
        rw [e1] at hsc hcl ⊢
        generalize loL x = y at *
        refine zD (xG _ _) (xQ _) rfl Tryz.func159 rfl (by kernel_rfl) _ _ rfl rfl rfl (fun w0 mu I0 β0 gi dis => ?_)
        (repeat' (first|(apply xW;((exact Want.none_ rfl)))|(apply xF zI;exact rfl;exact rfl)|((first|(apply z6;exact rfl;exact rfl)|apply yH)<;>(first|exact zI|exact rfl|refine yG ?_|exact lb rfl|((try refine Bd.mk ?_);(simp;omega))))|apply zR|apply AWp.Q|apply zH|apply AWp.G|apply AWp.B|apply zJ|(apply AWp.T;exact rfl;((exact rfl)))|(apply AWp.F;exact rfl;((exact rfl)))|(apply yA;(iterate 6 exact rfl);(iterate 2 (focus (repeat (first|exact VAs.nil|apply VAs.cons|apply VA.c|exact VCs.nil|exact VC.imm (Imm.v _)))));((exact hlo));(focus (repeat ((exact Flat.v _))));((apply yJ));((exact xB _ _)))))
        (((refine zW _ [(0, some 0)] .nil ?_ rfl ?_)) <;> (repeat' (first|exact trivial|exact rfl|apply And.intro|refine ⟨_,rfl,rfl,rfl,OW.one ?_⟩)))
      · have e1 : casL c x = x := by rw [casL, if_neg h1, if_neg h2]
        have h1' : ¬ ((c : Nat) : Int) = 1 := by omega
        have h2' : ¬ ((c : Nat) : Int) = 2 := by omega
        rw [e1] at hsc hcl ⊢
        refine zD (xG _ _) (xQ _) rfl Tryz.func159 rfl (by kernel_rfl) _ _ rfl rfl rfl (fun w0 mu I0 β0 gi dis => ?_)
        (repeat' (first|(apply xW;((exact Want.none_ rfl)))|(apply xF zI;exact rfl;exact rfl)|((first|(apply z6;exact rfl;exact rfl)|apply yH)<;>(first|exact zI|exact rfl|refine yG ?_|exact lb rfl|((try refine Bd.mk ?_);(simp;omega))))|apply zR|apply AWp.Q|apply zH|apply AWp.G|apply AWp.B|apply AWp.J|apply zJ|(apply AWp.T;exact rfl;((exact rfl)))|(apply AWp.F;exact rfl;((exact dF ‹_›)))))
        (((refine zW _ [(0, some 0)] .nil ?_ rfl ?_)) <;> (repeat' (first|exact trivial|exact rfl|apply And.intro|refine ⟨_,rfl,rfl,rfl,OW.one ?_⟩)))
end Go.Proofs.YtjeffognhcbiaaaGreatDoor
namespace Go.Proofs.YtjeffognhcbiaaaGreatDoor
open Go Go.RowKit
def glP (s : StD) (x : List UInt8) : StD := ⟨(wH { s with j := s.j || s.g } x).t, s.j || s.g, s.g, 0, if s.g then s.w else (wH { s with j := s.j || s.g } x).w⟩
theorem glue_pfm (s : StD) (x : List UInt8) (hs : s.t.length ≤ 1000000) (hx : x.length ≤ 1000000) : PFM Tryz.prog 160 [stO s] [.c (.ptr 0 0 0), .c (str x)] [some (stO (glP s x))] (.tup []) := by
  have hsc := vI (glP s x)
  obtain ⟨t, j, g, c, w⟩ := s
  cases g with
  | true =>
    have hp := put_pfm ⟨t, true, true, c, w⟩ x hs hx
    have i1 := xK (vI (wH ⟨t, true, true, c, w⟩ x))
    have j1 := wD (vI ⟨t, true, true, c, w⟩)
    have e : glP ⟨t, j, true, c, w⟩ x = ⟨(wH ⟨t, true, true, c, w⟩ x).t, true, true, 0, w⟩ := by rw [glP]; cases j <;> rfl
    have hq1 : (wH ⟨t, true, true, c, w⟩ x).c = 0 := rfl
    have hq2 : (wH ⟨t, true, true, c, w⟩ x).j = true := rfl
    have hq3 : (wH ⟨t, true, true, c, w⟩ x).g = true := rfl
    rw [e] at hsc ⊢
    obtain ⟨q, hq⟩ : ∃ q, wH ⟨t, true, true, c, w⟩ x = q := ⟨_, rfl⟩
    rw [hq] at hp i1 hq1 hq2 hq3 hsc ⊢
    obtain ⟨qt, qj, qg, qc, qw⟩ := q
    simp only at hq1 hq2 hq3
    subst hq1 hq2 hq3
    clear hq e
    refine zD (xG _ _) (xQ _) rfl Tryz.func160 rfl (by kernel_rfl) _ _ rfl rfl rfl (fun w0 mu I0 β0 gi dis => ?_)
    (repeat' (first|(apply xW;((exact Want.none_ rfl)))|(apply xF zI;exact rfl;exact rfl)|(((apply yH))<;>(first|exact zI|exact rfl|refine yG ?_|exact lb rfl))|apply zR|apply AWp.Q|apply zH|apply AWp.G|(apply AWp.T;exact rfl;((exact rfl)))|(apply (yP (hp));(iterate 7 exact rfl);(focus (repeat (first|exact All2.nil|refine All2.cons rfl ?_)));exact rfl;(focus (repeat (first|exact MAs.nil|apply MAs.cons|apply MA.c|exact MC.ptr rfl|exact MC.vc (VC.imm (Imm.v _)))));((assumption));((assumption));exact rfl;exact rfl)))
    (((refine zW _ [(0, some 0)] .nil ?_ rfl ?_)) <;> (repeat' (first|exact trivial|exact rfl|apply And.intro|refine ⟨_,rfl,rfl,rfl,OW.one ?_⟩)))
  | false =>
    have hp := put_pfm ⟨t, j, false, c, w⟩ x hs hx
    have i1 := xK (vI (wH ⟨t, j, false, c, w⟩ x))
    have j1 := wD (vI ⟨t, j, false, c, w⟩)
    have e : glP ⟨t, j, false, c, w⟩ x = ⟨(wH ⟨t, j, false, c, w⟩ x).t, j, false, 0, (wH ⟨t, j, false, c, w⟩ x).w⟩ := by rw [glP]; cases j <;> rfl
    have hq1 : (wH ⟨t, j, false, c, w⟩ x).c = 0 := rfl
    have hq2 : (wH ⟨t, j, false, c, w⟩ x).j = j := rfl
    have hq3 : (wH ⟨t, j, false, c, w⟩ x).g = false := rfl
    rw [e] at hsc ⊢
    obtain ⟨q, hq⟩ : ∃ q, wH ⟨t, j, false, c, w⟩ x = q := ⟨_, rfl⟩
    rw [hq] at hp i1 hq1 hq2 hq3 hsc ⊢
    obtain ⟨qt, qj, qg, qc, qw⟩ := q
    simp only at hq1 hq2 hq3
    subst hq1 hq2 hq3
    clear hq e
    refine zD (xG _ _) (xQ _) rfl Tryz.func160 rfl (by kernel_rfl) _ _ rfl rfl rfl (fun w0 mu I0 β0 gi dis => ?_)
    (repeat' (first|(apply xW;((exact Want.none_ rfl)))|(apply xF zI;exact rfl;exact rfl)|apply zR|apply AWp.Q|apply zH|apply AWp.G|apply AWp.J|(apply AWp.F;exact rfl;((exact rfl)))|(apply (yP (hp));(iterate 7 exact rfl);(focus (repeat (first|exact All2.nil|refine All2.cons rfl ?_)));exact rfl;(focus (repeat (first|exact MAs.nil|apply MAs.cons|apply MA.c|exact MC.ptr rfl|exact MC.vc (VC.imm (Imm.v _)))));((assumption));((assumption));exact rfl;exact rfl)))
    (((refine zW _ [(0, some 0)] .nil ?_ rfl ?_)) <;> (repeat' (first|exact trivial|exact rfl|apply And.intro|refine ⟨_,rfl,rfl,rfl,OW.one ?_⟩)))
def enP (s : StD) (x : List UInt8) : StD := ⟨endT s x, s.j, s.g, s.c, s.w⟩
theorem end_pfm (s : StD) (x : List UInt8) (hs : s.t.length ≤ 100000) (hx : x.length ≤ 1000) (hw : s.w ≤ s.t.length) : PFM Tryz.prog 161 [stO s] [.c (.ptr 0 0 0), .c (str x)] [some (stO (enP s x))] (.tup []) := by
  have hsc := vI (enP s x)
  obtain ⟨t, j, g, c, w⟩ := s
  have hs' : t.length ≤ 100000 := hs
  have hw' : w ≤ t.length := hw
  have hd : ((t.drop w).take (t.length - w)).length = t.length - w := by rw [vV, List.length_drop]
  have hj := joinI_pf ((t.drop w).take (t.length - w)) x (by omega) (by omega)
  have hjl := joinW_len ((t.drop w).take (t.length - w)) x
  rw [jnT] at hj
  rw [enP] at hsc ⊢
  cases hq : jE ((t.drop w).take (t.length - w)) x with
  | true =>
    have e : endT ⟨t, j, g, c, w⟩ x = (t.drop 0).take (w - 0) ++ joinW ((t.drop w).take (t.length - w)) x := by
      have hq' := hq
      rw [vV] at hq'
      rw [endT, takeT, vV]
      exact if_pos hq'
    rw [e] at hsc ⊢
    rw [hq, if_pos rfl] at hj
    generalize joinW ((t.drop w).take (t.length - w)) x = y at *
    refine zD (xG _ _) (xQ _) rfl Tryz.func161 rfl (by kernel_rfl) _ _ rfl rfl rfl (fun w0 mu I0 β0 gi dis => ?_)
    (repeat' (first|(apply xW;((exact Want.none_ rfl)))|(apply xF zI;exact rfl;exact rfl)|((first|(apply z6;exact rfl;exact rfl)|(apply yM;exact rfl;exact rfl)|apply yH)<;>(first|exact zI|exact rfl|refine yG ?_|assumption|omega|exact ⟨rfl⟩|exact ⟨rfl,_,_,rfl,rfl⟩|exact lb rfl|(refine Bd.mk ?_;(simp;omega))))|apply zR|(refine yT ?_ ?_;kernel_rfl)|apply AWp.Q|apply zH|apply AWp.G|(refine AWp.D ?_ ?_;kernel_rfl)|(apply AWp.T;exact rfl;((exact rfl)))|(apply yA;(iterate 6 exact rfl);(iterate 2 (focus (repeat (first|exact VAs.nil|apply VAs.cons|apply VA.c|exact VCs.nil|exact VC.imm (Imm.v _)))));((exact hj));(focus (repeat (first|exact trivial|exact Flat.v _|apply And.intro)));((apply yJ));((exact xC _ _ _)))))
    (((refine zW _ [(0, some 0)] .nil ?_ rfl ?_)) <;> (repeat' (first|exact trivial|exact rfl|apply And.intro|refine ⟨_,rfl,rfl,rfl,OW.one ?_⟩)))
  | false =>
    have e : endT ⟨t, j, g, c, w⟩ x = t ++ x := by
      have hq' := hq
      rw [vV] at hq'
      rw [endT]
      exact if_neg (by show ¬ jE (t.drop w) x = true; rw [hq']; simp)
    rw [e] at hsc ⊢
    rw [hq, if_neg (by simp)] at hj
    refine zD (xG _ _) (xQ _) rfl Tryz.func161 rfl (by kernel_rfl) _ _ rfl rfl rfl (fun w0 mu I0 β0 gi dis => ?_)
    (repeat' (first|(apply xW;((exact Want.none_ rfl)))|(apply xF zI;exact rfl;exact rfl)|((first|(apply z6;exact rfl;exact rfl)|(apply yM;exact rfl;exact rfl)|apply yH)<;>(first|exact zI|exact rfl|refine yG ?_|assumption|omega|exact ⟨rfl⟩|exact ⟨rfl,_,_,rfl,rfl⟩|exact lb rfl|(refine Bd.mk ?_;(omega))))|apply zR|(refine yT ?_ ?_;kernel_rfl)|apply AWp.Q|apply zH|apply AWp.G|(refine AWp.D ?_ ?_;kernel_rfl)|(apply AWp.F;exact rfl;((exact rfl)))|(apply yA;(iterate 6 exact rfl);(iterate 2 (focus (repeat (first|exact VAs.nil|apply VAs.cons|apply VA.c|exact VCs.nil|exact VC.imm (Imm.v _)))));((exact hj));(focus (repeat (first|exact trivial|exact Flat.v _|apply And.intro)));((apply yJ));((exact xC _ _ _)))))
    (((refine zW _ [(0, some 0)] .nil ?_ rfl ?_)) <;> (repeat' (first|exact trivial|exact rfl|apply And.intro|refine ⟨_,rfl,rfl,rfl,OW.one ?_⟩)))
set_option maxHeartbeats 2000000 in
theorem apply_pfm (s : StD) (a : Atm) (hs : s.t.length ≤ 100000) (hw : s.w ≤ s.t.length) (ha : a.t.length ≤ 1000) (hk : 1 ≤ a.k ∧ a.k ≤ 10) : PFM Tryz.prog 128 [stO s] [.c (.ptr 0 0 0), .agg (xL a)] [some (stO (apS s a))] (.tup []) := by
  have hsc := vI (apS s a)
  have j1 := wD (vI s)
  obtain ⟨k, x⟩ := a
  have hx : x.length ≤ 1000 := ha
  have hk' : k = 1 ∨ k = 2 ∨ k = 3 ∨ k = 4 ∨ k = 5 ∨ k = 6 ∨ k = 7 ∨ k = 8 ∨ k = 9 ∨ k = 10 := by simp only at hk; omega
  clear hk ha
  have hp := put_pfm s x (by omega) (by omega)
  have ip := xK (vI (wH s x))
  have hg := glue_pfm s x (by omega) (by omega)
  have ig := xK (vI (glP s x))
  have he := end_pfm s x hs hx hw
  have ie := xK (vI (enP s x))
  obtain ⟨t, j, g, c, w⟩ := s
  have hs' : t.length ≤ 100000 := hs
  have hw' : w ≤ t.length := hw
  rcases hk' with rfl | rfl | rfl | rfl | rfl | rfl | rfl | rfl | rfl | rfl
  · rw [apS_one] at hsc ⊢
    obtain ⟨q, hq⟩ : ∃ q, wH ⟨t, j, g, c, w⟩ x = q := ⟨_, rfl⟩
    rw [hq] at hp ip hsc ⊢
    clear hq hg ig he ie
    refine zD (xG _ _) (xQ _) rfl Tryz.func128 rfl (by kernel_rfl) _ _ rfl rfl rfl (fun w0 mu I0 β0 gi dis => ?_)
    (repeat' (first|(apply xW;(first|exact Want.none_ rfl|(refine zX rfl rfl rfl rfl ?_;((exact rfl)))))|(apply xF zI;exact rfl;exact rfl)|(((apply yH))<;>(first|exact zI|exact rfl|refine yG ?_|exact lb rfl))|(apply yR;exact rfl;exact rfl;((exact rfl));exact rfl;exact rfl)|apply zR|apply AWp.Q|apply zH|apply AWp.G|apply AWp.B|apply AWp.J|apply zJ|(apply AWp.T;exact rfl;((exact rfl)))|(apply (yP (hp));(iterate 7 exact rfl);(focus (repeat (first|exact All2.nil|refine All2.cons rfl ?_)));exact rfl;(focus (repeat (first|exact MAs.nil|apply MAs.cons|apply MA.c|exact MC.ptr rfl|exact MC.vc (VC.imm (Imm.v _)))));((assumption));((assumption));exact rfl;exact rfl)))
    (((refine zW _ [(0, some 0)] .nil ?_ rfl ?_)) <;> (repeat' (first|exact trivial|exact rfl|apply And.intro|refine ⟨_,rfl,rfl,rfl,OW.one ?_⟩)))
  · rw [apS_two] at hsc ⊢
    rw [enP] at he ie
    generalize endT ⟨t, j, g, c, w⟩ x = y at *
    clear hp ip hg ig
    refine zD (xG _ _) (xQ _) rfl Tryz.func128 rfl (by kernel_rfl) _ _ rfl rfl rfl (fun w0 mu I0 β0 gi dis => ?_)
    (repeat' (first|(apply xW;(first|exact Want.none_ rfl|(refine zX rfl rfl rfl rfl ?_;((exact rfl)))))|(apply xF zI;exact rfl;exact rfl)|(((apply yH))<;>(first|exact zI|exact rfl|refine yG ?_|exact lb rfl))|(apply yR;exact rfl;exact rfl;((exact rfl));exact rfl;exact rfl)|apply zR|apply AWp.Q|apply zH|apply AWp.G|apply AWp.B|apply zJ|(apply AWp.T;exact rfl;((exact rfl)))|(apply AWp.F;exact rfl;((exact rfl)))|(apply (yP (he));(iterate 7 exact rfl);(focus (repeat (first|exact All2.nil|refine All2.cons rfl ?_)));exact rfl;(focus (repeat (first|exact MAs.nil|apply MAs.cons|apply MA.c|exact MC.ptr rfl|exact MC.vc (VC.imm (Imm.v _)))));((assumption));((assumption));exact rfl;exact rfl)))
    (((refine zW _ [(0, some 0)] .nil ?_ rfl ?_)) <;> (repeat' (first|exact trivial|exact rfl|apply And.intro|refine ⟨_,rfl,rfl,rfl,OW.one ?_⟩)))
  · rw [apS_three] at hsc ⊢
    obtain ⟨q, hq⟩ : ∃ q, wH ⟨t, j, g, c, w⟩ x = q := ⟨_, rfl⟩
    rw [hq] at hp ip hsc ⊢
    clear hq hg ig he ie
    refine zD (xG _ _) (xQ _) rfl Tryz.func128 rfl (by kernel_rfl) _ _ rfl rfl rfl (fun w0 mu I0 β0 gi dis => ?_)
    (repeat' (first|(apply xW;((exact Want.none_ rfl)))|(apply xF zI;exact rfl;exact rfl)|(((apply yH))<;>(first|exact zI|exact rfl|refine yG ?_|exact lb rfl))|(apply yR;exact rfl;exact rfl;((exact rfl));exact rfl;exact rfl)|(apply yS;(iterate 5 exact rfl);((exact rfl)))|apply zR|apply AWp.Q|apply zH|apply AWp.G|apply AWp.B|apply zJ|(apply AWp.T;exact rfl;((exact rfl)))|(apply AWp.F;exact rfl;((exact rfl)))|(apply (yP (hp));(iterate 7 exact rfl);(focus (repeat (first|exact All2.nil|refine All2.cons rfl ?_)));exact rfl;(focus (repeat (first|exact MAs.nil|apply MAs.cons|apply MA.c|exact MC.ptr rfl|exact MC.vc (VC.imm (Imm.v _)))));((assumption));((assumption));exact rfl;exact rfl)))
    (((refine zW _ [(0, some 0)] .nil ?_ rfl ?_)) <;> (repeat' (first|exact trivial|exact rfl|apply And.intro|refine ⟨_,rfl,rfl,rfl,OW.one ?_⟩)))
  · rw [apS_four] at hsc ⊢
    refine zD (xG _ _) (xQ _) rfl Tryz.func128 rfl (by kernel_rfl) _ _ rfl rfl rfl (fun w0 mu I0 β0 gi dis => ?_)
    (repeat' (first|(apply xW;(first|exact Want.none_ rfl|(refine zX rfl rfl rfl rfl ?_;((exact rfl)))))|(apply xF zI;exact rfl;exact rfl)|((first|(apply z6;exact rfl;exact rfl)|apply yH)<;>(first|exact zI|exact rfl|refine yG ?_|exact lb rfl|(refine Bd.mk ?_;(simp;omega))))|(apply yR;exact rfl;exact rfl;((exact rfl));exact rfl;exact rfl)|apply zR|(refine yT ?_ ?_;kernel_rfl)|apply AWp.Q|apply zH|apply AWp.G|apply AWp.B|apply AWp.J|apply zJ|(refine AWp.D ?_ ?_;kernel_rfl)|(apply AWp.T;exact rfl;((exact rfl)))|(apply AWp.F;exact rfl;((exact rfl)))))
    (((refine zW _ [(0, some 0)] .nil ?_ rfl ?_)) <;> (repeat' (first|exact trivial|exact rfl|apply And.intro|refine ⟨_,rfl,rfl,rfl,OW.one ?_⟩)))
  · rw [apS_five] at hsc ⊢
    have e : gluS ⟨t, j, g, c, w⟩ x = ⟨(glP ⟨t, j, g, c, w⟩ x).t, false, true, 0, (glP ⟨t, j, g, c, w⟩ x).w⟩ := rfl
    have hq1 : (glP ⟨t, j, g, c, w⟩ x).c = 0 := rfl
    rw [e] at hsc ⊢
    obtain ⟨q, hq⟩ : ∃ q, glP ⟨t, j, g, c, w⟩ x = q := ⟨_, rfl⟩
    rw [hq] at hg ig hq1 hsc ⊢
    obtain ⟨qt, qj, qg, qc, qw⟩ := q
    simp only at hq1
    subst hq1
    clear hq e hp ip he ie
    refine zD (xG _ _) (xQ _) rfl Tryz.func128 rfl (by kernel_rfl) _ _ rfl rfl rfl (fun w0 mu I0 β0 gi dis => ?_)
    (repeat' (first|(apply xW;(first|exact Want.none_ rfl|(refine zX rfl rfl rfl rfl ?_;((exact rfl)))))|(apply xF zI;exact rfl;exact rfl)|(((apply yH))<;>(first|exact zI|exact rfl|refine yG ?_|exact lb rfl))|(apply yR;exact rfl;exact rfl;((exact rfl));exact rfl;exact rfl)|apply zR|apply AWp.Q|apply zH|apply AWp.G|apply AWp.B|apply zJ|(apply AWp.T;exact rfl;((exact rfl)))|(apply AWp.F;exact rfl;((exact rfl)))|(apply (yP (hg));(iterate 7 exact rfl);(focus (repeat (first|exact All2.nil|refine All2.cons rfl ?_)));exact rfl;(focus (repeat (first|exact MAs.nil|apply MAs.cons|apply MA.c|exact MC.ptr rfl|exact MC.vc (VC.imm (Imm.v _)))));((assumption));((assumption));exact rfl;exact rfl)))
    (((refine zW _ [(0, some 0)] .nil ?_ rfl ?_)) <;> (repeat' (first|exact trivial|exact rfl|apply And.intro|refine ⟨_,rfl,rfl,rfl,OW.one ?_⟩)))
  · rw [apS_six] at hsc ⊢
    refine zD (xG _ _) (xQ _) rfl Tryz.func128 rfl (by kernel_rfl) _ _ rfl rfl rfl (fun w0 mu I0 β0 gi dis => ?_)
    (repeat' (first|(apply xW;(first|exact Want.none_ rfl|(refine zX rfl rfl rfl rfl ?_;((exact rfl)))))|(apply xF zI;exact rfl;exact rfl)|((first|(apply z6;exact rfl;exact rfl)|apply yH)<;>(first|exact zI|exact rfl|refine yG ?_|exact lb rfl|(refine Bd.mk ?_;(simp;omega))))|(apply yR;exact rfl;exact rfl;((exact rfl));exact rfl;exact rfl)|apply zR|(refine yT ?_ ?_;kernel_rfl)|apply AWp.Q|apply zH|apply AWp.G|apply AWp.B|apply zJ|(refine AWp.D ?_ ?_;kernel_rfl)|(apply AWp.T;exact rfl;((exact rfl)))|(apply AWp.F;exact rfl;((exact rfl)))))
    (((refine zW _ [(0, some 0)] .nil ?_ rfl ?_)) <;> (repeat' (first|exact trivial|exact rfl|apply And.intro|refine ⟨_,rfl,rfl,rfl,OW.one ?_⟩)))
  · rw [apS_seven] at hsc ⊢
    refine zD (xG _ _) (xQ _) rfl Tryz.func128 rfl (by kernel_rfl) _ _ rfl rfl rfl (fun w0 mu I0 β0 gi dis => ?_)
    (repeat' (first|(apply xW;(first|exact Want.none_ rfl|(refine zX rfl rfl rfl rfl ?_;((exact rfl)))))|(apply xF zI;exact rfl;exact rfl)|((first|(apply z6;exact rfl;exact rfl)|apply yH)<;>(first|exact zI|exact rfl|refine yG ?_|exact lb rfl|(refine Bd.mk ?_;(simp;omega))))|(apply yR;exact rfl;exact rfl;((exact rfl));exact rfl;exact rfl)|apply zR|(refine yT ?_ ?_;kernel_rfl)|apply AWp.Q|apply zH|apply AWp.G|apply AWp.B|apply zJ|(refine AWp.D ?_ ?_;kernel_rfl)|(apply AWp.T;exact rfl;((exact rfl)))|(apply AWp.F;exact rfl;((exact rfl)))))
    (((refine zW _ [(0, some 0)] .nil ?_ rfl ?_)) <;> (repeat' (first|exact trivial|exact rfl|apply And.intro|refine ⟨_,rfl,rfl,rfl,OW.one ?_⟩)))
  · rw [apS_eight] at hsc ⊢
    refine zD (xG _ _) (xQ _) rfl Tryz.func128 rfl (by kernel_rfl) _ _ rfl rfl rfl (fun w0 mu I0 β0 gi dis => ?_)
    (repeat' (first|(apply xW;((exact Want.none_ rfl)))|(apply xF zI;exact rfl;exact rfl)|(((apply yH))<;>(first|exact zI|exact rfl|refine yG ?_|exact lb rfl))|apply zR|apply AWp.Q|apply zH|apply AWp.G|apply AWp.B|apply AWp.R|apply zK|apply zL|(apply AWp.T;exact rfl;((exact rfl)))|(apply AWp.F;exact rfl;((exact rfl)))))
    (((refine zV _ [(0, some 0)] .nil ?_ rfl ?_)) <;> (repeat' (first|exact trivial|exact rfl|apply And.intro|refine ⟨_,rfl,rfl,rfl,OW.one ?_⟩)))
  · rw [apS_nine] at hsc ⊢
    refine zD (xG _ _) (xQ _) rfl Tryz.func128 rfl (by kernel_rfl) _ _ rfl rfl rfl (fun w0 mu I0 β0 gi dis => ?_)
    (repeat' (first|(apply xW;((exact Want.none_ rfl)))|(apply xF zI;exact rfl;exact rfl)|(((apply yH))<;>(first|exact zI|exact rfl|refine yG ?_|exact lb rfl))|apply zR|apply AWp.Q|apply zH|apply AWp.G|apply AWp.B|apply AWp.R|apply zK|apply zL|(apply AWp.T;exact rfl;((exact rfl)))|(apply AWp.F;exact rfl;((exact rfl)))))
    (((refine zV _ [(0, some 0)] .nil ?_ rfl ?_)) <;> (repeat' (first|exact trivial|exact rfl|apply And.intro|refine ⟨_,rfl,rfl,rfl,OW.one ?_⟩)))
  · rw [apS_ten] at hsc ⊢
    have hd : ((t.drop w).take (t.length - w)).length = t.length - w := by rw [vV, List.length_drop]
    have hu := upper_pf ((t.drop w).take (t.length - w)) (by omega)
    have hul := upL_len ((t.drop w).take (t.length - w))
    have e : t.take w ++ upL (t.drop w) = (t.drop 0).take (w - 0) ++ upL ((t.drop w).take (t.length - w)) := by rw [takeT, vV]
    change ∀ x ∈ (stO ⟨t.take w ++ upL (t.drop w), j, g, c, w⟩).els, ∀ c ∈ x, Imm c at hsc
    show PFM _ _ _ _ [some (stO ⟨t.take w ++ upL (t.drop w), j, g, c, w⟩)] _
    rw [e] at hsc ⊢
    clear hp ip hg ig he ie
    generalize upL ((t.drop w).take (t.length - w)) = y at *
    refine zD (xG _ _) (xQ _) rfl Tryz.func128 rfl (by kernel_rfl) _ _ rfl rfl rfl (fun w0 mu I0 β0 gi dis => ?_)
    (repeat' (first|(apply xW;((exact Want.none_ rfl)))|(apply xF zI;exact rfl;exact rfl)|((first|(apply z6;exact rfl;exact rfl)|(apply yM;exact rfl;exact rfl)|apply yH)<;>(first|exact zI|exact rfl|refine yG ?_|assumption|omega|exact ⟨rfl⟩|exact ⟨rfl,_,_,rfl,rfl⟩|exact lb rfl|(refine Bd.mk ?_;(simp;omega))))|apply zR|(refine yT ?_ ?_;kernel_rfl)|apply AWp.Q|apply zH|apply AWp.G|apply AWp.B|apply AWp.R|apply zK|apply zL|(refine AWp.D ?_ ?_;kernel_rfl)|(apply AWp.T;exact rfl;((exact rfl)))|(apply AWp.F;exact rfl;((exact rfl)))|(apply yA;(iterate 6 exact rfl);(iterate 2 (focus (repeat (first|exact VAs.nil|apply VAs.cons|apply VA.c|exact VCs.nil|exact VC.imm (Imm.v _)))));((exact hu));(focus (repeat ((exact Flat.v _))));((apply yJ));((exact xB _ _)))))
    (((refine zV _ [(0, some 0)] .nil ?_ rfl ?_)) <;> (repeat' (first|exact trivial|exact rfl|apply And.intro|refine ⟨_,rfl,rfl,rfl,OW.one ?_⟩)))
end Go.Proofs.YtjeffognhcbiaaaGreatDoor
