/- The screen by the model: l14Raw, l14Atoms, l14Screen, ScreenOf. No conditions but bounds of lengths. -/
import Derived.Test.YtjeffognhcbiaaaGreatDoorScE
import Derived.Test.YtjeffognhcbiaaaGreatDoorSgC
namespace Go.Proofs.YtjeffognhcbiaaaGreatDoor
open Go Go.RowKit
theorem keys_pos {s : Nat} (h1 : 1 ≤ s) (hs : s < 8388608) : 1 ≤ (x4 s).length := by
  obtain ⟨i, hi⟩ := Nat.exists_testBit_of_ne_zero (show s ≠ 0 by omega)
  have h23 : i < 23 := by
    refine Nat.lt_of_not_le fun h => ?_
    have hlt : s < 2 ^ i := Nat.lt_of_lt_of_le (show s < 2 ^ 23 by omega) (Nat.pow_le_pow_right (by omega) h)
    rw [Nat.testBit_lt_two_pow hlt] at hi
    cases hi
  have : i ∈ x4 s := by rw [x4, keysN, List.mem_filter, List.mem_range]; exact ⟨h23, hi⟩
  exact List.length_pos_of_mem this
theorem labN_no : ∀ k : Fin 23, 1 ≤ k.val → (35 : UInt8) ∉ vH k.val := by decide
theorem labN_no' {k : Nat} (h1 : 1 ≤ k) (h : k < 23) : (35 : UInt8) ∉ vH k := labN_no ⟨k, h⟩ h1
theorem fmK_front {s : Nat} : ∀ j, j + 1 ≤ (x4 s).length → ∃ b u, fmK s (j + 1) = b :: u ∧ (35 : UInt8) ∉ u
  | 0, h => by
    obtain ⟨k, hk⟩ := xT (show 0 < (x4 s).length by omega)
    have hk23 := keys_lt hk
    have hl := labN_len hk23
    obtain ⟨c, hc⟩ := List.length_eq_one_iff.1 hl
    rw [fmK_succ hk, show fmK s 0 = [] from rfl, List.nil_append, hc]
    split
    · rename_i h13
      have := labN_no' (k := k) (by omega) hk23
      rw [hc] at this
      exact ⟨45, [c], rfl, this⟩
    · exact ⟨c, [], rfl, by simp⟩
  | j + 1, h => by
    obtain ⟨b, u, e, hu⟩ := fmK_front (s := s) j (by omega)
    obtain ⟨k, hk⟩ := xT (show j + 1 < (x4 s).length by omega)
    obtain ⟨k0, hk0⟩ := xT (show 0 < (x4 s).length by omega)
    have hk23 := keys_lt hk
    have hlt := keys_asc (show 0 < j + 1 by omega) hk0 hk
    have hn := labN_no' (k := k) (by omega) hk23
    rw [fmK_succ hk, e]
    refine ⟨b, u ++ ((if 13 ≤ k ∧ kI s = false ∧ ((x4 s).take (j + 1)).any qD = false then [45] else []) ++ vH k), by simp, ?_⟩
    rw [List.mem_append, List.mem_append]
    rintro (h | h | h)
    · exact hu h
    · split at h
      · simp at h
      · cases h
    · exact hn h
theorem fmt_front {s : Nat} (h1 : 1 ≤ s) (hs : s < 8388608) : ∃ b u, fmt s = b :: u ∧ (35 : UInt8) ∉ u := by
  have hk := keys_pos h1 hs
  have := fmK_front (s := s) ((x4 s).length - 1) (by omega)
  rwa [show (x4 s).length - 1 + 1 = (x4 s).length by omega] at this
theorem rawL_len (t : List UInt8) : (rawL t).length = t.length := by
  cases t with
  | nil => rfl
  | cons b r =>
    rw [rawL]
    split <;> rfl
theorem l14Raw_pf (s : Nat) (h1 : 1 ≤ s) (hs : s < 8388608) : PF Tryz.prog 109 [.c (int s)] [] (.c (str (rawL (fmt s)))) := by
  have hf := l2Format_pf s hs
  have hl := fmt_len s
  obtain ⟨b, u, e, _⟩ := fmt_front h1 hs
  rw [e] at hf hl ⊢
  have hb : (b :: u)[0]? = some b := rfl
  have hul : u.length ≤ 46 := by simp at hl; omega
  have hl1 : 1 ≤ (b :: u).length := by simp
  by_cases h35 : ((b.toNat : Nat) : Int) = 35
  · rw [rawL, if_pos h35]
    refine PF.enter (xJ _) Tryz.func109 rfl (by kernel_rfl) _ _ rfl rfl rfl (fun w0 mu I0 β0 gi dis => ?_)
    (repeat' (first|(apply xW;((exact Want.none_ rfl)))|(apply xF zI;exact rfl;exact rfl)|((first|(apply z6;exact rfl;exact rfl)|apply xD|(apply yM;exact rfl;exact rfl))<;>(first|exact zI|exact rfl|refine yG ?_|assumption|omega|exact ⟨rfl⟩|exact ⟨rfl,_,_,rfl,rfl⟩|(refine Bd.mk ?_;(simp;omega))))|apply zR|apply AWp.Q|apply zH|apply AWp.G|apply AWp.R|(apply AWp.T;exact rfl;((exact dT ‹_›)))|(apply yA;(iterate 6 exact rfl);(iterate 2 (focus (repeat (first|exact VAs.nil|apply VAs.cons|apply VA.c|exact VCs.nil|exact VC.imm (Imm.v _)))));((exact hf));(focus (repeat ((exact Flat.v _))));((apply yJ));((exact xB _ _)))))
    (((refine zV _ [] (.cons (zN rfl) .nil) ?_ rfl ?_)) <;> (repeat' (first|exact trivial|refine vwS ?_)))
    all_goals first | (simp; done) | skip
  · rw [rawL, if_neg h35]
    refine PF.enter (xJ _) Tryz.func109 rfl (by kernel_rfl) _ _ rfl rfl rfl (fun w0 mu I0 β0 gi dis => ?_)
    (repeat' (first|(apply xW;((exact Want.none_ rfl)))|(apply xF zI;exact rfl;exact rfl)|(((apply xD))<;>(first|exact zI|exact rfl|refine yG ?_))|apply zR|apply AWp.Q|apply zH|apply AWp.G|apply AWp.J|apply AWp.R|(apply AWp.F;exact rfl;((exact dF ‹_›)))|(apply yA;(iterate 6 exact rfl);(iterate 2 (focus (repeat (first|exact VAs.nil|apply VAs.cons|apply VA.c|exact VCs.nil|exact VC.imm (Imm.v _)))));((exact hf));(focus (repeat ((exact Flat.v _))));((apply yJ));((exact xB _ _)))))
    (((refine zV _ [] (.cons (zN rfl) .nil) ?_ rfl ?_)) <;> (repeat' (first|exact trivial|exact rfl)))
theorem mt_txt {es : List Ent} {l : List Int} {f : Nat} : (mtc es l f).t = [] ∨ ∃ e ∈ es, (mtc es l f).t = e.t := by
  obtain ⟨_, _, _, h⟩ := mtL_parts es l f 6
  rcases h with ⟨_, h⟩ | ⟨k, _, _, hh, ht⟩
  · exact .inl h
  · obtain ⟨e, he, _, h3⟩ := hasE_at hh
    exact .inr ⟨e, List.mem_of_getElem? he, ht.trans h3⟩
structure PcOk (l : List Int) (p : Pc) : Prop where
  ix : ∃ a n : Nat, p.f = (a : Int) ∧ l[a]? = some (n : Int) ∧ 1 ≤ n ∧ n < 8388608
  tr : p.t = [] ∨ vY p.t = true
theorem seg_ok {es : List Ent} {l : List Int} (h : vL es l = true) : ∀ p ∈ seg es l, PcOk l p := fun p hp => by
  obtain ⟨hd, _, _, hall⟩ := wR h
  obtain ⟨a, h1, h2, h3⟩ := segF_mem (es := es) (l := l) l.length 0 (by omega) p hp
  obtain ⟨x, hx⟩ := xT h2
  have hok := hall x (List.mem_of_getElem? hx)
  rw [okS, inZ, decide_eq_true_eq] at hok
  refine ⟨⟨a, x.toNat, h1, by rw [hx]; congr 1; omega, by omega, by omega⟩, ?_⟩
  rw [h3]
  rcases mt_txt (es := es) (l := l) (f := a) with h | ⟨e, he, ht⟩
  · exact .inl h
  · refine .inr ?_
    rw [ht]
    exact (entOk_parts ((dicOk_parts hd).2.2 e he)).2.2.2
theorem atP_raw {l : List Int} {p : Pc} {a n : Nat} (h : p.t = []) (hf : p.f = (a : Int)) (ha : l[a]? = some (n : Int)) : atP l p = [⟨1, rawL (fmt n)⟩] := by
  rw [atP, if_pos h, hf, Int.toNat_natCast, ha]; rfl
theorem atP_tr {l : List Int} {p : Pc} (h : ¬ p.t = []) : atP l p = trR p.t := by rw [atP, if_neg h]
theorem trR_len {s : List UInt8} (h : vY s = true) : (trR s).length ≤ 10 ∧ ∀ a ∈ trR s, a.t.length ≤ 60 := by
  obtain ⟨h1, h2, h3⟩ := qC h
  rw [trR, if_pos h]
  refine ⟨by rw [trL, List.length_map]; exact h2, fun a ha => ?_⟩
  rw [trL, List.mem_map] at ha
  obtain ⟨w, hw, rfl⟩ := ha
  have := (okA_len ((List.all_eq_true.1 h3) w hw)).2
  omega
theorem atP_len {l : List Int} {p : Pc} (h : PcOk l p) : (atP l p).length ≤ 10 ∧ ∀ a ∈ atP l p, a.t.length ≤ 60 := by
  obtain ⟨a, n, h1, h2, h3, h4⟩ := h.ix
  by_cases ht : p.t = []
  · rw [atP_raw ht h1 h2]
    refine ⟨by simp, fun a ha => ?_⟩
    rw [List.mem_singleton] at ha
    subst ha
    show (rawL (fmt n)).length ≤ 60
    rw [rawL_len]
    have := fmt_len n
    omega
  · rw [atP_tr ht]
    exact trR_len (h.tr.resolve_left ht)
theorem qY {l : List Int} {ps : List Pc} (h : ∀ p ∈ ps, PcOk l p) : ∀ k, k ≤ ps.length → (atK l ps k).length ≤ 10 * k ∧ ∀ a ∈ atK l ps k, a.t.length ≤ 60
  | 0, _ => by simp [atK]
  | k + 1, hk => by
    obtain ⟨p, hp⟩ := xT (show k < ps.length by omega)
    have ih := qY h k (by omega)
    have h1 := atP_len (h p (List.mem_of_getElem? hp))
    rw [atK_succ hp]
    refine ⟨by rw [List.length_append]; omega, fun a ha => ?_⟩
    rcases List.mem_append.1 ha with ha | ha
    · exact ih.2 a ha
    · exact h1.2 a ha
def atL (es : List Ent) (l : List Int) : List Atm := atK l (seg es l) (seg es l).length
theorem atL_bd {es : List Ent} {l : List Int} (h : vL es l = true) : (atL es l).length ≤ 1000 ∧ ∀ a ∈ atL es l, a.t.length ≤ 60 := by
  have h1 := qY (seg_ok h) (seg es l).length (Nat.le_refl _)
  have h2 := segF_len es l 0
  have h3 := (wR h).2.2.1
  refine ⟨?_, h1.2⟩
  have : (seg es l).length ≤ 60 := by rw [seg]; omega
  have h4 : (atL es l).length ≤ 10 * (seg es l).length := h1.1
  omega
theorem atms_two (l : List Atm) : ∀ x ∈ l.map xL, x.length = 2 := by
  intro x hx
  obtain ⟨a, _, rfl⟩ := List.mem_map.1 hx
  rfl
theorem l14Atoms_pf (es : List Ent) (l : List Int) (hb : qG es) (hl : l.length ≤ 1000000) (h : vL es l = true) : PF Tryz.prog 75 [.agg (wG es), .c (.sl (l.map xE))] [⟨63, 2, (atL es l).map xL⟩] (.c (.ref 0 0 (atL es l).length)) := by
  have hs := l11Segment_pf es l hb hl
  have hok := seg_ok h
  have hsl : (seg es l).length ≤ 60 := by
    have h2 := segF_len es l 0
    have h3 := (wR h).2.2.1
    rw [seg]; omega
  have hLl : (l.map xE).length = l.length := List.length_map _
  rw [atL]
  generalize seg es l = ps at *
  have hps := vS ps
  have hLp : (ps.map wM).length = ps.length := List.length_map _
  refine PF.enter (xG _ _) Tryz.func75 rfl (by kernel_rfl) _ _ rfl rfl rfl (fun w0 mu I0 β0 gi dis => ?_)
  (repeat' (first|(apply xW;((exact Want.none_ rfl)))|(apply xF zI;exact rfl;exact rfl)|(((apply zU))<;>(first|exact zI|exact rfl|refine yG ?_))|apply zR|apply AWp.Q|apply zH|apply AWp.G|apply AWp.B|(apply yA;(iterate 6 exact rfl);(iterate 2 (focus (repeat (first|exact VAs.nil|apply VAs.cons|apply VA.c|apply VA.agg|exact VCs.nil|apply VCs.cons|exact VC.imm (Imm.sl _)))));((exact hs));(focus (repeat ((exact Flat.ref _ _ _))));((apply yK;(focus (repeat (first|exact trivial|apply And.intro|((assumption)))))));((exact xA _ _ _ _)))))
  refine AWp.U (σ := Nat) (fun k => ⟨[(1, .c (.sl (l.map xE))), (2, .c (.ptr 0 0 0)), (5, .c (.ref 1 0 (atK l ps k).length)), (6, .c (.ref 2 0 ps.length)), (7, .c (int k))], [(0, some ⟨35, 1, [wG es]⟩), (1, some ⟨63, 2, (atK l ps k).map xL⟩), (2, some ⟨58, 3, ps.map wM⟩)], 3⟩) (fun k => k ≤ ps.length) (fun k => ps.length - k) 0 (Nat.zero_le _) ?_ ?_
  · refine Weak.of [(0, some 0), (1, some 1), (2, some 2)] rfl ?_ ?_ <;> (repeat' (first|exact trivial|exact rfl|apply And.intro|refine ⟨_,rfl,rfl,rfl,OW.one ?_⟩|refine oWs rfl rfl rfl ?_ ?_|(refine aIm ?_;first|exact AllSc.nil|assumption)))
    all_goals first | exact hps.imm | skip
  · rintro k hk
    have hAl := (qY hok k hk).1
    have hLA : ((atK l ps k).map xL).length = (atK l ps k).length := List.length_map _
    have hsA := xZ (atK l ps k)
    by_cases hlt : k < ps.length
    · obtain ⟨p, hp⟩ := xT hlt
      have hp' : (ps.map wM)[k]? = some (wM p) := xY hp
      have hlt' : (k : Int) < (ps.length : Int) := by omega
      have hpo := hok p (List.mem_of_getElem? hp)
      have hS := atK_succ (l := l) hp
      by_cases ht : p.t = []
      · obtain ⟨a, n, h1, h2, h3, h4⟩ := hpo.ix
        have h2' : (l.map xE)[a]? = some [int (n : Int)] := xY h2
        have hal : a < l.length := (List.getElem?_eq_some_iff.1 h2).1
        have hal' : (a : Int) < ((l.map xE).length : Int) := by omega
        have hr := l14Raw_pf n h3 h4
        have hrl : (rawL (fmt n)).length ≤ 46 := by rw [rawL_len]; exact fmt_len n
        rw [atP_raw ht h1 h2] at hS
        generalize rawL (fmt n) = y at *
        generalize atK l ps k = J at *
        (repeat' (first|(apply xW;((exact Want.none_ rfl)))|(apply xF zI;exact rfl;exact rfl)|((first|apply zZ|(apply yN;exact rfl;exact rfl)|apply yD|(apply z7;exact rfl;exact rfl;exact zI;exact rfl;exact rfl)|apply y4|apply zU|(apply yZ;exact rfl;exact rfl))<;>(first|exact zI|exact Nat.zero_add _|exact rfl|refine yG ?_|assumption|omega|(refine Bd.mk ?_;first|(focus (simp;done))|(simp;omega))|exact xH rfl))|apply zR|apply AWp.Q|apply zH|apply AWp.G|apply AWp.B|apply AWp.J|apply AWp.X|apply zQ|apply zO|(apply AWp.T;exact rfl;((exact dT ‹_›)))|(apply yA;(iterate 6 exact rfl);(iterate 2 (focus (repeat (first|exact VAs.nil|apply VAs.cons|apply VA.c|exact VCs.nil|exact VC.imm (Imm.v _)))));((exact hr));(focus (repeat ((exact Flat.v _))));((apply yJ));((exact xB _ _)))))
        refine ⟨k + 1, by omega, by omega, ?_⟩
        rw [hS, wI]
        refine Weak.of [(0, some 0), (1, some 4), (2, some 2)] rfl ?_ ?_ <;> (repeat' (first|exact trivial|exact rfl|apply And.intro|(refine z8 ?_;(focus (simp;done)))|refine ⟨_,rfl,rfl,rfl,OW.one ?_⟩|refine oWs rfl rfl rfl ?_ ?_|(refine aIm ?_;(assumption))))
        all_goals first | exact hps.imm | (rw [← wI]; exact (xZ _).imm) | (rw [hLA]; simp; done) | (simp; done) | skip
      · have htr := hpo.tr.resolve_left ht
        have hq := l5Parse_pf p.t (by have := (qC htr).1; omega)
        rw [htr] at hq
        have htl := (trR_len htr).1
        rw [atP_tr ht] at hS
        have hLr : ((trR p.t).map xL).length = (trR p.t).length := List.length_map _
        have h2 := atms_two (trR p.t)
        have hsr := xZ (trR p.t)
        generalize trR p.t = R at *
        generalize atK l ps k = J at *
        have i0 : ∀ obj : AObj, some obj ∈ ([] : List (Option AObj)) → ∀ x ∈ obj.els, ∀ c ∈ x, Imm c := fun _ h => by cases h
        (repeat' (first|(apply xW;((exact Want.none_ rfl)))|(apply xF zI;exact rfl;exact rfl)|((first|apply zZ|apply yD|(apply z7;exact rfl;exact rfl;exact zI;exact rfl;exact rfl)|(apply yZ;exact rfl;exact rfl))<;>(first|exact zI|exact Nat.zero_add _|exact rfl|refine yG ?_|assumption|omega|(refine Bd.mk ?_;first|assumption|omega)))|apply zR|apply AWp.Q|apply zH|apply AWp.G|apply AWp.B|apply AWp.J|apply zJ|(apply AWp.T;exact rfl;((exact dT ‹_›)))|(apply AWp.F;exact rfl;((exact dF ‹_›)))|(apply (yP (hq));(iterate 7 exact rfl);(focus (repeat ((exact All2.nil))));exact rfl;(focus (repeat (first|exact MAs.nil|apply MAs.cons|apply MA.c|exact MC.vc (VC.imm (Imm.v _)))));((assumption));((exact xP));exact rfl;exact rfl)))
        refine ⟨k + 1, by omega, by omega, ?_⟩
        rw [hS, List.map_append]
        refine Weak.of [(0, some 0), (1, some 3), (2, some 2)] rfl ?_ ?_ <;> (repeat' (first|exact trivial|exact rfl|apply And.intro|(refine z8 ?_;(focus (simp;done)))|refine ⟨_,rfl,rfl,rfl,OW.one ?_⟩|refine oWs rfl rfl rfl ?_ ?_|(refine aIm ?_;(assumption))))
        all_goals first | exact hps.imm | (rw [← List.map_append]; exact (xZ _).imm) | (rw [hLA]; simp; done) | (simp; done) | skip
    · have hlt' : ¬ (k : Int) < (ps.length : Int) := by omega
      obtain rfl : k = ps.length := by omega
      (repeat' (first|(apply xW;((exact Want.none_ rfl)))|(apply xF zI;exact rfl;exact rfl)|apply zR|apply AWp.Q|apply zH|apply AWp.G|apply AWp.X|apply AWp.R|apply zQ|apply zO|(apply AWp.F;exact rfl;((exact dF ‹_›)))))
      (((refine zV _ [(0, some 1)] (.cons (zN rfl) .nil) ?_ rfl ?_)) <;> (repeat' (first|exact trivial|exact rfl|apply And.intro|refine oWs rfl rfl rfl ?_ ?_|(refine aIm ?_;(assumption)))))
      all_goals first | exact hsA.imm | skip
end Go.Proofs.YtjeffognhcbiaaaGreatDoor
