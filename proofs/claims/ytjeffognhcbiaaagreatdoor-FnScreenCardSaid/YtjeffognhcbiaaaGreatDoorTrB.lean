/- Translations read by the model: l5Kind, ParseAtom, l5Parse. No conditions but bounds of lengths. -/
import Derived.Test.YtjeffognhcbiaaaGreatDoorTrA
namespace Go.Proofs.YtjeffognhcbiaaaGreatDoor
open Go Go.RowKit
theorem hd0_at {m : List UInt8} (h : 1 ≤ m.length) : m[0]? = some (hd0 m) := by
  obtain ⟨x, hx⟩ := xT (show 0 < m.length by omega)
  rw [hd0, hx]; rfl
theorem lst_at {m : List UInt8} (h : 1 ≤ m.length) : m[m.length - 1]? = some (lst m) := by
  obtain ⟨x, hx⟩ := xT (show m.length - 1 < m.length by omega)
  rw [lst, hx]; rfl
theorem kindM_len (m : List UInt8) (c d : UInt8) : (kS m c d).t.length ≤ m.length := by
  have il : ∀ {p : Prop} [Decidable p] {a b : Atm} {n : Nat}, a.t.length ≤ n → b.t.length ≤ n → (if p then a else b).t.length ≤ n := by
    intro p _ a b n h1 h2
    split
    · exact h1
    · exact h2
  unfold kS
  repeat (refine il (by first | exact Nat.zero_le _ | exact Nat.le_refl _ | (simp only [List.length_drop, List.length_take]; omega)) ?_)
  exact Nat.zero_le _
theorem inn_len (s : List UInt8) : (inn s).length = s.length - 1 - 1 := by simp [inn]
theorem kindA_len (s : List UInt8) : (wJ s).t.length ≤ s.length := by
  have h := kindM_len (inn s) (hd0 (inn s)) (lst (inn s))
  have h2 := inn_len s
  unfold wJ
  split
  · exact Nat.le_refl _
  · split
    · exact Nat.le_refl _
    · split
      · exact Nat.le_refl _
      · omega
set_option maxHeartbeats 4000000 in
theorem l5Kind_pf (s : List UInt8) (hs : s.length ≤ 1000000) : PF Tryz.prog 163 [.c (str s)] [] (.agg (xL (wJ s))) := by
  by_cases h3 : s.length < 3
  · have h3' : (s.length : Int) < 3 := by omega
    rw [wJ, if_pos h3]
    refine PF.enter (xJ _) Tryz.func163 rfl (by kernel_rfl) _ _ rfl rfl rfl (fun w0 mu I0 β0 gi dis => ?_)
    (repeat' (first|(apply xW;((exact Want.none_ rfl)))|(apply xF zI;exact rfl;exact rfl)|((first|apply y4|apply yB|apply yH)<;>(first|exact zI|exact rfl|refine yG ?_|exact lb rfl|(refine Bd.mk ?_;(focus (simp;done)))))|(apply yR;exact rfl;exact rfl;(first|exact dT ‹_›|exact rfl);exact rfl;exact rfl)|(apply yS;(iterate 5 exact rfl);(first|exact dT ‹_›|exact rfl))|apply zR|apply AWp.Q|apply zH|apply AWp.G|apply AWp.R|apply zK|(apply AWp.T;exact rfl;((exact rfl)))))
    (((refine zV _ [] (.cons (y5 rfl rfl rfl zI rfl rfl rfl) .nil) ?_ rfl ?_)) <;> (repeat' (first|exact trivial|exact rfl|apply And.intro)))
  · have h3' : ¬ (s.length : Int) < 3 := by omega
    have hz : (s.length : Int) - 1 = ((s.length - 1 : Nat) : Int) := by omega
    have h0 := hd0_at (m := s) (by omega)
    have h1 := lst_at (m := s) (by omega)
    have hml := inn_len s
    have hm0 := hd0_at (m := inn s) (by omega)
    have hm1 := lst_at (m := inn s) (by omega)
    have hin : (s.drop 1).take (s.length - 1 - 1) = inn s := rfl
    have hmz : ((inn s).length : Int) - 1 = (((inn s).length - 1 : Nat) : Int) := by omega
    have e : wJ s = if ¬ ((hd0 s).toNat : Int) = 123 then ⟨1, s⟩ else if ¬ ((lst s).toNat : Int) = 125 then ⟨1, s⟩ else kS (inn s) (hd0 (inn s)) (lst (inn s)) := by rw [wJ, if_neg h3]
    by_cases ha : ((hd0 s).toNat : Int) = 123
    · by_cases hb : ((lst s).toNat : Int) = 125
      · rw [if_neg (by simpa using ha), if_neg (by simpa using hb)] at e
        rw [e]
        rw [← hin] at hml hm0 hm1 hmz ⊢
        refine PF.enter (xJ _) Tryz.func163 rfl (by kernel_rfl) _ _ rfl rfl rfl (fun w0 mu I0 β0 gi dis => ?_)
        (repeat' (first|(apply xW;(first|exact Want.none_ rfl|(refine zX rfl rfl rfl rfl ?_;(first|exact dT ‹_›|exact dF ‹_›))))|(apply xF zI;exact rfl;exact rfl)|((first|apply y3|apply xD|apply y4|apply yB|(apply yM;exact rfl;exact rfl)|apply yH)<;>(first|exact zI|exact rfl|refine yG ?_|assumption|omega|exact ⟨rfl⟩|exact ⟨rfl,_,_,rfl,rfl⟩|exact lb rfl|(refine Bd.mk ?_;(focus (simp;done)))|(focus (apply oI;exact rfl;exact rfl;assumption))|(focus (simp;done))|(simp;omega)))|(apply yR;exact rfl;exact rfl;(first|exact dT ‹_›|exact dF ‹_›|exact rfl);exact rfl;exact rfl)|(apply yS;(iterate 5 exact rfl);(first|exact dT ‹_›|exact dF ‹_›|exact rfl))|apply zR|apply AWp.Q|apply zH|apply AWp.G|apply AWp.B|apply AWp.J|apply AWp.R|apply zK|apply zJ|apply zL|(apply AWp.T;exact rfl;(first|exact dT ‹_›|exact rfl))|(apply AWp.F;exact rfl;(first|exact dF ‹_›|exact rfl))|(((refine zT rfl rfl rfl ?_ ?_))<;>intro hp<;>try (exfalso;omega))|(((refine AWp.C rfl ?_ ?_))<;>intro hp<;>try (exfalso;omega))))
        any_goals
          (((refine zV _ [] (.cons (y5 rfl rfl rfl zI rfl rfl rfl) .nil) ?_ rfl ?_)) <;> (repeat' (first|exact trivial|apply And.intro)))
        any_goals
          have hx1 : 1 ≤ ((s.drop 1).take (s.length - 1 - 1)).length - 1 := Nat.le_sub_one_of_lt (Nat.lt_of_succ_lt (Int.ofNat_lt.1 ‹2 < ((((s.drop 1).take (s.length - 1 - 1)).length : Nat) : Int)›))
          (repeat' (first|(apply xW;((exact Want.none_ rfl)))|((first|apply y4|(apply yM;exact rfl;exact rfl)|apply yH)<;>(first|exact zI|exact rfl|refine yG ?_|assumption|exact ⟨rfl,_,_,rfl,rfl⟩|exact lb rfl|(refine Bd.mk ?_;(focus (simp;done)))|(focus (apply oI;exact rfl;exact rfl;assumption))|(focus (simp;done))))|apply zR|apply zH|apply AWp.R|apply zK|apply zL))
          (((refine zV _ [] (.cons (y5 rfl rfl rfl zI rfl rfl rfl) .nil) ?_ rfl ?_)) <;> (repeat' (first|exact trivial|apply And.intro)))
        all_goals
          clear hz h0 h1 hml hm0 hm1 hmz hin e
          generalize hM : (s.drop 1).take (s.length - 1 - 1) = m at *
        all_goals
          unfold kS
          repeat (first | rw [if_pos (by assumption)] | rw [if_neg (by assumption)] | rw [if_pos ⟨by assumption, by assumption, Int.ofNat_lt.1 (by assumption)⟩] | rw [if_neg (fun h : _ ∧ _ ∧ _ => absurd h.1 (by assumption))] | rw [if_neg (fun h : _ ∧ _ ∧ _ => absurd h.2.1 (by assumption))] | rw [if_neg (fun h : _ ∧ _ ∧ _ => absurd (Int.ofNat_lt.2 h.2.2) (by assumption))])
          first | exact rfl | (rw [List.take_of_length_le (by rw [List.length_drop]; exact Nat.le_refl _)]; exact rfl)
      · rw [if_neg (by simpa using ha), if_pos (by simpa using hb)] at e
        rw [e]
        refine PF.enter (xJ _) Tryz.func163 rfl (by kernel_rfl) _ _ rfl rfl rfl (fun w0 mu I0 β0 gi dis => ?_)
        (repeat' (first|(apply xW;(first|exact Want.none_ rfl|(refine zX rfl rfl rfl rfl ?_;((exact dF ‹_›)))))|(apply xF zI;exact rfl;exact rfl)|((first|apply y3|apply xD|apply y4|apply yB|apply yH)<;>(first|exact zI|exact rfl|refine yG ?_|assumption|omega|exact lb rfl|(refine Bd.mk ?_;(focus (simp;done)))))|(apply yR;exact rfl;exact rfl;((exact dF ‹_›));exact rfl;exact rfl)|apply zR|apply AWp.Q|apply zH|apply AWp.G|apply AWp.R|apply zK|(apply AWp.T;exact rfl;((exact dT ‹_›)))|(((refine zT rfl rfl rfl ?_ ?_))<;>intro hp<;>try (exfalso;omega))))
        (((refine zV _ [] (.cons (y5 rfl rfl rfl zI rfl rfl rfl) .nil) ?_ rfl ?_)) <;> (repeat' (first|exact trivial|exact rfl|apply And.intro)))
    · rw [if_pos (by simpa using ha)] at e
      rw [e]
      refine PF.enter (xJ _) Tryz.func163 rfl (by kernel_rfl) _ _ rfl rfl rfl (fun w0 mu I0 β0 gi dis => ?_)
      (repeat' (first|(apply xW;(first|exact Want.none_ rfl|(refine zX rfl rfl rfl rfl ?_;((exact dF ‹_›)))))|(apply xF zI;exact rfl;exact rfl)|((first|apply xD|apply y4|apply yB|apply yH)<;>(first|exact zI|exact rfl|refine yG ?_|assumption|exact lb rfl|(refine Bd.mk ?_;(focus (simp;done)))))|(apply yR;exact rfl;exact rfl;(first|exact dT ‹_›|exact dF ‹_›);exact rfl;exact rfl)|(apply yS;(iterate 5 exact rfl);((exact dT ‹_›)))|apply zR|apply AWp.Q|apply zH|apply AWp.G|apply AWp.R|apply zK|(apply AWp.T;exact rfl;((exact rfl)))))
      (((refine zV _ [] (.cons (y5 rfl rfl rfl zI rfl rfl rfl) .nil) ?_ rfl ?_)) <;> (repeat' (first|exact trivial|exact rfl|apply And.intro)))
def resA (s : List UInt8) : Atm := if okA s then wJ s else ⟨0, []⟩
theorem specAtom_pf (s : List UInt8) (hs : s.length ≤ 1000000) : PF Tryz.prog 130 [.c (str s)] [] (.tup [.agg (xL (resA s)), .c (boo (okA s))]) := by
  have hl := kindA_len s
  have h1 := l5Kind_pf s hs
  have h2 := l5Good_pf (wJ s) (by omega)
  have h3 := l5Format_pf (wJ s) (by omega)
  have e : okA s = (x6 (wJ s) && decide (vB (wJ s) = s)) := rfl
  cases hg : x6 (wJ s) with
  | false =>
    rw [hg] at h2 e
    rw [resA, e, Bool.false_and, if_neg (by simp)]
    refine PF.enter (xJ _) Tryz.func130 rfl (by kernel_rfl) _ _ rfl rfl rfl (fun w0 mu I0 β0 gi dis => ?_)
    (repeat' (first|(apply xW;((exact Want.none_ rfl)))|(apply xF zI;exact rfl;exact rfl)|((first|apply y4|apply yB|apply yH)<;>(first|exact zI|exact rfl|refine yG ?_|exact lb rfl|((try refine Bd.mk ?_);(focus (simp;done)))))|(apply yR;exact rfl;exact rfl;((exact rfl));exact rfl;exact rfl)|(apply yS;(iterate 5 exact rfl);((exact rfl)))|apply zR|apply AWp.Q|apply zH|apply AWp.G|apply AWp.R|apply zK|(apply AWp.T;exact rfl;((exact rfl)))|(apply yA;(iterate 6 exact rfl);(iterate 2 (focus (repeat (first|exact VAs.nil|apply VAs.cons|apply VA.c|apply VA.agg|exact VCs.nil|apply VCs.cons|exact VC.imm (Imm.v _)))));(first|exact h1|exact h2);(focus (repeat (first|exact trivial|exact Flat.v _|apply And.intro)));((apply yJ));(first|exact xB _ _|exact rfl))))
    (((refine zV _ [] (.cons (y5 rfl rfl rfl zI rfl rfl rfl) (.cons (zN rfl) .nil)) ?_ rfl ?_)) <;> (repeat' (first|exact trivial|exact rfl|apply And.intro)))
  | true =>
    rw [hg] at h2 e
    by_cases hf : vB (wJ s) = s
    · have hf2 : ¬ vB (wJ s) ≠ s := fun h => h hf
      rw [resA, e, decide_eq_true hf, Bool.true_and, if_pos rfl]
      refine PF.enter (xJ _) Tryz.func130 rfl (by kernel_rfl) _ _ rfl rfl rfl (fun w0 mu I0 β0 gi dis => ?_)
      (repeat' (first|(apply xW;(first|exact Want.none_ rfl|(refine zX rfl rfl rfl rfl ?_;((exact rfl)))))|(apply xF zI;exact rfl;exact rfl)|((first|apply yB|apply yH)<;>(first|exact zI|exact rfl|refine yG ?_|exact lb rfl))|(apply yR;exact rfl;exact rfl;((exact rfl));exact rfl;exact rfl)|apply zR|apply AWp.Q|apply zH|apply AWp.G|apply AWp.J|apply AWp.R|(apply AWp.F;exact rfl;((exact dF ‹_›)))|(apply yA;(iterate 6 exact rfl);(iterate 2 (focus (repeat (first|exact VAs.nil|apply VAs.cons|apply VA.c|apply VA.agg|exact VCs.nil|apply VCs.cons|exact VC.imm (Imm.v _)))));(first|exact h1|exact h2|exact h3);(focus (repeat (first|exact trivial|exact Flat.v _|apply And.intro)));((apply yJ));(first|exact xB _ _|exact rfl))))
      (((refine zV _ [] (.cons (y5 rfl rfl rfl zI rfl rfl rfl) (.cons (zN rfl) .nil)) ?_ rfl ?_)) <;> (repeat' (first|exact trivial|exact rfl|apply And.intro)))
    · rw [resA, e, decide_eq_false hf, Bool.true_and, if_neg (by simp)]
      refine PF.enter (xJ _) Tryz.func130 rfl (by kernel_rfl) _ _ rfl rfl rfl (fun w0 mu I0 β0 gi dis => ?_)
      (repeat' (first|(apply xW;(first|exact Want.none_ rfl|(refine zX rfl rfl rfl rfl ?_;((exact rfl)))))|(apply xF zI;exact rfl;exact rfl)|((first|apply y4|apply yB|apply yH)<;>(first|exact zI|exact rfl|refine yG ?_|exact lb rfl|((try refine Bd.mk ?_);(focus (simp;done)))))|(apply yR;exact rfl;exact rfl;((exact rfl));exact rfl;exact rfl)|apply zR|apply AWp.Q|apply zH|apply AWp.G|apply AWp.R|apply zK|(apply AWp.T;exact rfl;((exact dT ‹_›)))|(apply yA;(iterate 6 exact rfl);(iterate 2 (focus (repeat (first|exact VAs.nil|apply VAs.cons|apply VA.c|apply VA.agg|exact VCs.nil|apply VCs.cons|exact VC.imm (Imm.v _)))));(first|exact h1|exact h2|exact h3);(focus (repeat (first|exact trivial|exact Flat.v _|apply And.intro)));((apply yJ));(first|exact xB _ _|exact rfl))))
      (((refine zV _ [] (.cons (y5 rfl rfl rfl zI rfl rfl rfl) (.cons (zN rfl) .nil)) ?_ rfl ?_)) <;> (repeat' (first|exact trivial|exact rfl|apply And.intro)))
end Go.Proofs.YtjeffognhcbiaaaGreatDoor
