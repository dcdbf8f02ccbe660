/- Spelling, by the model: l9Rule, l9Join, JoinSuffix. No conditions but bounds of lengths. -/
import Derived.Test.YtjeffognhcbiaaaGreatDoorScA
namespace Go.Proofs.YtjeffognhcbiaaaGreatDoor
open Go Go.RowKit
theorem vE (b : UInt8) : PF Tryz.prog 190 [.c (.v (.int .u8 b.toNat))] [] (.c (boo (vowB b))) := by
  refine PF.enter (xJ _) Tryz.func190 rfl (by kernel_rfl) _ _ rfl rfl rfl (fun w0 mu I0 β0 gi dis => ?_)
  (repeat' (first|(apply xW;(first|exact Want.none_ rfl|(refine zX rfl rfl rfl rfl ?_;((exact dF ‹_›)))))|(apply xF zI;exact rfl;exact rfl)|(apply yR;exact rfl;exact rfl;(first|exact dT ‹_›|exact dF ‹_›|exact rfl);exact rfl;exact rfl)|(apply yS;(iterate 5 exact rfl);(first|exact dT ‹_›|exact rfl))|apply zR|apply AWp.Q|apply zH|apply AWp.G|apply AWp.R|(((refine zT rfl rfl rfl ?_ ?_))<;>intro hp<;>try (exfalso;omega))))
  all_goals
    (((refine zV _ [] (.cons (zN rfl) .nil) ?_ rfl ?_)) <;> (repeat' (first|exact trivial|refine vwB ?_)))
  all_goals first | (simp [vowB, *]; done) | skip
theorem ltr_lo {b : UInt8} (h : ((b.toNat : Nat) : Int) < 97) : vU b = false := by rw [vU, decide_eq_false (by omega), Bool.false_and]
theorem ltr_hi {b : UInt8} (h : (122 : Int) < ((b.toNat : Nat) : Int)) : vU b = false := by rw [vU, decide_eq_false (by omega : ¬ ((b.toNat : Nat) : Int) ≤ 122), Bool.and_false]
theorem ltr_in {b : UInt8} (h : ¬ ((b.toNat : Nat) : Int) < 97) (k : ¬ (122 : Int) < ((b.toNat : Nat) : Int)) : vU b = true := by rw [vU, decide_eq_true (by omega), decide_eq_true (by omega)]; rfl
theorem l9Word_pf (s : List UInt8) (hs : s.length ≤ 4000000) : PF Tryz.prog 149 [.c (str s)] [] (.c (boo (kF s))) := by
  refine PF.enter (xJ _) Tryz.func149 rfl (by kernel_rfl) _ _ rfl rfl rfl (fun w0 mu I0 β0 gi dis => ?_)
  (repeat' (first|(apply xW;((exact Want.none_ rfl)))|(apply xF zI;exact rfl;exact rfl)|apply zR|apply AWp.Q|apply zH|apply AWp.G|apply AWp.B))
  refine AWp.U (σ := Nat) (fun k => ⟨[(0, .c (str s)), (3, .c (int k))], [], 0⟩) (fun k => k ≤ s.length ∧ (s.take k).all vU = true) (fun k => s.length - k) 0 ⟨Nat.zero_le _, rfl⟩ ?_ ?_
  · refine Weak.of [] rfl ?_ ?_ <;> (repeat' (first|exact trivial|exact rfl|apply And.intro))
  · rintro k ⟨hk, hall⟩
    by_cases hlt : k < s.length
    · obtain ⟨b, hb⟩ := xT hlt
      have hlt' : (k : Int) < (s.length : Int) := by omega
      by_cases g1 : ((b.toNat : Nat) : Int) < 97
      · have e : kF s = false := by rw [kF, vK hb (ltr_lo g1), Bool.false_and]
        rw [e]
        (repeat' (first|(apply xW;((exact Want.none_ rfl)))|(apply xF zI;exact rfl;exact rfl)|(((apply xD))<;>(first|exact zI|exact rfl|refine yG ?_|assumption))|(apply yR;exact rfl;exact rfl;((exact dT ‹_›));exact rfl;exact rfl)|(apply yS;(iterate 5 exact rfl);((exact dT ‹_›)))|apply zR|apply AWp.Q|apply zH|apply AWp.G|apply AWp.B|apply AWp.J|apply AWp.R|apply zK|apply zL|(apply AWp.T;exact rfl;(first|exact dT ‹_›|exact rfl))))
        (((refine zV _ [] (.cons (zN rfl) .nil) ?_ rfl ?_)) <;> (repeat' (first|exact trivial|exact rfl)))
      · by_cases g2 : (122 : Int) < ((b.toNat : Nat) : Int)
        · have e : kF s = false := by rw [kF, vK hb (ltr_hi g2), Bool.false_and]
          rw [e]
          (repeat' (first|(apply xW;(first|exact Want.none_ rfl|(refine zX rfl rfl rfl rfl ?_;((exact dF ‹_›)))))|(apply xF zI;exact rfl;exact rfl)|(((apply xD))<;>(first|exact zI|exact rfl|refine yG ?_|assumption))|(apply yR;exact rfl;exact rfl;((exact dF ‹_›));exact rfl;exact rfl)|apply zR|apply AWp.Q|apply zH|apply AWp.G|apply AWp.B|apply AWp.J|apply AWp.R|apply zK|apply zL|(apply AWp.T;exact rfl;((exact dT ‹_›)))))
          (((refine zV _ [] (.cons (zN rfl) .nil) ?_ rfl ?_)) <;> (repeat' (first|exact trivial|exact rfl)))
        · have hall' : (s.take (k + 1)).all vU = true := by rw [x5 hb, hall, ltr_in g1 g2]; rfl
          (repeat' (first|(apply xW;(first|exact Want.none_ rfl|(refine zX rfl rfl rfl rfl ?_;((exact dF ‹_›)))))|(apply xF zI;exact rfl;exact rfl)|((first|apply zZ|apply xD)<;>(first|exact zI|exact rfl|refine yG ?_|assumption|omega))|(apply yR;exact rfl;exact rfl;((exact dF ‹_›));exact rfl;exact rfl)|apply zR|apply AWp.Q|apply zH|apply AWp.G|apply AWp.B|apply AWp.J|apply zJ|(apply AWp.T;exact rfl;((exact dT ‹_›)))|(apply AWp.F;exact rfl;((exact dF ‹_›)))))
          refine ⟨k + 1, ⟨by omega, hall'⟩, by omega, ?_⟩
          refine Weak.of [] rfl ?_ ?_ <;> (repeat' (first|exact trivial|exact rfl|apply And.intro))
    · have hlt' : ¬ (k : Int) < (s.length : Int) := by omega
      obtain rfl : k = s.length := by omega
      rw [List.take_of_length_le (Nat.le_refl _)] at hall
      have h := vP s.length 1 24
      (repeat' (first|(apply xW;((exact Want.none_ rfl)))|(apply xF zI;exact rfl;exact rfl)|apply zR|apply AWp.Q|apply zH|apply AWp.G|apply AWp.X|apply AWp.R|apply zQ|apply zO|(apply AWp.F;exact rfl;((exact dF ‹_›)))|(apply yA;(iterate 6 exact rfl);(iterate 2 (focus (repeat (first|exact VAs.nil|apply VAs.cons|apply VA.c|exact VCs.nil|exact VC.imm (Imm.v _)))));((exact h));(focus (repeat ((exact Flat.v _))));((apply yJ));((exact xB _ _)))))
      (((refine zV _ [] (.cons (zN rfl) .nil) ?_ rfl ?_)) <;> (repeat' (first|exact trivial|refine vwB ?_)))
      rw [kF, hall, Bool.true_and]
theorem l9Groups_pf (s : List UInt8) (hs : s.length ≤ 4000000) : PF Tryz.prog 200 [.c (str s)] [] (.c (int (grpN s s.length : Nat))) := by
  refine PF.enter (xJ _) Tryz.func200 rfl (by kernel_rfl) _ _ rfl rfl rfl (fun w0 mu I0 β0 gi dis => ?_)
  (repeat' (first|(apply xW;((exact Want.none_ rfl)))|(apply xF zI;exact rfl;exact rfl)|apply zR|apply AWp.Q|apply zH|apply AWp.G|apply AWp.B))
  refine AWp.U (σ := Nat) (fun k => ⟨[(0, .c (str s)), (3, .c (int (grpN s k : Nat))), (4, .c (int k))], [], 0⟩) (fun k => k ≤ s.length) (fun k => s.length - k) 0 (Nat.zero_le _) ?_ ?_
  · refine Weak.of [] rfl ?_ ?_ <;> (repeat' (first|exact trivial|exact rfl|apply And.intro))
  · rintro k hk
    have hgl := grpN_le s k
    by_cases hlt : k < s.length
    · have hb := kK hlt
      have hlt' : (k : Int) < (s.length : Int) := by omega
      have hv := vE (at0 s k)
      cases h1 : vowB (at0 s k) with
      | false =>
        rw [h1] at hv
        have e : grpN s (k + 1) = grpN s k := by rw [grpN, h1]; rfl
        generalize grpN s k = q at *
        (repeat' (first|(apply xW;((exact Want.none_ rfl)))|(apply xF zI;exact rfl;exact rfl)|((first|apply zZ|apply xD)<;>(first|exact zI|exact rfl|refine yG ?_|assumption|omega))|(apply yR;exact rfl;exact rfl;((exact rfl));exact rfl;exact rfl)|(apply yS;(iterate 5 exact rfl);((exact rfl)))|(apply yF;(iterate 5 exact rfl))|apply zR|apply AWp.Q|apply zH|apply AWp.G|apply AWp.B|apply AWp.J|apply zJ|(apply AWp.T;exact rfl;((exact dT ‹_›)))|(apply AWp.F;exact rfl;((exact rfl)))|(apply yA;(iterate 6 exact rfl);(iterate 2 (focus (repeat (first|exact VAs.nil|apply VAs.cons|apply VA.c|exact VCs.nil|exact VC.imm (Imm.v _)))));((exact hv));(focus (repeat ((exact Flat.v _))));((apply yJ));((exact xB _ _)))))
        refine ⟨k + 1, by omega, by omega, ?_⟩
        rw [e]
        refine Weak.of [] rfl ?_ ?_ <;> (repeat' (first|exact trivial|exact rfl|apply And.intro))
      | true =>
        rw [h1] at hv
        by_cases h0 : k = 0
        · subst h0
          have e : grpN s (0 + 1) = 1 := by rw [grpN, grpN, h1]; rfl
          have hz : ((0 : Nat) : Int) = 0 := rfl
          have e0 : grpN s 0 = 0 := rfl
          (repeat' (first|(apply xW;(first|exact Want.none_ rfl|(refine zX rfl rfl rfl rfl ?_;((exact dT ‹_›)))))|(apply xF zI;exact rfl;exact rfl)|((first|apply zZ|apply xD)<;>(first|exact zI|exact rfl|refine yG ?_|assumption|omega))|(apply yR;exact rfl;exact rfl;((exact dT ‹_›));exact rfl;exact rfl)|(apply yS;(iterate 5 exact rfl);((exact dT ‹_›)))|apply zR|apply AWp.Q|apply zH|apply AWp.G|apply AWp.B|apply AWp.J|apply zJ|(apply AWp.T;exact rfl;((exact dT ‹_›)))|(apply yA;(iterate 6 exact rfl);(iterate 2 (focus (repeat (first|exact VAs.nil|apply VAs.cons|apply VA.c|exact VCs.nil|exact VC.imm (Imm.v _)))));((exact hv));(focus (repeat ((exact Flat.v _))));((apply yJ));((exact xB _ _)))))
          refine ⟨0 + 1, by omega, by omega, ?_⟩
          rw [e]
          refine Weak.of [] rfl ?_ ?_ <;> (repeat' (first|exact trivial|exact rfl|apply And.intro))
        · have hz : ¬ (k : Int) = 0 := by omega
          have hkm : (k : Int) - 1 = ((k - 1 : Nat) : Int) := by omega
          have hb2 := kK (s := s) (k := k - 1) (by omega)
          have hv2 := vE (at0 s (k - 1))
          cases h2 : vowB (at0 s (k - 1)) with
          | true =>
            rw [h2] at hv2
            have e : grpN s (k + 1) = grpN s k := by rw [grpN, h1, h2, decide_eq_false h0]; rfl
            generalize grpN s k = q at *
            (repeat' (first|(apply xW;(first|exact Want.none_ rfl|(refine zX rfl rfl rfl rfl ?_;(first|exact dF ‹_›|exact rfl))))|(apply xF zI;exact rfl;exact rfl)|((first|apply zZ|apply y3|apply xD)<;>(first|exact zI|exact rfl|refine yG ?_|assumption|omega))|(apply yR;exact rfl;exact rfl;(first|exact dF ‹_›|exact rfl);exact rfl;exact rfl)|apply zR|apply AWp.Q|apply zH|apply AWp.G|apply AWp.B|apply AWp.J|apply zJ|(apply AWp.T;exact rfl;((exact dT ‹_›)))|(apply AWp.F;exact rfl;((exact rfl)))|(apply yA;(iterate 6 exact rfl);(iterate 2 (focus (repeat (first|exact VAs.nil|apply VAs.cons|apply VA.c|exact VCs.nil|exact VC.imm (Imm.v _)))));(first|exact hv|exact hv2);(focus (repeat ((exact Flat.v _))));((apply yJ));((exact xB _ _)))))
            refine ⟨k + 1, by omega, by omega, ?_⟩
            rw [e]
            refine Weak.of [] rfl ?_ ?_ <;> (repeat' (first|exact trivial|exact rfl|apply And.intro))
          | false =>
            rw [h2] at hv2
            have e : grpN s (k + 1) = grpN s k + 1 := by rw [grpN, h1, h2, decide_eq_false h0]; rfl
            generalize grpN s k = q at *
            (repeat' (first|(apply xW;(first|exact Want.none_ rfl|(refine zX rfl rfl rfl rfl ?_;(first|exact dF ‹_›|exact rfl))))|(apply xF zI;exact rfl;exact rfl)|((first|apply zZ|apply y3|apply xD)<;>(first|exact zI|exact rfl|refine yG ?_|assumption|omega))|(apply yR;exact rfl;exact rfl;(first|exact dF ‹_›|exact rfl);exact rfl;exact rfl)|apply zR|apply AWp.Q|apply zH|apply AWp.G|apply AWp.B|apply AWp.J|apply zJ|(apply AWp.T;exact rfl;(first|exact dT ‹_›|exact rfl))|(apply yA;(iterate 6 exact rfl);(iterate 2 (focus (repeat (first|exact VAs.nil|apply VAs.cons|apply VA.c|exact VCs.nil|exact VC.imm (Imm.v _)))));(first|exact hv|exact hv2);(focus (repeat ((exact Flat.v _))));((apply yJ));((exact xB _ _)))))
            refine ⟨k + 1, by omega, by omega, ?_⟩
            rw [e]
            refine Weak.of [] rfl ?_ ?_ <;> (repeat' (first|exact trivial|exact rfl|apply And.intro))
    · have hlt' : ¬ (k : Int) < (s.length : Int) := by omega
      obtain rfl : k = s.length := by omega
      (repeat' (first|(apply xW;((exact Want.none_ rfl)))|(apply xF zI;exact rfl;exact rfl)|apply zR|apply AWp.Q|apply zH|apply AWp.G|apply AWp.X|apply AWp.R|apply zQ|apply zO|(apply AWp.F;exact rfl;((exact dF ‹_›)))))
      (((refine zV _ [] (.cons (zN rfl) .nil) ?_ rfl ?_)) <;> (repeat' (first|exact trivial|exact rfl)))
theorem vV {α : Type} (s : List α) (k : Nat) : (s.drop k).take (s.length - k) = s.drop k := List.take_of_length_le (by rw [List.length_drop]; exact Nat.le_refl _)
theorem wW (s e : List UInt8) (hs : s.length ≤ 4000000) (he : e.length ≤ 4000000) : PF Tryz.prog 192 [.c (str s), .c (str e)] [] (.c (boo (endsB s e))) := by
  by_cases h : e.length ≤ s.length
  · have h' : (e.length : Int) ≤ (s.length : Int) := by omega
    have hz : (s.length : Int) - (e.length : Int) = ((s.length - e.length : Nat) : Int) := by omega
    rw [endsB, decide_eq_true h, Bool.true_and]
    refine PF.enter (xG _ _) Tryz.func192 rfl (by kernel_rfl) _ _ rfl rfl rfl (fun w0 mu I0 β0 gi dis => ?_)
    (repeat' (first|(apply xW;(first|exact Want.none_ rfl|(refine zX rfl rfl rfl rfl ?_;((exact dT ‹_›)))))|(apply xF zI;exact rfl;exact rfl)|((first|apply y3|(apply yM;exact rfl;exact rfl))<;>(first|exact zI|exact rfl|refine yG ?_|omega|exact ⟨rfl⟩|(focus (apply oI;exact rfl;exact rfl;assumption))))|(apply yR;exact rfl;exact rfl;((exact dT ‹_›));exact rfl;exact rfl)|apply zR|apply AWp.Q|apply zH|apply AWp.G|apply AWp.R))
    all_goals
      (((refine zV _ [] (.cons (zN rfl) .nil) ?_ rfl ?_)) <;> (repeat' (first|exact trivial|refine vwB ?_)))
    all_goals first | (rw [vV] at *; simp [*]; done) | (rw [vV]; done) | skip
  · have h' : ¬ (e.length : Int) ≤ (s.length : Int) := by omega
    rw [endsB, decide_eq_false h, Bool.false_and]
    refine PF.enter (xG _ _) Tryz.func192 rfl (by kernel_rfl) _ _ rfl rfl rfl (fun w0 mu I0 β0 gi dis => ?_)
    (repeat' (first|(apply xW;((exact Want.none_ rfl)))|(apply xF zI;exact rfl;exact rfl)|(apply yR;exact rfl;exact rfl;((exact dF ‹_›));exact rfl;exact rfl)|(apply yS;(iterate 5 exact rfl);((exact dF ‹_›)))|apply zR|apply AWp.Q|apply zH|apply AWp.G|apply AWp.R))
    (((refine zV _ [] (.cons (zN rfl) .nil) ?_ rfl ?_)) <;> (repeat' (first|exact trivial|exact rfl)))
theorem l9Cons_pf (s : List UInt8) (hs : s.length ≤ 4000000) : PF Tryz.prog 191 [.c (str s)] [] (.c (boo (cyB s))) := by
  by_cases h : 2 ≤ s.length
  · have h' : (2 : Int) ≤ (s.length : Int) := by omega
    have hz1 : (s.length : Int) - 1 = ((s.length - 1 : Nat) : Int) := by omega
    have hz2 : (s.length : Int) - 2 = ((s.length - 2 : Nat) : Int) := by omega
    have h1 := qR (s := s) (i := 1) (by omega) (by omega)
    have h2 := qR (s := s) (i := 2) (by omega) (by omega)
    have hv := vE (bk s 2)
    rw [cyB, decide_eq_true h, Bool.true_and]
    refine PF.enter (xJ _) Tryz.func191 rfl (by kernel_rfl) _ _ rfl rfl rfl (fun w0 mu I0 β0 gi dis => ?_)
    (repeat' (first|(apply xW;(first|exact Want.none_ rfl|(refine zX rfl rfl rfl rfl ?_;((exact dT ‹_›)))))|(apply xF zI;exact rfl;exact rfl)|((first|apply y3|apply xD)<;>(first|exact zI|exact rfl|refine yG ?_|assumption|omega))|(apply yR;exact rfl;exact rfl;(first|exact dT ‹_›|exact dF ‹_›);exact rfl;exact rfl)|(apply yS;(iterate 5 exact rfl);((exact dF ‹_›)))|apply zR|apply AWp.Q|apply zH|apply AWp.G|apply AWp.R|(apply yA;(iterate 6 exact rfl);(iterate 2 (focus (repeat (first|exact VAs.nil|apply VAs.cons|apply VA.c|exact VCs.nil|exact VC.imm (Imm.v _)))));((exact hv));(focus (repeat ((exact Flat.v _))));((apply yJ));((exact xB _ _)))|(((refine zT rfl rfl rfl ?_ ?_))<;>intro hp<;>try (exfalso;omega))))
    all_goals
      (((refine zV _ [] (.cons (zN rfl) .nil) ?_ rfl ?_)) <;> (repeat' (first|exact trivial|refine vwB ?_)))
    all_goals first | (simp [*]; done) | skip
  · have h' : ¬ (2 : Int) ≤ (s.length : Int) := by omega
    rw [cyB, decide_eq_false h, Bool.false_and, Bool.false_and]
    refine PF.enter (xJ _) Tryz.func191 rfl (by kernel_rfl) _ _ rfl rfl rfl (fun w0 mu I0 β0 gi dis => ?_)
    (repeat' (first|(apply xW;((exact Want.none_ rfl)))|(apply xF zI;exact rfl;exact rfl)|(apply yR;exact rfl;exact rfl;(first|exact dF ‹_›|exact rfl);exact rfl;exact rfl)|(apply yS;(iterate 5 exact rfl);(first|exact dF ‹_›|exact rfl))|apply zR|apply AWp.Q|apply zH|apply AWp.G|apply AWp.R))
    (((refine zV _ [] (.cons (zN rfl) .nil) ?_ rfl ?_)) <;> (repeat' (first|exact trivial|exact rfl)))
theorem l9Dbl_pf (s : List UInt8) (hs : s.length ≤ 4000000) : PF Tryz.prog 193 [.c (str s)] [] (.c (boo (dbB s))) := by
  by_cases h : 3 ≤ s.length
  · have h' : ¬ (s.length : Int) < 3 := by omega
    have hz1 : (s.length : Int) - 1 = ((s.length - 1 : Nat) : Int) := by omega
    have hz2 : (s.length : Int) - 2 = ((s.length - 2 : Nat) : Int) := by omega
    have hz3 : (s.length : Int) - 3 = ((s.length - 3 : Nat) : Int) := by omega
    have h1 := qR (s := s) (i := 1) (by omega) (by omega)
    have h2 := qR (s := s) (i := 2) (by omega) (by omega)
    have h3 := qR (s := s) (i := 3) (by omega) (by omega)
    have hv1 := vE (bk s 1)
    have hv2 := vE (bk s 2)
    have hv3 := vE (bk s 3)
    have hg := l9Groups_pf s hs
    rw [dbB, decide_eq_true h, Bool.true_and]
    by_cases hn : grpN s s.length = 1
    · have hn' : ((grpN s s.length : Nat) : Int) = 1 := by omega
      rw [decide_eq_true hn, Bool.true_and]
      generalize grpN s s.length = q at *
      refine PF.enter (xJ _) Tryz.func193 rfl (by kernel_rfl) _ _ rfl rfl rfl (fun w0 mu I0 β0 gi dis => ?_)
      (repeat' (first|(apply xW;(first|exact Want.none_ rfl|(refine zX rfl rfl rfl rfl ?_;(first|assumption|exact dT ‹_›|exact dF ‹_›))))|(apply xF zI;exact rfl;exact rfl)|((first|apply y3|apply xD)<;>(first|exact zI|exact rfl|refine yG ?_|assumption|omega))|(apply yR;exact rfl;exact rfl;(first|assumption|exact dT ‹_›|exact dF ‹_›|exact rfl);exact rfl;exact rfl)|(apply yS;(iterate 5 exact rfl);(first|assumption|exact dF ‹_›|exact rfl))|apply zR|apply AWp.Q|apply zH|apply AWp.G|apply AWp.J|apply AWp.R|(apply yA;(iterate 6 exact rfl);(iterate 2 (focus (repeat (first|exact VAs.nil|apply VAs.cons|apply VA.c|exact VCs.nil|exact VC.imm (Imm.v _)))));(first|exact hg|exact hv1|exact hv2|exact hv3);(focus (repeat ((exact Flat.v _))));((apply yJ));((exact xB _ _)))|((first|refine zT rfl rfl rfl ?_ ?_|refine zY rfl rfl rfl ?_ ?_)<;>intro hp<;>try (exfalso;omega))|(((refine AWp.C rfl ?_ ?_))<;>intro hp<;>try (exfalso;omega))))
      all_goals
        (((refine zV _ [] (.cons (zN rfl) .nil) ?_ rfl ?_)) <;> (repeat' (first|exact trivial|refine vwB ?_)))
      all_goals first | (simp [*]; done) | skip
    · have hn' : ((grpN s s.length : Nat) : Int) ≠ 1 := by omega
      rw [decide_eq_false hn]
      generalize grpN s s.length = q at *
      refine PF.enter (xJ _) Tryz.func193 rfl (by kernel_rfl) _ _ rfl rfl rfl (fun w0 mu I0 β0 gi dis => ?_)
      (repeat' (first|(apply xW;(first|exact Want.none_ rfl|(refine zX rfl rfl rfl rfl ?_;((exact dF ‹_›)))))|(apply xF zI;exact rfl;exact rfl)|(apply yR;exact rfl;exact rfl;((exact dF ‹_›));exact rfl;exact rfl)|apply zR|apply AWp.Q|apply zH|apply AWp.G|apply AWp.R|apply zK|(apply AWp.T;exact rfl;((exact dT ‹_›)))|(apply yA;(iterate 6 exact rfl);(iterate 2 (focus (repeat (first|exact VAs.nil|apply VAs.cons|apply VA.c|exact VCs.nil|exact VC.imm (Imm.v _)))));((exact hg));(focus (repeat ((exact Flat.v _))));((apply yJ));((exact xB _ _)))))
      (((refine zV _ [] (.cons (zN rfl) .nil) ?_ rfl ?_)) <;> (repeat' (first|exact trivial|exact rfl)))
      all_goals first | (simp [*]; done) | skip
  · have h' : (s.length : Int) < 3 := by omega
    rw [dbB, decide_eq_false h]
    refine PF.enter (xJ _) Tryz.func193 rfl (by kernel_rfl) _ _ rfl rfl rfl (fun w0 mu I0 β0 gi dis => ?_)
    (repeat' (first|(apply xW;((exact Want.none_ rfl)))|(apply xF zI;exact rfl;exact rfl)|(apply yR;exact rfl;exact rfl;((exact dT ‹_›));exact rfl;exact rfl)|(apply yS;(iterate 5 exact rfl);((exact dT ‹_›)))|apply zR|apply AWp.Q|apply zH|apply AWp.G|apply AWp.R|apply zK|(apply AWp.T;exact rfl;((exact rfl)))))
    (((refine zV _ [] (.cons (zN rfl) .nil) ?_ rfl ?_)) <;> (repeat' (first|exact trivial|exact rfl)))
    all_goals first | (simp [*]; done) | skip
end Go.Proofs.YtjeffognhcbiaaaGreatDoor
namespace Go.Proofs.YtjeffognhcbiaaaGreatDoor
open Go Go.RowKit
set_option maxHeartbeats 4000000 in
theorem l9Rule_pf (w x : List UInt8) (hw : w.length ≤ 4000000) (hx : 1 ≤ x.length) : PF Tryz.prog 177 [.c (str w), .c (str x)] [] (.c (int (wB w x))) := by
  have hb := kK (s := x) (k := 0) (by omega)
  have hv := vE (at0 x 0)
  have hc := l9Cons_pf w hw
  have hd := l9Dbl_pf w hw
  have e1 := wW w [115] hw (by decide)
  have e2 := wW w [120] hw (by decide)
  have e3 := wW w [122] hw (by decide)
  have e4 := wW w [99, 104] hw (by decide)
  have e5 := wW w [115, 104] hw (by decide)
  have e6 := wW w [105, 101] hw (by decide)
  have e7 := wW w [101] hw (by decide)
  have e8 := wW w [101, 101] hw (by decide)
  have e9 := wW w [111, 101] hw (by decide)
  have e10 := wW w [121, 101] hw (by decide)
  by_cases k1 : x = [115]
  · have k2 : ¬ x = [105, 110, 103] := fun e => by rw [k1] at e; simp at e
    refine PF.enter (xG _ _) Tryz.func177 rfl (by kernel_rfl) _ _ rfl rfl rfl (fun w0 mu I0 β0 gi dis => ?_)
    (repeat' (first|(apply xW;(first|exact Want.none_ rfl|(refine zX rfl rfl rfl rfl ?_;(first|assumption|exact dT ‹_›))))|(apply xF zI;exact rfl;exact rfl)|(((apply xD))<;>(first|exact zI|exact rfl|refine yG ?_|assumption))|(apply yR;exact rfl;exact rfl;(first|assumption|exact dT ‹_›|exact dF ‹_›|exact rfl);exact rfl;exact rfl)|(apply yS;(iterate 5 exact rfl);(first|assumption|exact dF ‹_›|exact rfl))|apply zR|apply AWp.Q|apply zH|apply AWp.G|apply AWp.B|apply AWp.J|apply AWp.R|apply zK|apply zJ|apply zL|(apply AWp.T;exact rfl;((exact rfl)))|(apply AWp.F;exact rfl;(first|assumption|exact rfl))|(apply yA;(iterate 6 exact rfl);(iterate 2 (focus (repeat (first|exact VAs.nil|apply VAs.cons|apply VA.c|exact VCs.nil|exact VC.imm (Imm.v _)))));(first|exact hv|exact hc|exact hd|exact e1|exact e2|exact e3|exact e4|exact e5|exact e7|exact e8|exact e9|exact e10);(focus (repeat ((exact Flat.v _))));((apply yJ));((exact xB _ _)))|((first|refine zT rfl rfl rfl ?_ ?_|refine zY rfl rfl rfl ?_ ?_)<;>intro hp<;>try (exfalso;omega))|(((refine AWp.O _ rfl ?_ ?_))<;>intro hp<;>try (exfalso;omega))))
    all_goals
      (((refine zV _ [] (.cons (zN rfl) .nil) ?_ rfl ?_)) <;> (repeat' (first|exact trivial|refine vwI ?_)))
    all_goals clear hv hc hd e1 e2 e3 e4 e5 e6 e7 e8 e9 e10
    all_goals (rw [wB]; generalize at0 x 0 = b0 at *; clear hb)
    all_goals first | (simp [hissB, dropB, *]; done) | skip
  by_cases k2 : x = [105, 110, 103]
  · refine PF.enter (xG _ _) Tryz.func177 rfl (by kernel_rfl) _ _ rfl rfl rfl (fun w0 mu I0 β0 gi dis => ?_)
    (repeat' (first|(apply xW;(first|exact Want.none_ rfl|(refine zX rfl rfl rfl rfl ?_;(first|assumption|exact dT ‹_›))))|(apply xF zI;exact rfl;exact rfl)|(((apply xD))<;>(first|exact zI|exact rfl|refine yG ?_|assumption))|(apply yR;exact rfl;exact rfl;(first|assumption|exact dT ‹_›|exact dF ‹_›|exact rfl);exact rfl;exact rfl)|(apply yS;(iterate 5 exact rfl);(first|assumption|exact dF ‹_›|exact rfl))|(apply yF;(iterate 5 exact rfl))|apply zR|apply AWp.Q|apply zH|apply AWp.G|apply AWp.B|apply AWp.J|apply AWp.R|apply zK|apply zJ|apply zL|(apply AWp.F;exact rfl;(first|assumption|exact rfl))|(apply yA;(iterate 6 exact rfl);(iterate 2 (focus (repeat (first|exact VAs.nil|apply VAs.cons|apply VA.c|exact VCs.nil|exact VC.imm (Imm.v _)))));(first|exact hv|exact hc|exact hd|exact e6|exact e7|exact e8|exact e9|exact e10);(focus (repeat ((exact Flat.v _))));((apply yJ));((exact xB _ _)))|((first|refine zT rfl rfl rfl ?_ ?_|refine zY rfl rfl rfl ?_ ?_)<;>intro hp<;>try (exfalso;omega))|((first|refine AWp.C rfl ?_ ?_|refine AWp.O _ rfl ?_ ?_)<;>intro hp<;>try (exfalso;omega))))
    all_goals
      (((refine zV _ [] (.cons (zN rfl) .nil) ?_ rfl ?_)) <;> (repeat' (first|exact trivial|refine vwI ?_)))
    all_goals clear hv hc hd e1 e2 e3 e4 e5 e6 e7 e8 e9 e10
    all_goals (rw [wB]; generalize at0 x 0 = b0 at *; clear hb)
    all_goals first | (simp [hissB, dropB, *]; done) | skip
  · refine PF.enter (xG _ _) Tryz.func177 rfl (by kernel_rfl) _ _ rfl rfl rfl (fun w0 mu I0 β0 gi dis => ?_)
    (repeat' (first|(apply xW;(first|exact Want.none_ rfl|(refine zX rfl rfl rfl rfl ?_;(first|assumption|exact dT ‹_›))))|(apply xF zI;exact rfl;exact rfl)|(((apply xD))<;>(first|exact zI|exact rfl|refine yG ?_|assumption))|(apply yR;exact rfl;exact rfl;(first|assumption|exact dT ‹_›|exact dF ‹_›|exact rfl);exact rfl;exact rfl)|(apply yS;(iterate 5 exact rfl);(first|assumption|exact dF ‹_›|exact rfl))|(apply yF;(iterate 5 exact rfl))|apply zR|apply AWp.Q|apply zH|apply AWp.G|apply AWp.B|apply AWp.J|apply AWp.R|apply zK|apply zJ|apply zL|(apply AWp.F;exact rfl;(first|assumption|exact rfl))|(apply yA;(iterate 6 exact rfl);(iterate 2 (focus (repeat (first|exact VAs.nil|apply VAs.cons|apply VA.c|exact VCs.nil|exact VC.imm (Imm.v _)))));(first|exact hv|exact hc|exact hd|exact e7|exact e8|exact e9|exact e10);(focus (repeat ((exact Flat.v _))));((apply yJ));((exact xB _ _)))|((first|refine zT rfl rfl rfl ?_ ?_|refine zY rfl rfl rfl ?_ ?_)<;>intro hp<;>try (exfalso;omega))|((first|refine AWp.C rfl ?_ ?_|refine AWp.O _ rfl ?_ ?_)<;>intro hp<;>try (exfalso;omega))))
    all_goals
      (((refine zV _ [] (.cons (zN rfl) .nil) ?_ rfl ?_)) <;> (repeat' (first|exact trivial|refine vwI ?_)))
    all_goals clear hv hc hd e1 e2 e3 e4 e5 e6 e7 e8 e9 e10
    all_goals (rw [wB]; generalize at0 x 0 = b0 at *; clear hb)
    all_goals first | (simp [hissB, dropB, *]; done) | skip
theorem l9Join_pf (w x : List UInt8) (hw : w.length ≤ 4000000) (hx : 1 ≤ x.length) (hx2 : x.length ≤ 4000000) : PF Tryz.prog 150 [.c (str w), .c (str x)] [] (.c (str (joinW w x))) := by
  have hr := l9Rule_pf w x hw hx
  obtain ⟨n1, n3, n4, n5, n6⟩ := ruleN_len (w := w) (x := x)
  rcases ruleN_rng w x with h | h | h | h | h | h | h
  all_goals
    rw [h] at hr n1 n3 n4 n5 n6
    rw [joinW, h]
  · refine PF.enter (xG _ _) Tryz.func150 rfl (by kernel_rfl) _ _ rfl rfl rfl (fun w0 mu I0 β0 gi dis => ?_)
    (repeat' (first|(apply xW;((exact Want.none_ rfl)))|(apply xF zI;exact rfl;exact rfl)|(((apply z6;exact rfl;exact rfl))<;>(first|exact rfl|refine yG ?_|(refine Bd.mk ?_;(omega))))|apply zR|apply AWp.Q|apply zH|apply AWp.G|apply AWp.B|apply AWp.J|apply AWp.R|apply zJ|(apply AWp.F;exact rfl;((exact rfl)))|(apply yA;(iterate 6 exact rfl);(iterate 2 (focus (repeat (first|exact VAs.nil|apply VAs.cons|apply VA.c|exact VCs.nil|exact VC.imm (Imm.v _)))));((exact hr));(focus (repeat ((exact Flat.v _))));((apply yJ));((exact xB _ _)))))
    (((refine zV _ [] (.cons (zN rfl) .nil) ?_ rfl ?_)) <;> (repeat' (first|exact trivial|exact rfl)))
  · have := n1 rfl
    have hz : (w.length : Int) - 1 = ((w.length - 1 : Nat) : Int) := by omega
    refine PF.enter (xG _ _) Tryz.func150 rfl (by kernel_rfl) _ _ rfl rfl rfl (fun w0 mu I0 β0 gi dis => ?_)
    (repeat' (first|(apply xW;((exact Want.none_ rfl)))|(apply xF zI;exact rfl;exact rfl)|((first|(apply z6;exact rfl;exact rfl)|apply y3|(apply yM;exact rfl;exact rfl))<;>(first|exact zI|exact rfl|refine yG ?_|omega|exact ⟨rfl⟩|(refine Bd.mk ?_;(simp;omega))|(focus (apply oI;exact rfl;exact rfl;assumption))))|apply zR|apply AWp.Q|apply zH|apply AWp.G|apply AWp.B|apply AWp.R|apply zK|apply zL|(apply AWp.T;exact rfl;((exact rfl)))|(apply yA;(iterate 6 exact rfl);(iterate 2 (focus (repeat (first|exact VAs.nil|apply VAs.cons|apply VA.c|exact VCs.nil|exact VC.imm (Imm.v _)))));((exact hr));(focus (repeat ((exact Flat.v _))));((apply yJ));((exact xB _ _)))))
    (((refine zV _ [] (.cons (zN rfl) .nil) ?_ rfl ?_)) <;> (repeat' (first|exact trivial|exact rfl)))
  · refine PF.enter (xG _ _) Tryz.func150 rfl (by kernel_rfl) _ _ rfl rfl rfl (fun w0 mu I0 β0 gi dis => ?_)
    (repeat' (first|(apply xW;((exact Want.none_ rfl)))|(apply xF zI;exact rfl;exact rfl)|(((apply z6;exact rfl;exact rfl))<;>(first|exact rfl|refine yG ?_|(refine Bd.mk ?_;(simp;omega))))|apply zR|apply AWp.Q|apply zH|apply AWp.G|apply AWp.B|apply AWp.R|apply zK|apply zL|(apply AWp.T;exact rfl;((exact rfl)))|(apply AWp.F;exact rfl;((exact rfl)))|(apply yA;(iterate 6 exact rfl);(iterate 2 (focus (repeat (first|exact VAs.nil|apply VAs.cons|apply VA.c|exact VCs.nil|exact VC.imm (Imm.v _)))));((exact hr));(focus (repeat ((exact Flat.v _))));((apply yJ));((exact xB _ _)))))
    (((refine zV _ [] (.cons (zN rfl) .nil) ?_ rfl ?_)) <;> (repeat' (first|exact trivial|exact rfl)))
  · have := n3 rfl
    have hz : (w.length : Int) - 2 = ((w.length - 2 : Nat) : Int) := by omega
    refine PF.enter (xG _ _) Tryz.func150 rfl (by kernel_rfl) _ _ rfl rfl rfl (fun w0 mu I0 β0 gi dis => ?_)
    (repeat' (first|(apply xW;((exact Want.none_ rfl)))|(apply xF zI;exact rfl;exact rfl)|((first|(apply z6;exact rfl;exact rfl)|apply y3|(apply yM;exact rfl;exact rfl))<;>(first|exact zI|exact rfl|refine yG ?_|omega|exact ⟨rfl⟩|(refine Bd.mk ?_;(simp;omega))|(focus (apply oI;exact rfl;exact rfl;assumption))))|apply zR|apply AWp.Q|apply zH|apply AWp.G|apply AWp.B|apply AWp.R|apply zK|apply zL|(apply AWp.T;exact rfl;((exact rfl)))|(apply AWp.F;exact rfl;((exact rfl)))|(apply yA;(iterate 6 exact rfl);(iterate 2 (focus (repeat (first|exact VAs.nil|apply VAs.cons|apply VA.c|exact VCs.nil|exact VC.imm (Imm.v _)))));((exact hr));(focus (repeat ((exact Flat.v _))));((apply yJ));((exact xB _ _)))))
    (((refine zV _ [] (.cons (zN rfl) .nil) ?_ rfl ?_)) <;> (repeat' (first|exact trivial|exact rfl)))
  · have := n4 rfl
    have hz : (w.length : Int) - 1 = ((w.length - 1 : Nat) : Int) := by omega
    refine PF.enter (xG _ _) Tryz.func150 rfl (by kernel_rfl) _ _ rfl rfl rfl (fun w0 mu I0 β0 gi dis => ?_)
    (repeat' (first|(apply xW;((exact Want.none_ rfl)))|(apply xF zI;exact rfl;exact rfl)|((first|(apply z6;exact rfl;exact rfl)|apply y3|(apply yM;exact rfl;exact rfl))<;>(first|exact zI|exact rfl|refine yG ?_|omega|exact ⟨rfl⟩|(refine Bd.mk ?_;(simp;omega))|(focus (apply oI;exact rfl;exact rfl;assumption))))|apply zR|apply AWp.Q|apply zH|apply AWp.G|apply AWp.B|apply AWp.R|apply zK|apply zL|(apply AWp.T;exact rfl;((exact rfl)))|(apply AWp.F;exact rfl;((exact rfl)))|(apply yA;(iterate 6 exact rfl);(iterate 2 (focus (repeat (first|exact VAs.nil|apply VAs.cons|apply VA.c|exact VCs.nil|exact VC.imm (Imm.v _)))));((exact hr));(focus (repeat ((exact Flat.v _))));((apply yJ));((exact xB _ _)))))
    (((refine zV _ [] (.cons (zN rfl) .nil) ?_ rfl ?_)) <;> (repeat' (first|exact trivial|exact rfl)))
  · have := n5 rfl
    have hz : (w.length : Int) - 1 = ((w.length - 1 : Nat) : Int) := by omega
    refine PF.enter (xG _ _) Tryz.func150 rfl (by kernel_rfl) _ _ rfl rfl rfl (fun w0 mu I0 β0 gi dis => ?_)
    (repeat' (first|(apply xW;((exact Want.none_ rfl)))|(apply xF zI;exact rfl;exact rfl)|((first|(apply z6;exact rfl;exact rfl)|apply y3|(apply yM;exact rfl;exact rfl))<;>(first|exact zI|exact rfl|refine yG ?_|omega|exact ⟨rfl⟩|(refine Bd.mk ?_;(simp;omega))|(focus (apply oI;exact rfl;exact rfl;assumption))))|apply zR|apply AWp.Q|apply zH|apply AWp.G|apply AWp.B|apply AWp.R|apply zK|apply zL|(apply AWp.T;exact rfl;((exact rfl)))|(apply AWp.F;exact rfl;((exact rfl)))|(apply yA;(iterate 6 exact rfl);(iterate 2 (focus (repeat (first|exact VAs.nil|apply VAs.cons|apply VA.c|exact VCs.nil|exact VC.imm (Imm.v _)))));((exact hr));(focus (repeat ((exact Flat.v _))));((apply yJ));((exact xB _ _)))))
    (((refine zV _ [] (.cons (zN rfl) .nil) ?_ rfl ?_)) <;> (repeat' (first|exact trivial|exact rfl)))
  · have := n6 rfl
    have hz : (w.length : Int) - 1 = ((w.length - 1 : Nat) : Int) := by omega
    refine PF.enter (xG _ _) Tryz.func150 rfl (by kernel_rfl) _ _ rfl rfl rfl (fun w0 mu I0 β0 gi dis => ?_)
    (repeat' (first|(apply xW;((exact Want.none_ rfl)))|(apply xF zI;exact rfl;exact rfl)|((first|(apply z6;exact rfl;exact rfl)|apply y3|(apply yM;exact rfl;exact rfl))<;>(first|exact zI|exact rfl|refine yG ?_|omega|exact ⟨rfl⟩|(refine Bd.mk ?_;(simp;omega))|(focus (apply oI;exact rfl;exact rfl;assumption))))|apply zR|apply AWp.Q|apply zH|apply AWp.G|apply AWp.B|apply AWp.R|apply zK|apply zL|(apply AWp.T;exact rfl;((exact rfl)))|(apply AWp.F;exact rfl;((exact rfl)))|(apply yA;(iterate 6 exact rfl);(iterate 2 (focus (repeat (first|exact VAs.nil|apply VAs.cons|apply VA.c|exact VCs.nil|exact VC.imm (Imm.v _)))));((exact hr));(focus (repeat ((exact Flat.v _))));((apply yJ));((exact xB _ _)))))
    (((refine zV _ [] (.cons (zN rfl) .nil) ?_ rfl ?_)) <;> (repeat' (first|exact trivial|refine vwS ?_)))
    all_goals first | (rw [vV]; rfl) | skip
theorem wdOk_len {s : List UInt8} (h : kF s = true) : 1 ≤ s.length ∧ s.length ≤ 24 := by
  rw [kF, Bool.and_eq_true, inZ, decide_eq_true_eq] at h
  omega
def jnT (w x : List UInt8) : List UInt8 := if jE w x then joinW w x else []
theorem joinS_pf (w x : List UInt8) (hw : w.length ≤ 1000000) (hx : x.length ≤ 1000000) : PF Tryz.prog 112 [.c (str w), .c (str x)] [] (.tup [.c (str (jnT w x)), .c (boo (jE w x))]) := by
  have h1 := l9Word_pf w (by omega)
  have h2 := l9Word_pf x (by omega)
  rw [jnT, jE]
  cases a1 : kF w with
  | false =>
    rw [a1] at h1
    refine PF.enter (xG _ _) Tryz.func112 rfl (by kernel_rfl) _ _ rfl rfl rfl (fun w0 mu I0 β0 gi dis => ?_)
    (repeat' (first|(apply xW;((exact Want.none_ rfl)))|(apply xF zI;exact rfl;exact rfl)|(apply yR;exact rfl;exact rfl;((exact rfl));exact rfl;exact rfl)|(apply yS;(iterate 5 exact rfl);((exact rfl)))|apply zR|apply AWp.Q|apply zH|apply AWp.G|apply AWp.R|apply zK|(apply AWp.T;exact rfl;((exact rfl)))|(apply yA;(iterate 6 exact rfl);(iterate 2 (focus (repeat (first|exact VAs.nil|apply VAs.cons|apply VA.c|exact VCs.nil|exact VC.imm (Imm.v _)))));((exact h1));(focus (repeat ((exact Flat.v _))));((apply yJ));((exact xB _ _)))))
    (((refine zV _ [] (.cons (zN rfl) (.cons (zN rfl) .nil)) ?_ rfl ?_)) <;> (repeat' (first|exact trivial|exact rfl|apply And.intro)))
  | true =>
    rw [a1] at h1
    cases a2 : kF x with
    | false =>
      rw [a2] at h2
      refine PF.enter (xG _ _) Tryz.func112 rfl (by kernel_rfl) _ _ rfl rfl rfl (fun w0 mu I0 β0 gi dis => ?_)
      (repeat' (first|(apply xW;(first|exact Want.none_ rfl|(refine zX rfl rfl rfl rfl ?_;((exact rfl)))))|(apply xF zI;exact rfl;exact rfl)|(apply yR;exact rfl;exact rfl;((exact rfl));exact rfl;exact rfl)|apply zR|apply AWp.Q|apply zH|apply AWp.G|apply AWp.R|apply zK|(apply AWp.T;exact rfl;((exact rfl)))|(apply yA;(iterate 6 exact rfl);(iterate 2 (focus (repeat (first|exact VAs.nil|apply VAs.cons|apply VA.c|exact VCs.nil|exact VC.imm (Imm.v _)))));(first|exact h1|exact h2);(focus (repeat ((exact Flat.v _))));((apply yJ));((exact xB _ _)))))
      (((refine zV _ [] (.cons (zN rfl) (.cons (zN rfl) .nil)) ?_ rfl ?_)) <;> (repeat' (first|exact trivial|exact rfl|apply And.intro)))
    | true =>
      rw [a2] at h2
      have l1 := wdOk_len a1
      have l2 := wdOk_len a2
      have h3 := l9Join_pf w x (by omega) (by omega) (by omega)
      by_cases hl : (joinW w x).length ≤ 24
      · have hl' : ¬ (24 : Int) < ((joinW w x).length : Int) := by omega
        rw [decide_eq_true hl]
        generalize joinW w x = j at *
        refine PF.enter (xG _ _) Tryz.func112 rfl (by kernel_rfl) _ _ rfl rfl rfl (fun w0 mu I0 β0 gi dis => ?_)
        (repeat' (first|(apply xW;(first|exact Want.none_ rfl|(refine zX rfl rfl rfl rfl ?_;((exact rfl)))))|(apply xF zI;exact rfl;exact rfl)|(apply yR;exact rfl;exact rfl;((exact rfl));exact rfl;exact rfl)|apply zR|apply AWp.Q|apply zH|apply AWp.G|apply AWp.J|apply AWp.R|(apply AWp.F;exact rfl;(first|exact dF ‹_›|exact rfl))|(apply yA;(iterate 6 exact rfl);(iterate 2 (focus (repeat (first|exact VAs.nil|apply VAs.cons|apply VA.c|exact VCs.nil|exact VC.imm (Imm.v _)))));(first|exact h1|exact h2|exact h3);(focus (repeat ((exact Flat.v _))));((apply yJ));((exact xB _ _)))))
        (((refine zV _ [] (.cons (zN rfl) (.cons (zN rfl) .nil)) ?_ rfl ?_)) <;> (repeat' (first|exact trivial|exact rfl|apply And.intro)))
      · have hl' : (24 : Int) < ((joinW w x).length : Int) := by omega
        rw [decide_eq_false hl]
        generalize joinW w x = j at *
        refine PF.enter (xG _ _) Tryz.func112 rfl (by kernel_rfl) _ _ rfl rfl rfl (fun w0 mu I0 β0 gi dis => ?_)
        (repeat' (first|(apply xW;(first|exact Want.none_ rfl|(refine zX rfl rfl rfl rfl ?_;((exact rfl)))))|(apply xF zI;exact rfl;exact rfl)|(apply yR;exact rfl;exact rfl;((exact rfl));exact rfl;exact rfl)|apply zR|apply AWp.Q|apply zH|apply AWp.G|apply AWp.J|apply AWp.R|apply zK|(apply AWp.T;exact rfl;((exact dT ‹_›)))|(apply AWp.F;exact rfl;((exact rfl)))|(apply yA;(iterate 6 exact rfl);(iterate 2 (focus (repeat (first|exact VAs.nil|apply VAs.cons|apply VA.c|exact VCs.nil|exact VC.imm (Imm.v _)))));(first|exact h1|exact h2|exact h3);(focus (repeat ((exact Flat.v _))));((apply yJ));((exact xB _ _)))))
        (((refine zV _ [] (.cons (zN rfl) (.cons (zN rfl) .nil)) ?_ rfl ?_)) <;> (repeat' (first|exact trivial|exact rfl|apply And.intro)))
end Go.Proofs.YtjeffognhcbiaaaGreatDoor
