/- Translations read by the program: isWordText, IsValidAtom, FormatAtom, ParseAtom. No conditions but bounds of lengths. -/
import Derived.Test.YtjeffognhcbiaaaGreatDoorTrB
import Derived.Test.YtjeffognhcbiaaaGreatDoorSTrim
namespace Go.Proofs.YtjeffognhcbiaaaGreatDoor
open Go Go.RowKit
theorem sIndexB_pf (l : List UInt8) (c : UInt8) : PF Tryz.prog 184 [.c (str l), .c (.v (.int .u8 c.toNat))] [] (.c (int (wA l c))) := by
  refine PF.enter (xG _ _) Tryz.func184 rfl (by kernel_rfl) _ _ rfl rfl rfl (fun w0 mu I0 β0 gi dis => ?_)
  (repeat' (first|(apply xW;((exact Want.none_ rfl)))|(apply xF zI;exact rfl;exact rfl)|apply zR|apply AWp.Q|apply zH|apply AWp.G|apply AWp.R|(apply yA;(iterate 6 exact rfl);(iterate 2 (focus (repeat (first|exact VAs.nil|apply VAs.cons|apply VA.c|exact VCs.nil|exact VC.imm (Imm.v _)))));((exact slIndexByte_pf l c));(focus (repeat ((exact Flat.v _))));((apply yJ));((exact xB _ _)))))
  (((refine zV _ [] (.cons (zN rfl) .nil) ?_ rfl ?_)) <;> (repeat' (first|exact trivial|exact rfl)))
def csW : List UInt8 := [123, 125, 94, 38, 35, 62]
theorem okC_fin : ∀ n : Fin 256, okC (UInt8.ofNat n.val) = (!decide (n.val < 33) && !decide (126 < n.val) && !decide (0 ≤ wA csW (UInt8.ofNat n.val))) := by decide +kernel
theorem okC_idx (b : UInt8) : okC b = (!decide (b.toNat < 33) && !decide (126 < b.toNat) && !decide (0 ≤ wA csW b)) := by
  have h := okC_fin ⟨b.toNat, b.toNat_lt⟩
  simpa using h
theorem isWordText_pf (s : List UInt8) (hs : s.length ≤ 4000000) : PF Tryz.prog 157 [.c (str s)] [] (.c (boo (vC s))) := by
  have hin := jA s.length 1 20
  refine PF.enter (xJ _) Tryz.func157 rfl (by kernel_rfl) _ _ rfl rfl rfl (fun w0 mu I0 β0 gi dis => ?_)
  (repeat' (first|(apply xW;((exact Want.none_ rfl)))|(apply xF zI;exact rfl;exact rfl)|apply zR|apply AWp.Q|apply zH|apply AWp.G|apply AWp.B))
  refine AWp.U (σ := Nat) (fun k => ⟨[(0, .c (str s)), (5, .c (int s.length)), (6, .c (int k))], [], 0⟩) (fun k => k ≤ s.length ∧ (s.take k).all okC = true) (fun k => s.length - k) 0 ⟨Nat.zero_le _, rfl⟩ ?_ ?_
  · refine Weak.of [] rfl ?_ ?_ <;> (repeat' (first|exact trivial|exact rfl|apply And.intro))
  · rintro k ⟨hk, hall⟩
    by_cases hlt : k < s.length
    · obtain ⟨b, hb⟩ := xT hlt
      have hlt' : (k : Int) < (s.length : Int) := by omega
      have hix := sIndexB_pf csW b
      have hoc := okC_idx b
      cases ho : okC b with
      | true =>
        rw [ho] at hoc
        simp only [Bool.true_eq, Bool.and_eq_true, Bool.not_eq_true', decide_eq_false_iff_not] at hoc
        obtain ⟨⟨g1, g2⟩, g3⟩ := hoc
        have g1' : ¬ (b.toNat : Int) < 33 := by omega
        have g2' : ¬ (126 : Int) < (b.toNat : Int) := by omega
        have hall' : (s.take (k + 1)).all okC = true := by rw [x5 hb, hall, ho]; rfl
        (repeat' (first|(apply xW;(first|exact Want.none_ rfl|(refine zX rfl rfl rfl rfl ?_;((exact dF ‹_›)))))|(apply xF zI;exact rfl;exact rfl)|((first|apply zZ|apply xD)<;>(first|exact zI|exact rfl|refine yG ?_|assumption|omega))|(apply yR;exact rfl;exact rfl;((exact dF ‹_›));exact rfl;exact rfl)|apply zR|apply AWp.Q|apply zH|apply AWp.G|apply AWp.B|apply AWp.J|apply zJ|(apply AWp.T;exact rfl;((exact dT ‹_›)))|(apply AWp.F;exact rfl;((exact dF ‹_›)))|(apply yA;(iterate 6 exact rfl);(iterate 2 (focus (repeat (first|exact VAs.nil|apply VAs.cons|apply VA.c|exact VCs.nil|exact VC.imm (Imm.v _)))));((exact hix));(focus (repeat ((exact Flat.v _))));((apply yJ));((exact xB _ _)))))
        refine ⟨k + 1, ⟨by omega, hall'⟩, by omega, ?_⟩
        refine Weak.of [] rfl ?_ ?_ <;> (repeat' (first|exact trivial|exact rfl|apply And.intro))
      | false =>
        have e : vC s = false := by rw [vC, vK hb ho, Bool.false_and]
        rw [e]
        rw [ho] at hoc
        by_cases g1 : (b.toNat : Int) < 33
        · (repeat' (first|(apply xW;((exact Want.none_ rfl)))|(apply xF zI;exact rfl;exact rfl)|(((apply xD))<;>(first|exact zI|exact rfl|refine yG ?_|assumption))|(apply yR;exact rfl;exact rfl;(first|exact dT ‹_›|exact rfl);exact rfl;exact rfl)|(apply yS;(iterate 5 exact rfl);(first|exact dT ‹_›|exact rfl))|apply zR|apply AWp.Q|apply zH|apply AWp.G|apply AWp.B|apply AWp.J|apply AWp.R|apply zK|apply zL|(apply AWp.T;exact rfl;(first|exact dT ‹_›|exact rfl))))
          (((refine zV _ [] (.cons (zN rfl) .nil) ?_ rfl ?_)) <;> (repeat' (first|exact trivial|exact rfl)))
        · by_cases g2 : (126 : Int) < (b.toNat : Int)
          · (repeat' (first|(apply xW;(first|exact Want.none_ rfl|(refine zX rfl rfl rfl rfl ?_;((exact dF ‹_›)))))|(apply xF zI;exact rfl;exact rfl)|(((apply xD))<;>(first|exact zI|exact rfl|refine yG ?_|assumption))|(apply yR;exact rfl;exact rfl;(first|exact dT ‹_›|exact dF ‹_›);exact rfl;exact rfl)|(apply yS;(iterate 5 exact rfl);((exact dT ‹_›)))|apply zR|apply AWp.Q|apply zH|apply AWp.G|apply AWp.B|apply AWp.J|apply AWp.R|apply zK|apply zL|(apply AWp.T;exact rfl;(first|exact dT ‹_›|exact rfl))))
            (((refine zV _ [] (.cons (zN rfl) .nil) ?_ rfl ?_)) <;> (repeat' (first|exact trivial|exact rfl)))
          · have g3 : 0 ≤ wA csW b := by
              rw [decide_eq_false (by omega), decide_eq_false (by omega)] at hoc
              simpa using hoc
            (repeat' (first|(apply xW;(first|exact Want.none_ rfl|(refine zX rfl rfl rfl rfl ?_;((exact dF ‹_›)))))|(apply xF zI;exact rfl;exact rfl)|(((apply xD))<;>(first|exact zI|exact rfl|refine yG ?_|assumption))|(apply yR;exact rfl;exact rfl;((exact dF ‹_›));exact rfl;exact rfl)|apply zR|apply AWp.Q|apply zH|apply AWp.G|apply AWp.B|apply AWp.J|apply AWp.R|apply zK|apply zL|(apply AWp.T;exact rfl;((exact dT ‹_›)))|(apply yA;(iterate 6 exact rfl);(iterate 2 (focus (repeat (first|exact VAs.nil|apply VAs.cons|apply VA.c|exact VCs.nil|exact VC.imm (Imm.v _)))));((exact hix));(focus (repeat ((exact Flat.v _))));((apply yJ));((exact xB _ _)))))
            (((refine zV _ [] (.cons (zN rfl) .nil) ?_ rfl ?_)) <;> (repeat' (first|exact trivial|exact rfl)))
    · have hlt' : ¬ (k : Int) < (s.length : Int) := by omega
      obtain rfl : k = s.length := by omega
      rw [List.take_of_length_le (Nat.le_refl _)] at hall
      (repeat' (first|(apply xW;((exact Want.none_ rfl)))|(apply xF zI;exact rfl;exact rfl)|apply zR|apply AWp.Q|apply zH|apply AWp.G|apply AWp.X|apply AWp.R|apply zQ|apply zO|(apply AWp.F;exact rfl;((exact dF ‹_›)))|(apply yA;(iterate 6 exact rfl);(iterate 2 (focus (repeat (first|exact VAs.nil|apply VAs.cons|apply VA.c|exact VCs.nil|exact VC.imm (Imm.v _)))));((exact hin));(focus (repeat ((exact Flat.v _))));((apply yJ));((exact xB _ _)))))
      (((refine zV _ [] (.cons (zN rfl) .nil) ?_ rfl ?_)) <;> (repeat' (first|exact trivial|refine vwB ?_)))
      rw [vC, hall, Bool.true_and]
theorem goodA_six (t : List UInt8) : x6 ⟨6, t⟩ = (decide (t = [46]) || decide (t = [33]) || decide (t = [63])) := rfl
theorem goodA_seven (t : List UInt8) : x6 ⟨7, t⟩ = (decide (t = [44]) || decide (t = [59]) || decide (t = [58])) := rfl
theorem beqD (a b : UInt8) : (a == b) = decide ([b] = [a]) := by
  by_cases h : b = a
  · subst h; simp
  · simp [h, Ne.symm h]
theorem any_six (b : UInt8) : [(46 : UInt8), 33, 63].any (· == b) = (decide ([b] = [46]) || decide ([b] = [33]) || decide ([b] = [63])) := by
  simp only [List.any_cons, List.any_nil, Bool.or_false, beqD, Bool.or_assoc]
theorem any_seven (b : UInt8) : [(44 : UInt8), 59, 58].any (· == b) = (decide ([b] = [44]) || decide ([b] = [59]) || decide ([b] = [58])) := by
  simp only [List.any_cons, List.any_nil, Bool.or_false, beqD, Bool.or_assoc]
theorem isAtom_pf (a : Atm) (ha : a.t.length ≤ 1000000) : PF Tryz.prog 125 [.agg (xL a)] [] (.c (boo (x6 a))) := by
  obtain ⟨k, t⟩ := a
  have hw := isWordText_pf t (by dsimp only at ha; omega)
  have hin := jA k 8 10
  have hlt : (t.length : Int) = 1 ↔ ∃ b, t = [b] := by
    constructor
    · intro h
      have h1 : t.length = 1 := by omega
      exact List.length_eq_one_iff.1 h1
    · rintro ⟨b, rfl⟩; rfl
  by_cases h6 : k = 6
  · subst h6
    rw [goodA_six]
    by_cases h1 : ∃ b, t = [b]
    · obtain ⟨b, rfl⟩ := h1
      have hc := sContains1_pf [46, 33, 63] b
      rw [any_six] at hc
      refine PF.enter (xJ _) Tryz.func125 rfl (by kernel_rfl) _ _ rfl rfl rfl (fun w0 mu I0 β0 gi dis => ?_)
      (repeat' (first|(apply xW;(first|exact Want.none_ rfl|(refine zX rfl rfl rfl rfl ?_;((exact rfl)))))|(apply xF zI;exact rfl;exact rfl)|(apply yR;exact rfl;exact rfl;((exact rfl));exact rfl;exact rfl)|apply zR|apply AWp.Q|apply zH|apply AWp.G|apply AWp.B|apply AWp.R|apply zK|apply zL|(apply AWp.T;exact rfl;((exact rfl)))|(apply AWp.F;exact rfl;((exact rfl)))|(apply yA;(iterate 6 exact rfl);(iterate 2 (focus (repeat (first|exact VAs.nil|apply VAs.cons|apply VA.c|exact VCs.nil|exact VC.imm (Imm.v _)))));((exact hc));(focus (repeat ((exact Flat.v _))));((apply yJ));((exact xB _ _)))))
      (((refine zV _ [] (.cons (zN rfl) .nil) ?_ rfl ?_)) <;> (repeat' (first|exact trivial|exact rfl)))
    · have h1' : ¬ (t.length : Int) = 1 := fun h => h1 (hlt.1 h)
      have e : (decide (t = [46]) || decide (t = [33]) || decide (t = [63])) = false := by
        have : ∀ b : UInt8, decide (t = [b]) = false := fun b => decide_eq_false fun h => h1 ⟨b, h⟩
        rw [this, this, this]; rfl
      rw [e]
      refine PF.enter (xJ _) Tryz.func125 rfl (by kernel_rfl) _ _ rfl rfl rfl (fun w0 mu I0 β0 gi dis => ?_)
      (repeat' (first|(apply xW;((exact Want.none_ rfl)))|(apply xF zI;exact rfl;exact rfl)|(apply yR;exact rfl;exact rfl;((exact dF ‹_›));exact rfl;exact rfl)|(apply yS;(iterate 5 exact rfl);((exact dF ‹_›)))|apply zR|apply AWp.Q|apply zH|apply AWp.G|apply AWp.B|apply AWp.R|apply zK|apply zL|(apply AWp.T;exact rfl;((exact rfl)))|(apply AWp.F;exact rfl;((exact rfl)))))
      (((refine zV _ [] (.cons (zN rfl) .nil) ?_ rfl ?_)) <;> (repeat' (first|exact trivial|exact rfl)))
  by_cases h7 : k = 7
  · subst h7
    rw [goodA_seven]
    by_cases h1 : ∃ b, t = [b]
    · obtain ⟨b, rfl⟩ := h1
      have hc := sContains1_pf [44, 59, 58] b
      rw [any_seven] at hc
      refine PF.enter (xJ _) Tryz.func125 rfl (by kernel_rfl) _ _ rfl rfl rfl (fun w0 mu I0 β0 gi dis => ?_)
      (repeat' (first|(apply xW;(first|exact Want.none_ rfl|(refine zX rfl rfl rfl rfl ?_;((exact rfl)))))|(apply xF zI;exact rfl;exact rfl)|(apply yR;exact rfl;exact rfl;((exact rfl));exact rfl;exact rfl)|apply zR|apply AWp.Q|apply zH|apply AWp.G|apply AWp.B|apply AWp.R|apply zK|apply zL|(apply AWp.T;exact rfl;((exact rfl)))|(apply AWp.F;exact rfl;(first|exact dF ‹_›|exact rfl))|(apply yA;(iterate 6 exact rfl);(iterate 2 (focus (repeat (first|exact VAs.nil|apply VAs.cons|apply VA.c|exact VCs.nil|exact VC.imm (Imm.v _)))));((exact hc));(focus (repeat ((exact Flat.v _))));((apply yJ));((exact xB _ _)))))
      (((refine zV _ [] (.cons (zN rfl) .nil) ?_ rfl ?_)) <;> (repeat' (first|exact trivial|exact rfl)))
    · have h1' : ¬ (t.length : Int) = 1 := fun h => h1 (hlt.1 h)
      have e : (decide (t = [44]) || decide (t = [59]) || decide (t = [58])) = false := by
        have : ∀ b : UInt8, decide (t = [b]) = false := fun b => decide_eq_false fun h => h1 ⟨b, h⟩
        rw [this, this, this]; rfl
      rw [e]
      refine PF.enter (xJ _) Tryz.func125 rfl (by kernel_rfl) _ _ rfl rfl rfl (fun w0 mu I0 β0 gi dis => ?_)
      (repeat' (first|(apply xW;((exact Want.none_ rfl)))|(apply xF zI;exact rfl;exact rfl)|(apply yR;exact rfl;exact rfl;((exact dF ‹_›));exact rfl;exact rfl)|(apply yS;(iterate 5 exact rfl);((exact dF ‹_›)))|apply zR|apply AWp.Q|apply zH|apply AWp.G|apply AWp.B|apply AWp.R|apply zK|apply zL|(apply AWp.T;exact rfl;((exact rfl)))|(apply AWp.F;exact rfl;(first|exact dF ‹_›|exact rfl))))
      (((refine zV _ [] (.cons (zN rfl) .nil) ?_ rfl ?_)) <;> (repeat' (first|exact trivial|exact rfl)))
  · refine PF.enter (xJ _) Tryz.func125 rfl (by kernel_rfl) _ _ rfl rfl rfl (fun w0 mu I0 β0 gi dis => ?_)
    cases hq : inZ k 8 10 with
    | false =>
      rw [hq] at hin
      rw [inZ, decide_eq_false_iff_not] at hq
      (repeat' (first|(apply xW;((exact Want.none_ rfl)))|(apply xF zI;exact rfl;exact rfl)|(apply yR;exact rfl;exact rfl;((exact rfl));exact rfl;exact rfl)|(apply yS;(iterate 5 exact rfl);((exact rfl)))|apply zR|apply AWp.Q|apply zH|apply AWp.G|apply AWp.B|apply AWp.J|apply AWp.R|apply zK|apply zJ|apply zL|(apply AWp.T;exact rfl;((exact dT ‹_›)))|(apply AWp.F;exact rfl;((exact dF ‹_›)))|(apply yA;(iterate 6 exact rfl);(iterate 2 (focus (repeat (first|exact VAs.nil|apply VAs.cons|apply VA.c|exact VCs.nil|exact VC.imm (Imm.v _)))));(first|exact hw|exact hin);(focus (repeat ((exact Flat.v _))));((apply yJ));((exact xB _ _)))|(((refine AWp.C rfl ?_ ?_))<;>intro hp<;>try (exfalso;omega))))
      all_goals
        (((refine zV _ [] (.cons (zN rfl) .nil) ?_ rfl ?_)) <;> (repeat' (first|exact trivial|refine vwB ?_)))
      all_goals
        unfold x6
        dsimp only
        repeat (first | rw [if_pos (by assumption)] | rw [if_neg (by assumption)] | rw [if_neg (by omega)])
    | true =>
      rw [hq] at hin
      rw [inZ, decide_eq_true_eq] at hq
      have n1 : ¬ k = 1 := by omega
      have n2 : ¬ k = 2 := by omega
      have n3 : ¬ k = 3 := by omega
      have n4 : ¬ k = 4 := by omega
      have n5 : ¬ k = 5 := by omega
      (repeat' (first|(apply xW;(first|exact Want.none_ rfl|(refine zX rfl rfl rfl rfl ?_;((exact rfl)))))|(apply xF zI;exact rfl;exact rfl)|(apply yR;exact rfl;exact rfl;((exact rfl));exact rfl;exact rfl)|apply zR|apply AWp.Q|apply zH|apply AWp.G|apply AWp.B|apply AWp.J|apply AWp.R|apply zJ|(apply AWp.F;exact rfl;((exact dF ‹_›)))|(apply yA;(iterate 6 exact rfl);(iterate 2 (focus (repeat (first|exact VAs.nil|apply VAs.cons|apply VA.c|exact VCs.nil|exact VC.imm (Imm.v _)))));((exact hin));(focus (repeat ((exact Flat.v _))));((apply yJ));((exact xB _ _)))))
      (((refine zV _ [] (.cons (zN rfl) .nil) ?_ rfl ?_)) <;> (repeat' (first|exact trivial|refine vwB ?_)))
      have h8 : k = 8 ∨ k = 9 ∨ k = 10 := by omega
      rcases h8 with rfl | rfl | rfl <;> simp [x6]
theorem noteA_pf (a : Atm) (ha : a.t.length ≤ 1000000) : PF Tryz.prog 126 [.agg (xL a)] [] (.c (str (vB a))) := by
  refine PF.enter (xJ _) Tryz.func126 rfl (by kernel_rfl) _ _ rfl rfl rfl (fun w0 mu I0 β0 gi dis => ?_)
  (repeat' (first|(apply xW;((exact Want.none_ rfl)))|(apply xF zI;exact rfl;exact rfl)|(((apply z6;exact rfl;exact rfl))<;>(first|exact rfl|refine yG ?_|((try refine Bd.mk ?_);(simp;omega))))|apply zR|apply AWp.Q|apply zH|apply AWp.G|apply AWp.B|apply AWp.J|apply AWp.R|apply zK|apply zJ|apply zL|(((refine AWp.C rfl ?_ ?_))<;>intro hp<;>try (exfalso;omega))))
  all_goals
    (((refine zV _ [] (.cons (zN rfl) .nil) ?_ rfl ?_)) <;> (repeat' (first|exact trivial|refine vwS ?_)))
  all_goals first | (simp [vB, *]; done) | skip
theorem formatA_pf (a : Atm) (ha : a.t.length ≤ 1000000) : PF Tryz.prog 81 [.agg (xL a)] [] (.tup [.c (str (if x6 a then vB a else [])), .c (boo (x6 a))]) := by
  have h1 := isAtom_pf a ha
  have h2 := noteA_pf a ha
  cases hg : x6 a with
  | false =>
    rw [hg] at h1
    rw [if_neg (by simp)]
    refine PF.enter (xJ _) Tryz.func81 rfl (by kernel_rfl) _ _ rfl rfl rfl (fun w0 mu I0 β0 gi dis => ?_)
    (repeat' (first|(apply xW;((exact Want.none_ rfl)))|(apply xF zI;exact rfl;exact rfl)|apply zR|apply AWp.Q|apply zH|apply AWp.G|apply AWp.R|apply zK|(apply AWp.T;exact rfl;((exact rfl)))|(apply yA;(iterate 6 exact rfl);(iterate 2 (focus (repeat (first|exact VAs.nil|apply VAs.cons|apply VA.agg|exact VCs.nil|apply VCs.cons|exact VC.imm (Imm.v _)))));((exact h1));(focus (repeat ((exact Flat.v _))));((apply yJ));((exact xB _ _)))))
    (((refine zV _ [] (.cons (zN rfl) (.cons (zN rfl) .nil)) ?_ rfl ?_)) <;> (repeat' (first|exact trivial|exact rfl|apply And.intro)))
  | true =>
    rw [hg] at h1
    rw [if_pos rfl]
    refine PF.enter (xJ _) Tryz.func81 rfl (by kernel_rfl) _ _ rfl rfl rfl (fun w0 mu I0 β0 gi dis => ?_)
    (repeat' (first|(apply xW;((exact Want.none_ rfl)))|(apply xF zI;exact rfl;exact rfl)|apply zR|apply AWp.Q|apply zH|apply AWp.G|apply AWp.J|apply AWp.R|(apply AWp.F;exact rfl;((exact rfl)))|(apply yA;(iterate 6 exact rfl);(iterate 2 (focus (repeat (first|exact VAs.nil|apply VAs.cons|apply VA.agg|exact VCs.nil|apply VCs.cons|exact VC.imm (Imm.v _)))));(first|exact h1|exact h2);(focus (repeat ((exact Flat.v _))));((apply yJ));((exact xB _ _)))))
    (((refine zV _ [] (.cons (zN rfl) (.cons (zN rfl) .nil)) ?_ rfl ?_)) <;> (repeat' (first|exact trivial|exact rfl|apply And.intro)))
def kJ (s : List UInt8) : List UInt8 := Lib.trimS s csA
theorem txtA_len (s : List UInt8) : (kJ s).length ≤ s.length := by
  have h : ∀ (p : UInt8 → Bool) (l : List UInt8), (l.dropWhile p).length ≤ l.length := fun p l => (List.dropWhile_suffix p).length_le
  unfold kJ Lib.trimS Lib.trimLeftS Lib.trimRightS
  refine Nat.le_trans (h _ _) ?_
  rw [List.length_reverse]
  refine Nat.le_trans (h _ _) ?_
  rw [List.length_reverse]; exact Nat.le_refl _
theorem hit_res {s : List UInt8} {a : Atm} (h : hit s a = true) : okA s = true ∧ resA s = a := by
  have := hit_kind h
  exact ⟨this.2, by rw [resA, if_pos this.2]; exact this.1⟩
theorem implAtom_pf (s : List UInt8) (hs : s.length ≤ 1000000) : PF Tryz.prog 51 [.c (str s)] [] (.tup [.agg (xL (resA s)), .c (boo (okA s))]) := by
  have htr := trim_pf s csA (by omega) (by decide) (by decide)
  have htl := txtA_len s
  by_cases hbig : 24 < s.length
  · have hb' : (24 : Int) < (s.length : Int) := by omega
    have e : okA s = false := by
      cases h : okA s with
      | false => rfl
      | true => have := okA_len h; omega
    rw [resA, e, if_neg (by simp)]
    refine PF.enter (xJ _) Tryz.func51 rfl (by kernel_rfl) _ _ rfl rfl rfl (fun w0 mu I0 β0 gi dis => ?_)
    (repeat' (first|(apply xW;((exact Want.none_ rfl)))|(apply xF zI;exact rfl;exact rfl)|((first|apply y4|apply yB|apply yH)<;>(first|exact zI|exact rfl|refine yG ?_|exact lb rfl|((try refine Bd.mk ?_);(focus (simp;done)))))|apply zR|apply AWp.Q|apply zH|apply AWp.G|apply AWp.R|apply zK|(apply AWp.T;exact rfl;((exact dT ‹_›)))|(apply yA;(iterate 6 exact rfl);(iterate 2 (focus (repeat (first|exact VAs.nil|apply VAs.cons|apply VA.c|exact VCs.nil|exact VC.imm (Imm.v _)))));((exact htr));(focus (repeat ((exact Flat.v _))));((apply yJ));((exact xB _ _)))))
    (((refine zV _ [] (.cons (y5 rfl rfl rfl zI rfl rfl rfl) (.cons (zN rfl) .nil)) ?_ rfl ?_)) <;> (repeat' (first|exact trivial|exact rfl|apply And.intro)))
  · have hb' : ¬ (24 : Int) < (s.length : Int) := by omega
    refine PF.enter (xJ _) Tryz.func51 rfl (by kernel_rfl) _ _ rfl rfl rfl (fun w0 mu I0 β0 gi dis => ?_)
    (repeat' (first|(apply xW;((exact Want.none_ rfl)))|(apply xF zI;exact rfl;exact rfl)|(((apply yB))<;>(first|exact zI|exact rfl|refine yG ?_))|apply zR|apply AWp.Q|apply zH|apply AWp.G|apply AWp.B|apply AWp.J|(apply AWp.F;exact rfl;((exact dF ‹_›)))|(apply yA;(iterate 6 exact rfl);(iterate 2 (focus (repeat (first|exact VAs.nil|apply VAs.cons|apply VA.c|exact VCs.nil|exact VC.imm (Imm.v _)))));((exact htr));(focus (repeat ((exact Flat.v _))));((apply yJ));((exact xB _ _)))))
    refine AWp.U (σ := Nat) (fun k => ⟨[(0, .c (str s)), (2, .c (.ptr 0 0 0)), (4, .c (str (kJ s))), (5, .c (int k))], [(0, some ⟨63, 2, [xL ⟨0, []⟩]⟩)], 1⟩) (fun k => 1 ≤ k ∧ k ≤ 11 ∧ noHit s k) (fun k => 11 - k) 1 ⟨by omega, by omega, fun j h1 h2 => by omega⟩ ?_ ?_
    · refine Weak.of [(0, some 0)] rfl ?_ ?_ <;> (repeat' (first|exact trivial|exact rfl|apply And.intro|refine ⟨_,rfl,rfl,rfl,OW.one ?_⟩))
    · rintro k ⟨hk1, hk2, hno⟩
      by_cases hlt : k < 11
      · have hlt' : (k : Int) ≤ 10 := by omega
        (repeat' (first|(apply xW;((exact Want.none_ rfl)))|(apply xF zI;exact rfl;exact rfl)|((first|apply y4|apply zU)<;>(first|exact zI|exact rfl|refine yG ?_|((try refine Bd.mk ?_);(focus (simp;done)))))|apply zR|apply AWp.Q|apply zH|apply AWp.G|apply AWp.B|apply AWp.J|(apply AWp.T;exact rfl;((exact dT ‹_›)))))
        refine AWp.U (σ := Nat) (fun j => ⟨[(0, .c (str s)), (2, .c (.ptr 0 0 0)), (4, .c (str (kJ s))), (5, .c (int k)), (25, .c (.ref 1 0 2)), (26, .c (int 2)), (27, .c (int j))], [(0, some ⟨63, 2, [xL ⟨0, []⟩]⟩), (1, some ⟨63, 2, [xL ⟨k, kJ s⟩, xL ⟨k, []⟩]⟩)], 2⟩) (fun j => j ≤ 2 ∧ (1 ≤ j → hit s ⟨k, kJ s⟩ = false) ∧ (2 ≤ j → hit s ⟨k, []⟩ = false)) (fun j => 2 - j) 0 ⟨by omega, fun h => by omega, fun h => by omega⟩ ?_ ?_
        · refine Weak.of [(0, some 0), (1, some 1)] rfl ?_ ?_ <;> (repeat' (first|exact trivial|exact rfl|apply And.intro|refine ⟨_,rfl,rfl,rfl,OW.one ?_⟩|refine oWs rfl rfl rfl ?_ ?_))
          all_goals exact (xZ [Atm.mk k (kJ s), Atm.mk k []]).imm
        · rintro j ⟨hj, hj1, hj2⟩
          have hj3 : j = 0 ∨ j = 1 ∨ j = 2 := by omega
          rcases hj3 with rfl | rfl | rfl
          · have hf := formatA_pf ⟨k, kJ s⟩ (by dsimp only; omega)
            cases hh : hit s ⟨k, kJ s⟩ with
            | true =>
              obtain ⟨e1, e2⟩ := hit_res hh
              rw [e1, e2]
              rw [hit, Bool.and_eq_true, decide_eq_true_eq] at hh
              obtain ⟨hg, he⟩ := hh
              rw [hg, if_pos rfl, he] at hf
              have hss : s = s := rfl
              (repeat' (first|(apply xW;(first|exact Want.none_ rfl|(refine zX rfl rfl rfl rfl ?_;((exact rfl)))))|(apply xF zI;exact rfl;exact rfl)|((first|apply yD|apply yB|apply yH)<;>(first|exact zI|exact Nat.zero_add _|exact rfl|refine yG ?_|omega|exact lb rfl))|(apply yR;exact rfl;exact rfl;((exact rfl));exact rfl;exact rfl)|apply zR|apply AWp.Q|apply zH|apply AWp.G|apply AWp.B|apply AWp.J|apply AWp.R|apply zK|apply zL|(apply AWp.T;exact rfl;(first|exact dT ‹_›|exact rfl))|(apply yA;(iterate 6 exact rfl);(iterate 2 (focus (repeat (first|exact VAs.nil|apply VAs.cons|apply VA.agg|exact VCs.nil|apply VCs.cons|exact VC.imm (Imm.v _)))));((exact hf));(focus (repeat (first|exact trivial|exact Flat.v _|apply And.intro)));((apply yJ));((exact xC _ _ _)))))
              (((refine zV _ [] (.cons (y5 rfl rfl rfl zI rfl rfl rfl) (.cons (zN rfl) .nil)) ?_ rfl ?_)) <;> (repeat' (first|exact trivial|exact rfl|apply And.intro)))
            | false =>
              have hh' := hh
              rw [hit] at hh'
              cases hg : x6 ⟨k, kJ s⟩ with
              | false =>
                rw [hg, if_neg (by simp)] at hf
                (repeat' (first|(apply xW;((exact Want.none_ rfl)))|(apply xF zI;exact rfl;exact rfl)|((first|apply zZ|apply yD|apply yB|apply yH)<;>(first|exact zI|exact Nat.zero_add _|exact rfl|refine yG ?_|omega|exact lb rfl))|(apply yR;exact rfl;exact rfl;((exact rfl));exact rfl;exact rfl)|(apply yS;(iterate 5 exact rfl);((exact rfl)))|apply zR|apply AWp.Q|apply zH|apply AWp.G|apply AWp.B|apply AWp.J|apply zJ|(apply AWp.T;exact rfl;((exact rfl)))|(apply AWp.F;exact rfl;((exact rfl)))|(apply yA;(iterate 6 exact rfl);(iterate 2 (focus (repeat (first|exact VAs.nil|apply VAs.cons|apply VA.agg|exact VCs.nil|apply VCs.cons|exact VC.imm (Imm.v _)))));((exact hf));(focus (repeat (first|exact trivial|exact Flat.v _|apply And.intro)));((apply yJ));((exact xC _ _ _)))))
                refine ⟨1, ⟨by omega, fun _ => rfl, fun h => by omega⟩, by omega, ?_⟩
                refine Weak.of [(0, some 0), (1, some 1)] rfl ?_ ?_ <;> (repeat' (first|exact trivial|exact rfl|apply And.intro|refine ⟨_,rfl,rfl,rfl,OW.one ?_⟩|refine oWs rfl rfl rfl ?_ ?_))
                all_goals exact (xZ [Atm.mk k (kJ s), Atm.mk k []]).imm
              | true =>
                rw [hg, if_pos rfl] at hf
                rw [hg] at hh'
                have he : ¬ vB ⟨k, kJ s⟩ = s := by simpa using hh'
                (repeat' (first|(apply xW;(first|exact Want.none_ rfl|(refine zX rfl rfl rfl rfl ?_;((exact rfl)))))|(apply xF zI;exact rfl;exact rfl)|((first|apply zZ|apply yD|apply yB|apply yH)<;>(first|exact zI|exact Nat.zero_add _|exact rfl|refine yG ?_|omega|exact lb rfl))|(apply yR;exact rfl;exact rfl;((exact rfl));exact rfl;exact rfl)|apply zR|apply AWp.Q|apply zH|apply AWp.G|apply AWp.B|apply AWp.J|apply zJ|(apply AWp.T;exact rfl;((exact rfl)))|(apply AWp.F;exact rfl;((assumption)))|(apply yA;(iterate 6 exact rfl);(iterate 2 (focus (repeat (first|exact VAs.nil|apply VAs.cons|apply VA.agg|exact VCs.nil|apply VCs.cons|exact VC.imm (Imm.v _)))));((exact hf));(focus (repeat (first|exact trivial|exact Flat.v _|apply And.intro)));((apply yJ));((exact xC _ _ _)))))
                refine ⟨1, ⟨by omega, fun _ => rfl, fun h => by omega⟩, by omega, ?_⟩
                refine Weak.of [(0, some 0), (1, some 1)] rfl ?_ ?_ <;> (repeat' (first|exact trivial|exact rfl|apply And.intro|refine ⟨_,rfl,rfl,rfl,OW.one ?_⟩|refine oWs rfl rfl rfl ?_ ?_))
                all_goals exact (xZ [Atm.mk k (kJ s), Atm.mk k []]).imm
          · have hf := formatA_pf ⟨k, []⟩ (by simp)
            cases hh : hit s ⟨k, []⟩ with
            | true =>
              obtain ⟨e1, e2⟩ := hit_res hh
              rw [e1, e2]
              rw [hit, Bool.and_eq_true, decide_eq_true_eq] at hh
              obtain ⟨hg, he⟩ := hh
              rw [hg, if_pos rfl, he] at hf
              have hss : s = s := rfl
              (repeat' (first|(apply xW;(first|exact Want.none_ rfl|(refine zX rfl rfl rfl rfl ?_;((exact rfl)))))|(apply xF zI;exact rfl;exact rfl)|((first|apply yD|apply yB|apply yH)<;>(first|exact zI|exact Nat.zero_add _|exact rfl|refine yG ?_|omega|exact lb rfl))|(apply yR;exact rfl;exact rfl;((exact rfl));exact rfl;exact rfl)|apply zR|apply AWp.Q|apply zH|apply AWp.G|apply AWp.B|apply AWp.J|apply AWp.R|apply zK|apply zL|(apply AWp.T;exact rfl;(first|exact dT ‹_›|exact rfl))|(apply yA;(iterate 6 exact rfl);(iterate 2 (focus (repeat (first|exact VAs.nil|apply VAs.cons|apply VA.agg|exact VCs.nil|apply VCs.cons|exact VC.imm (Imm.v _)))));((exact hf));(focus (repeat (first|exact trivial|exact Flat.v _|apply And.intro)));((apply yJ));((exact xC _ _ _)))))
              (((refine zV _ [] (.cons (y5 rfl rfl rfl zI rfl rfl rfl) (.cons (zN rfl) .nil)) ?_ rfl ?_)) <;> (repeat' (first|exact trivial|exact rfl|apply And.intro)))
            | false =>
              have hh' := hh
              rw [hit] at hh'
              cases hg : x6 ⟨k, []⟩ with
              | false =>
                rw [hg, if_neg (by simp)] at hf
                (repeat' (first|(apply xW;((exact Want.none_ rfl)))|(apply xF zI;exact rfl;exact rfl)|((first|apply zZ|apply yD|apply yB|apply yH)<;>(first|exact zI|exact Nat.zero_add _|exact rfl|refine yG ?_|omega|exact lb rfl))|(apply yR;exact rfl;exact rfl;((exact rfl));exact rfl;exact rfl)|(apply yS;(iterate 5 exact rfl);((exact rfl)))|apply zR|apply AWp.Q|apply zH|apply AWp.G|apply AWp.B|apply AWp.J|apply zJ|(apply AWp.T;exact rfl;((exact rfl)))|(apply AWp.F;exact rfl;((exact rfl)))|(apply yA;(iterate 6 exact rfl);(iterate 2 (focus (repeat (first|exact VAs.nil|apply VAs.cons|apply VA.agg|exact VCs.nil|apply VCs.cons|exact VC.imm (Imm.v _)))));((exact hf));(focus (repeat (first|exact trivial|exact Flat.v _|apply And.intro)));((apply yJ));((exact xC _ _ _)))))
                refine ⟨2, ⟨by omega, fun _ => hj1 (by omega), fun _ => rfl⟩, by omega, ?_⟩
                refine Weak.of [(0, some 0), (1, some 1)] rfl ?_ ?_ <;> (repeat' (first|exact trivial|exact rfl|apply And.intro|refine ⟨_,rfl,rfl,rfl,OW.one ?_⟩|refine oWs rfl rfl rfl ?_ ?_))
                all_goals exact (xZ [Atm.mk k (kJ s), Atm.mk k []]).imm
              | true =>
                rw [hg, if_pos rfl] at hf
                rw [hg] at hh'
                have he : ¬ vB ⟨k, []⟩ = s := by simpa using hh'
                (repeat' (first|(apply xW;(first|exact Want.none_ rfl|(refine zX rfl rfl rfl rfl ?_;((exact rfl)))))|(apply xF zI;exact rfl;exact rfl)|((first|apply zZ|apply yD|apply yB|apply yH)<;>(first|exact zI|exact Nat.zero_add _|exact rfl|refine yG ?_|omega|exact lb rfl))|(apply yR;exact rfl;exact rfl;((exact rfl));exact rfl;exact rfl)|apply zR|apply AWp.Q|apply zH|apply AWp.G|apply AWp.B|apply AWp.J|apply zJ|(apply AWp.T;exact rfl;((exact rfl)))|(apply AWp.F;exact rfl;((assumption)))|(apply yA;(iterate 6 exact rfl);(iterate 2 (focus (repeat (first|exact VAs.nil|apply VAs.cons|apply VA.agg|exact VCs.nil|apply VCs.cons|exact VC.imm (Imm.v _)))));((exact hf));(focus (repeat (first|exact trivial|exact Flat.v _|apply And.intro)));((apply yJ));((exact xC _ _ _)))))
                refine ⟨2, ⟨by omega, fun _ => hj1 (by omega), fun _ => rfl⟩, by omega, ?_⟩
                refine Weak.of [(0, some 0), (1, some 1)] rfl ?_ ?_ <;> (repeat' (first|exact trivial|exact rfl|apply And.intro|refine ⟨_,rfl,rfl,rfl,OW.one ?_⟩|refine oWs rfl rfl rfl ?_ ?_))
                all_goals exact (xZ [Atm.mk k (kJ s), Atm.mk k []]).imm
          · (repeat' (first|(apply xW;((exact Want.none_ rfl)))|(apply xF zI;exact rfl;exact rfl)|(((apply zZ))<;>(first|exact rfl|refine yG ?_|omega))|apply zR|apply AWp.Q|apply zH|apply AWp.G|apply AWp.X|apply zQ|apply zJ|apply zO|(apply AWp.F;exact rfl;((exact rfl)))))
            refine ⟨k + 1, ⟨by omega, by omega, fun j h1 h2 => ?_⟩, by omega, ?_⟩
            · by_cases e : j = k
              · subst e; exact ⟨hj1 (by omega), hj2 (by omega)⟩
              · exact hno j h1 (by omega)
            · refine Weak.of [(0, some 0)] rfl ?_ ?_ <;> (repeat' (first|exact trivial|exact rfl|apply And.intro|refine ⟨_,rfl,rfl,rfl,OW.one ?_⟩))
      · obtain rfl : k = 11 := by omega
        have e := noHit_end hno
        rw [resA, e, if_neg (by simp)]
        (repeat' (first|(apply xW;((exact Want.none_ rfl)))|(apply xF zI;exact rfl;exact rfl)|((first|apply y4|apply yH)<;>(first|exact zI|exact rfl|refine yG ?_|exact lb rfl|((try refine Bd.mk ?_);(focus (simp;done)))))|apply zR|apply AWp.Q|apply zH|apply AWp.G|apply AWp.X|apply AWp.R|apply zQ|apply zO|(apply AWp.F;exact rfl;((exact rfl)))))
        (((refine zV _ [] (.cons (y5 rfl rfl rfl zI rfl rfl rfl) (.cons (zN rfl) .nil)) ?_ rfl ?_)) <;> (repeat' (first|exact trivial|exact rfl|apply And.intro)))
end Go.Proofs.YtjeffognhcbiaaaGreatDoor
