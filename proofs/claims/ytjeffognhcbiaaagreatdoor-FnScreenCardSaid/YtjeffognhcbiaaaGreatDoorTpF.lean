/- A stroke's notation, by both programs. -/
import Derived.Test.YtjeffognhcbiaaaGreatDoorTpA
namespace Go.Proofs.YtjeffognhcbiaaaGreatDoor
open Go Go.RowKit
def labL : List UInt8 := [35, 83, 84, 75, 80, 87, 72, 82, 65, 79, 42, 69, 85, 70, 82, 80, 66, 76, 71, 84, 83, 68, 90]
def keysN (s k : Nat) : List Nat := (List.range k).filter fun j => s.testBit j
def x4 (s : Nat) : List Nat := keysN s 23
theorem keysN_succ (s k : Nat) : keysN s (k + 1) = keysN s k ++ if s.testBit k then [k] else [] := by
  rw [keysN, List.range_succ, List.filter_append]
  cases h : s.testBit k <;> simp [h, keysN]
theorem keysN_len (s k : Nat) : (keysN s k).length ≤ k := Nat.le_trans (List.length_filter_le _ _) (by rw [List.length_range]; exact Nat.le_refl _)
theorem keys_lt {s j k : Nat} (h : (x4 s)[j]? = some k) : k < 23 := by
  have := List.mem_of_getElem? h
  rw [x4, keysN, List.mem_filter, List.mem_range] at this
  exact this.1
theorem keys_asc {s i j a b : Nat} (hij : i < j) (ha : (x4 s)[i]? = some a) (hb : (x4 s)[j]? = some b) : a < b := by
  have hs : (x4 s).Pairwise (· < ·) := List.Pairwise.filter _ List.pairwise_lt_range
  obtain ⟨h1, h2⟩ := List.getElem?_eq_some_iff.1 ha
  obtain ⟨h3, h4⟩ := List.getElem?_eq_some_iff.1 hb
  have := List.pairwise_iff_getElem.1 hs i j h1 h3 hij
  rw [h2, h4] at this
  exact this
def midB (k : Nat) : Bool := decide (8 ≤ k ∧ k ≤ 12)
def qD (k : Nat) : Bool := decide (13 ≤ k)
def kI (s : Nat) : Bool := (x4 s).any midB
theorem mid_at {s j k : Nat} (h : (x4 s)[j]? = some k) (hk : 13 ≤ k) : ((x4 s).take j).any midB = kI s := by
  rw [kI, Bool.eq_iff_iff, List.any_eq_true, List.any_eq_true]
  constructor
  · rintro ⟨x, hx, hm⟩
    exact ⟨x, List.mem_of_mem_take hx, hm⟩
  · rintro ⟨x, hx, hm⟩
    obtain ⟨i, hi⟩ := List.getElem?_of_mem hx
    simp only [midB, decide_eq_true_eq] at hm
    have hij : i < j := by
      apply Decidable.byContradiction
      intro hn
      rcases Nat.eq_or_lt_of_le (Nat.le_of_not_lt hn) with e | e
      · subst e; rw [h] at hi; cases hi; omega
      · have := keys_asc e h hi; omega
    refine ⟨x, ?_, by simp only [midB, decide_eq_true_eq]; exact hm⟩
    exact List.mem_of_getElem? (i := i) (by rw [List.getElem?_take, if_pos hij]; exact hi)
def vH (k : Nat) : List UInt8 := (labL.drop k).take (k + 1 - k)
def fmK (s : Nat) : Nat → List UInt8
  | 0 => []
  | j + 1 => match (x4 s)[j]? with
    | some k => fmK s j ++ (if 13 ≤ k ∧ kI s = false ∧ ((x4 s).take j).any qD = false then [45] else []) ++ vH k
    | none => fmK s j
def fmt (s : Nat) : List UInt8 := fmK s (x4 s).length
theorem fmK_succ {s j k : Nat} (h : (x4 s)[j]? = some k) : fmK s (j + 1) = fmK s j ++ (if 13 ≤ k ∧ kI s = false ∧ ((x4 s).take j).any qD = false then [45] else []) ++ vH k := by
  rw [fmK, h]
theorem labN_len {k : Nat} (h : k < 23) : (vH k).length = 1 := by
  have all : ∀ k : Fin 23, (vH k.1).length = 1 := by decide
  exact all ⟨k, h⟩
theorem fmK_len (s : Nat) : ∀ j, (fmK s j).length ≤ 2 * j
  | 0 => Nat.le_refl _
  | j + 1 => by
    have ih := fmK_len s j
    cases h : (x4 s)[j]? with
    | none => rw [fmK, h]; dsimp only; omega
    | some k =>
      have := labN_len (keys_lt h)
      rw [fmK_succ h, List.length_append, List.length_append]
      split <;> simp only [List.length_cons, List.length_nil] <;> omega
theorem fmt_len (s : Nat) : (fmt s).length ≤ 46 := by
  have h1 := fmK_len s (x4 s).length
  have h2 := keysN_len s 23
  rw [fmt, x4] at *
  omega
def nEl (l : List Nat) : List (List Cell) := l.map fun n : Nat => [int (n : Int)]
theorem wQ (l : List Nat) : ∀ x ∈ nEl l, ∀ c ∈ x, Imm c := by
  intro x hx c hc
  obtain ⟨p, _, rfl⟩ := List.mem_map.1 hx
  simp only [List.mem_singleton] at hc
  subst hc
  exact Imm.v _
theorem nEl_sc (l : List Nat) : AllSc (nEl l) := by
  intro x hx c hc
  obtain ⟨p, _, rfl⟩ := List.mem_map.1 hx
  simp only [List.mem_singleton] at hc
  subst hc
  exact ⟨Imm.v _, Flat.v _⟩
theorem nEl_at {l : List Nat} {k n : Nat} (h : l[k]? = some n) : (nEl l)[k]? = some [int (n : Int)] := by rw [nEl, List.getElem?_map, h]; rfl
theorem nEl_app (l : List Nat) (y : Nat) : nEl l ++ [[int (y : Int)]] = nEl (l ++ [y]) := by rw [nEl, nEl, List.map_append]; rfl
theorem nEl_len (l : List Nat) : (nEl l).length = l.length := List.length_map _
theorem l2Keys_pf (s : Nat) (hs : s < 8388608) : PF Tryz.prog 176 [.c (int s)] [⟨3, 1, nEl (x4 s)⟩] (.c (.ref 0 0 (x4 s).length)) := by
  refine PF.enter (xJ _) Tryz.func176 rfl (by kernel_rfl) _ _ rfl rfl rfl (fun w0 mu I0 β0 gi dis => ?_)
  (repeat' (first|(apply xW;((exact Want.none_ rfl)))|(apply xF zI;exact rfl;exact rfl)|(((apply zU))<;>(first|exact zI|exact rfl|refine yG ?_))|apply zR|apply AWp.Q|apply zH|apply AWp.G|apply AWp.B))
  refine AWp.U (σ := Nat) (fun k => ⟨[(0, .c (int s)), (3, .c (.ref 0 0 (keysN s k).length)), (4, .c (int k))], [(0, some ⟨3, 1, nEl (keysN s k)⟩)], 1⟩) (fun k => k ≤ 23) (fun k => 23 - k) 0 (Nat.zero_le _) ?_ ?_
  · refine Weak.of [(0, some 0)] rfl ?_ ?_ <;> (repeat' (first|exact trivial|exact rfl|apply And.intro|refine oWs rfl rfl rfl ?_ ?_|(refine aIm ?_;(exact AllSc.nil))))
    all_goals first | exact wQ _ | skip
  · intro k hk
    have hl := keysN_len s k
    have hL := nEl_len (keysN s k)
    have hdl := Nat.div_le_self s (2 ^ k)
    by_cases hlt : k < 23
    · have hlt' : (k : Int) < 23 := by omega
      have hw : IntKind.u64.wrap (k : Int) = (k : Int) := by
        show (k : Int) % 18446744073709551616 = k
        omega
      have hb := div_pow_bit s k
      have hsu := keysN_succ s k
      cases ht : s.testBit k with
      | true =>
        have hq : ((s / 2 ^ k &&& 1 : Nat) : Int) = 1 := by rw [hb.2 ht]; rfl
        rw [ht, if_pos rfl] at hsu
        (repeat' (first|(apply xW;((exact Want.none_ rfl)))|(apply xF zI;exact rfl;exact rfl)|((first|apply zZ|apply zU|(apply yZ;exact rfl;exact rfl))<;>(first|exact zI|exact rfl|refine yG ?_|omega|(refine Bd.mk ?_;first|(focus (simp;done))|(simp;omega))))|apply zR|apply AWp.Q|apply zH|apply AWp.G|apply AWp.B|apply AWp.J|apply zJ|(apply AWp.T;exact rfl;((exact dT ‹_›)))|((first|(apply kA;exact rfl;exact rfl;exact rfl)|(apply qZ;exact rfl;exact rfl;exact rfl;((assumption))))<;>(first|refine yG ?_|(refine Bd.mk ?_;first|omega|(simp;omega))))))
        refine ⟨k + 1, by omega, by omega, ?_⟩
        rw [hsu, ← nEl_app]
        refine Weak.of [(0, some 2)] rfl ?_ ?_ <;> (repeat' (first|exact trivial|exact rfl|apply And.intro|refine oWs rfl rfl rfl ?_ ?_))
        all_goals first | (rw [nEl_app]; exact wQ _) | (rw [hL, List.length_append]; rfl) | skip
      | false =>
        have hq : ¬ ((s / 2 ^ k &&& 1 : Nat) : Int) = 1 := fun e => by
          have : s / 2 ^ k &&& 1 = 1 := by omega
          rw [hb.1 this] at ht; cases ht
        rw [ht, if_neg (by simp), List.append_nil] at hsu
        (repeat' (first|(apply xW;((exact Want.none_ rfl)))|(apply xF zI;exact rfl;exact rfl)|(((apply zZ))<;>(first|exact rfl|refine yG ?_|omega))|apply zR|apply AWp.Q|apply zH|apply AWp.G|apply AWp.B|apply AWp.J|apply zJ|(apply AWp.T;exact rfl;((exact dT ‹_›)))|(apply AWp.F;exact rfl;((exact dF ‹_›)))|((first|(apply kA;exact rfl;exact rfl;exact rfl)|(apply qZ;exact rfl;exact rfl;exact rfl;((assumption))))<;>(first|refine yG ?_|(refine Bd.mk ?_;first|omega|(simp;omega))))))
        refine ⟨k + 1, by omega, by omega, ?_⟩
        rw [hsu]
        refine Weak.of [(0, some 0)] rfl ?_ ?_ <;> (repeat' (first|exact trivial|exact rfl|apply And.intro|refine oWs rfl rfl rfl ?_ ?_))
        all_goals exact wQ _
    · have hlt' : ¬ (k : Int) < 23 := by omega
      obtain rfl : k = 23 := by omega
      (repeat' (first|(apply xW;((exact Want.none_ rfl)))|(apply xF zI;exact rfl;exact rfl)|apply zR|apply AWp.Q|apply zH|apply AWp.G|apply AWp.X|apply AWp.R|apply zQ|apply zO|(apply AWp.F;exact rfl;((exact dF ‹_›)))))
      (((refine zV _ [(0, some 0)] (.cons (zN rfl) .nil) ?_ rfl ?_)) <;> (repeat' (first|exact trivial|exact rfl|apply And.intro|refine oWs rfl rfl rfl ?_ ?_)))
      all_goals exact wQ _
theorem keysOf_pf (s : Nat) (hs : s < 8388608) : PF Tryz.prog 53 [.c (int s)] [⟨3, 1, nEl (x4 s)⟩] (.c (.ref 0 0 (x4 s).length)) := by
  refine PF.enter (xJ _) Tryz.func53 rfl (by kernel_rfl) _ _ rfl rfl rfl (fun w0 mu I0 β0 gi dis => ?_)
  (repeat' (first|(apply xW;((exact Want.none_ rfl)))|(apply xF zI;exact rfl;exact rfl)|(((apply zU))<;>(first|exact zI|exact rfl|refine yG ?_))|apply zR|apply AWp.Q|apply zH|apply AWp.G|apply AWp.B))
  refine AWp.U (σ := Nat) (fun k => ⟨[(0, .c (int s)), (3, .c (.ref 0 0 (keysN s k).length)), (6, .c (int k))], [(0, some ⟨3, 1, nEl (keysN s k)⟩)], 1⟩) (fun k => k ≤ 23) (fun k => 23 - k) 0 (Nat.zero_le _) ?_ ?_
  · refine Weak.of [(0, some 0)] rfl ?_ ?_ <;> (repeat' (first|exact trivial|exact rfl|apply And.intro|refine oWs rfl rfl rfl ?_ ?_|(refine aIm ?_;(exact AllSc.nil))))
    all_goals first | exact wQ _ | skip
  · intro k hk
    have hl := keysN_len s k
    have hL := nEl_len (keysN s k)
    have hdl := Nat.div_le_self s (2 ^ k)
    by_cases hlt : k < 23
    · have hlt' : (k : Int) < 23 := by omega
      have hb := div_pow_bit s k
      have hsu := keysN_succ s k
      cases ht : s.testBit k with
      | true =>
        have hq : ((s / 2 ^ k &&& 1 : Nat) : Int) = 1 := by rw [hb.2 ht]; rfl
        rw [ht, if_pos rfl] at hsu
        (repeat' (first|(apply xW;((exact Want.none_ rfl)))|(apply xF zI;exact rfl;exact rfl)|((first|apply zZ|apply zU|(apply yZ;exact rfl;exact rfl))<;>(first|exact zI|exact rfl|refine yG ?_|omega|(refine Bd.mk ?_;first|(focus (simp;done))|(simp;omega))))|apply zR|apply AWp.Q|apply zH|apply AWp.G|apply AWp.B|apply AWp.J|apply zJ|(apply AWp.T;exact rfl;((exact dT ‹_›)))|((first|(apply kA;exact rfl;exact rfl;exact rfl)|(apply qZ;exact rfl;exact rfl;exact rfl;((exact rfl))))<;>(first|refine yG ?_|(refine Bd.mk ?_;first|omega|(simp;omega))))))
        refine ⟨k + 1, by omega, by omega, ?_⟩
        rw [hsu, ← nEl_app]
        refine Weak.of [(0, some 2)] rfl ?_ ?_ <;> (repeat' (first|exact trivial|exact rfl|apply And.intro|refine oWs rfl rfl rfl ?_ ?_))
        all_goals first | (rw [nEl_app]; exact wQ _) | (rw [hL, List.length_append]; rfl) | skip
      | false =>
        have hq : ¬ ((s / 2 ^ k &&& 1 : Nat) : Int) = 1 := fun e => by
          have : s / 2 ^ k &&& 1 = 1 := by omega
          rw [hb.1 this] at ht; cases ht
        rw [ht, if_neg (by simp), List.append_nil] at hsu
        (repeat' (first|(apply xW;((exact Want.none_ rfl)))|(apply xF zI;exact rfl;exact rfl)|(((apply zZ))<;>(first|exact rfl|refine yG ?_|omega))|apply zR|apply AWp.Q|apply zH|apply AWp.G|apply AWp.B|apply AWp.J|apply zJ|(apply AWp.T;exact rfl;((exact dT ‹_›)))|(apply AWp.F;exact rfl;((exact dF ‹_›)))|((first|(apply kA;exact rfl;exact rfl;exact rfl)|(apply qZ;exact rfl;exact rfl;exact rfl;((exact rfl))))<;>(first|refine yG ?_|(refine Bd.mk ?_;first|omega|(simp;omega))))))
        refine ⟨k + 1, by omega, by omega, ?_⟩
        rw [hsu]
        refine Weak.of [(0, some 0)] rfl ?_ ?_ <;> (repeat' (first|exact trivial|exact rfl|apply And.intro|refine oWs rfl rfl rfl ?_ ?_))
        all_goals exact wQ _
    · have hlt' : ¬ (k : Int) < 23 := by omega
      obtain rfl : k = 23 := by omega
      (repeat' (first|(apply xW;((exact Want.none_ rfl)))|(apply xF zI;exact rfl;exact rfl)|apply zR|apply AWp.Q|apply zH|apply AWp.G|apply AWp.X|apply AWp.R|apply zQ|apply zO|(apply AWp.F;exact rfl;((exact dF ‹_›)))))
      (((refine zV _ [(0, some 0)] (.cons (zN rfl) .nil) ?_ rfl ?_)) <;> (repeat' (first|exact trivial|exact rfl|apply And.intro|refine oWs rfl rfl rfl ?_ ?_)))
      all_goals exact wQ _
theorem l2Format_pf (s : Nat) (hs : s < 8388608) : PF Tryz.prog 148 [.c (int s)] [] (.c (str (fmt s))) := by
  have hsc := nEl_sc (x4 s)
  have hL := nEl_len (x4 s)
  have hkl := keysN_len s 23
  rw [← x4] at hkl
  have hlab : labL.length = 23 := rfl
  refine PF.enter (xJ _) Tryz.func148 rfl (by kernel_rfl) _ _ rfl rfl rfl (fun w0 mu I0 β0 gi dis => ?_)
  (repeat' (first|(apply xW;((exact Want.none_ rfl)))|(apply xF zI;exact rfl;exact rfl)|apply zR|apply AWp.Q|apply zH|apply AWp.G|apply AWp.B|(apply yA;(iterate 6 exact rfl);(iterate 2 (focus (repeat (first|exact VAs.nil|apply VAs.cons|apply VA.c|exact VCs.nil|exact VC.imm (Imm.v _)))));((exact l2Keys_pf s hs));(focus (repeat ((exact Flat.ref _ _ _))));((apply yK;(focus (repeat (first|exact trivial|apply And.intro|((assumption)))))));((exact xA _ _ _ _)))))
  refine AWp.U (σ := Nat) (fun j => ⟨[(3, .c (str (fmK s j))), (4, .c (.ref 0 0 (x4 s).length)), (5, .c (boo (((x4 s).take j).any midB))), (6, .c (boo (!kI s && ((x4 s).take j).any qD))), (7, .c (int j))], [(0, some ⟨3, 1, nEl (x4 s)⟩)], 1⟩) (fun j => j ≤ (x4 s).length) (fun j => (x4 s).length - j) 0 (Nat.zero_le _) ?_ ?_
  · refine Weak.of [(0, some 0)] rfl ?_ ?_ <;> (repeat' (first|exact trivial|exact rfl|apply And.intro|refine oWs rfl rfl rfl ?_ ?_|refine vwB ?_|(refine aIm ?_;(assumption))))
    all_goals first | exact wQ _ | (simp; done) | skip
  · intro j hj
    have hfl := fmK_len s j
    by_cases hlt : j < (x4 s).length
    · obtain ⟨k, hk⟩ := xT hlt
      have hk23 := keys_lt hk
      have hz := nEl_at hk
      have hlt' : (j : Int) < ((x4 s).length : Int) := by omega
      have hkz : (k : Int) + 1 = ((k + 1 : Nat) : Int) := by omega
      have hll := labN_len hk23
      have hsu := fmK_succ hk
      have hm1 : ((x4 s).take (j + 1)).any midB = (((x4 s).take j).any midB || midB k) := wK hk
      have hr1 : ((x4 s).take (j + 1)).any qD = (((x4 s).take j).any qD || qD k) := wK hk
      have hin := vP k 8 12
      have hmk : inZ k 8 12 = midB k := by
        rw [inZ, midB, Bool.eq_iff_iff, decide_eq_true_eq, decide_eq_true_eq]; omega
      rw [hmk] at hin
      rw [vH] at hll
      by_cases h13 : 13 ≤ k
      · have h13' : (12 : Int) < (k : Int) := by omega
        have hmf : midB k = false := by rw [midB, decide_eq_false (by omega)]
        have hrt : qD k = true := by rw [qD, decide_eq_true h13]
        have hm0 := mid_at hk h13
        rw [hmf] at hin
        rw [hmf, Bool.or_false] at hm1
        rw [hrt, Bool.or_true] at hr1
        rw [hm0] at hm1 ⊢
        cases hM : kI s with
        | true =>
          rw [hM, if_neg (by simp)] at hsu
          rw [hM] at hm1
          (repeat' (first|(apply xW;(first|exact Want.none_ rfl|(refine zX rfl rfl rfl rfl ?_;((exact dT ‹_›)))))|(apply xF zI;exact rfl;exact rfl)|((first|(apply z6;exact rfl;exact rfl)|apply zZ|apply yD|(apply z7;exact rfl;exact rfl;exact zI;exact rfl;exact rfl)|(apply yM;exact rfl;exact rfl))<;>(first|exact zI|exact Nat.zero_add _|exact rfl|refine yG ?_|assumption|omega|exact ⟨rfl,_,_,rfl,rfl⟩|(refine Bd.mk ?_;(simp;omega))))|(apply yR;exact rfl;exact rfl;(first|exact dT ‹_›|exact rfl);exact rfl;exact rfl)|(apply yS;(iterate 5 exact rfl);((exact rfl)))|apply zR|apply AWp.Q|apply zH|apply AWp.G|apply AWp.B|apply AWp.J|apply zJ|(apply AWp.T;exact rfl;((exact dT ‹_›)))|(apply AWp.F;exact rfl;((exact rfl)))))
          refine ⟨j + 1, by omega, by omega, ?_⟩
          rw [hsu, hm1, hr1]
          refine Weak.of [(0, some 0)] rfl ?_ ?_ <;> (repeat' (first|exact trivial|exact rfl|apply And.intro|refine oWs rfl rfl rfl ?_ ?_|refine vwS ?_|(refine aIm ?_;(assumption))))
          all_goals first | exact wQ _ | (simp [vH, hM]; done) | (simp [vH, hM]; rfl)
        | false =>
          rw [hM] at hm1
          cases hR : ((x4 s).take j).any qD with
          | true =>
            rw [hR, hM, if_neg (by simp)] at hsu
            (repeat' (first|(apply xW;(first|exact Want.none_ rfl|(refine zX rfl rfl rfl rfl ?_;(first|exact dT ‹_›|exact rfl))))|(apply xF zI;exact rfl;exact rfl)|((first|(apply z6;exact rfl;exact rfl)|apply zZ|apply yD|(apply z7;exact rfl;exact rfl;exact zI;exact rfl;exact rfl)|(apply yM;exact rfl;exact rfl))<;>(first|exact zI|exact Nat.zero_add _|exact rfl|refine yG ?_|assumption|omega|exact ⟨rfl,_,_,rfl,rfl⟩|(refine Bd.mk ?_;(simp;omega))))|(apply yR;exact rfl;exact rfl;(first|exact dT ‹_›|exact rfl);exact rfl;exact rfl)|apply zR|apply AWp.Q|apply zH|apply AWp.G|apply AWp.B|apply AWp.J|apply zJ|(apply AWp.T;exact rfl;((exact dT ‹_›)))|(apply AWp.F;exact rfl;((exact rfl)))|(apply yA;(iterate 6 exact rfl);(iterate 2 (focus (repeat (first|exact VAs.nil|apply VAs.cons|apply VA.c|exact VCs.nil|exact VC.imm (Imm.v _)))));((exact hin));(focus (repeat ((exact Flat.v _))));((apply yJ));((exact xB _ _)))))
            refine ⟨j + 1, by omega, by omega, ?_⟩
            rw [hsu, hm1, hr1]
            refine Weak.of [(0, some 0)] rfl ?_ ?_ <;> (repeat' (first|exact trivial|exact rfl|apply And.intro|refine oWs rfl rfl rfl ?_ ?_|refine vwS ?_|(refine aIm ?_;(assumption))))
            all_goals first | exact wQ _ | (simp [vH, hM]; done) | (simp [vH, hM]; rfl)
          | false =>
            rw [hR, hM, if_pos ⟨h13, rfl, rfl⟩] at hsu
            (repeat' (first|(apply xW;(first|exact Want.none_ rfl|(refine zX rfl rfl rfl rfl ?_;(first|exact dT ‹_›|exact rfl))))|(apply xF zI;exact rfl;exact rfl)|((first|(apply z6;exact rfl;exact rfl)|apply zZ|apply yD|(apply z7;exact rfl;exact rfl;exact zI;exact rfl;exact rfl)|(apply yM;exact rfl;exact rfl))<;>(first|exact zI|exact Nat.zero_add _|exact rfl|refine yG ?_|assumption|omega|exact ⟨rfl,_,_,rfl,rfl⟩|(refine Bd.mk ?_;(simp;omega))))|(apply yR;exact rfl;exact rfl;(first|exact dT ‹_›|exact rfl);exact rfl;exact rfl)|apply zR|apply AWp.Q|apply zH|apply AWp.G|apply AWp.B|apply AWp.J|apply zJ|(apply AWp.T;exact rfl;(first|exact dT ‹_›|exact rfl))|(apply yA;(iterate 6 exact rfl);(iterate 2 (focus (repeat (first|exact VAs.nil|apply VAs.cons|apply VA.c|exact VCs.nil|exact VC.imm (Imm.v _)))));((exact hin));(focus (repeat ((exact Flat.v _))));((apply yJ));((exact xB _ _)))))
            refine ⟨j + 1, by omega, by omega, ?_⟩
            rw [hsu, hm1, hr1]
            refine Weak.of [(0, some 0)] rfl ?_ ?_ <;> (repeat' (first|exact trivial|exact rfl|apply And.intro|refine oWs rfl rfl rfl ?_ ?_|(refine aIm ?_;(assumption))))
            all_goals first | exact wQ _ | (simp [vH, hM]; done) | (simp [vH, hM]; rfl)
      · have h13' : ¬ (12 : Int) < (k : Int) := by omega
        have hrt : qD k = false := by rw [qD, decide_eq_false h13]
        rw [hrt, Bool.or_false] at hr1
        rw [if_neg (fun h => h13 h.1)] at hsu
        cases hB : ((x4 s).take j).any midB with
        | true =>
          rw [hB, Bool.true_or] at hm1
          (repeat' (first|(apply xW;((exact Want.none_ rfl)))|(apply xF zI;exact rfl;exact rfl)|((first|(apply z6;exact rfl;exact rfl)|apply zZ|apply yD|(apply z7;exact rfl;exact rfl;exact zI;exact rfl;exact rfl)|(apply yM;exact rfl;exact rfl))<;>(first|exact zI|exact Nat.zero_add _|exact rfl|refine yG ?_|assumption|omega|exact ⟨rfl,_,_,rfl,rfl⟩|(refine Bd.mk ?_;(simp;omega))))|(apply yR;exact rfl;exact rfl;(first|exact dF ‹_›|exact rfl);exact rfl;exact rfl)|(apply yS;(iterate 5 exact rfl);(first|exact dF ‹_›|exact rfl))|apply zR|apply AWp.Q|apply zH|apply AWp.G|apply AWp.B|apply AWp.J|apply zJ|(apply AWp.T;exact rfl;((exact dT ‹_›)))|(apply AWp.F;exact rfl;((exact rfl)))))
          refine ⟨j + 1, by omega, by omega, ?_⟩
          rw [hsu, hm1, hr1]
          refine Weak.of [(0, some 0)] rfl ?_ ?_ <;> (repeat' (first|exact trivial|exact rfl|apply And.intro|refine oWs rfl rfl rfl ?_ ?_|refine vwS ?_|(refine aIm ?_;(assumption))))
          all_goals first | exact wQ _ | (simp [vH]; done) | (simp [vH]; rfl)
        | false =>
          rw [hB, Bool.false_or] at hm1
          (repeat' (first|(apply xW;(first|exact Want.none_ rfl|(refine zX rfl rfl rfl rfl ?_;((exact rfl)))))|(apply xF zI;exact rfl;exact rfl)|((first|(apply z6;exact rfl;exact rfl)|apply zZ|apply yD|(apply z7;exact rfl;exact rfl;exact zI;exact rfl;exact rfl)|(apply yM;exact rfl;exact rfl))<;>(first|exact zI|exact Nat.zero_add _|exact rfl|refine yG ?_|assumption|omega|exact ⟨rfl,_,_,rfl,rfl⟩|(refine Bd.mk ?_;(simp;omega))))|(apply yR;exact rfl;exact rfl;(first|exact dF ‹_›|exact rfl);exact rfl;exact rfl)|(apply yS;(iterate 5 exact rfl);(first|exact dF ‹_›|exact rfl))|apply zR|apply AWp.Q|apply zH|apply AWp.G|apply AWp.B|apply AWp.J|apply zJ|(apply AWp.T;exact rfl;((exact dT ‹_›)))|(apply AWp.F;exact rfl;((exact rfl)))|(apply yA;(iterate 6 exact rfl);(iterate 2 (focus (repeat (first|exact VAs.nil|apply VAs.cons|apply VA.c|exact VCs.nil|exact VC.imm (Imm.v _)))));((exact hin));(focus (repeat ((exact Flat.v _))));((apply yJ));((exact xB _ _)))))
          all_goals
            refine ⟨j + 1, by omega, by omega, ?_⟩
            rw [hsu, hm1, hr1]
            refine Weak.of [(0, some 0)] rfl ?_ ?_ <;> (repeat' (first|exact trivial|exact rfl|apply And.intro|refine oWs rfl rfl rfl ?_ ?_|refine vwS ?_|(refine aIm ?_;(assumption))))
          all_goals first | exact wQ _ | (simp [vH]; done) | (simp [vH]; rfl)
    · have hlt' : ¬ (j : Int) < ((x4 s).length : Int) := by omega
      obtain rfl : j = (x4 s).length := by omega
      (repeat' (first|(apply xW;((exact Want.none_ rfl)))|(apply xF zI;exact rfl;exact rfl)|apply zR|apply AWp.Q|apply zH|apply AWp.G|apply AWp.X|apply AWp.R|apply zQ|apply zO|(apply AWp.F;exact rfl;((exact dF ‹_›)))))
      (((refine zV _ [] (.cons (zN rfl) .nil) ?_ rfl ?_)) <;> (repeat' (first|exact trivial|exact rfl)))
end Go.Proofs.YtjeffognhcbiaaaGreatDoor
