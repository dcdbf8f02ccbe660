/- A stroke's notation, by both programs. -/
import Derived.Test.YtchpdclknbmdoaaGreatDoorTpA
namespace Go.Proofs.YtchpdclknbmdoaaGreatDoor
open Go Go.RowKit
def keysN (s k : Nat) : List Nat := (List.range k).filter fun j => s.testBit j
def keys (s : Nat) : List Nat := keysN s 23
theorem keysN_succ (s k : Nat) : keysN s (k + 1) = keysN s k ++ if s.testBit k then [k] else [] := by
  rw [keysN, List.range_succ, List.filter_append]
  cases h : s.testBit k <;> simp [h, keysN]
theorem keysN_len (s k : Nat) : (keysN s k).length ≤ k := Nat.le_trans (List.length_filter_le _ _) (by rw [List.length_range]; exact Nat.le_refl _)
theorem keys_lt {s j k : Nat} (h : (keys s)[j]? = some k) : k < 23 := by
  have := List.mem_of_getElem? h
  rw [keys, keysN, List.mem_filter, List.mem_range] at this
  exact this.1
theorem keys_asc {s i j a b : Nat} (hij : i < j) (ha : (keys s)[i]? = some a) (hb : (keys s)[j]? = some b) : a < b := by
  have hs : (keys s).Pairwise (· < ·) := List.Pairwise.filter _ List.pairwise_lt_range
  obtain ⟨h1, h2⟩ := List.getElem?_eq_some_iff.1 ha
  obtain ⟨h3, h4⟩ := List.getElem?_eq_some_iff.1 hb
  have := List.pairwise_iff_getElem.1 hs i j h1 h3 hij
  rw [h2, h4] at this
  exact this
def nEl (l : List Nat) : List (List Cell) := l.map fun n : Nat => [int (n : Int)]
theorem wV (l : List Nat) : ∀ x ∈ nEl l, ∀ c ∈ x, Imm c := by
  intro x hx c hc
  obtain ⟨p, _, rfl⟩ := List.mem_map.1 hx
  simp only [List.mem_singleton] at hc
  subst hc
  exact Imm.v _
theorem nEl_sc (l : List Nat) : AllSc (nEl l) := by
  intro x hx c hc
  obtain ⟨p, _, rfl⟩ := List.mem_map.1 hx
  simp only [List.mem_singleton] at hc
  subst hc
  exact ⟨Imm.v _, Flat.v _⟩
theorem nEl_at {l : List Nat} {k n : Nat} (h : l[k]? = some n) : (nEl l)[k]? = some [int (n : Int)] := by rw [nEl, List.getElem?_map, h]; rfl
theorem nEl_app (l : List Nat) (y : Nat) : nEl l ++ [[int (y : Int)]] = nEl (l ++ [y]) := by rw [nEl, nEl, List.map_append]; rfl
theorem vU (l : List Nat) : (nEl l).length = l.length := List.length_map _
theorem l2Keys_pf (s : Nat) (hs : s < 8388608) : PF Tryz.prog 110 [.c (int s)] [⟨3, 1, nEl (keys s)⟩] (.c (.ref 0 0 (keys s).length)) := by
  refine PF.enter (xJ _) Tryz.func110 rfl (by kernel_rfl) _ _ rfl rfl rfl (fun w0 mu I0 β0 gi dis => ?_)
  (repeat' (first|(apply xW;((exact Want.none_ rfl)))|(apply xF zI;exact rfl;exact rfl)|(((apply zS))<;>(first|exact zI|exact rfl|refine yH ?_))|apply zQ|apply AWp.Q|apply zG|apply AWp.G|apply AWp.B))
  refine AWp.U (σ := Nat) (fun k => ⟨[(0, .c (int s)), (3, .c (.ref 0 0 (keysN s k).length)), (4, .c (int k))], [(0, some ⟨3, 1, nEl (keysN s k)⟩)], 1⟩) (fun k => k ≤ 23) (fun k => 23 - k) 0 (Nat.zero_le _) ?_ ?_
  · refine Weak.of [(0, some 0)] rfl ?_ ?_ <;> (repeat' (first|exact trivial|exact rfl|apply And.intro|refine oWs rfl rfl rfl ?_ ?_|(refine aIm ?_;(exact AllSc.nil))))
    all_goals first | exact wV _ | skip
  · intro k hk
    have hl := keysN_len s k
    have hL := vU (keysN s k)
    have hdl := Nat.div_le_self s (2 ^ k)
    by_cases hlt : k < 23
    · have hlt' : (k : Int) < 23 := by omega
      have hw : IntKind.u64.wrap (k : Int) = (k : Int) := by
        show (k : Int) % 18446744073709551616 = k
        omega
      have hb := div_pow_bit s k
      have hsu := keysN_succ s k
      cases ht : s.testBit k with
      | true =>
        have hq : ((s / 2 ^ k &&& 1 : Nat) : Int) = 1 := by rw [hb.2 ht]; rfl
        rw [ht, if_pos rfl] at hsu
        (repeat' (first|(apply xW;((exact Want.none_ rfl)))|(apply xF zI;exact rfl;exact rfl)|((first|apply yE|apply zS|(apply yO;exact rfl;exact rfl))<;>(first|exact zI|exact rfl|refine yH ?_|omega|(refine Bd.mk ?_;first|(focus (simp;done))|(simp;omega))))|apply zQ|apply AWp.Q|apply zG|apply AWp.G|apply AWp.B|apply AWp.J|apply zH|(apply AWp.T;exact rfl;((exact dT ‹_›)))|((first|(apply wL;exact rfl;exact rfl;exact rfl)|(apply wM;exact rfl;exact rfl;exact rfl;((assumption))))<;>(first|refine yH ?_|(refine Bd.mk ?_;first|omega|(simp;omega))))))
        refine ⟨k + 1, by omega, by omega, ?_⟩
        rw [hsu, ← nEl_app]
        refine Weak.of [(0, some 2)] rfl ?_ ?_ <;> (repeat' (first|exact trivial|exact rfl|apply And.intro|refine oWs rfl rfl rfl ?_ ?_))
        all_goals first | (rw [nEl_app]; exact wV _) | (rw [hL, List.length_append]; rfl) | skip
      | false =>
        have hq : ¬ ((s / 2 ^ k &&& 1 : Nat) : Int) = 1 := fun e => by
          have : s / 2 ^ k &&& 1 = 1 := by omega
          rw [hb.1 this] at ht; cases ht
        rw [ht, if_neg (by simp), List.append_nil] at hsu
        (repeat' (first|(apply xW;((exact Want.none_ rfl)))|(apply xF zI;exact rfl;exact rfl)|(((apply yE))<;>(first|exact rfl|refine yH ?_|omega))|apply zQ|apply AWp.Q|apply zG|apply AWp.G|apply AWp.B|apply AWp.J|apply zH|(apply AWp.T;exact rfl;((exact dT ‹_›)))|(apply AWp.F;exact rfl;((exact dF ‹_›)))|((first|(apply wL;exact rfl;exact rfl;exact rfl)|(apply wM;exact rfl;exact rfl;exact rfl;((assumption))))<;>(first|refine yH ?_|(refine Bd.mk ?_;first|omega|(simp;omega))))))
        refine ⟨k + 1, by omega, by omega, ?_⟩
        rw [hsu]
        refine Weak.of [(0, some 0)] rfl ?_ ?_ <;> (repeat' (first|exact trivial|exact rfl|apply And.intro|refine oWs rfl rfl rfl ?_ ?_))
        all_goals exact wV _
    · have hlt' : ¬ (k : Int) < 23 := by omega
      obtain rfl : k = 23 := by omega
      (repeat' (first|(apply xW;((exact Want.none_ rfl)))|(apply xF zI;exact rfl;exact rfl)|apply zQ|apply AWp.Q|apply zG|apply AWp.G|apply AWp.X|apply AWp.R|apply zN|apply zL|(apply AWp.F;exact rfl;((exact dF ‹_›)))))
      (((refine zX _ [(0, some 0)] (.cons (zP rfl) .nil) ?_ rfl ?_)) <;> (repeat' (first|exact trivial|exact rfl|apply And.intro|refine oWs rfl rfl rfl ?_ ?_)))
      all_goals exact wV _
theorem keysOf_pf (s : Nat) (hs : s < 8388608) : PF Tryz.prog 112 [.c (int s)] [⟨3, 1, nEl (keys s)⟩] (.c (.ref 0 0 (keys s).length)) := by
  refine PF.enter (xJ _) Tryz.func112 rfl (by kernel_rfl) _ _ rfl rfl rfl (fun w0 mu I0 β0 gi dis => ?_)
  (repeat' (first|(apply xW;((exact Want.none_ rfl)))|(apply xF zI;exact rfl;exact rfl)|(((apply zS))<;>(first|exact zI|exact rfl|refine yH ?_))|apply zQ|apply AWp.Q|apply zG|apply AWp.G|apply AWp.B))
  refine AWp.U (σ := Nat) (fun k => ⟨[(0, .c (int s)), (3, .c (.ref 0 0 (keysN s k).length)), (6, .c (int k))], [(0, some ⟨3, 1, nEl (keysN s k)⟩)], 1⟩) (fun k => k ≤ 23) (fun k => 23 - k) 0 (Nat.zero_le _) ?_ ?_
  · refine Weak.of [(0, some 0)] rfl ?_ ?_ <;> (repeat' (first|exact trivial|exact rfl|apply And.intro|refine oWs rfl rfl rfl ?_ ?_|(refine aIm ?_;(exact AllSc.nil))))
    all_goals first | exact wV _ | skip
  · intro k hk
    have hl := keysN_len s k
    have hL := vU (keysN s k)
    have hdl := Nat.div_le_self s (2 ^ k)
    by_cases hlt : k < 23
    · have hlt' : (k : Int) < 23 := by omega
      have hb := div_pow_bit s k
      have hsu := keysN_succ s k
      cases ht : s.testBit k with
      | true =>
        have hq : ((s / 2 ^ k &&& 1 : Nat) : Int) = 1 := by rw [hb.2 ht]; rfl
        rw [ht, if_pos rfl] at hsu
        (repeat' (first|(apply xW;((exact Want.none_ rfl)))|(apply xF zI;exact rfl;exact rfl)|((first|apply yE|apply zS|(apply yO;exact rfl;exact rfl))<;>(first|exact zI|exact rfl|refine yH ?_|omega|(refine Bd.mk ?_;first|(focus (simp;done))|(simp;omega))))|apply zQ|apply AWp.Q|apply zG|apply AWp.G|apply AWp.B|apply AWp.J|apply zH|(apply AWp.T;exact rfl;((exact dT ‹_›)))|((first|(apply wL;exact rfl;exact rfl;exact rfl)|(apply wM;exact rfl;exact rfl;exact rfl;((exact rfl))))<;>(first|refine yH ?_|(refine Bd.mk ?_;first|omega|(simp;omega))))))
        refine ⟨k + 1, by omega, by omega, ?_⟩
        rw [hsu, ← nEl_app]
        refine Weak.of [(0, some 2)] rfl ?_ ?_ <;> (repeat' (first|exact trivial|exact rfl|apply And.intro|refine oWs rfl rfl rfl ?_ ?_))
        all_goals first | (rw [nEl_app]; exact wV _) | (rw [hL, List.length_append]; rfl) | skip
      | false =>
        have hq : ¬ ((s / 2 ^ k &&& 1 : Nat) : Int) = 1 := fun e => by
          have : s / 2 ^ k &&& 1 = 1 := by omega
          rw [hb.1 this] at ht; cases ht
        rw [ht, if_neg (by simp), List.append_nil] at hsu
        (repeat' (first|(apply xW;((exact Want.none_ rfl)))|(apply xF zI;exact rfl;exact rfl)|(((apply yE))<;>(first|exact rfl|refine yH ?_|omega))|apply zQ|apply AWp.Q|apply zG|apply AWp.G|apply AWp.B|apply AWp.J|apply zH|(apply AWp.T;exact rfl;((exact dT ‹_›)))|(apply AWp.F;exact rfl;((exact dF ‹_›)))|((first|(apply wL;exact rfl;exact rfl;exact rfl)|(apply wM;exact rfl;exact rfl;exact rfl;((exact rfl))))<;>(first|refine yH ?_|(refine Bd.mk ?_;first|omega|(simp;omega))))))
        refine ⟨k + 1, by omega, by omega, ?_⟩
        rw [hsu]
        refine Weak.of [(0, some 0)] rfl ?_ ?_ <;> (repeat' (first|exact trivial|exact rfl|apply And.intro|refine oWs rfl rfl rfl ?_ ?_))
        all_goals exact wV _
    · have hlt' : ¬ (k : Int) < 23 := by omega
      obtain rfl : k = 23 := by omega
      (repeat' (first|(apply xW;((exact Want.none_ rfl)))|(apply xF zI;exact rfl;exact rfl)|apply zQ|apply AWp.Q|apply zG|apply AWp.G|apply AWp.X|apply AWp.R|apply zN|apply zL|(apply AWp.F;exact rfl;((exact dF ‹_›)))))
      (((refine zX _ [(0, some 0)] (.cons (zP rfl) .nil) ?_ rfl ?_)) <;> (repeat' (first|exact trivial|exact rfl|apply And.intro|refine oWs rfl rfl rfl ?_ ?_)))
      all_goals exact wV _
end Go.Proofs.YtchpdclknbmdoaaGreatDoor
