/- A stroke's notation, by both programs. No conditions but bounds. -/
import Derived.Test.YtchpdclknbmdoaaDoorTpA
namespace Go.Proofs.YtchpdclknbmdoaaDoor
open Go Go.RowKit
def qP : List UInt8 := [35, 83, 84, 75, 80, 87, 72, 82, 65, 79, 42, 69, 85, 70, 82, 80, 66, 76, 71, 84, 83, 68, 90]
def keysN (s k : Nat) : List Nat := (List.range k).filter fun j => s.testBit j
def keys (s : Nat) : List Nat := keysN s 23
theorem keysN_succ (s k : Nat) : keysN s (k + 1) = keysN s k ++ if s.testBit k then [k] else [] := by
  rw [keysN, List.range_succ, List.filter_append]
  cases h : s.testBit k <;> simp [h, keysN]
theorem vI (s k : Nat) : (keysN s k).length ≤ k := Nat.le_trans (List.length_filter_le _ _) (by rw [List.length_range]; exact Nat.le_refl _)
theorem keys_lt {s j k : Nat} (h : (keys s)[j]? = some k) : k < 23 := by
  have := List.mem_of_getElem? h
  rw [keys, keysN, List.mem_filter, List.mem_range] at this
  exact this.1
theorem keys_asc {s i j a b : Nat} (hij : i < j) (ha : (keys s)[i]? = some a) (hb : (keys s)[j]? = some b) : a < b := by
  have hs : (keys s).Pairwise (· < ·) := List.Pairwise.filter _ List.pairwise_lt_range
  obtain ⟨h1, h2⟩ := List.getElem?_eq_some_iff.1 ha
  obtain ⟨h3, h4⟩ := List.getElem?_eq_some_iff.1 hb
  have := List.pairwise_iff_getElem.1 hs i j h1 h3 hij
  rw [h2, h4] at this
  exact this
def midB (k : Nat) : Bool := decide (8 ≤ k ∧ k ≤ 12)
def wN (k : Nat) : Bool := decide (13 ≤ k)
def qG (s : Nat) : Bool := (keys s).any midB
theorem mid_at {s j k : Nat} (h : (keys s)[j]? = some k) (hk : 13 ≤ k) : ((keys s).take j).any midB = qG s := by
  rw [qG, Bool.eq_iff_iff, List.any_eq_true, List.any_eq_true]
  constructor
  · rintro ⟨x, hx, hm⟩
    exact ⟨x, List.mem_of_mem_take hx, hm⟩
  · rintro ⟨x, hx, hm⟩
    obtain ⟨i, hi⟩ := List.getElem?_of_mem hx
    simp only [midB, decide_eq_true_eq] at hm
    have hij : i < j := by
      apply Decidable.byContradiction
      intro hn
      rcases Nat.eq_or_lt_of_le (Nat.le_of_not_lt hn) with e | e
      · subst e; rw [h] at hi; cases hi; omega
      · have := keys_asc e h hi; omega
    refine ⟨x, ?_, by simp only [midB, decide_eq_true_eq]; exact hm⟩
    exact List.mem_of_getElem? (i := i) (by rw [List.getElem?_take, if_pos hij]; exact hi)
def vA (k : Nat) : List UInt8 := (qP.drop k).take (k + 1 - k)
def fmK (s : Nat) : Nat → List UInt8
  | 0 => []
  | j + 1 => match (keys s)[j]? with
    | some k => fmK s j ++ (if 13 ≤ k ∧ qG s = false ∧ ((keys s).take j).any wN = false then [45] else []) ++ vA k
    | none => fmK s j
def fmt (s : Nat) : List UInt8 := fmK s (keys s).length
theorem fmK_succ {s j k : Nat} (h : (keys s)[j]? = some k) : fmK s (j + 1) = fmK s j ++ (if 13 ≤ k ∧ qG s = false ∧ ((keys s).take j).any wN = false then [45] else []) ++ vA k := by
  rw [fmK, h]
theorem labN_len {k : Nat} (h : k < 23) : (vA k).length = 1 := by
  have all : ∀ k : Fin 23, (vA k.1).length = 1 := by decide
  exact all ⟨k, h⟩
theorem fmK_len (s : Nat) : ∀ j, (fmK s j).length ≤ 2 * j
  | 0 => Nat.le_refl _
  | j + 1 => by
    have ih := fmK_len s j
    cases h : (keys s)[j]? with
    | none => rw [fmK, h]; dsimp only; omega
    | some k =>
      have := labN_len (keys_lt h)
      rw [fmK_succ h, List.length_append, List.length_append]
      split <;> simp only [List.length_cons, List.length_nil] <;> omega
theorem qH (s : Nat) : (fmt s).length ≤ 46 := by
  have h1 := fmK_len s (keys s).length
  have h2 := vI s 23
  rw [fmt, keys] at *
  omega
def nEl (l : List Nat) : List (List Cell) := l.map fun n : Nat => [int (n : Int)]
theorem x6 (l : List Nat) : ∀ x ∈ nEl l, ∀ c ∈ x, Imm c := by
  intro x hx c hc
  obtain ⟨p, _, rfl⟩ := List.mem_map.1 hx
  simp only [List.mem_singleton] at hc
  subst hc
  exact Imm.v _
theorem nEl_sc (l : List Nat) : AllSc (nEl l) := by
  intro x hx c hc
  obtain ⟨p, _, rfl⟩ := List.mem_map.1 hx
  simp only [List.mem_singleton] at hc
  subst hc
  exact ⟨Imm.v _, Flat.v _⟩
theorem nEl_at {l : List Nat} {k n : Nat} (h : l[k]? = some n) : (nEl l)[k]? = some [int (n : Int)] := by rw [nEl, List.getElem?_map, h]; rfl
theorem vW (l : List Nat) (y : Nat) : nEl l ++ [[int (y : Int)]] = nEl (l ++ [y]) := by rw [nEl, nEl, List.map_append]; rfl
theorem vF (l : List Nat) : (nEl l).length = l.length := List.length_map _
theorem l2Keys_pf (s : Nat) (hs : s < 8388608) : PF Tryd.prog 122 [.c (int s)] [⟨3, 1, nEl (keys s)⟩] (.c (.ref 0 0 (keys s).length)) := by
  refine PF.enter (xM _) Tryd.func122 rfl (by kernel_rfl) _ _ rfl rfl rfl (fun w0 mu I0 β0 gi dis => ?_)
  (repeat' (first|(apply xW;(first|exact Want.none_ rfl|(refine yA rfl rfl rfl rfl ?_;(first|assumption|exact dT ‹_›|exact dF ‹_›|exact rfl))))|(apply xF zH;exact rfl;exact rfl)|((first|(apply z6;exact rfl;exact rfl)|apply z7|apply zQ|(apply yB;exact rfl;exact rfl)|apply yC)<;>(first|exact zH|exact Nat.zero_add _|exact rfl|refine yN ?_|assumption|omega|exact ⟨rfl⟩|exact ⟨rfl,_,_,rfl,rfl⟩|exact lb rfl|(refine Bd.mk ?_;first|assumption|omega|(focus (simp;done))|(simp;omega)|decide)|exact yO rfl|exact xE ‹_›|(focus (simp;done))|(simp;omega)|(simp only [lA,lB,lC,lD,lE];omega)|exact yK rfl (by first|rfl|(simp;done)|(simp only [lA,lB,lC,lD,lE];omega))|exact yJ rfl (by first|assumption|omega|(simp only [lA,lB,lC,lD,lE];omega))))|apply zS|apply AWp.Q|apply zG|apply AWp.G|apply AWp.B|apply AWp.J|apply AWp.X|apply AWp.R|apply zO|apply zJ|apply zI|apply zL|apply zM|(refine zK rfl ?_)|(apply AWp.T;exact rfl;(first|assumption|exact dT ‹_›|exact dF ‹_›|exact rfl))|(apply AWp.F;exact rfl;(first|assumption|exact dT ‹_›|exact dF ‹_›|exact rfl))|((first|refine AWp.C rfl ?_ ?_|refine AWp.O _ rfl ?_ ?_)<;>intro hp<;>(try (exfalso;omega)))))
  refine AWp.U (σ := Nat) (fun k => ⟨[(0, .c (int s)), (3, .c (.ref 0 0 (keysN s k).length)), (4, .c (int k))], [(0, some ⟨3, 1, nEl (keysN s k)⟩)], 1⟩) (fun k => k ≤ 23) (fun k => 23 - k) 0 (Nat.zero_le _) ?_ ?_
  · refine Weak.of [(0, some 0)] rfl ?_ ?_ <;> (repeat' (first|exact trivial|exact rfl|exact Or.inr ⟨rfl,‹_›⟩|exact Or.inl ⟨rfl,trivial⟩|apply And.intro|exact congrArg (Value.int .i64) (by first|omega|(simp;done)|(simp;omega))|(refine yD ?_;first|(focus (simp;done))|omega|(simp only [lA,lB,lC,lD,lE];omega))|(refine ⟨_,rfl,rfl,rfl,OW.one ?_⟩)|(refine ⟨_,rfl,rfl,rfl,OW.same ?_ ?_⟩)|refine vwB ?_|refine vwS ?_|refine vwI ?_|refine fwB ?_|refine fwS ?_|refine fwI ?_|(refine aIm ?_;first|exact AllSc.nil|assumption)))
    all_goals first | exact x6 _ | skip
  · intro k hk
    have hl := vI s k
    have hL := vF (keysN s k)
    have hdl := Nat.div_le_self s (2 ^ k)
    by_cases hlt : k < 23
    · have hlt' : (k : Int) < 23 := by omega
      have hw : IntKind.u64.wrap (k : Int) = (k : Int) := by
        show (k : Int) % 18446744073709551616 = k
        omega
      have hb := div_pow_bit s k
      have hsu := keysN_succ s k
      cases ht : s.testBit k with
      | true =>
        have hq : ((s / 2 ^ k &&& 1 : Nat) : Int) = 1 := by rw [hb.2 ht]; rfl
        rw [ht, if_pos rfl] at hsu
        (repeat' (first|(apply xW;(first|exact Want.none_ rfl|(refine yA rfl rfl rfl rfl ?_;(first|assumption|exact dT ‹_›|exact dF ‹_›|exact rfl))))|(apply xF zH;exact rfl;exact rfl)|((first|(apply z6;exact rfl;exact rfl)|apply z7|apply zQ|(apply yB;exact rfl;exact rfl)|apply yC)<;>(first|exact zH|exact Nat.zero_add _|exact rfl|refine yN ?_|assumption|omega|exact ⟨rfl⟩|exact ⟨rfl,_,_,rfl,rfl⟩|exact lb rfl|(refine Bd.mk ?_;first|assumption|omega|(focus (simp;done))|(simp;omega)|decide)|exact yO rfl|exact xE ‹_›|(focus (simp;done))|(simp;omega)|(simp only [lA,lB,lC,lD,lE];omega)|exact yK rfl (by first|rfl|(simp;done)|(simp only [lA,lB,lC,lD,lE];omega))|exact yJ rfl (by first|assumption|omega|(simp only [lA,lB,lC,lD,lE];omega))))|apply zS|apply AWp.Q|apply zG|apply AWp.G|apply AWp.B|apply AWp.J|apply AWp.X|apply AWp.R|apply zO|apply zJ|apply zI|apply zL|apply zM|(refine zK rfl ?_)|(apply AWp.T;exact rfl;(first|assumption|exact dT ‹_›|exact dF ‹_›|exact rfl))|(apply AWp.F;exact rfl;(first|assumption|exact dT ‹_›|exact dF ‹_›|exact rfl))|((first|(apply vP;exact rfl;exact rfl;exact rfl)|(apply vZ;exact rfl;exact rfl;exact rfl)|(apply vO;exact rfl;exact rfl;exact rfl)|(apply wS;exact rfl;exact rfl;exact rfl)|(apply vN;exact rfl;exact rfl;exact rfl;(first|assumption|exact rfl))|(apply vR;exact rfl;exact rfl;exact rfl;(first|assumption|exact rfl)))<;>(first|exact zH|exact Nat.zero_add _|exact rfl|refine yN ?_|assumption|omega|exact ⟨rfl⟩|exact ⟨rfl,_,_,rfl,rfl⟩|exact lb rfl|(refine Bd.mk ?_;first|assumption|omega|(focus (simp;done))|(simp;omega)|decide)|exact yO rfl|exact xE ‹_›|(focus (simp;done))|(simp;omega)|(simp only [lA,lB,lC,lD,lE];omega)|exact yK rfl (by first|rfl|(simp;done)|(simp only [lA,lB,lC,lD,lE];omega))|exact yJ rfl (by first|assumption|omega|(simp only [lA,lB,lC,lD,lE];omega))))|((first|refine AWp.C rfl ?_ ?_|refine AWp.O _ rfl ?_ ?_)<;>intro hp<;>(try (exfalso;omega)))))
        refine ⟨k + 1, by omega, by omega, ?_⟩
        rw [hsu, ← vW]
        refine Weak.of [(0, some 2)] rfl ?_ ?_ <;> (repeat' (first|exact trivial|exact rfl|exact Or.inr ⟨rfl,‹_›⟩|exact Or.inl ⟨rfl,trivial⟩|apply And.intro|exact congrArg (Value.int .i64) (by first|omega|(simp;done)|(simp;omega))|(refine yD ?_;first|(focus (simp;done))|omega|(simp only [lA,lB,lC,lD,lE];omega))|(refine ⟨_,rfl,rfl,rfl,OW.one ?_⟩)|(refine ⟨_,rfl,rfl,rfl,OW.same ?_ ?_⟩)|refine vwB ?_|refine vwS ?_|refine vwI ?_|refine fwB ?_|refine fwS ?_|refine fwI ?_|(refine aIm ?_;first|exact AllSc.nil|assumption)))
        all_goals first | (rw [vW]; exact x6 _) | (rw [hL, List.length_append]; rfl) | skip
      | false =>
        have hq : ¬ ((s / 2 ^ k &&& 1 : Nat) : Int) = 1 := fun e => by
          have : s / 2 ^ k &&& 1 = 1 := by omega
          rw [hb.1 this] at ht; cases ht
        rw [ht, if_neg (by simp), List.append_nil] at hsu
        (repeat' (first|(apply xW;(first|exact Want.none_ rfl|(refine yA rfl rfl rfl rfl ?_;(first|assumption|exact dT ‹_›|exact dF ‹_›|exact rfl))))|(apply xF zH;exact rfl;exact rfl)|((first|(apply z6;exact rfl;exact rfl)|apply z7|apply zQ|(apply yB;exact rfl;exact rfl)|apply yC)<;>(first|exact zH|exact Nat.zero_add _|exact rfl|refine yN ?_|assumption|omega|exact ⟨rfl⟩|exact ⟨rfl,_,_,rfl,rfl⟩|exact lb rfl|(refine Bd.mk ?_;first|assumption|omega|(focus (simp;done))|(simp;omega)|decide)|exact yO rfl|exact xE ‹_›|(focus (simp;done))|(simp;omega)|(simp only [lA,lB,lC,lD,lE];omega)|exact yK rfl (by first|rfl|(simp;done)|(simp only [lA,lB,lC,lD,lE];omega))|exact yJ rfl (by first|assumption|omega|(simp only [lA,lB,lC,lD,lE];omega))))|apply zS|apply AWp.Q|apply zG|apply AWp.G|apply AWp.B|apply AWp.J|apply AWp.X|apply AWp.R|apply zO|apply zJ|apply zI|apply zL|apply zM|(refine zK rfl ?_)|(apply AWp.T;exact rfl;(first|assumption|exact dT ‹_›|exact dF ‹_›|exact rfl))|(apply AWp.F;exact rfl;(first|assumption|exact dT ‹_›|exact dF ‹_›|exact rfl))|((first|(apply vP;exact rfl;exact rfl;exact rfl)|(apply vZ;exact rfl;exact rfl;exact rfl)|(apply vO;exact rfl;exact rfl;exact rfl)|(apply wS;exact rfl;exact rfl;exact rfl)|(apply vN;exact rfl;exact rfl;exact rfl;(first|assumption|exact rfl))|(apply vR;exact rfl;exact rfl;exact rfl;(first|assumption|exact rfl)))<;>(first|exact zH|exact Nat.zero_add _|exact rfl|refine yN ?_|assumption|omega|exact ⟨rfl⟩|exact ⟨rfl,_,_,rfl,rfl⟩|exact lb rfl|(refine Bd.mk ?_;first|assumption|omega|(focus (simp;done))|(simp;omega)|decide)|exact yO rfl|exact xE ‹_›|(focus (simp;done))|(simp;omega)|(simp only [lA,lB,lC,lD,lE];omega)|exact yK rfl (by first|rfl|(simp;done)|(simp only [lA,lB,lC,lD,lE];omega))|exact yJ rfl (by first|assumption|omega|(simp only [lA,lB,lC,lD,lE];omega))))|((first|refine AWp.C rfl ?_ ?_|refine AWp.O _ rfl ?_ ?_)<;>intro hp<;>(try (exfalso;omega)))))
        refine ⟨k + 1, by omega, by omega, ?_⟩
        rw [hsu]
        refine Weak.of [(0, some 0)] rfl ?_ ?_ <;> (repeat' (first|exact trivial|exact rfl|exact Or.inr ⟨rfl,‹_›⟩|exact Or.inl ⟨rfl,trivial⟩|apply And.intro|exact congrArg (Value.int .i64) (by first|omega|(simp;done)|(simp;omega))|(refine yD ?_;first|(focus (simp;done))|omega|(simp only [lA,lB,lC,lD,lE];omega))|(refine ⟨_,rfl,rfl,rfl,OW.one ?_⟩)|(refine ⟨_,rfl,rfl,rfl,OW.same ?_ ?_⟩)|refine vwB ?_|refine vwS ?_|refine vwI ?_|refine fwB ?_|refine fwS ?_|refine fwI ?_|(refine aIm ?_;first|exact AllSc.nil|assumption)))
        all_goals exact x6 _
    · have hlt' : ¬ (k : Int) < 23 := by omega
      obtain rfl : k = 23 := by omega
      (repeat' (first|(apply xW;(first|exact Want.none_ rfl|(refine yA rfl rfl rfl rfl ?_;(first|assumption|exact dT ‹_›|exact dF ‹_›|exact rfl))))|(apply xF zH;exact rfl;exact rfl)|((first|(apply z6;exact rfl;exact rfl)|apply z7|apply zQ|(apply yB;exact rfl;exact rfl)|apply yC)<;>(first|exact zH|exact Nat.zero_add _|exact rfl|refine yN ?_|assumption|omega|exact ⟨rfl⟩|exact ⟨rfl,_,_,rfl,rfl⟩|exact lb rfl|(refine Bd.mk ?_;first|assumption|omega|(focus (simp;done))|(simp;omega)|decide)|exact yO rfl|exact xE ‹_›|(focus (simp;done))|(simp;omega)|(simp only [lA,lB,lC,lD,lE];omega)|exact yK rfl (by first|rfl|(simp;done)|(simp only [lA,lB,lC,lD,lE];omega))|exact yJ rfl (by first|assumption|omega|(simp only [lA,lB,lC,lD,lE];omega))))|apply zS|apply AWp.Q|apply zG|apply AWp.G|apply AWp.B|apply AWp.J|apply AWp.X|apply AWp.R|apply zO|apply zJ|apply zI|apply zL|apply zM|(refine zK rfl ?_)|(apply AWp.T;exact rfl;(first|assumption|exact dT ‹_›|exact dF ‹_›|exact rfl))|(apply AWp.F;exact rfl;(first|assumption|exact dT ‹_›|exact dF ‹_›|exact rfl))|((first|refine AWp.C rfl ?_ ?_|refine AWp.O _ rfl ?_ ?_)<;>intro hp<;>(try (exfalso;omega)))))
      ((first|refine yE _ [(0, some 0)] (.cons (zR rfl) .nil) ?_ rfl ?_|refine yF _ [(0, some 0)] (.cons (zR rfl) .nil) ?_ rfl ?_) <;> (repeat' (first|exact trivial|exact rfl|exact Or.inr ⟨rfl,‹_›⟩|exact Or.inl ⟨rfl,trivial⟩|apply And.intro|exact congrArg (Value.int .i64) (by first|omega|(simp;done)|(simp;omega))|(refine yD ?_;first|(focus (simp;done))|omega|(simp only [lA,lB,lC,lD,lE];omega))|(refine ⟨_,rfl,rfl,rfl,OW.one ?_⟩)|(refine ⟨_,rfl,rfl,rfl,OW.same ?_ ?_⟩)|refine vwB ?_|refine vwS ?_|refine vwI ?_|refine fwB ?_|refine fwS ?_|refine fwI ?_|(refine aIm ?_;first|exact AllSc.nil|assumption))))
      all_goals exact x6 _
theorem keysOf_pf (s : Nat) (hs : s < 8388608) : PF Tryd.prog 132 [.c (int s)] [⟨3, 1, nEl (keys s)⟩] (.c (.ref 0 0 (keys s).length)) := by
  refine PF.enter (xM _) Tryd.func132 rfl (by kernel_rfl) _ _ rfl rfl rfl (fun w0 mu I0 β0 gi dis => ?_)
  (repeat' (first|(apply xW;(first|exact Want.none_ rfl|(refine yA rfl rfl rfl rfl ?_;(first|assumption|exact dT ‹_›|exact dF ‹_›|exact rfl))))|(apply xF zH;exact rfl;exact rfl)|((first|(apply z6;exact rfl;exact rfl)|apply z7|apply zQ|(apply yB;exact rfl;exact rfl)|apply yC)<;>(first|exact zH|exact Nat.zero_add _|exact rfl|refine yN ?_|assumption|omega|exact ⟨rfl⟩|exact ⟨rfl,_,_,rfl,rfl⟩|exact lb rfl|(refine Bd.mk ?_;first|assumption|omega|(focus (simp;done))|(simp;omega)|decide)|exact yO rfl|exact xE ‹_›|(focus (simp;done))|(simp;omega)|(simp only [lA,lB,lC,lD,lE];omega)|exact yK rfl (by first|rfl|(simp;done)|(simp only [lA,lB,lC,lD,lE];omega))|exact yJ rfl (by first|assumption|omega|(simp only [lA,lB,lC,lD,lE];omega))))|apply zS|apply AWp.Q|apply zG|apply AWp.G|apply AWp.B|apply AWp.J|apply AWp.X|apply AWp.R|apply zO|apply zJ|apply zI|apply zL|apply zM|(refine zK rfl ?_)|(apply AWp.T;exact rfl;(first|assumption|exact dT ‹_›|exact dF ‹_›|exact rfl))|(apply AWp.F;exact rfl;(first|assumption|exact dT ‹_›|exact dF ‹_›|exact rfl))|((first|refine AWp.C rfl ?_ ?_|refine AWp.O _ rfl ?_ ?_)<;>intro hp<;>(try (exfalso;omega)))))
  refine AWp.U (σ := Nat) (fun k => ⟨[(0, .c (int s)), (3, .c (.ref 0 0 (keysN s k).length)), (6, .c (int k))], [(0, some ⟨3, 1, nEl (keysN s k)⟩)], 1⟩) (fun k => k ≤ 23) (fun k => 23 - k) 0 (Nat.zero_le _) ?_ ?_
  · refine Weak.of [(0, some 0)] rfl ?_ ?_ <;> (repeat' (first|exact trivial|exact rfl|exact Or.inr ⟨rfl,‹_›⟩|exact Or.inl ⟨rfl,trivial⟩|apply And.intro|exact congrArg (Value.int .i64) (by first|omega|(simp;done)|(simp;omega))|(refine yD ?_;first|(focus (simp;done))|omega|(simp only [lA,lB,lC,lD,lE];omega))|(refine ⟨_,rfl,rfl,rfl,OW.one ?_⟩)|(refine ⟨_,rfl,rfl,rfl,OW.same ?_ ?_⟩)|refine vwB ?_|refine vwS ?_|refine vwI ?_|refine fwB ?_|refine fwS ?_|refine fwI ?_|(refine aIm ?_;first|exact AllSc.nil|assumption)))
    all_goals first | exact x6 _ | skip
  · intro k hk
    have hl := vI s k
    have hL := vF (keysN s k)
    have hdl := Nat.div_le_self s (2 ^ k)
    by_cases hlt : k < 23
    · have hlt' : (k : Int) < 23 := by omega
      have hb := div_pow_bit s k
      have hsu := keysN_succ s k
      cases ht : s.testBit k with
      | true =>
        have hq : ((s / 2 ^ k &&& 1 : Nat) : Int) = 1 := by rw [hb.2 ht]; rfl
        rw [ht, if_pos rfl] at hsu
        (repeat' (first|(apply xW;(first|exact Want.none_ rfl|(refine yA rfl rfl rfl rfl ?_;(first|assumption|exact dT ‹_›|exact dF ‹_›|exact rfl))))|(apply xF zH;exact rfl;exact rfl)|((first|(apply z6;exact rfl;exact rfl)|apply z7|apply zQ|(apply yB;exact rfl;exact rfl)|apply yC)<;>(first|exact zH|exact Nat.zero_add _|exact rfl|refine yN ?_|assumption|omega|exact ⟨rfl⟩|exact ⟨rfl,_,_,rfl,rfl⟩|exact lb rfl|(refine Bd.mk ?_;first|assumption|omega|(focus (simp;done))|(simp;omega)|decide)|exact yO rfl|exact xE ‹_›|(focus (simp;done))|(simp;omega)|(simp only [lA,lB,lC,lD,lE];omega)|exact yK rfl (by first|rfl|(simp;done)|(simp only [lA,lB,lC,lD,lE];omega))|exact yJ rfl (by first|assumption|omega|(simp only [lA,lB,lC,lD,lE];omega))))|apply zS|apply AWp.Q|apply zG|apply AWp.G|apply AWp.B|apply AWp.J|apply AWp.X|apply AWp.R|apply zO|apply zJ|apply zI|apply zL|apply zM|(refine zK rfl ?_)|(apply AWp.T;exact rfl;(first|assumption|exact dT ‹_›|exact dF ‹_›|exact rfl))|(apply AWp.F;exact rfl;(first|assumption|exact dT ‹_›|exact dF ‹_›|exact rfl))|((first|(apply vP;exact rfl;exact rfl;exact rfl)|(apply vZ;exact rfl;exact rfl;exact rfl)|(apply vO;exact rfl;exact rfl;exact rfl)|(apply wS;exact rfl;exact rfl;exact rfl)|(apply vN;exact rfl;exact rfl;exact rfl;(first|assumption|exact rfl))|(apply vR;exact rfl;exact rfl;exact rfl;(first|assumption|exact rfl)))<;>(first|exact zH|exact Nat.zero_add _|exact rfl|refine yN ?_|assumption|omega|exact ⟨rfl⟩|exact ⟨rfl,_,_,rfl,rfl⟩|exact lb rfl|(refine Bd.mk ?_;first|assumption|omega|(focus (simp;done))|(simp;omega)|decide)|exact yO rfl|exact xE ‹_›|(focus (simp;done))|(simp;omega)|(simp only [lA,lB,lC,lD,lE];omega)|exact yK rfl (by first|rfl|(simp;done)|(simp only [lA,lB,lC,lD,lE];omega))|exact yJ rfl (by first|assumption|omega|(simp only [lA,lB,lC,lD,lE];omega))))|((first|refine AWp.C rfl ?_ ?_|refine AWp.O _ rfl ?_ ?_)<;>intro hp<;>(try (exfalso;omega)))))
        refine ⟨k + 1, by omega, by omega, ?_⟩
        rw [hsu, ← vW]
        refine Weak.of [(0, some 2)] rfl ?_ ?_ <;> (repeat' (first|exact trivial|exact rfl|exact Or.inr ⟨rfl,‹_›⟩|exact Or.inl ⟨rfl,trivial⟩|apply And.intro|exact congrArg (Value.int .i64) (by first|omega|(simp;done)|(simp;omega))|(refine yD ?_;first|(focus (simp;done))|omega|(simp only [lA,lB,lC,lD,lE];omega))|(refine ⟨_,rfl,rfl,rfl,OW.one ?_⟩)|(refine ⟨_,rfl,rfl,rfl,OW.same ?_ ?_⟩)|refine vwB ?_|refine vwS ?_|refine vwI ?_|refine fwB ?_|refine fwS ?_|refine fwI ?_|(refine aIm ?_;first|exact AllSc.nil|assumption)))
        all_goals first | (rw [vW]; exact x6 _) | (rw [hL, List.length_append]; rfl) | skip
      | false =>
        have hq : ¬ ((s / 2 ^ k &&& 1 : Nat) : Int) = 1 := fun e => by
          have : s / 2 ^ k &&& 1 = 1 := by omega
          rw [hb.1 this] at ht; cases ht
        rw [ht, if_neg (by simp), List.append_nil] at hsu
        (repeat' (first|(apply xW;(first|exact Want.none_ rfl|(refine yA rfl rfl rfl rfl ?_;(first|assumption|exact dT ‹_›|exact dF ‹_›|exact rfl))))|(apply xF zH;exact rfl;exact rfl)|((first|(apply z6;exact rfl;exact rfl)|apply z7|apply zQ|(apply yB;exact rfl;exact rfl)|apply yC)<;>(first|exact zH|exact Nat.zero_add _|exact rfl|refine yN ?_|assumption|omega|exact ⟨rfl⟩|exact ⟨rfl,_,_,rfl,rfl⟩|exact lb rfl|(refine Bd.mk ?_;first|assumption|omega|(focus (simp;done))|(simp;omega)|decide)|exact yO rfl|exact xE ‹_›|(focus (simp;done))|(simp;omega)|(simp only [lA,lB,lC,lD,lE];omega)|exact yK rfl (by first|rfl|(simp;done)|(simp only [lA,lB,lC,lD,lE];omega))|exact yJ rfl (by first|assumption|omega|(simp only [lA,lB,lC,lD,lE];omega))))|apply zS|apply AWp.Q|apply zG|apply AWp.G|apply AWp.B|apply AWp.J|apply AWp.X|apply AWp.R|apply zO|apply zJ|apply zI|apply zL|apply zM|(refine zK rfl ?_)|(apply AWp.T;exact rfl;(first|assumption|exact dT ‹_›|exact dF ‹_›|exact rfl))|(apply AWp.F;exact rfl;(first|assumption|exact dT ‹_›|exact dF ‹_›|exact rfl))|((first|(apply vP;exact rfl;exact rfl;exact rfl)|(apply vZ;exact rfl;exact rfl;exact rfl)|(apply vO;exact rfl;exact rfl;exact rfl)|(apply wS;exact rfl;exact rfl;exact rfl)|(apply vN;exact rfl;exact rfl;exact rfl;(first|assumption|exact rfl))|(apply vR;exact rfl;exact rfl;exact rfl;(first|assumption|exact rfl)))<;>(first|exact zH|exact Nat.zero_add _|exact rfl|refine yN ?_|assumption|omega|exact ⟨rfl⟩|exact ⟨rfl,_,_,rfl,rfl⟩|exact lb rfl|(refine Bd.mk ?_;first|assumption|omega|(focus (simp;done))|(simp;omega)|decide)|exact yO rfl|exact xE ‹_›|(focus (simp;done))|(simp;omega)|(simp only [lA,lB,lC,lD,lE];omega)|exact yK rfl (by first|rfl|(simp;done)|(simp only [lA,lB,lC,lD,lE];omega))|exact yJ rfl (by first|assumption|omega|(simp only [lA,lB,lC,lD,lE];omega))))|((first|refine AWp.C rfl ?_ ?_|refine AWp.O _ rfl ?_ ?_)<;>intro hp<;>(try (exfalso;omega)))))
        refine ⟨k + 1, by omega, by omega, ?_⟩
        rw [hsu]
        refine Weak.of [(0, some 0)] rfl ?_ ?_ <;> (repeat' (first|exact trivial|exact rfl|exact Or.inr ⟨rfl,‹_›⟩|exact Or.inl ⟨rfl,trivial⟩|apply And.intro|exact congrArg (Value.int .i64) (by first|omega|(simp;done)|(simp;omega))|(refine yD ?_;first|(focus (simp;done))|omega|(simp only [lA,lB,lC,lD,lE];omega))|(refine ⟨_,rfl,rfl,rfl,OW.one ?_⟩)|(refine ⟨_,rfl,rfl,rfl,OW.same ?_ ?_⟩)|refine vwB ?_|refine vwS ?_|refine vwI ?_|refine fwB ?_|refine fwS ?_|refine fwI ?_|(refine aIm ?_;first|exact AllSc.nil|assumption)))
        all_goals exact x6 _
    · have hlt' : ¬ (k : Int) < 23 := by omega
      obtain rfl : k = 23 := by omega
      (repeat' (first|(apply xW;(first|exact Want.none_ rfl|(refine yA rfl rfl rfl rfl ?_;(first|assumption|exact dT ‹_›|exact dF ‹_›|exact rfl))))|(apply xF zH;exact rfl;exact rfl)|((first|(apply z6;exact rfl;exact rfl)|apply z7|apply zQ|(apply yB;exact rfl;exact rfl)|apply yC)<;>(first|exact zH|exact Nat.zero_add _|exact rfl|refine yN ?_|assumption|omega|exact ⟨rfl⟩|exact ⟨rfl,_,_,rfl,rfl⟩|exact lb rfl|(refine Bd.mk ?_;first|assumption|omega|(focus (simp;done))|(simp;omega)|decide)|exact yO rfl|exact xE ‹_›|(focus (simp;done))|(simp;omega)|(simp only [lA,lB,lC,lD,lE];omega)|exact yK rfl (by first|rfl|(simp;done)|(simp only [lA,lB,lC,lD,lE];omega))|exact yJ rfl (by first|assumption|omega|(simp only [lA,lB,lC,lD,lE];omega))))|apply zS|apply AWp.Q|apply zG|apply AWp.G|apply AWp.B|apply AWp.J|apply AWp.X|apply AWp.R|apply zO|apply zJ|apply zI|apply zL|apply zM|(refine zK rfl ?_)|(apply AWp.T;exact rfl;(first|assumption|exact dT ‹_›|exact dF ‹_›|exact rfl))|(apply AWp.F;exact rfl;(first|assumption|exact dT ‹_›|exact dF ‹_›|exact rfl))|((first|refine AWp.C rfl ?_ ?_|refine AWp.O _ rfl ?_ ?_)<;>intro hp<;>(try (exfalso;omega)))))
      ((first|refine yE _ [(0, some 0)] (.cons (zR rfl) .nil) ?_ rfl ?_|refine yF _ [(0, some 0)] (.cons (zR rfl) .nil) ?_ rfl ?_) <;> (repeat' (first|exact trivial|exact rfl|exact Or.inr ⟨rfl,‹_›⟩|exact Or.inl ⟨rfl,trivial⟩|apply And.intro|exact congrArg (Value.int .i64) (by first|omega|(simp;done)|(simp;omega))|(refine yD ?_;first|(focus (simp;done))|omega|(simp only [lA,lB,lC,lD,lE];omega))|(refine ⟨_,rfl,rfl,rfl,OW.one ?_⟩)|(refine ⟨_,rfl,rfl,rfl,OW.same ?_ ?_⟩)|refine vwB ?_|refine vwS ?_|refine vwI ?_|refine fwB ?_|refine fwS ?_|refine fwI ?_|(refine aIm ?_;first|exact AllSc.nil|assumption))))
      all_goals exact x6 _
theorem l2Format_pf (s : Nat) (hs : s < 8388608) : PF Tryd.prog 86 [.c (int s)] [] (.c (str (fmt s))) := by
  have hsc := nEl_sc (keys s)
  have hL := vF (keys s)
  have hkl := vI s 23
  rw [← keys] at hkl
  have hlab : qP.length = 23 := rfl
  refine PF.enter (xM _) Tryd.func86 rfl (by kernel_rfl) _ _ rfl rfl rfl (fun w0 mu I0 β0 gi dis => ?_)
  (repeat' (first|(apply xW;(first|exact Want.none_ rfl|(refine yA rfl rfl rfl rfl ?_;(first|assumption|exact dT ‹_›|exact dF ‹_›|exact rfl))))|(apply xF zH;exact rfl;exact rfl)|((first|(apply z6;exact rfl;exact rfl)|apply z7|(apply z8;exact rfl;exact rfl)|apply zU|(apply zV;exact rfl;exact rfl;exact zH;exact rfl;exact rfl)|apply zN|(apply y8;exact rfl;exact rfl)|(apply yZ;exact rfl;exact rfl)|apply yX|apply xN)<;>(first|exact zH|exact Nat.zero_add _|exact rfl|refine yN ?_|assumption|omega|exact ⟨rfl⟩|exact ⟨rfl,_,_,rfl,rfl⟩|exact lb rfl|(refine Bd.mk ?_;first|assumption|omega|(focus (simp;done))|(simp;omega)|decide)|(focus (apply oI;exact rfl;exact rfl;assumption))|(focus (refine ⟨rfl,_,_,rfl,?_⟩;omega))|(focus (simp;done))|(simp;omega)|(simp only [lA,lB,lC,lD,lE];omega)))|(apply yW;exact rfl;exact rfl;(first|assumption|exact dT ‹_›|exact dF ‹_›|exact rfl);exact rfl;exact rfl)|(apply yV;(iterate 5 exact rfl);(first|assumption|exact dT ‹_›|exact dF ‹_›|exact rfl))|(apply yL;(iterate 5 exact rfl))|apply zS|apply AWp.Q|apply zG|apply AWp.G|apply AWp.B|apply AWp.J|apply AWp.X|apply AWp.R|apply zO|apply zJ|apply zI|apply zL|apply zM|(refine zK rfl ?_)|(apply AWp.T;exact rfl;(first|assumption|exact dT ‹_›|exact dF ‹_›|exact rfl))|(apply AWp.F;exact rfl;(first|assumption|exact dT ‹_›|exact dF ‹_›|exact rfl))|(apply yH;(iterate 6 exact rfl);(iterate 2 (focus (repeat (first|exact VAs.nil|apply VAs.cons|apply VA.c|apply VA.agg|exact VCs.nil|(apply VCs.same;assumption)|apply VCs.cons|exact VC.imm (Imm.v _)|exact VC.imm (Imm.sl _)|exact VC.imm (Imm.ip _)|exact VC.imm ‹_›|exact VC.nil|(apply zB;exact rfl;exact rfl;(first|exact rfl|(focus (simp;done))|omega|(focus (simp only [lA,lB,lC,lD,lE];omega)));exact rfl;(first|assumption|(refine aIm ?_;assumption)))|(apply zC;exact rfl;exact rfl;(first|assumption|omega|(focus (simp only [lA,lB,lC,lD,lE];omega))|(focus (simp;done))|(focus (simp;omega)));exact rfl;(first|assumption|(refine aIm ?_;assumption)))|assumption))));(first|exact l2Keys_pf s hs);(focus (repeat (first|exact trivial|exact Flat.v _|exact Flat.dead|exact Flat.ref _ _ _|exact Flat.nil|apply And.intro)));(first|apply yS|(apply yR;(focus (repeat (first|exact trivial|apply And.intro|(first|exact AllSc.nil|assumption))))));(first|exact xG _ _|exact xJ _ _ _|exact xK _ _ _ _|exact y3 _ _ _ _ _|exact xH _|exact y5 _ _|exact y4 _ _ _ _|exact yU _ _ _ _ _|exact yT _ _|exact xI _ _ _ _|exact rfl))|((first|refine zT rfl rfl rfl ?_ ?_|refine zX rfl rfl rfl ?_ ?_)<;>intro hp<;>(try (exfalso;omega)))|((first|refine AWp.C rfl ?_ ?_|refine AWp.O _ rfl ?_ ?_)<;>intro hp<;>(try (exfalso;omega)))))
  refine AWp.U (σ := Nat) (fun j => ⟨[(3, .c (str (fmK s j))), (4, .c (.ref 0 0 (keys s).length)), (5, .c (boo (((keys s).take j).any midB))), (6, .c (boo (!qG s && ((keys s).take j).any wN))), (7, .c (int j))], [(0, some ⟨3, 1, nEl (keys s)⟩)], 1⟩) (fun j => j ≤ (keys s).length) (fun j => (keys s).length - j) 0 (Nat.zero_le _) ?_ ?_
  · refine Weak.of [(0, some 0)] rfl ?_ ?_ <;> (repeat' (first|exact trivial|exact rfl|exact Or.inr ⟨rfl,‹_›⟩|exact Or.inl ⟨rfl,trivial⟩|apply And.intro|exact congrArg (Value.int .i64) (by first|omega|(simp;done)|(simp;omega))|(refine yD ?_;first|(focus (simp;done))|omega|(simp only [lA,lB,lC,lD,lE];omega))|(refine ⟨_,rfl,rfl,rfl,OW.one ?_⟩)|(refine ⟨_,rfl,rfl,rfl,OW.same ?_ ?_⟩)|refine vwB ?_|refine vwS ?_|refine vwI ?_|refine fwB ?_|refine fwS ?_|refine fwI ?_|(refine aIm ?_;first|exact AllSc.nil|assumption)))
    all_goals first | exact x6 _ | (simp; done) | skip
  · intro j hj
    have hfl := fmK_len s j
    by_cases hlt : j < (keys s).length
    · obtain ⟨k, hk⟩ := xR hlt
      have hk23 := keys_lt hk
      have hz := nEl_at hk
      have hlt' : (j : Int) < ((keys s).length : Int) := by omega
      have hkz : (k : Int) + 1 = ((k + 1 : Nat) : Int) := by omega
      have hll := labN_len hk23
      have hsu := fmK_succ hk
      have hm1 : ((keys s).take (j + 1)).any midB = (((keys s).take j).any midB || midB k) := wH hk
      have hr1 : ((keys s).take (j + 1)).any wN = (((keys s).take j).any wN || wN k) := wH hk
      have hin := qJ k 8 12
      have hmk : inZ k 8 12 = midB k := by
        rw [inZ, midB, Bool.eq_iff_iff, decide_eq_true_eq, decide_eq_true_eq]; omega
      rw [hmk] at hin
      rw [vA] at hll
      by_cases h13 : 13 ≤ k
      · have h13' : (12 : Int) < (k : Int) := by omega
        have hmf : midB k = false := by rw [midB, decide_eq_false (by omega)]
        have hrt : wN k = true := by rw [wN, decide_eq_true h13]
        have hm0 := mid_at hk h13
        rw [hmf] at hin
        rw [hmf, Bool.or_false] at hm1
        rw [hrt, Bool.or_true] at hr1
        rw [hm0] at hm1 ⊢
        cases hM : qG s with
        | true =>
          rw [hM, if_neg (by simp)] at hsu
          rw [hM] at hm1
          (repeat' (first|(apply xW;(first|exact Want.none_ rfl|(refine yA rfl rfl rfl rfl ?_;(first|assumption|exact dT ‹_›|exact dF ‹_›|exact rfl))))|(apply xF zH;exact rfl;exact rfl)|((first|(apply z6;exact rfl;exact rfl)|apply z7|(apply z8;exact rfl;exact rfl)|apply zU|(apply zV;exact rfl;exact rfl;exact zH;exact rfl;exact rfl)|apply zN|(apply y8;exact rfl;exact rfl)|(apply yZ;exact rfl;exact rfl)|apply yX|apply xN)<;>(first|exact zH|exact Nat.zero_add _|exact rfl|refine yN ?_|assumption|omega|exact ⟨rfl⟩|exact ⟨rfl,_,_,rfl,rfl⟩|exact lb rfl|(refine Bd.mk ?_;first|assumption|omega|(focus (simp;done))|(simp;omega)|decide)|(focus (apply oI;exact rfl;exact rfl;assumption))|(focus (refine ⟨rfl,_,_,rfl,?_⟩;omega))|(focus (simp;done))|(simp;omega)|(simp only [lA,lB,lC,lD,lE];omega)))|(apply yW;exact rfl;exact rfl;(first|assumption|exact dT ‹_›|exact dF ‹_›|exact rfl);exact rfl;exact rfl)|(apply yV;(iterate 5 exact rfl);(first|assumption|exact dT ‹_›|exact dF ‹_›|exact rfl))|(apply yL;(iterate 5 exact rfl))|apply zS|apply AWp.Q|apply zG|apply AWp.G|apply AWp.B|apply AWp.J|apply AWp.X|apply AWp.R|apply zO|apply zJ|apply zI|apply zL|apply zM|(refine zK rfl ?_)|(apply AWp.T;exact rfl;(first|assumption|exact dT ‹_›|exact dF ‹_›|exact rfl))|(apply AWp.F;exact rfl;(first|assumption|exact dT ‹_›|exact dF ‹_›|exact rfl))|(apply yH;(iterate 6 exact rfl);(iterate 2 (focus (repeat (first|exact VAs.nil|apply VAs.cons|apply VA.c|apply VA.agg|exact VCs.nil|(apply VCs.same;assumption)|apply VCs.cons|exact VC.imm (Imm.v _)|exact VC.imm (Imm.sl _)|exact VC.imm (Imm.ip _)|exact VC.imm ‹_›|exact VC.nil|(apply zB;exact rfl;exact rfl;(first|exact rfl|(focus (simp;done))|omega|(focus (simp only [lA,lB,lC,lD,lE];omega)));exact rfl;(first|assumption|(refine aIm ?_;assumption)))|(apply zC;exact rfl;exact rfl;(first|assumption|omega|(focus (simp only [lA,lB,lC,lD,lE];omega))|(focus (simp;done))|(focus (simp;omega)));exact rfl;(first|assumption|(refine aIm ?_;assumption)))|assumption))));(first|exact hin);(focus (repeat (first|exact trivial|exact Flat.v _|exact Flat.dead|exact Flat.ref _ _ _|exact Flat.nil|apply And.intro)));(first|apply yS|(apply yR;(focus (repeat (first|exact trivial|apply And.intro|(first|exact AllSc.nil|assumption))))));(first|exact xG _ _|exact xJ _ _ _|exact xK _ _ _ _|exact y3 _ _ _ _ _|exact xH _|exact y5 _ _|exact y4 _ _ _ _|exact yU _ _ _ _ _|exact yT _ _|exact xI _ _ _ _|exact rfl))|((first|refine zT rfl rfl rfl ?_ ?_|refine zX rfl rfl rfl ?_ ?_)<;>intro hp<;>(try (exfalso;omega)))|((first|refine AWp.C rfl ?_ ?_|refine AWp.O _ rfl ?_ ?_)<;>intro hp<;>(try (exfalso;omega)))))
          refine ⟨j + 1, by omega, by omega, ?_⟩
          rw [hsu, hm1, hr1]
          refine Weak.of [(0, some 0)] rfl ?_ ?_ <;> (repeat' (first|exact trivial|exact rfl|exact Or.inr ⟨rfl,‹_›⟩|exact Or.inl ⟨rfl,trivial⟩|apply And.intro|exact congrArg (Value.int .i64) (by first|omega|(simp;done)|(simp;omega))|(refine yD ?_;first|(focus (simp;done))|omega|(simp only [lA,lB,lC,lD,lE];omega))|(refine ⟨_,rfl,rfl,rfl,OW.one ?_⟩)|(refine ⟨_,rfl,rfl,rfl,OW.same ?_ ?_⟩)|refine vwB ?_|refine vwS ?_|refine vwI ?_|refine fwB ?_|refine fwS ?_|refine fwI ?_|(refine aIm ?_;first|exact AllSc.nil|assumption)))
          all_goals first | exact x6 _ | (simp [vA, hM]; done) | (simp [vA, hM]; rfl)
        | false =>
          rw [hM] at hm1
          cases hR : ((keys s).take j).any wN with
          | true =>
            rw [hR, hM, if_neg (by simp)] at hsu
            (repeat' (first|(apply xW;(first|exact Want.none_ rfl|(refine yA rfl rfl rfl rfl ?_;(first|assumption|exact dT ‹_›|exact dF ‹_›|exact rfl))))|(apply xF zH;exact rfl;exact rfl)|((first|(apply z6;exact rfl;exact rfl)|apply z7|(apply z8;exact rfl;exact rfl)|apply zU|(apply zV;exact rfl;exact rfl;exact zH;exact rfl;exact rfl)|apply zN|(apply y8;exact rfl;exact rfl)|(apply yZ;exact rfl;exact rfl)|apply yX|apply xN)<;>(first|exact zH|exact Nat.zero_add _|exact rfl|refine yN ?_|assumption|omega|exact ⟨rfl⟩|exact ⟨rfl,_,_,rfl,rfl⟩|exact lb rfl|(refine Bd.mk ?_;first|assumption|omega|(focus (simp;done))|(simp;omega)|decide)|(focus (apply oI;exact rfl;exact rfl;assumption))|(focus (refine ⟨rfl,_,_,rfl,?_⟩;omega))|(focus (simp;done))|(simp;omega)|(simp only [lA,lB,lC,lD,lE];omega)))|(apply yW;exact rfl;exact rfl;(first|assumption|exact dT ‹_›|exact dF ‹_›|exact rfl);exact rfl;exact rfl)|(apply yV;(iterate 5 exact rfl);(first|assumption|exact dT ‹_›|exact dF ‹_›|exact rfl))|(apply yL;(iterate 5 exact rfl))|apply zS|apply AWp.Q|apply zG|apply AWp.G|apply AWp.B|apply AWp.J|apply AWp.X|apply AWp.R|apply zO|apply zJ|apply zI|apply zL|apply zM|(refine zK rfl ?_)|(apply AWp.T;exact rfl;(first|assumption|exact dT ‹_›|exact dF ‹_›|exact rfl))|(apply AWp.F;exact rfl;(first|assumption|exact dT ‹_›|exact dF ‹_›|exact rfl))|(apply yH;(iterate 6 exact rfl);(iterate 2 (focus (repeat (first|exact VAs.nil|apply VAs.cons|apply VA.c|apply VA.agg|exact VCs.nil|(apply VCs.same;assumption)|apply VCs.cons|exact VC.imm (Imm.v _)|exact VC.imm (Imm.sl _)|exact VC.imm (Imm.ip _)|exact VC.imm ‹_›|exact VC.nil|(apply zB;exact rfl;exact rfl;(first|exact rfl|(focus (simp;done))|omega|(focus (simp only [lA,lB,lC,lD,lE];omega)));exact rfl;(first|assumption|(refine aIm ?_;assumption)))|(apply zC;exact rfl;exact rfl;(first|assumption|omega|(focus (simp only [lA,lB,lC,lD,lE];omega))|(focus (simp;done))|(focus (simp;omega)));exact rfl;(first|assumption|(refine aIm ?_;assumption)))|assumption))));(first|exact hin);(focus (repeat (first|exact trivial|exact Flat.v _|exact Flat.dead|exact Flat.ref _ _ _|exact Flat.nil|apply And.intro)));(first|apply yS|(apply yR;(focus (repeat (first|exact trivial|apply And.intro|(first|exact AllSc.nil|assumption))))));(first|exact xG _ _|exact xJ _ _ _|exact xK _ _ _ _|exact y3 _ _ _ _ _|exact xH _|exact y5 _ _|exact y4 _ _ _ _|exact yU _ _ _ _ _|exact yT _ _|exact xI _ _ _ _|exact rfl))|((first|refine zT rfl rfl rfl ?_ ?_|refine zX rfl rfl rfl ?_ ?_)<;>intro hp<;>(try (exfalso;omega)))|((first|refine AWp.C rfl ?_ ?_|refine AWp.O _ rfl ?_ ?_)<;>intro hp<;>(try (exfalso;omega)))))
            refine ⟨j + 1, by omega, by omega, ?_⟩
            rw [hsu, hm1, hr1]
            refine Weak.of [(0, some 0)] rfl ?_ ?_ <;> (repeat' (first|exact trivial|exact rfl|exact Or.inr ⟨rfl,‹_›⟩|exact Or.inl ⟨rfl,trivial⟩|apply And.intro|exact congrArg (Value.int .i64) (by first|omega|(simp;done)|(simp;omega))|(refine yD ?_;first|(focus (simp;done))|omega|(simp only [lA,lB,lC,lD,lE];omega))|(refine ⟨_,rfl,rfl,rfl,OW.one ?_⟩)|(refine ⟨_,rfl,rfl,rfl,OW.same ?_ ?_⟩)|refine vwB ?_|refine vwS ?_|refine vwI ?_|refine fwB ?_|refine fwS ?_|refine fwI ?_|(refine aIm ?_;first|exact AllSc.nil|assumption)))
            all_goals first | exact x6 _ | (simp [vA, hM]; done) | (simp [vA, hM]; rfl)
          | false =>
            rw [hR, hM, if_pos ⟨h13, rfl, rfl⟩] at hsu
            (repeat' (first|(apply xW;(first|exact Want.none_ rfl|(refine yA rfl rfl rfl rfl ?_;(first|assumption|exact dT ‹_›|exact dF ‹_›|exact rfl))))|(apply xF zH;exact rfl;exact rfl)|((first|(apply z6;exact rfl;exact rfl)|apply z7|(apply z8;exact rfl;exact rfl)|apply zU|(apply zV;exact rfl;exact rfl;exact zH;exact rfl;exact rfl)|apply zN|(apply y8;exact rfl;exact rfl)|(apply yZ;exact rfl;exact rfl)|apply yX|apply xN)<;>(first|exact zH|exact Nat.zero_add _|exact rfl|refine yN ?_|assumption|omega|exact ⟨rfl⟩|exact ⟨rfl,_,_,rfl,rfl⟩|exact lb rfl|(refine Bd.mk ?_;first|assumption|omega|(focus (simp;done))|(simp;omega)|decide)|(focus (apply oI;exact rfl;exact rfl;assumption))|(focus (refine ⟨rfl,_,_,rfl,?_⟩;omega))|(focus (simp;done))|(simp;omega)|(simp only [lA,lB,lC,lD,lE];omega)))|(apply yW;exact rfl;exact rfl;(first|assumption|exact dT ‹_›|exact dF ‹_›|exact rfl);exact rfl;exact rfl)|(apply yV;(iterate 5 exact rfl);(first|assumption|exact dT ‹_›|exact dF ‹_›|exact rfl))|(apply yL;(iterate 5 exact rfl))|apply zS|apply AWp.Q|apply zG|apply AWp.G|apply AWp.B|apply AWp.J|apply AWp.X|apply AWp.R|apply zO|apply zJ|apply zI|apply zL|apply zM|(refine zK rfl ?_)|(apply AWp.T;exact rfl;(first|assumption|exact dT ‹_›|exact dF ‹_›|exact rfl))|(apply AWp.F;exact rfl;(first|assumption|exact dT ‹_›|exact dF ‹_›|exact rfl))|(apply yH;(iterate 6 exact rfl);(iterate 2 (focus (repeat (first|exact VAs.nil|apply VAs.cons|apply VA.c|apply VA.agg|exact VCs.nil|(apply VCs.same;assumption)|apply VCs.cons|exact VC.imm (Imm.v _)|exact VC.imm (Imm.sl _)|exact VC.imm (Imm.ip _)|exact VC.imm ‹_›|exact VC.nil|(apply zB;exact rfl;exact rfl;(first|exact rfl|(focus (simp;done))|omega|(focus (simp only [lA,lB,lC,lD,lE];omega)));exact rfl;(first|assumption|(refine aIm ?_;assumption)))|(apply zC;exact rfl;exact rfl;(first|assumption|omega|(focus (simp only [lA,lB,lC,lD,lE];omega))|(focus (simp;done))|(focus (simp;omega)));exact rfl;(first|assumption|(refine aIm ?_;assumption)))|assumption))));(first|exact hin);(focus (repeat (first|exact trivial|exact Flat.v _|exact Flat.dead|exact Flat.ref _ _ _|exact Flat.nil|apply And.intro)));(first|apply yS|(apply yR;(focus (repeat (first|exact trivial|apply And.intro|(first|exact AllSc.nil|assumption))))));(first|exact xG _ _|exact xJ _ _ _|exact xK _ _ _ _|exact y3 _ _ _ _ _|exact xH _|exact y5 _ _|exact y4 _ _ _ _|exact yU _ _ _ _ _|exact yT _ _|exact xI _ _ _ _|exact rfl))|((first|refine zT rfl rfl rfl ?_ ?_|refine zX rfl rfl rfl ?_ ?_)<;>intro hp<;>(try (exfalso;omega)))|((first|refine AWp.C rfl ?_ ?_|refine AWp.O _ rfl ?_ ?_)<;>intro hp<;>(try (exfalso;omega)))))
            refine ⟨j + 1, by omega, by omega, ?_⟩
            rw [hsu, hm1, hr1]
            refine Weak.of [(0, some 0)] rfl ?_ ?_ <;> (repeat' (first|exact trivial|exact rfl|exact Or.inr ⟨rfl,‹_›⟩|exact Or.inl ⟨rfl,trivial⟩|apply And.intro|exact congrArg (Value.int .i64) (by first|omega|(simp;done)|(simp;omega))|(refine yD ?_;first|(focus (simp;done))|omega|(simp only [lA,lB,lC,lD,lE];omega))|(refine ⟨_,rfl,rfl,rfl,OW.one ?_⟩)|(refine ⟨_,rfl,rfl,rfl,OW.same ?_ ?_⟩)|refine vwB ?_|refine vwS ?_|refine vwI ?_|refine fwB ?_|refine fwS ?_|refine fwI ?_|(refine aIm ?_;first|exact AllSc.nil|assumption)))
            all_goals first | exact x6 _ | (simp [vA, hM]; done) | (simp [vA, hM]; rfl)
      · have h13' : ¬ (12 : Int) < (k : Int) := by omega
        have hrt : wN k = false := by rw [wN, decide_eq_false h13]
        rw [hrt, Bool.or_false] at hr1
        rw [if_neg (fun h => h13 h.1)] at hsu
        cases hB : ((keys s).take j).any midB with
        | true =>
          rw [hB, Bool.true_or] at hm1
          (repeat' (first|(apply xW;(first|exact Want.none_ rfl|(refine yA rfl rfl rfl rfl ?_;(first|assumption|exact dT ‹_›|exact dF ‹_›|exact rfl))))|(apply xF zH;exact rfl;exact rfl)|((first|(apply z6;exact rfl;exact rfl)|apply z7|(apply z8;exact rfl;exact rfl)|apply zU|(apply zV;exact rfl;exact rfl;exact zH;exact rfl;exact rfl)|apply zN|(apply y8;exact rfl;exact rfl)|(apply yZ;exact rfl;exact rfl)|apply yX|apply xN)<;>(first|exact zH|exact Nat.zero_add _|exact rfl|refine yN ?_|assumption|omega|exact ⟨rfl⟩|exact ⟨rfl,_,_,rfl,rfl⟩|exact lb rfl|(refine Bd.mk ?_;first|assumption|omega|(focus (simp;done))|(simp;omega)|decide)|(focus (apply oI;exact rfl;exact rfl;assumption))|(focus (refine ⟨rfl,_,_,rfl,?_⟩;omega))|(focus (simp;done))|(simp;omega)|(simp only [lA,lB,lC,lD,lE];omega)))|(apply yW;exact rfl;exact rfl;(first|assumption|exact dT ‹_›|exact dF ‹_›|exact rfl);exact rfl;exact rfl)|(apply yV;(iterate 5 exact rfl);(first|assumption|exact dT ‹_›|exact dF ‹_›|exact rfl))|(apply yL;(iterate 5 exact rfl))|apply zS|apply AWp.Q|apply zG|apply AWp.G|apply AWp.B|apply AWp.J|apply AWp.X|apply AWp.R|apply zO|apply zJ|apply zI|apply zL|apply zM|(refine zK rfl ?_)|(apply AWp.T;exact rfl;(first|assumption|exact dT ‹_›|exact dF ‹_›|exact rfl))|(apply AWp.F;exact rfl;(first|assumption|exact dT ‹_›|exact dF ‹_›|exact rfl))|(apply yH;(iterate 6 exact rfl);(iterate 2 (focus (repeat (first|exact VAs.nil|apply VAs.cons|apply VA.c|apply VA.agg|exact VCs.nil|(apply VCs.same;assumption)|apply VCs.cons|exact VC.imm (Imm.v _)|exact VC.imm (Imm.sl _)|exact VC.imm (Imm.ip _)|exact VC.imm ‹_›|exact VC.nil|(apply zB;exact rfl;exact rfl;(first|exact rfl|(focus (simp;done))|omega|(focus (simp only [lA,lB,lC,lD,lE];omega)));exact rfl;(first|assumption|(refine aIm ?_;assumption)))|(apply zC;exact rfl;exact rfl;(first|assumption|omega|(focus (simp only [lA,lB,lC,lD,lE];omega))|(focus (simp;done))|(focus (simp;omega)));exact rfl;(first|assumption|(refine aIm ?_;assumption)))|assumption))));(first|exact hin);(focus (repeat (first|exact trivial|exact Flat.v _|exact Flat.dead|exact Flat.ref _ _ _|exact Flat.nil|apply And.intro)));(first|apply yS|(apply yR;(focus (repeat (first|exact trivial|apply And.intro|(first|exact AllSc.nil|assumption))))));(first|exact xG _ _|exact xJ _ _ _|exact xK _ _ _ _|exact y3 _ _ _ _ _|exact xH _|exact y5 _ _|exact y4 _ _ _ _|exact yU _ _ _ _ _|exact yT _ _|exact xI _ _ _ _|exact rfl))|((first|refine zT rfl rfl rfl ?_ ?_|refine zX rfl rfl rfl ?_ ?_)<;>intro hp<;>(try (exfalso;omega)))|((first|refine AWp.C rfl ?_ ?_|refine AWp.O _ rfl ?_ ?_)<;>intro hp<;>(try (exfalso;omega)))))
          refine ⟨j + 1, by omega, by omega, ?_⟩
          rw [hsu, hm1, hr1]
          refine Weak.of [(0, some 0)] rfl ?_ ?_ <;> (repeat' (first|exact trivial|exact rfl|exact Or.inr ⟨rfl,‹_›⟩|exact Or.inl ⟨rfl,trivial⟩|apply And.intro|exact congrArg (Value.int .i64) (by first|omega|(simp;done)|(simp;omega))|(refine yD ?_;first|(focus (simp;done))|omega|(simp only [lA,lB,lC,lD,lE];omega))|(refine ⟨_,rfl,rfl,rfl,OW.one ?_⟩)|(refine ⟨_,rfl,rfl,rfl,OW.same ?_ ?_⟩)|refine vwB ?_|refine vwS ?_|refine vwI ?_|refine fwB ?_|refine fwS ?_|refine fwI ?_|(refine aIm ?_;first|exact AllSc.nil|assumption)))
          all_goals first | exact x6 _ | (simp [vA]; done) | (simp [vA]; rfl)
        | false =>
          rw [hB, Bool.false_or] at hm1
          (repeat' (first|(apply xW;(first|exact Want.none_ rfl|(refine yA rfl rfl rfl rfl ?_;(first|assumption|exact dT ‹_›|exact dF ‹_›|exact rfl))))|(apply xF zH;exact rfl;exact rfl)|((first|(apply z6;exact rfl;exact rfl)|apply z7|(apply z8;exact rfl;exact rfl)|apply zU|(apply zV;exact rfl;exact rfl;exact zH;exact rfl;exact rfl)|apply zN|(apply y8;exact rfl;exact rfl)|(apply yZ;exact rfl;exact rfl)|apply yX|apply xN)<;>(first|exact zH|exact Nat.zero_add _|exact rfl|refine yN ?_|assumption|omega|exact ⟨rfl⟩|exact ⟨rfl,_,_,rfl,rfl⟩|exact lb rfl|(refine Bd.mk ?_;first|assumption|omega|(focus (simp;done))|(simp;omega)|decide)|(focus (apply oI;exact rfl;exact rfl;assumption))|(focus (refine ⟨rfl,_,_,rfl,?_⟩;omega))|(focus (simp;done))|(simp;omega)|(simp only [lA,lB,lC,lD,lE];omega)))|(apply yW;exact rfl;exact rfl;(first|assumption|exact dT ‹_›|exact dF ‹_›|exact rfl);exact rfl;exact rfl)|(apply yV;(iterate 5 exact rfl);(first|assumption|exact dT ‹_›|exact dF ‹_›|exact rfl))|(apply yL;(iterate 5 exact rfl))|apply zS|apply AWp.Q|apply zG|apply AWp.G|apply AWp.B|apply AWp.J|apply AWp.X|apply AWp.R|apply zO|apply zJ|apply zI|apply zL|apply zM|(refine zK rfl ?_)|(apply AWp.T;exact rfl;(first|assumption|exact dT ‹_›|exact dF ‹_›|exact rfl))|(apply AWp.F;exact rfl;(first|assumption|exact dT ‹_›|exact dF ‹_›|exact rfl))|(apply yH;(iterate 6 exact rfl);(iterate 2 (focus (repeat (first|exact VAs.nil|apply VAs.cons|apply VA.c|apply VA.agg|exact VCs.nil|(apply VCs.same;assumption)|apply VCs.cons|exact VC.imm (Imm.v _)|exact VC.imm (Imm.sl _)|exact VC.imm (Imm.ip _)|exact VC.imm ‹_›|exact VC.nil|(apply zB;exact rfl;exact rfl;(first|exact rfl|(focus (simp;done))|omega|(focus (simp only [lA,lB,lC,lD,lE];omega)));exact rfl;(first|assumption|(refine aIm ?_;assumption)))|(apply zC;exact rfl;exact rfl;(first|assumption|omega|(focus (simp only [lA,lB,lC,lD,lE];omega))|(focus (simp;done))|(focus (simp;omega)));exact rfl;(first|assumption|(refine aIm ?_;assumption)))|assumption))));(first|exact hin);(focus (repeat (first|exact trivial|exact Flat.v _|exact Flat.dead|exact Flat.ref _ _ _|exact Flat.nil|apply And.intro)));(first|apply yS|(apply yR;(focus (repeat (first|exact trivial|apply And.intro|(first|exact AllSc.nil|assumption))))));(first|exact xG _ _|exact xJ _ _ _|exact xK _ _ _ _|exact y3 _ _ _ _ _|exact xH _|exact y5 _ _|exact y4 _ _ _ _|exact yU _ _ _ _ _|exact yT _ _|exact xI _ _ _ _|exact rfl))|((first|refine zT rfl rfl rfl ?_ ?_|refine zX rfl rfl rfl ?_ ?_)<;>intro hp<;>(try (exfalso;omega)))|((first|refine AWp.C rfl ?_ ?_|refine AWp.O _ rfl ?_ ?_)<;>intro hp<;>(try (exfalso;omega)))))
          all_goals
            refine ⟨j + 1, by omega, by omega, ?_⟩
            rw [hsu, hm1, hr1]
            refine Weak.of [(0, some 0)] rfl ?_ ?_ <;> (repeat' (first|exact trivial|exact rfl|exact Or.inr ⟨rfl,‹_›⟩|exact Or.inl ⟨rfl,trivial⟩|apply And.intro|exact congrArg (Value.int .i64) (by first|omega|(simp;done)|(simp;omega))|(refine yD ?_;first|(focus (simp;done))|omega|(simp only [lA,lB,lC,lD,lE];omega))|(refine ⟨_,rfl,rfl,rfl,OW.one ?_⟩)|(refine ⟨_,rfl,rfl,rfl,OW.same ?_ ?_⟩)|refine vwB ?_|refine vwS ?_|refine vwI ?_|refine fwB ?_|refine fwS ?_|refine fwI ?_|(refine aIm ?_;first|exact AllSc.nil|assumption)))
          all_goals first | exact x6 _ | (simp [vA]; done) | (simp [vA]; rfl)
    · have hlt' : ¬ (j : Int) < ((keys s).length : Int) := by omega
      obtain rfl : j = (keys s).length := by omega
      (repeat' (first|(apply xW;(first|exact Want.none_ rfl|(refine yA rfl rfl rfl rfl ?_;(first|assumption|exact dT ‹_›|exact dF ‹_›|exact rfl))))|(apply xF zH;exact rfl;exact rfl)|((first|(apply z6;exact rfl;exact rfl)|apply z7|(apply z8;exact rfl;exact rfl)|apply zU|(apply zV;exact rfl;exact rfl;exact zH;exact rfl;exact rfl)|apply zN|(apply y8;exact rfl;exact rfl)|(apply yZ;exact rfl;exact rfl)|apply yX|apply xN)<;>(first|exact zH|exact Nat.zero_add _|exact rfl|refine yN ?_|assumption|omega|exact ⟨rfl⟩|exact ⟨rfl,_,_,rfl,rfl⟩|exact lb rfl|(refine Bd.mk ?_;first|assumption|omega|(focus (simp;done))|(simp;omega)|decide)|(focus (apply oI;exact rfl;exact rfl;assumption))|(focus (refine ⟨rfl,_,_,rfl,?_⟩;omega))|(focus (simp;done))|(simp;omega)|(simp only [lA,lB,lC,lD,lE];omega)))|(apply yW;exact rfl;exact rfl;(first|assumption|exact dT ‹_›|exact dF ‹_›|exact rfl);exact rfl;exact rfl)|(apply yV;(iterate 5 exact rfl);(first|assumption|exact dT ‹_›|exact dF ‹_›|exact rfl))|(apply yL;(iterate 5 exact rfl))|apply zS|apply AWp.Q|apply zG|apply AWp.G|apply AWp.B|apply AWp.J|apply AWp.X|apply AWp.R|apply zO|apply zJ|apply zI|apply zL|apply zM|(refine zK rfl ?_)|(apply AWp.T;exact rfl;(first|assumption|exact dT ‹_›|exact dF ‹_›|exact rfl))|(apply AWp.F;exact rfl;(first|assumption|exact dT ‹_›|exact dF ‹_›|exact rfl))|((first|refine zT rfl rfl rfl ?_ ?_|refine zX rfl rfl rfl ?_ ?_)<;>intro hp<;>(try (exfalso;omega)))|((first|refine AWp.C rfl ?_ ?_|refine AWp.O _ rfl ?_ ?_)<;>intro hp<;>(try (exfalso;omega)))))
      ((first|refine yE _ [] (.cons (zR rfl) .nil) ?_ rfl ?_|refine yF _ [] (.cons (zR rfl) .nil) ?_ rfl ?_) <;> (repeat' (first|exact trivial|exact rfl|exact Or.inr ⟨rfl,‹_›⟩|exact Or.inl ⟨rfl,trivial⟩|apply And.intro|exact congrArg (Value.int .i64) (by first|omega|(simp;done)|(simp;omega))|(refine yD ?_;first|(focus (simp;done))|omega|(simp only [lA,lB,lC,lD,lE];omega))|(refine ⟨_,rfl,rfl,rfl,OW.one ?_⟩)|(refine ⟨_,rfl,rfl,rfl,OW.same ?_ ?_⟩)|refine vwB ?_|refine vwS ?_|refine vwI ?_|refine fwB ?_|refine fwS ?_|refine fwI ?_|(refine aIm ?_;first|exact AllSc.nil|assumption))))
end Go.Proofs.YtchpdclknbmdoaaDoor
