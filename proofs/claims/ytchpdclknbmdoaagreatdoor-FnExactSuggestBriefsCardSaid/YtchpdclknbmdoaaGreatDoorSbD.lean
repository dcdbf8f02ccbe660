/- SuggestBriefs of the reference. -/
import Derived.Test.YtchpdclknbmdoaaGreatDoorSbC
namespace Go.Proofs.YtchpdclknbmdoaaGreatDoor
open Go Go.RowKit
theorem l1LeastS_pf (a b : Int) : PF Tryz.prog 111 [.c (int a), .c (int b)] [] (.c (int (min a b))) := by
  refine PF.enter (xS _ _) Tryz.func111 rfl (by kernel_rfl) _ _ rfl rfl rfl (fun w0 mu I0 β0 gi dis => ?_)
  (repeat' (first|(apply xW;((exact Want.none_ rfl)))|(apply xF zI;exact rfl;exact rfl)|apply zQ|apply AWp.Q|apply zG|apply AWp.G|apply AWp.J|apply AWp.R|apply zK|(((refine AWp.C rfl ?_ ?_))<;>intro hp<;>try (exfalso;omega))))
  all_goals
    (((refine zX _ [] (.cons (zP rfl) .nil) ?_ rfl ?_)) <;> (repeat' (first|exact trivial|(apply cgI;(omega)))))
    all_goals skip
theorem sgS_no (es : List Ent) (w : List UInt8) (n : Int) (hb : qQ es) (hw : w.length ≤ 1048576) (h : qR es w n = false) : PF Tryz.prog 49 [.agg (vE es), .c (str w), .c (int n)] [] (.tup [.c .nil, .c (boo false)]) := by
  have h1 := l6Good_pf es hb
  have h2 := specPh_pf w hw
  have h3 := v8 n 0 50
  rw [qR] at h
  cases hk : decide (phN w ≠ 0) with
  | false =>
    rw [hk] at h2
    refine PF.enter (qS _ _ _) Tryz.func49 rfl (by kernel_rfl) _ _ rfl rfl rfl (fun w0 mu I0 β0 gi dis => ?_)
    (repeat' (first|(apply xW;((exact Want.none_ rfl)))|(apply xF zI;exact rfl;exact rfl)|(apply yX;exact rfl;exact rfl;((exact rfl));exact rfl;exact rfl)|(apply yY;(iterate 5 exact rfl);((exact rfl)))|apply zQ|apply AWp.Q|apply zG|apply AWp.G|apply AWp.R|apply zK|(apply AWp.T;exact rfl;((exact rfl)))|(apply yC;(iterate 6 exact rfl);(iterate 2 (focus (repeat (first|exact VAs.nil|apply VAs.cons|apply VA.c|exact VCs.nil|exact VC.imm (Imm.v _)))));((exact h2));(focus (repeat (first|exact trivial|exact Flat.v _|apply And.intro)));((apply yJ));((exact xB _ _ _)))))
    (((refine zX _ [] (.cons (zP rfl) (.cons (zP rfl) .nil)) ?_ rfl ?_)) <;> (repeat' (first|exact trivial|exact rfl|apply And.intro)))
  | true =>
    rw [hk] at h2 h
    cases hd : kK es with
    | false =>
      rw [hd] at h1
      refine PF.enter (qS _ _ _) Tryz.func49 rfl (by kernel_rfl) _ _ rfl rfl rfl (fun w0 mu I0 β0 gi dis => ?_)
      (repeat' (first|(apply xW;(first|exact Want.none_ rfl|(refine zW rfl rfl rfl rfl ?_;((exact rfl)))))|(apply xF zI;exact rfl;exact rfl)|(apply yX;exact rfl;exact rfl;((exact rfl));exact rfl;exact rfl)|(apply yY;(iterate 5 exact rfl);((exact rfl)))|apply zQ|apply AWp.Q|apply zG|apply AWp.G|apply AWp.R|apply zK|(apply AWp.T;exact rfl;((exact rfl)))|(apply yC;(iterate 6 exact rfl);(iterate 2 (focus (repeat (first|exact VAs.nil|apply VAs.cons|apply VA.c|apply VA.agg|exact VCs.nil|apply VCs.cons|exact VC.imm (Imm.v _)|exact VC.imm (Imm.sl _)))));(first|exact h2|exact h1);(focus (repeat (first|exact trivial|exact Flat.v _|apply And.intro)));((apply yJ));(first|exact xD _ _|exact xB _ _ _))))
      (((refine zX _ [] (.cons (zP rfl) (.cons (zP rfl) .nil)) ?_ rfl ?_)) <;> (repeat' (first|exact trivial|exact rfl|apply And.intro)))
    | true =>
      rw [hd] at h1 h
      have hn : inZ n 0 50 = false := h
      rw [hn] at h3
      refine PF.enter (qS _ _ _) Tryz.func49 rfl (by kernel_rfl) _ _ rfl rfl rfl (fun w0 mu I0 β0 gi dis => ?_)
      (repeat' (first|(apply xW;(first|exact Want.none_ rfl|(refine zW rfl rfl rfl rfl ?_;((exact rfl)))))|(apply xF zI;exact rfl;exact rfl)|(apply yX;exact rfl;exact rfl;((exact rfl));exact rfl;exact rfl)|apply zQ|apply AWp.Q|apply zG|apply AWp.G|apply AWp.R|apply zK|(apply AWp.T;exact rfl;((exact rfl)))|(apply yC;(iterate 6 exact rfl);(iterate 2 (focus (repeat (first|exact VAs.nil|apply VAs.cons|apply VA.c|apply VA.agg|exact VCs.nil|apply VCs.cons|exact VC.imm (Imm.v _)|exact VC.imm (Imm.sl _)))));(first|exact h2|exact h1|exact h3);(focus (repeat (first|exact trivial|exact Flat.v _|apply And.intro)));((apply yJ));(first|exact xD _ _|exact xB _ _ _))))
      (((refine zX _ [] (.cons (zP rfl) (.cons (zP rfl) .nil)) ?_ rfl ?_)) <;> (repeat' (first|exact trivial|exact rfl|apply And.intro)))
theorem ints1 (l : List Int) : ∀ x ∈ l.map yQ, x.length = 1 := by
  intro x hx
  obtain ⟨p, _, rfl⟩ := List.mem_map.1 hx
  rfl
theorem allG_len (es : List Ent) (b : Nat) : ∀ j, (allG es b j).length ≤ j * 8388608
  | 0 => Nat.le_refl _
  | j + 1 => by
    have h1 := allG_len es b j
    have h2 := grp_len es b (szK b - j) (2 ^ szK b)
    have h3 := pow23 (kY b)
    rw [allG, List.length_append, Nat.add_mul]
    omega
theorem dec_bits {b x : Nat} (h0 : 0 < x) (hx : x < 2 ^ szK b) (hb : b < 8388608) : bits .and .i64 (((dep 23 b x : Nat) : Int) - 1) (b : Int) = ((dep 23 b (x - 1) : Nat) : Int) := by
  have h1 := dep_pos (N := 23) (b := b) h0 hx
  have h2 := dep_dec 23 b x h0 hx
  have h3 : dep 23 b x ≤ b := by rw [← dep_sub 23 b x]; exact Nat.and_le_right
  rw [show ((dep 23 b x : Nat) : Int) - 1 = ((dep 23 b x - 1 : Nat) : Int) by omega, bAnd (by omega) (by omega), h2]
theorem dep_le (b x : Nat) : dep 23 b x ≤ b := by
  rw [← dep_sub 23 b x]; exact Nat.and_le_right
theorem mid2 (A D L : List Int) (k : Nat) (s : Int) (Z : List Cell) (hL : L = A ++ D) (hk : k = A.length) : List.replicate 0 Z ++ List.take (k - 0) (List.drop (0 + 0) (L.map yQ)) ++ List.take 1 (List.drop 0 ((List.replicate 1 Z).set 0 [int s])) ++ List.take (L.length - k) (List.drop (0 + k) (L.map yQ)) = (A ++ s :: D).map yQ := by
  subst hL hk
  have e1 : List.take (A.length - 0) (List.drop (0 + 0) ((A ++ D).map yQ)) = A.map yQ := by
    rw [Nat.sub_zero, Nat.add_zero, List.drop_zero, List.map_append, List.take_left' (List.length_map _)]
  have e2 : List.take ((A ++ D).length - A.length) (List.drop (0 + A.length) ((A ++ D).map yQ)) = D.map yQ := by
    rw [Nat.zero_add, List.map_append, List.drop_left' (List.length_map _), List.take_of_length_le (by rw [List.length_map, List.length_append]; omega)]
  rw [e1, e2, List.map_append, List.map_cons]
  show ([] ++ A.map yQ ++ [[int s]]) ++ D.map yQ = _
  rw [List.nil_append, List.append_assoc]
  rfl
theorem mid2_len (A D L : List Int) (k : Nat) (s : Int) (Z : List Cell) (hL : L = A ++ D) (hk : k = A.length) : (List.replicate 0 Z ++ List.take (k - 0) (List.drop (0 + 0) (L.map yQ)) ++ List.take 1 (List.drop 0 ((List.replicate 1 Z).set 0 [int s]))).length + (List.take (L.length - k) (List.drop (0 + k) (L.map yQ))).length = (A ++ s :: D).length := by
  have := congrArg List.length (mid2 A D L k s Z hL hk)
  rw [List.length_append, List.length_map] at this
  exact this
def vP (es : List Ent) (b n : Nat) : Nat → Nat → Nat
  | 0, j => j
  | f + 1, j => if n ≤ (allG es b (j + 1)).length then j + 1 else vP es b n f (j + 1)
theorem lastJ_ok (es : List Ent) (b n : Nat) : ∀ f j, j + f = szK b → vP es b n f j ≤ szK b ∧ (vP es b n f j = szK b ∨ n ≤ (allG es b (vP es b n f j)).length)
  | 0, j, h => by rw [vP]; exact ⟨by omega, .inl (by omega)⟩
  | f + 1, j, h => by
    rw [vP]
    split
    · exact ⟨by omega, .inr (by assumption)⟩
    · exact lastJ_ok es b n f (j + 1) (by omega)
def sugL (es : List Ent) (b n : Nat) : List Int := allG es b (vP es b n (szK b) 0)
theorem sugL_ok (es : List Ent) (b n : Nat) : sug es b n = (sugL es b n).take n := by
  obtain ⟨h1, h2⟩ := lastJ_ok es b n (szK b) 0 (by omega)
  rcases h2 with h2 | h2
  · rw [sugL, h2, sug]
  · exact sug_stop h1 h2
theorem sug_len (es : List Ent) (b n : Nat) : (sug es b n).length = min n (sugL es b n).length := by rw [sugL_ok, List.length_take]
theorem sugL_len (es : List Ent) (b n : Nat) : (sugL es b n).length ≤ 200000000 := by
  obtain ⟨h1, _⟩ := lastJ_ok es b n (szK b) 0 (by omega)
  have h2 := allG_len es b (vP es b n (szK b) 0)
  have h3 := kY b
  rw [sugL]; omega
end Go.Proofs.YtchpdclknbmdoaaGreatDoor
