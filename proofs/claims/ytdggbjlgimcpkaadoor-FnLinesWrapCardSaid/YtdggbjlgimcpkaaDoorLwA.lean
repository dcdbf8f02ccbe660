/- What wrapping keeps: plain Lean, and the draws. No conditions but those stated. -/
import Derived.Test.YtdggbjlgimcpkaaDoorWrT
import Derived.Test.YtdggbjlgimcpkaaDoorRCut
namespace Go.Proofs.YtdggbjlgimcpkaaDoor
open Go Go.RowKit
/-- ends of lines as spaces -/
def flat1 (c : UInt8) : UInt8 := if c = 10 then 32 else c
def cutEnd (l : List UInt8) : List UInt8 := if l.getLast? = some 32 then l.dropLast else l
theorem spl_app_sep (b : UInt8) (r : List UInt8) : ∀ p : List UInt8, (spl b (p ++ b :: r)) = (spl b p) ++ spl b r
  | [] => by
    have e : spl b (b :: r) = [] :: spl b r := by rw [spl, if_pos rfl]
    exact e
  | c :: p => by
    have ih := spl_app_sep b r p
    rw [List.cons_append, spl, spl, ih]
    split
    · rfl
    · cases h : spl b p with
      | nil => have := (spl_len b p).1; rw [h] at this; simp at this
      | cons x t => rfl
theorem wsOf_app (p r : List UInt8) : wsOf (p ++ 32 :: r) = wsOf p ++ wsOf r := by
  rw [wsOf, spl_app_sep, List.filter_append]; rfl
theorem wsOf_nil : wsOf [] = [] := rfl
theorem wsOf_end (p : List UInt8) : wsOf (p ++ [32]) = wsOf p := by rw [wsOf_app, wsOf_nil, List.append_nil]
theorem wsOf_cut (l : List UInt8) : wsOf (cutEnd l) = wsOf l := by
  unfold cutEnd
  split
  · rename_i h
    obtain ⟨ys, rfl⟩ := List.getLast?_eq_some_iff.1 h
    rw [List.dropLast_concat]
    exact (wsOf_end ys).symm
  · rfl
/-- a word: no space in it, not empty -/
theorem wsOf_word {x : List UInt8} (h1 : x ≠ []) (h2 : (32 : UInt8) ∉ x) : wsOf x = [x] := by
  rw [wsOf, spl_no h2]
  simp [neP, h1]
theorem wsOf_join : ∀ {ws : List (List UInt8)}, (∀ x ∈ ws, x ≠ [] ∧ (32 : UInt8) ∉ x) → wsOf (Lib.join ws [32]) = ws
  | [], _ => rfl
  | [x], h => by
    have := h x (by simp)
    rw [show Lib.join [x] [32] = x from by simp [Lib.join]]
    exact wsOf_word this.1 this.2
  | x :: y :: r, h => by
    have ih := wsOf_join (ws := y :: r) (fun z hz => h z (by simp [List.mem_cons] at hz ⊢; right; exact hz))
    have hx := h x (by simp)
    have e : Lib.join (x :: y :: r) [32] = x ++ 32 :: Lib.join (y :: r) [32] := by simp [Lib.join]
    rw [e, wsOf_app, wsOf_word hx.1 hx.2, ih]
    rfl
theorem wordOk_plain {x : List UInt8} (h : wordOk x = true) : x ≠ [] ∧ (32 : UInt8) ∉ x ∧ (10 : UInt8) ∉ x := by
  simp only [wordOk, Bool.and_eq_true, List.all_eq_true, inZ, decide_eq_true_eq, wordC] at h
  refine ⟨fun e => ?_, fun e => ?_, fun e => ?_⟩
  · subst e; have := h.2; simp at this
  · have := h.1 _ e; simp at this
  · have := h.1 _ e; simp at this
theorem flat_no {x : List UInt8} (h : (10 : UInt8) ∉ x) : x.map flat1 = x := by
  induction x with
  | nil => rfl
  | cons c x ih =>
    simp only [List.mem_cons, not_or] at h
    rw [List.map_cons, ih h.2, flat1, if_neg (fun e => h.1 e.symm)]
/-- the words of lines, one after another -/
theorem wsOf_lines : ∀ (ls : List (List (List UInt8))), (∀ l ∈ ls, ∀ x ∈ l, x ≠ [] ∧ (32 : UInt8) ∉ x) → wsOf (ls.flatMap fun l => Lib.join l [32] ++ [32]) = ls.flatten
  | [], _ => rfl
  | l :: ls, h => by
    have ih := wsOf_lines ls (fun m hm => h m (by simp [hm]))
    have hl := wsOf_join (ws := l) (h l (by simp))
    rw [List.flatMap_cons, List.append_assoc, List.singleton_append, wsOf_app, hl, ih, List.flatten_cons]
theorem join_no10 : ∀ {l : List (List UInt8)}, (∀ x ∈ l, (10 : UInt8) ∉ x) → (10 : UInt8) ∉ Lib.join l [32]
  | [], _ => by simp [Lib.join]
  | [x], h => by rw [Lib.join_one]; exact h x (by simp)
  | x :: y :: r, h => by
    have ih := join_no10 (l := y :: r) (fun z hz => h z (by simp [List.mem_cons] at hz ⊢; right; exact hz))
    have e : Lib.join (x :: y :: r) [32] = x ++ 32 :: Lib.join (y :: r) [32] := by simp [Lib.join]
    rw [e, List.mem_append, List.mem_cons]
    rintro (h1 | h1 | h1)
    · exact h x (by simp) h1
    · revert h1; decide
    · exact ih h1
theorem seg_flat {ws : List (List UInt8)} {ks : List Nat} (ha : Asc ks ws.length) : ∀ c, c ≤ ks.length → (lns ws ks c).flatten = ws.take (if c < ks.length then (ks[c]?).getD 0 else if ks = [] then 0 else ws.length)
  | 0, _ => by
    rcases ha.zero with h | h
    · have e : ks = [] := by
        have := ha.cnt
        exact List.length_eq_zero_iff.1 (by omega)
      subst e; simp [lns]
    · have hl := (List.getElem?_eq_some_iff.1 h).1
      rw [if_pos hl, h]; simp [lns]
  | c + 1, hc => by
    have ih := seg_flat ha c (by omega)
    obtain ⟨s, hs⟩ := at_lt (show c < ks.length by omega)
    have hne : ks ≠ [] := by intro e; subst e; simp at hs
    rw [if_pos (by omega), hs, Option.getD_some] at ih
    rw [lns_succ, List.flatten_append, ih, List.flatten_singleton, lnAt, hs, Option.getD_some]
    obtain ⟨he1, he2⟩ := ha.end hs
    have hend : (if c + 1 < ks.length then (ks[c + 1]?).getD 0 else if ks = [] then 0 else ws.length) = endAt ks ws.length c := by
      by_cases h : c + 1 < ks.length
      · obtain ⟨b, hb⟩ := at_lt h
        rw [if_pos h, hb, endAt_next hb]; rfl
      · rw [if_neg h, if_neg hne, endAt_last (by omega)]
    rw [hend, segW]
    have e : ws.take (endAt ks ws.length c) = ws.take s ++ (ws.take (endAt ks ws.length c)).drop s := by
      rw [show ws.take s = (ws.take (endAt ks ws.length c)).take s by rw [List.take_take, Nat.min_eq_left (by omega)], List.take_append_drop]
    rw [e, List.drop_take]
theorem wrap_words {ws : List (List UInt8)} {n : Nat} (hf : fitsOk ws n = true) : wsOf (cutEnd ((wrT ws n).map flat1)) = ws := by
  obtain ⟨hwo, n', hnn, _, _, hfx⟩ := fitsOk_parts hf
  obtain rfl := Int.ofNat.inj hnn
  have hLl : (lens ws).length = ws.length := List.length_map _
  have hasc : Asc (path (lens ws) n) ws.length := by rw [← hLl]; exact path_asc (fits_all hfx)
  have hwd : ∀ x ∈ ws, x ≠ [] ∧ (32 : UInt8) ∉ x ∧ (10 : UInt8) ∉ x := fun x hx => by
    simp only [wordsOk, Bool.and_eq_true, List.all_eq_true] at hwo
    exact wordOk_plain (hwo.2 x hx)
  rw [wsOf_cut, wrT]
  generalize path (lens ws) n = ks at hasc
  have hsub : ∀ l ∈ lns ws ks ks.length, ∀ x ∈ l, x ∈ ws := by
    intro l hl x hx
    simp only [lns, List.mem_map] at hl
    obtain ⟨j, _, rfl⟩ := hl
    rw [lnAt, segW] at hx
    exact List.mem_of_mem_drop (List.mem_of_mem_take hx)
  have hflat : (wrK ws ks ks.length).map flat1 = (lns ws ks ks.length).flatMap fun l => Lib.join l [32] ++ [32] := by
    rw [wrK, List.take_of_length_le (by rw [jls_len]; exact Nat.le_refl _), jls]
    generalize lns ws ks ks.length = ls at hsub
    induction ls with
    | nil => rfl
    | cons l ls ih =>
      rw [List.map_cons, List.flatMap_cons, List.flatMap_cons, List.map_append, ih (fun m hm => hsub m (by simp [hm])), List.map_append,
        flat_no (join_no10 fun x hx => (hwd x (hsub l (by simp) x hx)).2.2)]
      rfl
  rw [hflat, wsOf_lines _ (fun l hl x hx => ⟨(hwd x (hsub l hl x hx)).1, (hwd x (hsub l hl x hx)).2.1⟩), seg_flat hasc _ (Nat.le_refl _), if_neg (by omega)]
  split
  · rename_i e
    subst e
    rcases hasc.zero with h | h
    · have : ws = [] := List.length_eq_zero_iff.1 h
      rw [this]; rfl
    · simp at h
  · exact List.take_length
end Go.Proofs.YtdggbjlgimcpkaaDoor
