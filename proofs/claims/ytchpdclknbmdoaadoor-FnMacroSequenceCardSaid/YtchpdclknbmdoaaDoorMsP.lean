/- A tape's text is read back as the tape. Plain lists. No conditions but those stated. -/
import Derived.Test.YtchpdclknbmdoaaDoorPtC
namespace Go.Proofs.YtchpdclknbmdoaaDoor
open Go Go.RowKit
theorem lsK_fold (t : List UInt8) : ∀ k, k ≤ t.length → lsK t k = (t.take k).foldl (fun o c => lsS c o) (some ⟨0, 0, false⟩)
  | 0, _ => rfl
  | k + 1, hk => by
    obtain ⟨c, hc⟩ := xR (show k < t.length by omega)
    rw [lsK_succ hc, lsK_fold t k (by omega), List.take_add_one, hc, List.foldl_append]; rfl
def lsF (t : List UInt8) : Option Ls := t.foldl (fun o c => lsS c o) (some ⟨0, 0, false⟩)
theorem lsK_all (t : List UInt8) : lsK t t.length = lsF t := by rw [lsK_fold t _ (Nat.le_refl _), List.take_of_length_le (Nat.le_refl _)]; rfl
theorem fst_hit {c : UInt8} {k : Nat} (hk : k < 23) (hc : qP[k]? = some c) : ∀ (f i : Nat), i ≤ k → k ≤ i + f → (∀ j, i ≤ j → j < k → qP[j]? ≠ some c) → vD c f i = k
  | 0, i, h1, h2, _ => by rw [vD]; omega
  | f + 1, i, h1, h2, h3 => by
    rw [vD]
    by_cases e : i = k
    · subst e; rw [if_neg (fun h => h.2 hc)]
    · rw [if_pos ⟨by omega, h3 i (Nat.le_refl _) (by omega)⟩]
      exact fst_hit hk hc f (i + 1) (by omega) (by omega) (fun j hj hj' => h3 j (by omega) hj')
theorem lab_left : ∀ k : Fin 13, ∀ j : Fin 13, j.val < k.val → qP[j.val]? ≠ qP[k.val]? := by decide
theorem lab_right : ∀ k : Fin 23, ∀ j : Fin 23, 8 ≤ j.val → j.val < k.val → qP[j.val]? ≠ qP[k.val]? := by decide
theorem lab_at {k : Nat} (h : k < 23) : ∃ c, qP[k]? = some c ∧ vA k = [c] ∧ c ≠ 45 := by
  have all : ∀ k : Fin 23, ∃ c, qP[k.val]? = some c ∧ vA k.val = [c] ∧ c ≠ 45 := by
    intro k
    have h2 : vA k.val = [(qP[k.val]?).getD 0] ∧ (qP[k.val]?).getD 0 ≠ 45 := by revert k; decide
    obtain ⟨c, hc⟩ := xR (show k.val < qP.length from k.isLt)
    rw [hc] at h2
    exact ⟨c, hc, h2.1, h2.2⟩
  exact all ⟨k, h⟩
def orK (s : Nat) : Nat → Nat
  | 0 => 0
  | j + 1 => match (keys s)[j]? with
    | some k => orK s j ||| 2 ^ k
    | none => orK s j
theorem orK_bit (s : Nat) : ∀ j i, (orK s j).testBit i = decide (i ∈ (keys s).take j)
  | 0, i => by rw [orK]; simp
  | j + 1, i => by
    rw [orK, List.take_add_one]
    cases h : (keys s)[j]? with
    | none => dsimp only; rw [orK_bit s j i]; simp
    | some k =>
      dsimp only
      rw [Nat.testBit_or, orK_bit s j i, Nat.testBit_two_pow]
      rw [Bool.eq_iff_iff]
      simp only [Bool.or_eq_true, decide_eq_true_eq, List.mem_append, Option.toList_some, List.mem_singleton]
      constructor
      · rintro (h | h)
        · exact .inl h
        · exact .inr h.symm
      · rintro (h | h)
        · exact .inl h
        · exact .inr h.symm
theorem orK_all {s : Nat} (hs : s < 8388608) : orK s (keys s).length = s := by
  apply Nat.eq_of_testBit_eq
  intro i
  rw [orK_bit, List.take_of_length_le (Nat.le_refl _), Bool.eq_iff_iff, decide_eq_true_eq, keys, keysN, List.mem_filter, List.mem_range]
  refine ⟨fun h => h.2, fun h => ⟨?_, h⟩⟩
  apply Decidable.byContradiction
  intro hn
  have h1 : 2 ^ i ≤ s := Nat.ge_two_pow_of_testBit h
  have h2 : 2 ^ 23 ≤ 2 ^ i := Nat.pow_le_pow_right (by omega) (by omega)
  omega
def StJ (s j : Nat) (l : Ls) : Prop :=
  l.s = orK s j ∧ (∀ k, (keys s)[j]? = some k → l.nx ≤ k) ∧ (((keys s).take j).any wN = false → l.nx ≤ 13 ∧ l.d = false) ∧ (((keys s).take j).any midB = true ∨ ((keys s).take j).any wN = true → 8 ≤ l.nx)
theorem fmK_read {s : Nat} : ∀ j, j ≤ (keys s).length → ∃ l, lsF (fmK s j) = some l ∧ StJ s j l
  | 0, _ => ⟨⟨0, 0, false⟩, rfl, rfl, fun k _ => Nat.zero_le _, fun _ => ⟨Nat.zero_le _, rfl⟩, fun h => by simp at h⟩
  | j + 1, hj => by
    obtain ⟨k, hk⟩ := xR (show j < (keys s).length by omega)
    obtain ⟨l, hl, h1, h2, h3, h4⟩ := fmK_read (s := s) j (by omega)
    have h2 := h2 k hk
    have hk23 := keys_lt hk
    obtain ⟨c, hc, hlb, hc45⟩ := lab_at hk23
    have hor : orK s (j + 1) = orK s j ||| 2 ^ k := by rw [orK, hk]
    have hr1 : ((keys s).take (j + 1)).any wN = (((keys s).take j).any wN || wN k) := wH hk
    have hm1 : ((keys s).take (j + 1)).any midB = (((keys s).take j).any midB || midB k) := wH hk
    have hasc : ∀ k', (keys s)[j + 1]? = some k' → k + 1 ≤ k' := fun k' h' => keys_asc (Nat.lt_succ_self j) hk h'
    have go : ∀ m : Ls, m.s = orK s j → m.nx ≤ k → (13 ≤ k → 8 ≤ m.nx) → (((keys s).take (j + 1)).any wN = false → m.d = false) → ∃ l', lsS c (some m) = some l' ∧ StJ s (j + 1) l' := by
      intro m e1 e2 e3 e4
      have hf : vD c 23 m.nx = k := by
        refine fst_hit hk23 hc 23 m.nx e2 (by omega) (fun i hi hik => ?_)
        rw [← hc]
        by_cases h13 : 13 ≤ k
        · exact lab_right ⟨k, hk23⟩ ⟨i, by omega⟩ (by have := e3 h13; dsimp only; omega) hik
        · exact lab_left ⟨k, by omega⟩ ⟨i, by omega⟩ hik
      refine ⟨⟨m.s ||| 2 ^ k, k + 1, m.d⟩, ?_, ?_, hasc, fun hr => ?_, fun _ => ?_⟩
      · rw [lsS, if_neg hc45, hf, if_neg (by omega)]
      · dsimp only; rw [e1, hor]
      · refine ⟨?_, e4 hr⟩
        rw [hr1, Bool.or_eq_false_iff] at hr
        have := hr.2
        rw [wN, decide_eq_false_iff_not] at this
        dsimp only; omega
      · dsimp only
        rename_i hq
        rcases hq with hq | hq
        · rw [hm1, Bool.or_eq_true] at hq
          rcases hq with hq | hq
          · have := h4 (.inl hq); have := e2; 
            by_cases h13 : 13 ≤ k
            · omega
            · -- a middle key stands before k
              rw [List.any_eq_true] at hq
              obtain ⟨x, hx, hmx⟩ := hq
              obtain ⟨i, hi⟩ := List.getElem?_of_mem hx
              rw [List.getElem?_take] at hi
              split at hi
              · have := keys_asc (by assumption) hi hk
                rw [midB, decide_eq_true_eq] at hmx
                omega
              · cases hi
          · rw [midB, decide_eq_true_eq] at hq; omega
        · rw [hr1, Bool.or_eq_true] at hq
          rcases hq with hq | hq
          · rw [List.any_eq_true] at hq
            obtain ⟨x, hx, hmx⟩ := hq
            obtain ⟨i, hi⟩ := List.getElem?_of_mem hx
            rw [List.getElem?_take] at hi
            split at hi
            · have := keys_asc (by assumption) hi hk
              rw [wN, decide_eq_true_eq] at hmx
              omega
            · cases hi
          · rw [wN, decide_eq_true_eq] at hq; omega
    rw [fmK_succ hk, hlb]
    by_cases hy : 13 ≤ k ∧ qG s = false ∧ ((keys s).take j).any wN = false
    · rw [if_pos hy]
      obtain ⟨g1, g2⟩ := h3 hy.2.2
      obtain ⟨l', hl', hs'⟩ := go ⟨l.s, 13, true⟩ h1 hy.1 (fun _ => by dsimp only; omega) (fun hr => by
        rw [hr1, Bool.or_eq_false_iff] at hr
        have := hr.2
        rw [wN, decide_eq_false_iff_not] at this
        omega)
      refine ⟨l', ?_, hs'⟩
      rw [lsF, List.foldl_append, List.foldl_append, ← lsF, hl]
      show lsS c (lsS 45 (some l)) = some l'
      rw [show lsS 45 (some l) = some ⟨l.s, 13, true⟩ by rw [lsS, if_pos rfl, if_neg (fun h => h.elim (fun h => by rw [g2] at h; cases h) (fun h => by omega))], hl']
    · rw [if_neg hy]
      obtain ⟨l', hl', hs'⟩ := go l h1 h2 (fun h13 => by
        by_cases hr : ((keys s).take j).any wN = true
        · exact h4 (.inr hr)
        · have hr' : ((keys s).take j).any wN = false := by simpa using hr
          have hm : qG s = true := by
            cases h : qG s with
            | true => rfl
            | false => exact absurd ⟨h13, h, hr'⟩ hy
          rw [← mid_at hk h13] at hm
          exact h4 (.inl hm)) (fun hr => by
        rw [hr1, Bool.or_eq_false_iff] at hr
        exact (h3 hr.1).2)
      refine ⟨l', ?_, hs'⟩
      rw [lsF, List.foldl_append, List.foldl_append, ← lsF, hl]
      exact hl'
theorem ls_fmt {s : Nat} (hs : s < 8388608) : lsV (fmt s) = s := by
  obtain ⟨l, hl, h1, _⟩ := fmK_read (s := s) (keys s).length (Nat.le_refl _)
  rw [lsV, lsK_all]
  rw [← fmt] at hl
  rw [hl]
  dsimp only
  rw [h1, orK_all hs]
theorem ps_fmt {s : Nat} (hs : s < 8388608) (h1 : 1 ≤ s) : psB (fmt s) = true ∧ psN (fmt s) = s := by
  have e := ls_fmt hs
  have hb : psB (fmt s) = true := by rw [psB, lsB, e, decide_eq_true (by omega), decide_eq_true rfl]; rfl
  exact ⟨hb, by rw [psN, if_pos hb, e]⟩
theorem fmt_mem {s : Nat} : ∀ j, ∀ b ∈ fmK s j, b = 45 ∨ b ∈ qP
  | 0, b, h => by cases h
  | j + 1, b, h => by
    rw [fmK] at h
    cases hk : (keys s)[j]? with
    | none => rw [hk] at h; exact fmt_mem j b h
    | some k =>
      rw [hk] at h
      dsimp only at h
      rcases List.mem_append.1 h with h | h
      · rcases List.mem_append.1 h with h | h
        · exact fmt_mem j b h
        · split at h
          · exact .inl (List.mem_singleton.1 h)
          · cases h
      · rw [vA] at h
        exact .inr (List.mem_of_mem_drop (List.mem_of_mem_take h))
theorem vX (s : Nat) : (47 : UInt8) ∉ fmt s ∧ (124 : UInt8) ∉ fmt s := by
  constructor <;> (intro h; rcases fmt_mem _ _ h with h | h <;> revert h <;> decide)
theorem spl_ne (b : UInt8) (x : List UInt8) : spl b x ≠ [] := fun h => by
  have := (wY b x).1
  rw [h] at this; simp at this
theorem joinHd_app (p : List UInt8) {x : List (List UInt8)} (y : List (List UInt8)) (h : x ≠ []) : joinHd p (x ++ y) = joinHd p x ++ y := by
  cases x with
  | nil => exact absurd rfl h
  | cons a r => rfl
theorem spl_snoc {b : UInt8} {y : List UInt8} (hy : b ∉ y) : ∀ x, spl b (x ++ b :: y) = spl b x ++ [y]
  | [] => by
    have e : spl b (b :: y) = [] :: spl b y := by rw [spl]; simp
    rw [List.nil_append, e, v8 hy]; rfl
  | c :: x => by
    rw [List.cons_append, spl, spl, spl_snoc hy x]
    split
    · rfl
    · exact joinHd_app _ _ (spl_ne b x)
theorem spl_ext {b : UInt8} {y : List UInt8} (hy : b ∉ y) : ∀ x, ∃ i l, spl b x = i ++ [l] ∧ spl b (x ++ y) = i ++ [l ++ y]
  | [] => ⟨[], [], rfl, by rw [List.nil_append, v8 hy]; rfl⟩
  | c :: x => by
    obtain ⟨i, l, h1, h2⟩ := spl_ext hy x
    rw [List.cons_append, spl, spl, h1, h2]
    split
    · exact ⟨[] :: i, l, rfl, rfl⟩
    · cases i with
      | nil => exact ⟨[], [c] ++ l, rfl, by simp [joinHd]⟩
      | cons a r => exact ⟨([c] ++ a) :: r, l, rfl, rfl⟩
theorem wI_pre {i : Nat} {ws ys : List (List UInt8)} : ∀ k, k ≤ ws.length → wI i (ws ++ ys) k = wI i ws k
  | 0, _ => rfl
  | k + 1, hk => by
    obtain ⟨w, hw⟩ := xR (show k < ws.length by omega)
    rw [qK hw, qK (by rw [List.getElem?_append_left (by omega)]; exact hw), wI_pre k (by omega)]
theorem rI_pre {rs ys : List (List UInt8)} : ∀ j, j ≤ rs.length → rI (rs ++ ys) j = rI rs j
  | 0, _ => rfl
  | j + 1, hj => by
    obtain ⟨r, hr⟩ := xR (show j < rs.length by omega)
    rw [qL hr, qL (by rw [List.getElem?_append_left (by omega)]; exact hr), rI_pre j (by omega)]
theorem rI_snoc (rs : List (List UInt8)) (r : List UInt8) : rI (rs ++ [r]) (rs ++ [r]).length = rI rs rs.length ++ kI rs.length r := by
  rw [List.length_append]
  show rI (rs ++ [r]) (rs.length + 1) = _
  rw [qL (r := r) (by simp), rI_pre _ (Nat.le_refl _)]
theorem runI_one (i : Nat) {f : List UInt8} (h : (47 : UInt8) ∉ f) : kI i f = [itm i 0 f] := by
  rw [kI, wrds, v8 h]; rfl
theorem runI_more (i : Nat) (r : List UInt8) {f : List UInt8} (h : (47 : UInt8) ∉ f) : kI i (r ++ 47 :: f) = kI i r ++ [itm i (wrds r).length f] := by
  have e : wrds (r ++ 47 :: f) = wrds r ++ [f] := spl_snoc h r
  rw [kI, e, List.length_append]
  show wI i (wrds r ++ [f]) ((wrds r).length + 1) = _
  rw [qK (w := f) (by simp), wI_pre _ (Nat.le_refl _)]
  rfl
theorem itm_eta {c : Itm} {x : Nat} {b : Bool} (h1 : c.s = (x : Int)) (h2 : c.b = b) : Itm.mk x b = c := by
  obtain ⟨s, d⟩ := c
  simp only at h1 h2
  rw [h1, h2]
theorem okItm_nS {c : Itm} (h : okItm c = true) : c.s = ((nS c : Nat) : Int) ∧ 1 ≤ nS c ∧ nS c < 8388608 := by
  rw [okItm, inZ, decide_eq_true_eq] at h
  rw [nS]; omega
theorem back {t : List Itm} (hv : ∀ i ∈ t, okItm i = true) (hh : hdB t = false) : ∀ k, k + 1 ≤ t.length → itms (txK t (k + 1)) = t.take (k + 1) ∧ (rns (txK t (k + 1))).all okR = true
  | 0, h => by
    obtain ⟨c, hc⟩ := xR (show 0 < t.length by omega)
    obtain ⟨e1, e2, e3⟩ := okItm_nS (hv c (List.mem_of_getElem? hc))
    obtain ⟨p1, p2⟩ := ps_fmt e3 e2
    have hcb : c.b = false := by rw [hdB, hc] at hh; exact hh
    have er : rns (fmt (nS c)) = [fmt (nS c)] := v8 (vX _).2
    rw [tx_one hc, itms, er, List.take_add_one, hc]
    refine ⟨?_, ?_⟩
    · show rI ([] ++ [fmt (nS c)]) ([] ++ [fmt (nS c)]).length = [c]
      rw [rI_snoc, runI_one _ (vX _).1, itm, p2]
      show [Itm.mk _ _] = [c]
      rw [itm_eta e1 (by rw [hcb]; rfl)]
    · rw [List.all_cons, okR, wrds, v8 (vX _).1, List.all_cons, p1]; rfl
  | k + 1, h => by
    obtain ⟨c, hc⟩ := xR (show k + 1 < t.length by omega)
    obtain ⟨e1, e2, e3⟩ := okItm_nS (hv c (List.mem_of_getElem? hc))
    obtain ⟨p1, p2⟩ := ps_fmt e3 e2
    obtain ⟨ih1, ih2⟩ := back hv hh k (by omega)
    rw [List.take_add_one, hc]
    cases hb : c.b with
    | true =>
      have er : rns (txK t (k + 1) ++ [124] ++ fmt (nS c)) = rns (txK t (k + 1)) ++ [fmt (nS c)] := by
        rw [List.append_assoc]; exact spl_snoc (vX _).2 _
      rw [tx_bar hc hb, itms, er]
      refine ⟨?_, ?_⟩
      · rw [rI_snoc, ← itms, ih1, runI_one _ (vX _).1, itm, p2]
        have hl := (wY 124 (txK t (k + 1))).1
        rw [itm_eta e1 (by rw [hb, decide_eq_true ⟨hl, rfl⟩])]
        rfl
      · rw [List.all_append, ih2, List.all_cons, okR, wrds, v8 (vX _).1, List.all_cons, p1]; rfl
    | false =>
      have hn : (124 : UInt8) ∉ 47 :: fmt (nS c) := by
        intro h
        rcases List.mem_cons.1 h with h | h
        · revert h; decide
        · exact (vX _).2 h
      obtain ⟨i, l, g1, g2⟩ := spl_ext hn (txK t (k + 1))
      rw [← rns] at g1 g2
      rw [itms, g1] at ih1
      rw [g1] at ih2
      rw [tx_non hc (by omega) hb, List.append_assoc, List.singleton_append, itms, g2]
      have hwl := (wY 47 l).1
      refine ⟨?_, ?_⟩
      · rw [rI_snoc] at ih1 ⊢
        rw [runI_more _ _ (vX _).1, ← List.append_assoc, ih1, itm, p2]
        rw [itm_eta e1 (by rw [hb, decide_eq_false (fun h => by have h2 : (wrds l).length = 0 := h.2; rw [wrds] at h2; omega)])]
        rfl
      · rw [List.all_append, Bool.and_eq_true] at ih2 ⊢
        refine ⟨ih2.1, ?_⟩
        have h3 := ih2.2
        rw [List.all_cons, Bool.and_eq_true, okR] at h3
        rw [List.all_cons, okR, wrds, spl_snoc (vX _).1, List.all_append, ← wrds, h3.1, List.all_cons, p1]; rfl
theorem text_txK (t : List Itm) : w9 t = txK t t.length := by rw [w9, txK, runsT, rsK]
theorem text_back {t : List Itm} (h : xZ t = true) (h0 : t.length ≠ 0) : itms (w9 t) = t ∧ ptB (w9 t) = true ∧ w9 t ≠ [] := by
  obtain ⟨h1, h2, h3⟩ := xV h
  obtain ⟨k, hk⟩ : ∃ k, t.length = k + 1 := ⟨t.length - 1, by omega⟩
  obtain ⟨b1, b2⟩ := back h3 h2 k (by omega)
  rw [← hk, ← text_txK] at b1 b2
  rw [hk, ← hk, List.take_of_length_le (Nat.le_refl _)] at b1
  refine ⟨b1, ?_, fun e => ?_⟩
  · rw [ptB, b1, h, b2, decide_eq_true rfl]; rfl
  · rw [e] at b2
    revert b2
    decide
theorem text_nil : w9 [] = [] := rfl
end Go.Proofs.YtchpdclknbmdoaaDoor
