/- Tapes parsed: what is read, and how long a tape's text can be. No conditions. -/
import Derived.Test.YtchpdclknbmdoaaDoorPtB
import Derived.Test.YtchpdclknbmdoaaDoorTpJ
import Derived.Test.YtchpdclknbmdoaaDoorSpl
namespace Go.Proofs.YtchpdclknbmdoaaDoor
open Go Go.RowKit
theorem fmK_len' (s : Nat) : ∀ j, j ≤ (keys s).length → (fmK s j).length ≤ j + if ((keys s).take j).any wN then 1 else 0
  | 0, _ => Nat.zero_le _
  | j + 1, hj => by
    obtain ⟨k, hk⟩ := xR (show j < (keys s).length by omega)
    have ih := fmK_len' s j (by omega)
    have hl := labN_len (keys_lt hk)
    have hr : ((keys s).take (j + 1)).any wN = (((keys s).take j).any wN || wN k) := wH hk
    rw [fmK_succ hk, hr, List.length_append, List.length_append, hl]
    cases h1 : ((keys s).take j).any wN with
    | true =>
      rw [h1] at ih
      rw [if_neg (by simp)]
      simp at ih ⊢; omega
    | false =>
      rw [h1] at ih
      by_cases h13 : 13 ≤ k
      · have hrt : wN k = true := by rw [wN, decide_eq_true h13]
        rw [hrt]
        split <;> simp at ih ⊢ <;> omega
      · rw [if_neg (fun h => h13 h.1)]
        simp at ih ⊢; omega
theorem fmt24 (s : Nat) : (fmt s).length ≤ 24 := by
  have h1 := fmK_len' s (keys s).length (Nat.le_refl _)
  have h2 := vI s 23
  rw [fmt, keys] at *
  split at h1 <;> omega
theorem tx24 (t : List Itm) : ∀ k, k ≤ t.length → (txK t k).length ≤ 25 * k
  | 0, _ => Nat.le_refl _
  | 1, h => by
    obtain ⟨c, hc⟩ := xR (show 0 < t.length by omega)
    have := fmt24 (nS c)
    rw [tx_one hc]; omega
  | k + 2, h => by
    obtain ⟨c, hc⟩ := xR (show k + 1 < t.length by omega)
    have ih := tx24 t (k + 1) (by omega)
    have := fmt24 (nS c)
    cases hb : c.b with
    | true =>
      rw [tx_bar hc hb, List.length_append, List.length_append]
      simp only [List.length_cons, List.length_nil]; omega
    | false =>
      rw [tx_non hc (by omega) hb, List.length_append, List.length_append]
      simp only [List.length_cons, List.length_nil]; omega
theorem text_len {t : List Itm} (h : t.length ≤ 60) : (w9 t).length ≤ 1500 := by
  have e : w9 t = txK t t.length := by rw [w9, txK, runsT, rsK]
  rw [e]
  have := tx24 t t.length (Nat.le_refl _)
  omega
def itm (i k : Nat) (w : List UInt8) : Itm := ⟨psN w, decide (0 < i ∧ k = 0)⟩
def wI (i : Nat) (ws : List (List UInt8)) : Nat → List Itm
  | 0 => []
  | k + 1 => match ws[k]? with
    | some w => wI i ws k ++ [itm i k w]
    | none => wI i ws k
def wrds (r : List UInt8) : List (List UInt8) := spl 47 r
def kI (i : Nat) (r : List UInt8) : List Itm := wI i (wrds r) (wrds r).length
def rI (rs : List (List UInt8)) : Nat → List Itm
  | 0 => []
  | j + 1 => match rs[j]? with
    | some r => rI rs j ++ kI j r
    | none => rI rs j
theorem qK {i k : Nat} {ws : List (List UInt8)} {w : List UInt8} (h : ws[k]? = some w) : wI i ws (k + 1) = wI i ws k ++ [itm i k w] := by rw [wI, h]
theorem qL {j : Nat} {rs : List (List UInt8)} {r : List UInt8} (h : rs[j]? = some r) : rI rs (j + 1) = rI rs j ++ kI j r := by rw [rI, h]
theorem wI_len (i : Nat) (ws : List (List UInt8)) : ∀ k, k ≤ ws.length → (wI i ws k).length = k
  | 0, _ => rfl
  | k + 1, hk => by
    obtain ⟨w, hw⟩ := xR (show k < ws.length by omega)
    rw [qK hw, List.length_append, wI_len i ws k (by omega)]; rfl
theorem runI_len (i : Nat) (r : List UInt8) : (kI i r).length ≤ r.length + 1 := by
  rw [kI, wI_len _ _ _ (Nat.le_refl _)]
  exact (wY 47 r).2
def okR (r : List UInt8) : Bool := (wrds r).all psB
def rns (s : List UInt8) : List (List UInt8) := spl 124 s
def itms (s : List UInt8) : List Itm := rI (rns s) (rns s).length
def ptB (s : List UInt8) : Bool := (rns s).all okR && xZ (itms s) && decide (w9 (itms s) = s)
theorem pt_len {s : List UInt8} (h : ptB s = true) : s.length ≤ 1500 := by
  rw [ptB, Bool.and_eq_true, Bool.and_eq_true, decide_eq_true_eq] at h
  have := text_len (xV h.1.2).1
  rw [h.2] at this
  exact this
def tot (l : List (List UInt8)) : Nat := (l.map fun x => x.length + 1).sum
theorem tot_cons (x : List UInt8) (l : List (List UInt8)) : tot (x :: l) = x.length + 1 + tot l := by simp [tot]
theorem tot_app (a b : List (List UInt8)) : tot (a ++ b) = tot a + tot b := by simp [tot]
theorem tot_joinHd (c : UInt8) {x : List (List UInt8)} (h : x ≠ []) : tot (joinHd [c] x) = tot x + 1 := by
  cases x with
  | nil => exact absurd rfl h
  | cons y r => rw [joinHd, tot_cons, tot_cons]; simp; omega
theorem tot_spl (b : UInt8) : ∀ l : List UInt8, tot (spl b l) = l.length + 1
  | [] => rfl
  | c :: l => by
    have ih := tot_spl b l
    have hn : spl b l ≠ [] := fun h => by
      have := (wY b l).1
      rw [h] at this; simp at this
    rw [spl]
    split
    · rw [tot_cons, ih]; simp; omega
    · rw [tot_joinHd c hn, ih]; rfl
theorem rI_tot (rs : List (List UInt8)) : ∀ j, j ≤ rs.length → (rI rs j).length ≤ tot (rs.take j)
  | 0, _ => Nat.zero_le _
  | j + 1, hj => by
    obtain ⟨r, hr⟩ := xR (show j < rs.length by omega)
    have h1 := rI_tot rs j (by omega)
    have h2 := runI_len j r
    rw [qL hr, List.length_append, List.take_add_one, hr, tot_app]
    have e : tot (some r).toList = r.length + 1 := by simp [tot]
    rw [e]; omega
theorem rI_le (s : List UInt8) (j : Nat) (hj : j ≤ (rns s).length) : (rI (rns s) j).length ≤ s.length + 1 := by
  have h1 := rI_tot (rns s) j hj
  have h2 : tot ((rns s).take j) + tot ((rns s).drop j) = tot (rns s) := by rw [← tot_app, List.take_append_drop]
  have h3 := tot_spl 124 s
  rw [← rns] at h3
  omega
end Go.Proofs.YtchpdclknbmdoaaDoor
