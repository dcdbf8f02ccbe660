/- Pieces of runs: they tile a tape, and none goes across a bar. vX Lean. -/
import Derived.Test.YtjeffognhcbiaaaGreatDoorMrA
import Derived.Test.YtjeffognhcbiaaaGreatDoorSgA
namespace Go.Proofs.YtjeffognhcbiaaaGreatDoor
open Go Go.RowKit
def NB (t : List Itm) (a b : Nat) : Prop := b ≤ t.length ∧ ∀ (k : Nat) (i : Itm), a < k → k < b → t[k]? = some i → i.b = false
theorem NB.part {t : List Itm} {a b a' b' : Nat} (h : NB t a b) (h1 : a ≤ a') (h2 : b' ≤ b) : NB t a' b' :=
  ⟨Nat.le_trans h2 h.1, fun k i x y z => h.2 k i (by omega) (by omega) z⟩
def OKR (t : List Itm) : Nat → List (List Int) → Nat → Prop
  | a, [], b => a = b
  | a, r :: rs, b => NB t a (a + r.length) ∧ OKR t (a + r.length) rs b
theorem OKR.snoc {t : List Itm} {r : List Int} {b : Nat} (hr : NB t b (b + r.length)) : ∀ {rs : List (List Int)} {a : Nat}, OKR t a rs b → OKR t a (rs ++ [r]) (b + r.length)
  | [], a, h => by
    have e : a = b := h
    subst e
    exact ⟨hr, rfl⟩
  | x :: rs, a, ⟨h1, h2⟩ => ⟨h1, OKR.snoc hr h2⟩
theorem rsP_ok (t : List Itm) : ∀ k, k + 1 ≤ t.length → ∃ m, OKR t 0 (rsP t (k + 1)).1 m ∧ m + (rsP t (k + 1)).2.length = k + 1 ∧ NB t m (k + 1) ∧ (rsP t (k + 1)).1.flatten ++ (rsP t (k + 1)).2 = (t.take (k + 1)).map Itm.s
  | 0, h => by
    obtain ⟨i, hi⟩ := xM (show 0 < t.length by omega)
    rw [rsP_one hi]
    refine ⟨0, rfl, rfl, ⟨h, fun k i h1 h2 => by omega⟩, ?_⟩
    rw [wM hi]
    rfl
  | k + 1, h => by
    obtain ⟨m, h1, h2, h3, h4⟩ := rsP_ok t k (by omega)
    obtain ⟨i, hi⟩ := xM (show k + 1 < t.length by omega)
    cases hb : i.b with
    | true =>
      rw [rsP_bar hi hb]
      refine ⟨k + 1, ?_, by simp, ⟨h, fun j i h1 h2 => by omega⟩, ?_⟩
      · have := OKR.snoc (r := (rsP t (k + 1)).2) (b := m) (by rw [h2]; exact h3) h1
        rwa [h2] at this
      · rw [wM hi, List.map_append, ← h4, List.flatten_append]
        simp
    | false =>
      rw [rsP_non hi hb]
      refine ⟨m, h1, ?_, ⟨h, fun j x j1 j2 hj => ?_⟩, ?_⟩
      · rw [List.length_append]; simp only [List.length_cons, List.length_nil]; omega
      · by_cases e : j = k + 1
        · subst e; rw [hi] at hj; cases hj; exact hb
        · exact h3.2 j x j1 (by omega) hj
      · rw [wM hi, List.map_append, ← h4, List.append_assoc]
        rfl
theorem runsT_ok (t : List Itm) : OKR t 0 (runsT t) t.length ∧ (runsT t).flatten = t.map Itm.s := by
  rcases h0 : t.length with _ | n
  · rw [runsT, if_pos h0]
    refine ⟨rfl, ?_⟩
    rw [List.length_eq_zero_iff.1 h0]; rfl
  · rw [runsT, if_neg (by omega), h0]
    obtain ⟨m, h1, h2, h3, h4⟩ := rsP_ok t n (by omega)
    refine ⟨?_, ?_⟩
    · have := OKR.snoc (r := (rsP t (n + 1)).2) (b := m) (by rw [h2]; exact h3) h1
      rwa [h2] at this
    · rw [List.flatten_append, List.flatten_singleton, h4, ← h0, List.take_length]
def sh (a : Nat) (p : Pc) : Pc := ⟨p.f + (a : Int), p.n, p.t⟩
def tpF (es : List Ent) : Nat → List (List Int) → List Pc
  | _, [] => []
  | a, r :: rs => (seg es r).map (sh a) ++ tpF es (a + r.length) rs
theorem tpF_snoc (es : List Ent) (r : List Int) : ∀ (rs : List (List Int)) (a : Nat), tpF es a (rs ++ [r]) = tpF es a rs ++ (seg es r).map (sh (a + rs.flatten.length))
  | [], a => by simp [tpF]
  | x :: rs, a => by
    rw [List.cons_append, tpF, tpF, tpF_snoc es r rs, List.append_assoc, List.flatten_cons, List.length_append, Nat.add_assoc]
theorem tpF_len (es : List Ent) : ∀ (rs : List (List Int)) (a : Nat), (tpF es a rs).length ≤ rs.flatten.length
  | [], _ => Nat.zero_le _
  | r :: rs, a => by
    have h1 := tpF_len es rs (a + r.length)
    have h2 := segF_len es r 0
    rw [tpF, List.length_append, List.length_map, List.flatten_cons, List.length_append, seg]
    omega
theorem fl_take {rs : List (List Int)} {j : Nat} {r : List Int} (h : rs[j]? = some r) : (rs.take (j + 1)).flatten.length = (rs.take j).flatten.length + r.length := by
  rw [wM h, List.flatten_append, List.length_append, List.flatten_singleton]
theorem fl_le (rs : List (List Int)) (j : Nat) : (rs.take j).flatten.length ≤ rs.flatten.length := by
  have := congrArg (fun l : List (List Int) => l.flatten.length) (List.take_append_drop j rs)
  simp only [List.flatten_append, List.length_append] at this
  omega
theorem tp_take {es : List Ent} {rs : List (List Int)} {j : Nat} {r : List Int} (h : rs[j]? = some r) : tpF es 0 (rs.take (j + 1)) = tpF es 0 (rs.take j) ++ (seg es r).map (sh (rs.take j).flatten.length) := by
  rw [wM h, tpF_snoc, Nat.zero_add]
def Tl (t : List Itm) : Nat → List Pc → Nat → Prop
  | a, [], b => a = b
  | a, p :: ps, b => ∃ n : Nat, p.f = (a : Int) ∧ p.n = (n : Int) ∧ 1 ≤ n ∧ NB t a (a + n) ∧ Tl t (a + n) ps b
theorem Tl.app {t : List Itm} {b c : Nat} {qs : List Pc} (h' : Tl t b qs c) : ∀ {ps : List Pc} {a : Nat}, Tl t a ps b → Tl t a (ps ++ qs) c
  | [], a, h => by
    have e : a = b := h
    subst e
    exact h'
  | p :: ps, a, ⟨n, h1, h2, h3, h4, h5⟩ => ⟨n, h1, h2, h3, h4, Tl.app h' h5⟩
theorem Tl.at {t : List Itm} {b : Nat} : ∀ {ps : List Pc} {a k : Nat} {p : Pc}, Tl t a (ps.drop k) b → ps[k]? = some p → ∃ n : Nat, p.f = (a : Int) ∧ p.n = (n : Int) ∧ 1 ≤ n ∧ NB t a (a + n) ∧ Tl t (a + n) (ps.drop (k + 1)) b := by
  intro ps a k p h hp
  obtain ⟨h1, h2⟩ := List.getElem?_eq_some_iff.1 hp
  rw [List.drop_eq_getElem_cons h1, h2] at h
  exact h
end Go.Proofs.YtjeffognhcbiaaaGreatDoor
