/- A tape's runs as lists of integers. -/
import Derived.Test.YtjeffognhcbiaaaTpA
namespace Go.Proofs.Ytjeffognhcbiaaa
open Go Go.RowKit
def rsP (t : List Itm) : Nat → List (List Int) × List Int
  | 0 => ([], [])
  | k + 1 => match t[k]? with
    | some i => if k = 0 then ([], [i.s]) else if i.b then ((rsP t k).1 ++ [(rsP t k).2], [i.s]) else ((rsP t k).1, (rsP t k).2 ++ [i.s])
    | none => rsP t k
def runsT (t : List Itm) : List (List Int) := if t.length = 0 then [] else (rsP t t.length).1 ++ [(rsP t t.length).2]
theorem rsP_one {t : List Itm} {i : Itm} (h : t[0]? = some i) : rsP t 1 = ([], [i.s]) := by
  rw [rsP, h]; rfl
theorem rsP_bar {t : List Itm} {k : Nat} {i : Itm} (h : t[k + 1]? = some i) (hb : i.b = true) : rsP t (k + 2) = ((rsP t (k + 1)).1 ++ [(rsP t (k + 1)).2], [i.s]) := by
  rw [rsP, h]; simp [hb]
theorem rsP_non {t : List Itm} {k : Nat} {i : Itm} (h : t[k + 1]? = some i) (hb : i.b = false) : rsP t (k + 2) = ((rsP t (k + 1)).1, (rsP t (k + 1)).2 ++ [i.s]) := by
  rw [rsP, h]; simp [hb]
theorem rsP_len (t : List Itm) : ∀ k, (rsP t k).1.length ≤ k ∧ (rsP t k).2.length ≤ k
  | 0 => ⟨Nat.le_refl _, Nat.le_refl _⟩
  | k + 1 => by
    have ih := rsP_len t k
    rw [rsP]
    cases t[k]? with
    | none => exact ⟨Nat.le_succ_of_le ih.1, Nat.le_succ_of_le ih.2⟩
    | some i =>
      dsimp only
      split
      · exact ⟨Nat.zero_le _, by simp⟩
      · split <;> simp <;> omega
theorem All2.app {α β : Type} {R : α → β → Prop} {c : List α} {d : List β} (h' : All2 R c d) : ∀ {a : List α} {b : List β}, All2 R a b → All2 R (a ++ c) (b ++ d)
  | _, _, .nil => h'
  | _, _, .cons h hs => .cons h (All2.app h' hs)
theorem set_snoc {α : Type} {D : List α} {x y : α} {n : Nat} (h : n = D.length) : (D ++ [x]).set n y = D ++ [y] := by
  subst h; simp
def eR (r : List Int) : List Cell := [.sl (r.map xA)]
theorem cws_eR (ρ : Ren) : ∀ l : List (List Int), All2 (CWs ρ) (l.map eR) (l.map eR)
  | [] => .nil
  | _ :: l => .cons ⟨rfl, trivial⟩ (cws_eR ρ l)
theorem eR_im (l : List (List Int)) : ∀ x ∈ l.map eR, ∀ c ∈ x, Imm c := by
  intro x hx c hc
  obtain ⟨p, _, rfl⟩ := List.mem_map.1 hx
  simp only [eR, List.mem_singleton] at hc
  subst hc
  exact Imm.sl _
end Go.Proofs.Ytjeffognhcbiaaa
