/- Lists of texts: what package laws does with them. No conditions but bounds. -/
import Derived.Test.YtbboadheacmddaaDoorAbs4
namespace Go.Proofs.YtbboadheacmddaaDoor
open Go Go.RowKit
def StrM (ws : List (List UInt8)) : Prop := ws.length ≤ 9223372036854775807 ∧ ∀ l ∈ ws, l.length ≤ 9223372036854775807
def StrB (ws : List (List UInt8)) : Prop := ws.length ≤ 4000000 ∧ ∀ l ∈ ws, l.length ≤ 4000000
def szLs : List (List UInt8) → Int → Int
  | [], l => l
  | c :: cs, l => if l - c.length < 0 then -1 else szLs cs (l - c.length)
def szSS (ws : List (List UInt8)) (l : Int) : Int := if l - ws.length < 0 then -1 else szLs ws (l - ws.length)
theorem szLs_ok : ∀ {cs : List (List UInt8)} {l : Int}, 0 ≤ szLs cs l → ∀ c ∈ cs, (c.length : Int) ≤ l
  | [], _, _, c, hc => by simp at hc
  | x :: cs, l, h, c, hc => by
    rw [szLs] at h
    split at h
    · omega
    · rcases List.mem_cons.1 hc with rfl | hc
      · omega
      · have := szLs_ok h c hc; omega
theorem szLs_ge : ∀ {cs : List (List UInt8)} {l : Int}, 0 ≤ l → -1 ≤ szLs cs l ∧ szLs cs l ≤ l
  | [], l, h => by rw [szLs]; omega
  | x :: cs, l, h => by
    rw [szLs]
    split
    · omega
    · have := szLs_ge (cs := cs) (l := l - x.length) (by omega); omega
theorem szSS_ge {ws : List (List UInt8)} {l : Int} (h : 0 ≤ l) : -1 ≤ szSS ws l ∧ szSS ws l ≤ l := by
  unfold szSS
  split
  · omega
  · have := szLs_ge (cs := ws) (l := l - ws.length) (by omega); omega
theorem szSS_ok {ws : List (List UInt8)} {l : Int} (h : 0 ≤ szSS ws l) (hl : l ≤ 1048576) : StrB ws := by
  unfold szSS at h
  split at h
  · omega
  · refine ⟨by omega, fun c hc => ?_⟩
    have := szLs_ok h c hc
    omega
theorem drop_cons {α : Type} {l : List α} {k : Nat} {x : α} (h : l[k]? = some x) : l.drop k = x :: l.drop (k + 1) := by
  obtain ⟨h1, h2⟩ := List.getElem?_eq_some_iff.1 h
  rw [List.drop_eq_getElem_cons h1, h2]
def mkS (k n : Nat) : List (List UInt8) := (List.range n).map fun j => mt (k + j)
theorem mkS_len (k n : Nat) : (mkS k n).length = n := by simp [mkS]
theorem mkS_at {k n j : Nat} (h : j < n) : (mkS k n)[j]? = some (mt (k + j)) := by simp [mkS, h]
end Go.Proofs.YtbboadheacmddaaDoor
