/- Drawn tapes. -/
import Derived.Test.YtchpdclknbmdoaaGreatDoorTpM
import Derived.Test.YtchpdclknbmdoaaGreatDoorDcH
namespace Go.Proofs.YtchpdclknbmdoaaGreatDoor
open Go Go.RowKit
theorem st_ex {S : Type} (Inv : Nat → S → Prop) (Q : Nat → S → S → Prop) (n : Nat) (h : ∀ j s, j < n → Inv j s → ∃ s', Inv (j + 1) s' ∧ Q j s s') (s0 : S) (h0 : Inv 0 s0) :
    ∃ f : Nat → S, f 0 = s0 ∧ ∀ j, j ≤ n → Inv j (f j) ∧ (j < n → Q j (f j) (f (j + 1))) := by
  classical
  let g : Nat → S → S := fun j s => if hh : j < n ∧ Inv j s then Classical.choose (h j s hh.1 hh.2) else s
  have hg : ∀ j s, j < n → Inv j s → Inv (j + 1) (g j s) ∧ Q j s (g j s) := fun j s h1 h2 => by
    have := Classical.choose_spec (h j s h1 h2)
    simp only [g, dif_pos (And.intro h1 h2)]
    exact this
  let f : Nat → S := fun j => Nat.rec s0 (fun j s => g j s) j
  have hs : ∀ j, f (j + 1) = g j (f j) := fun _ => rfl
  have hI : ∀ j, j ≤ n → Inv j (f j) := by
    intro j
    induction j with
    | zero => intro _; exact h0
    | succ j ih => intro hj; rw [hs]; exact (hg j _ (by omega) (ih (by omega))).1
  refine ⟨f, rfl, fun j hj => ⟨hI j hj, fun hlt => ?_⟩⟩
  rw [hs]; exact (hg j _ hlt (hI j hj)).2
def bd4 : List Int := [0, -1, 8388608, 1024]
def fin (code : List UInt8) : Nat → Cur → List Itm → Cur × List Itm
  | 0, c, T => (pkC code c 2, T)
  | k + 1, c, T => if (T.length : Int) < 60 + pkV code c 2 then fin code k (pkC code c 2) (T ++ [kA T]) else (pkC code c 2, T)
theorem fin_ok (code : List UInt8) : ∀ (k : Nat) (c : Cur) (T : List Itm), T.length ≤ 61 → (fin code k c T).1.a ≤ c.a + k + 1 ∧ (fin code k c T).2.length ≤ 61
  | 0, c, T, h => ⟨by have := qN code c 2; rw [fin]; dsimp only; omega, by rw [fin]; exact h⟩
  | k + 1, c, T, h => by
    have ha := qN code c 2
    have hv := vZ code c (n := 2) (by omega)
    rw [fin]
    split
    · have ih := fin_ok code k (pkC code c 2) (T ++ [kA T]) (by rw [List.length_append, List.length_cons, List.length_nil]; omega)
      exact ⟨by omega, ih.2⟩
    · exact ⟨by dsimp only; omega, h⟩
def QI (code : List UInt8) (l : List Int) (k : Nat) (s s' : Cur × List Itm) : Prop :=
  ∃ x b, l[k]? = some x ∧ s'.2 = s.2 ++ [⟨x, b⟩] ∧ ((s.2.length = 0 ∧ s'.1 = s.1 ∧ b = false) ∨ (s.2.length ≠ 0 ∧ PFM Tryz.prog 75 [xQ code s.1] [.c (.ptr 0 0 0), .c (int ((4 : Nat) : Int))] [some (xQ code s'.1)] (.c (boo b))))
def wA (l : List Int) (T : List Itm) : Nat := min l.length (60 - T.length)
theorem inner_ex (code : List UInt8) (hl : code.length ≤ 65536) (c : Cur) (T : List Itm) (l : List Int) (hc : c.a ≤ 5000000) (hll : l.length ≤ 8) (hT : T.length ≤ 60) :
    ∃ f : Nat → Cur × List Itm, f 0 = (c, T) ∧ ∀ k, k ≤ wA l T → ((f k).1.a ≤ c.a + k ∧ (f k).2.length = T.length + k) ∧ (k < wA l T → QI code l k (f k) (f (k + 1))) := by
  refine st_ex (S := Cur × List Itm) (fun k s => s.1.a ≤ c.a + k ∧ s.2.length = T.length + k) (QI code l) (wA l T) (fun k s hk hs => ?_) (c, T) ⟨Nat.le_refl _, rfl⟩
  have hk' : k < min l.length (60 - T.length) := hk
  obtain ⟨x, hx⟩ := xP (show k < l.length by omega)
  by_cases h0 : s.2.length = 0
  · exact ⟨(s.1, s.2 ++ [⟨x, false⟩]), ⟨by dsimp only; omega, by rw [List.length_append, List.length_cons, List.length_nil]; omega⟩, x, false, hx, rfl, .inl ⟨h0, rfl, rfl⟩⟩
  · obtain ⟨c', b, a', p'⟩ := qH code s.1 hl (by omega) 4 (by omega)
    exact ⟨(c', s.2 ++ [⟨x, b⟩]), ⟨by dsimp only; omega, by rw [List.length_append, List.length_cons, List.length_nil]; omega⟩, x, b, hx, rfl, .inr ⟨h0, p'⟩⟩
def QO (code : List UInt8) (es : List Ent) (s s' : Cur × List Itm) : Prop :=
  ∃ (cm : Cur) (l : List Int) (f : Nat → Cur × List Itm), l.length ≤ 8 ∧ cm.a ≤ s.1.a + 75 ∧ PFM Tryz.prog 134 [xQ code s.1] [.c (.ptr 0 0 0), .agg (wG es)] [some (xQ code cm), some ⟨3, 1, l.map yX⟩] (.c (.ref 1 0 l.length)) ∧
    f 0 = (cm, s.2) ∧ (∀ k, k ≤ wA l s.2 → ((f k).1.a ≤ cm.a + k ∧ (f k).2.length = s.2.length + k) ∧ (k < wA l s.2 → QI code l k (f k) (f (k + 1)))) ∧ f (wA l s.2) = s'
theorem outer_ex (code : List UInt8) (hl : code.length ≤ 65536) (c : Cur) (n : Nat) (hc : c.a ≤ 2000000) (hn : n ≤ 10) (es : List Ent) (hes : es.length ≤ 100) (he : ∀ x ∈ es, EO x) :
    ∃ f : Nat → Cur × List Itm, f 0 = (c, []) ∧ ∀ j, j ≤ n → ((f j).1.a ≤ c.a + 90 * j ∧ (f j).2.length ≤ 60) ∧ (j < n → QO code es (f j) (f (j + 1))) := by
  refine st_ex (S := Cur × List Itm) (fun j s => s.1.a ≤ c.a + 90 * j ∧ s.2.length ≤ 60) (fun _ => QO code es) n (fun j s hj hs => ?_) (c, []) ⟨Nat.le_refl _, Nat.zero_le _⟩
  obtain ⟨cm, l, a1, ⟨hll, _⟩, p1⟩ := known_ex code s.1 hl (by omega) es hes he
  obtain ⟨f, hf0, hf⟩ := inner_ex code hl cm s.2 l (by omega) hll hs.2
  have hm : wA l s.2 ≤ 8 ∧ wA l s.2 ≤ 60 - s.2.length := by unfold wA; omega
  have hfm := (hf _ (Nat.le_refl _)).1
  exact ⟨f (wA l s.2), ⟨by omega, by omega⟩, cm, l, f, hll, a1, p1, hf0, hf, rfl⟩
end Go.Proofs.YtchpdclknbmdoaaGreatDoor
