/- Draws one after another; texts that are spoilt. -/
import Derived.Test.YtchpdclknbmdoaaGreatDoorCur2
namespace Go.Proofs.YtchpdclknbmdoaaGreatDoor
open Go Go.RowKit
theorem seq_ex {X : Type} [Inhabited X] (Q : Cur → Cur → X → Prop) (d B : Nat) (h : ∀ c, c.a ≤ B → ∃ c' x, c'.a ≤ c.a + d ∧ Q c c' x) (c : Cur) (n : Nat) (hn : c.a + d * n ≤ B) :
    ∃ (cs : Nat → Cur) (xs : Nat → X), cs 0 = c ∧ ∀ j, j ≤ n → (cs j).a ≤ c.a + d * j ∧ (cs (j + 1)).a ≤ (cs j).a + d ∧ Q (cs j) (cs (j + 1)) (xs j) := by
  classical
  let f : Cur → Cur × X := fun c => if hc : c.a ≤ B then ⟨Classical.choose (h c hc), Classical.choose (Classical.choose_spec (h c hc))⟩ else ⟨c, default⟩
  have hf : ∀ c, c.a ≤ B → (f c).1.a ≤ c.a + d ∧ Q c (f c).1 (f c).2 := fun c hc => by
    have := Classical.choose_spec (Classical.choose_spec (h c hc))
    simp only [f, hc, dif_pos]
    exact this
  let cs : Nat → Cur := fun j => Nat.rec c (fun _ x => (f x).1) j
  have hs : ∀ j, cs (j + 1) = (f (cs j)).1 := fun _ => rfl
  have hb : ∀ j, j ≤ n → (cs j).a ≤ c.a + d * j := by
    intro j
    induction j with
    | zero => intro _; exact Nat.le_refl _
    | succ j ih =>
      intro hj
      have h1 := ih (by omega)
      have h2 : d * j ≤ d * n := Nat.mul_le_mul_left _ (by omega)
      have h3 := (hf (cs j) (by omega)).1
      rw [hs, Nat.mul_succ]; omega
  refine ⟨cs, fun j => (f (cs j)).2, rfl, fun j hj => ⟨hb j hj, ?_⟩⟩
  have h2 : d * j ≤ d * n := Nat.mul_le_mul_left _ hj
  exact hf (cs j) (by have := hb j hj; omega)
section
variable (code : List UInt8) (c : Cur) (hl : code.length ≤ 65536) (hc : c.a ≤ 9000000)
include hl hc
end
end Go.Proofs.YtchpdclknbmdoaaGreatDoor
