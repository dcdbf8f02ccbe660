/- The abstract machine, part 17: what a readable argument looks like to it; and from a law's contract to what its row asks. No conditions but those stated. -/
import Derived.Test.YtchpdclknbmdoaaDoorAbs3
import Derived.Test.YtchpdclknbmdoaaDoorOld
import Derived.Deep.Strs
namespace Go.Proofs.YtchpdclknbmdoaaDoor
open Go Go.RowKit Go.ChangeShapes Go.WideShapes Go.ChangeAt Go.Deep

/-- every readable value of type t is told by cells that keep Q -/
def Reads (P : Program) (w : World) (t : TypeId) (Q : List Cell → Prop) : Prop :=
  ∀ (H : Type) (enc : TypeId × Value → H) (base : Nat) (spare : Nat → Bool) (held : Bool) (fuel : Nat) (cs : List Value) (x : DataW H × List MemPlace),
    DataW.trod enc P w base spare held fuel t cs = some x → ∃ cells, Q cells ∧ All2 (RepI (fun b => b < w.heap.size) w) cells cs
section
variable {P : Program} {w : World} {t : TypeId}
theorem Reads.mono {Q Q' : List Cell → Prop} (h : Reads P w t Q) (hq : ∀ cs, Q cs → Q' cs) : Reads P w t Q' := fun H enc b s d f cs x hx => by
  obtain ⟨cells, h1, h2⟩ := h H enc b s d f cs x hx
  exact ⟨cells, hq _ h1, h2⟩
theorem reads_str (ht : P.underlying t = some .string) : Reads P w t (fun cs => ∃ l : List UInt8, cs = [str l] ∧ l.length ≤ 9223372036854775807) := fun H enc b s d f cs x hx => by
  obtain ⟨n, rfl, _, hs⟩ := DataW.trod_string ht hx
  exact ⟨[str n.data.toList], ⟨_, rfl, hs⟩, .cons (.v _ rfl) .nil⟩
theorem reads_arg {Q : List Cell → Prop} {H : Type} {enc : TypeId × Value → H} {base : Nat} {sp : Nat → Bool} {held : Bool} {v : Value} {d : DataW H} {ps : List MemPlace} (h : Reads P w t Q) (hd : DataW.Trod enc P w base sp held t v d ps) :
    ∃ cells, Q cells ∧ All2 (RepI (fun b => b < w.heap.size) w) cells v.cells.toList := by
  obtain ⟨fuel, hf⟩ := hd
  exact h _ _ _ _ _ _ _ _ hf
theorem arg_one {β : Nat → Option BI} {c : Cell} {v : Value} (hv : v.cells = #[v]) (h : All2 (RepI (fun b => b < w.heap.size) w) [c] v.cells.toList) : RepF (fun b => b < w.heap.size) β w (.c c) v := by
  rw [hv] at h
  cases h with
  | cons h _ => exact .imm h
theorem arg_str {β : Nat → Option BI} {c : Cell} {v : Value} {r : Reach} {b : Nat} (ht : P.underlying t = some .string) (hv : Value.okWide P w r b t v) (h : All2 (RepI (fun b => b < w.heap.size) w) [c] v.cells.toList) : RepF (fun b => b < w.heap.size) β w (.c c) v := by
  obtain ⟨_, rfl⟩ := okWide_string ht hv; exact arg_one rfl h
/-- a law's contract, as its row asks it -/
theorem law_of_pf {f : Nat} {xs : List AVal} (h : PF P f xs [] (.c (boo true))) (vals : List Value) (hv : All2 (RepF (fun b => b < w.heap.size) (fun _ => none) w) xs vals) (hg : GI (fun b => b < w.heap.size) w) :
    Calls P f vals.toArray w fun e w' => e = .returned (.bool true) ∧ Below w.heap.size w w' := by
  refine (h.run (fun b => b < w.heap.size) (fun _ => none) w vals (fun b hb => hb) hg (fun o B e => by cases e) (fun o obj e => by simp at e) (fun o o' obj obj' B B' b e => by simp at e) hv).mono ?_
  rintro e w' ⟨v, I', β', rfl, hr, hk, _⟩
  refine ⟨by rw [rep_v hr], hk.os, hk.tape, hk.output, hk.size, fun k hk1 => hk.block k hk1 ?_⟩
  rintro ⟨o, B, h1, _⟩
  exact absurd h1 (Nat.not_lt_zero _)
end
end Go.Proofs.YtchpdclknbmdoaaDoor
