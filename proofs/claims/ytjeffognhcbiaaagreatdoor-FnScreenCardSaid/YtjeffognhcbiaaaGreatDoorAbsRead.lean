/- The abstract machine, part 17: what a readable argument looks like to it; and from a law's contract to what its row asks. -/
import Derived.Test.YtjeffognhcbiaaaGreatDoorAbs3
import Derived.Test.YtjeffognhcbiaaaGreatDoorOld
import Derived.Deep.Strs
namespace Go.Proofs.YtjeffognhcbiaaaGreatDoor
open Go Go.RowKit Go.ChangeShapes Go.WideShapes Go.ChangeAt Go.Deep
def Reads (P : Program) (w : World) (t : TypeId) (Q : List Cell → Prop) : Prop :=
  ∀ (H : Type) (enc : TypeId × Value → H) (base : Nat) (spare : Nat → Bool) (held : Bool) (fuel : Nat) (cs : List Value) (x : DataW H × List MemPlace),
    DataW.trod enc P w base spare held fuel t cs = some x → ∃ cells, Q cells ∧ All2 (RepI (fun b => b < w.heap.size) w) cells cs
section
variable {P : Program} {w : World} {t : TypeId}
theorem Reads.mono {Q Q' : List Cell → Prop} (h : Reads P w t Q) (hq : ∀ cs, Q cs → Q' cs) : Reads P w t Q' := fun H enc b s d f cs x hx => by
  obtain ⟨cells, h1, h2⟩ := h H enc b s d f cs x hx
  exact ⟨cells, hq _ h1, h2⟩
theorem reads_slice {e : TypeId} {Q : List Cell → Prop} (ht : P.underlying t = some (.slice e)) (hpos : 0 < P.cellsOf e) (h : Reads P w e Q) :
    Reads P w t (fun cs => ∃ xs : List (List Cell), cs = [.sl xs] ∧ xs.length ≤ 9223372036854775807 ∧ ∀ x ∈ xs, Q x) := fun H enc b s d f cs x hx => by
  rcases open_slice ht hx with ⟨rfl, _⟩ | ⟨a, len, cap, m, n, D, Pl, rfl, hb, hl, hm, hmm, _, hi⟩
  · exact ⟨[.sl []], ⟨[], rfl, Nat.zero_le _, by simp⟩, .cons (.sl0 _ _) .nil⟩
  · have hlm : len ≤ m := by rw [hmm]; split <;> omega
    have key : ∀ k, k ≤ len → ∃ ys : List (List Cell), ys.length = k ∧ ∀ i y, ys[i]? = some y → Q y ∧ ∃ cs', w.cells? b (a.add (i * P.cellsOf e)) (P.cellsOf e) = some cs' ∧ All2 (RepI (fun b => b < w.heap.size) w) y cs' := by
      intro k
      induction k with
      | zero => exact fun _ => ⟨[], rfl, fun i y h => by simp at h⟩
      | succ k ih =>
        intro hk
        obtain ⟨ys, hys, hyc⟩ := ih (by omega)
        obtain ⟨cs', hc, ht'⟩ := hi k (by omega)
        obtain ⟨y, hq, hr⟩ := h _ _ _ _ _ _ _ _ ht'
        refine ⟨ys ++ [y], by simp [hys], fun i z hz => ?_⟩
        rcases Nat.lt_or_ge i k with hik | hik
        · rw [List.getElem?_append_left (by omega)] at hz
          exact hyc i z hz
        · rw [List.getElem?_append_right (by omega)] at hz
          have hi0 : i - ys.length = 0 := by
            rcases Nat.eq_zero_or_pos (i - ys.length) with h0 | h0
            · exact h0
            · rw [List.getElem?_eq_none (by simp; omega)] at hz; cases hz
          rw [hi0] at hz
          simp only [List.getElem?_cons_zero, Option.some.injEq] at hz
          obtain rfl : i = k := by omega
          rw [← hz]
          exact ⟨hq, cs', hc, hr⟩
    obtain ⟨ys, hys, hyc⟩ := key len (Nat.le_refl _)
    refine ⟨[.sl ys], ⟨ys, rfl, by have : maxLen = 9223372036854775807 := rfl; omega, fun y hy => ?_⟩, .cons ?_ .nil⟩
    · obtain ⟨i, hi⟩ := List.getElem?_of_mem hy
      exact (hyc i y hi).1
    · cases ys with
      | nil => simp at hys; subst hys; exact .sl0 _ _
      | cons y0 ys =>
        obtain ⟨_, c0, hc0, _⟩ := hyc 0 y0 rfl
        obtain ⟨_, hln, hat⟩ := World.cells?_some hc0
        have h0 : ∃ v, w.cell? (a.add 0) = some v := by
          have := hat 0 hpos
          rw [Nat.zero_mul] at this
          have h00 : (a.add 0).add 0 = a.add 0 := by unfold Addr.add; simp
          rw [h00] at this
          exact ⟨_, this.trans (List.getElem?_eq_getElem (by omega))⟩
        obtain ⟨v, hv⟩ := h0
        have ha := spot_none hv
        have hb' : a.block < w.heap.size := by
          have := block_lt_of_cell hv
          have h00 : a.add 0 = a := by unfold Addr.add; simp
          rwa [h00] at this
        have each : ∀ (i j : Nat) x c, (y0 :: ys)[i]? = some x → x[j]? = some c → ∃ u, w.cell? ⟨a.block, a.off + i * P.cellsOf e + j, none⟩ = some u ∧ RepI (fun b => b < w.heap.size) w c u := by
          intro i j x c hx hc
          obtain ⟨_, c1, hc1, hr1⟩ := hyc i x hx
          obtain ⟨_, hln1, hat1⟩ := World.cells?_some hc1
          obtain ⟨u, hu, hru⟩ := hr1.at hc
          have hj : j < P.cellsOf e := by rw [← hln1]; exact (List.getElem?_eq_some_iff.1 hu).1
          have := hat1 j hj
          rw [ha, add_lit, add_lit] at this
          exact ⟨u, this.trans hu, hru⟩
        rw [ha]
        refine .sl (y0 :: ys) a.block a.off (P.cellsOf e) len cap (fun i j => (w.cell? ⟨a.block, a.off + i * P.cellsOf e + j, none⟩).getD undef) hys.symm hl (fun x hx => ?_) hb' (fun i j x c hx hc => ?_) (fun i j x c hx hc => ?_)
        · obtain ⟨i, hi⟩ := List.getElem?_of_mem hx
          obtain ⟨_, c1, hc1, hr1⟩ := hyc i x hi
          obtain ⟨_, hln1, _⟩ := World.cells?_some hc1
          rw [← hr1.length, hln1]
        · obtain ⟨u, hu, _⟩ := each i j x c hx hc
          rw [hu]; rfl
        · obtain ⟨u, hu, hr⟩ := each i j x c hx hc
          simp only [hu, Option.getD_some]; exact hr
theorem lift_list {α : Type} {enc : α → List Cell} {ok : α → Prop} : ∀ {xs : List (List Cell)}, (∀ x ∈ xs, ∃ y, x = enc y ∧ ok y) → ∃ ys : List α, xs = ys.map enc ∧ ∀ y ∈ ys, ok y
  | [], _ => ⟨[], rfl, by simp⟩
  | x :: xs, h => by
    obtain ⟨y, rfl, hy⟩ := h x (by simp)
    obtain ⟨ys, rfl, hys⟩ := lift_list (xs := xs) fun z hz => h z (by simp [hz])
    exact ⟨y :: ys, rfl, fun z hz => by rcases List.mem_cons.1 hz with rfl | hz; exact hy; exact hys z hz⟩
theorem reads_arg {Q : List Cell → Prop} {H : Type} {enc : TypeId × Value → H} {base : Nat} {sp : Nat → Bool} {held : Bool} {v : Value} {d : DataW H} {ps : List MemPlace} (h : Reads P w t Q) (hd : DataW.Trod enc P w base sp held t v d ps) :
    ∃ cells, Q cells ∧ All2 (RepI (fun b => b < w.heap.size) w) cells v.cells.toList := by
  obtain ⟨fuel, hf⟩ := hd
  exact h _ _ _ _ _ _ _ _ hf
theorem arg_one {β : Nat → Option BI} {c : Cell} {v : Value} (hv : v.cells = #[v]) (h : All2 (RepI (fun b => b < w.heap.size) w) [c] v.cells.toList) : RepF (fun b => b < w.heap.size) β w (.c c) v := by
  rw [hv] at h
  cases h with
  | cons h _ => exact .imm h
theorem arg_slice {β : Nat → Option BI} {e : TypeId} {c : Cell} {v : Value} {r : Reach} {b : Nat} (ht : P.underlying t = some (.slice e)) (hv : Value.okWide P w r b t v) (h : All2 (RepI (fun b => b < w.heap.size) w) [c] v.cells.toList) : RepF (fun b => b < w.heap.size) β w (.c c) v := by
  obtain ⟨_, _, _, rfl⟩ := okWide_slice ht hv; exact arg_one rfl h
theorem law_of_pf {f : Nat} {xs : List AVal} (h : PF P f xs [] (.c (boo true))) (vals : List Value) (hv : All2 (RepF (fun b => b < w.heap.size) (fun _ => none) w) xs vals) (hg : GI (fun b => b < w.heap.size) w) :
    Calls P f vals.toArray w fun e w' => e = .returned (.bool true) ∧ Below w.heap.size w w' := by
  refine (h.run (fun b => b < w.heap.size) (fun _ => none) w vals (fun b hb => hb) hg (fun o B e => by cases e) (fun o obj e => by simp at e) (fun o o' obj obj' B B' b e => by simp at e) hv).mono ?_
  rintro e w' ⟨v, I', β', rfl, hr, hk, _⟩
  refine ⟨by rw [x8 hr], hk.os, hk.tape, hk.output, hk.size, fun k hk1 => hk.block k hk1 ?_⟩
  rintro ⟨o, B, h1, _⟩
  exact absurd h1 (Nat.not_lt_zero _)
end
end Go.Proofs.YtjeffognhcbiaaaGreatDoor
