/- Lists of integers that functions gave back: where they lie, read, marked, held. -/
import Derived.Test.YtjeffognhcbiaaaDoorNsL
namespace Go.Proofs.YtjeffognhcbiaaaDoor
open Go Go.RowKit
def GotI (lo hi : Nat) (w : World) (L : List Int) (k : Nat) (v : Value) : Prop := k ≤ L.length ∧ ∃ β, ObjAt noB β w (fun b => lo ≤ b ∧ b < hi) 0 ⟨3, 1, L.map yG⟩ ∧ Rep noB β w (.ref 0 0 k) v
theorem GotI.nil (lo hi : Nat) (w : World) : GotI lo hi w [] 0 (.slice none 0 0) :=
  ⟨Nat.le_refl _, fun _ => some ⟨none, 1, 0⟩, ⟨⟨none, 1, 0⟩, rfl, (fun x hx => by simp at hx), (fun _ => rfl), (fun b hb => by simp at hb)⟩, .ref0 0 1 0 rfl⟩
theorem flat_int {I I' : Nat → Prop} {β : Nat → Option BI} {w w' : World} {l : List Int} {x : List Cell} {c : Cell} {u : Value} {β' : Nat → Option BI} {i j : Nat} (hx : (l.map yG)[i]? = some x) (hj : x[j]? = some c) (h : Rep I β w c u) : Rep I' β' w' c u := by
  obtain ⟨p, _, rfl⟩ := List.mem_map.1 (List.mem_of_getElem? hx)
  have := List.mem_of_getElem? hj
  simp only [yG, List.mem_singleton] at this
  subst this
  cases h with
  | imm h => cases h with | v _ h => exact .imm (.v _ h)
theorem obj_ints {I I' : Nat → Prop} {β β' : Nat → Option BI} {w w' : World} {M M' : Nat → Prop} {l : List Int} (h : ObjAt I β w M 0 ⟨3, 1, l.map yG⟩) (hβ : β' 0 = β 0) (hb : ∀ b B, β 0 = some B → B.blk = some b → M b → ¬ I' b ∧ M' b ∧ w'.heap[b]? = w.heap[b]?) : ObjAt I' β' w' M' 0 ⟨3, 1, l.map yG⟩ := by
  obtain ⟨B, hB, h2, h3, h4⟩ := h
  refine ⟨B, hβ.trans hB, h2, h3, fun b hbb => ?_⟩
  obtain ⟨k0, k1, k2, arr, k3, k4, k5, k6, k7⟩ := h4 b hbb
  obtain ⟨q1, q2, q3⟩ := hb b B hB hbb k1
  refine ⟨k0, q2, q1, arr, q3.trans k3, k4, k5, k6, fun i j x c hx hj => ?_⟩
  obtain ⟨u, hu, hr⟩ := k7 i j x c hx hj
  exact ⟨u, hu, flat_int hx hj hr⟩
theorem GotI.keep {lo hi lo' hi' : Nat} {w w' : World} {L : List Int} {k : Nat} {v : Value} (h : GotI lo hi w L k v) (hl : lo' ≤ lo) (hh : hi ≤ hi') (hb : ∀ b, lo ≤ b → b < hi → w'.heap[b]? = w.heap[b]?) : GotI lo' hi' w' L k v := by
  obtain ⟨h1, β, h2, h3⟩ := h
  exact ⟨h1, β, obj_ints h2 rfl fun b B _ _ hM => ⟨fun h => h, ⟨by omega, by omega⟩, hb b hM.1 hM.2⟩, ref_rep h3 rfl⟩
theorem GotI.below {lo hi : Nat} {w w' : World} {L : List Int} {k : Nat} {v : Value} (h : GotI lo hi w L k v) (hh : hi ≤ w.heap.size) (hb : Below w.heap.size w w') : GotI lo hi w' L k v :=
  h.keep (Nat.le_refl _) (Nat.le_refl _) fun b _ h2 => hb.block b (by omega)
theorem GotI.fr {lo hi lo' hi' : Nat} {w w' : World} {L : List Int} {k : Nat} {v : Value} (h : GotI lo hi w L k v) (hh : hi ≤ w.heap.size) (hf : Fr lo' hi' w w') (hd : hi ≤ lo' ∨ hi' ≤ lo) : GotI lo hi w' L k v :=
  h.keep (Nat.le_refl _) (Nat.le_refl _) fun b h1 h2 => hf.block b (by omega) (by omega)
theorem GotI.rep {lo hi : Nat} {w : World} {L : List Int} {k : Nat} {v : Value} (h : GotI lo hi w L k v) : RepI (fun b => lo ≤ b ∧ b < hi) w (.sl ((L.take k).map yG)) v := by
  obtain ⟨h1, β, ⟨B, hB, e2, e3, e4⟩, h3⟩ := h
  cases h3 with
  | imm h => cases h
  | refE _ _ A cap h => exact absurd rfl h
  | ref0 _ sz C h => rw [List.take_zero]; exact .sl0 none 0
  | ref _ _ _ b sz cap C q1 q2 q3 =>
    rw [hB] at q1
    obtain rfl : B = ⟨some b, sz, C⟩ := Option.some.inj q1
    obtain ⟨k0, k1, _, arr, k3, k4, k5, k6, k7⟩ := e4 b rfl
    have k0' : sz = 1 := k0
    subst k0'
    have hat : ∀ (i : Nat) p, (L.take k)[i]? = some p → w.cell? ⟨b, 0 * 1 + i, none⟩ = some (.int .i64 p) := fun i p hp => by
      have hp' : L[i]? = some p := by
        rw [List.getElem?_take] at hp
        split at hp
        · exact hp
        · cases hp
      obtain ⟨u, hu, hr⟩ := k7 i 0 _ (int p) (xG (f := yG) hp') rfl
      have e : u = .int .i64 p := by
        cases hr with
        | imm hr => exact repI_v hr
      have hu' : arr[i * 1 + 0]? = some u := hu
      rw [Nat.mul_one, Nat.add_zero] at hu'
      rw [cell_of_row w b _ arr _ _ k3, Nat.zero_mul, Nat.zero_add, hu', e]
    have hrd : Rd xX 1 w (b + 1) (some ⟨b, 0 * 1, none⟩) (L.take k) := fun i p hp => ⟨b, 0 * 1, rfl, Nat.lt_succ_self b, fun j q hq => by
      cases j with
      | zero =>
        simp only [xX, List.getElem?_cons_zero, Option.some.injEq] at hq
        subst hq
        have := hat i p hp
        simpa using this
      | succ j => simp [xX] at hq⟩
    have hl : (L.take k).length = k := by rw [List.length_take]; omega
    have hr := ints_repI (I := fun b => lo ≤ b ∧ b < hi) (c := cap) hrd (by omega) (fun b' f e _ => by
      simp only [Option.some.injEq, Addr.mk.injEq, and_true] at e
      obtain ⟨rfl, _⟩ := e
      exact ⟨k1.1, k1.2⟩)
    rw [hl] at hr
    exact hr
end Go.Proofs.YtjeffognhcbiaaaDoor
