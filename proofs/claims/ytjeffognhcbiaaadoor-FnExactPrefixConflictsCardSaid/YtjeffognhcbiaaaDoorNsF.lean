/- Lists of flat elements that functions gave back: where they lie, read, marked, held; calls on them. -/
import Derived.Test.YtjeffognhcbiaaaDoorNsK
namespace Go.Proofs.YtjeffognhcbiaaaDoor
open Go Go.RowKit
def qA (els : List (List Cell)) : Prop := ∀ x ∈ els, ∀ c ∈ x, ∃ u : Value, c = .v u ∧ u.oneCell' = true
structure GotF (t : TypeId) (sz lo hi : Nat) (w : World) (els : List (List Cell)) (k : Nat) (v : Value) : Prop where
  le : k ≤ els.length
  pl : qA els
  ex : ∃ β, ObjAt noB β w (fun b => lo ≤ b ∧ b < hi) 0 ⟨t, sz, els⟩ ∧ Rep noB β w (.ref 0 0 k) v
theorem GotF.nil (t : TypeId) (sz lo hi : Nat) (w : World) : GotF t sz lo hi w [] 0 (.slice none 0 0) :=
  ⟨Nat.le_refl _, fun x hx => by simp at hx, fun _ => some ⟨none, sz, 0⟩, ⟨⟨none, sz, 0⟩, rfl, (fun x hx => by simp at hx), (fun _ => rfl), (fun b hb => by simp at hb)⟩, .ref0 0 sz 0 rfl⟩
theorem plain_rep {I I' : Nat → Prop} {β β' : Nat → Option BI} {w w' : World} {els : List (List Cell)} {x : List Cell} {c : Cell} {u : Value} {i j : Nat} (hp : qA els) (hx : els[i]? = some x) (hj : x[j]? = some c) (h : Rep I β w c u) : Rep I' β' w' c u := by
  obtain ⟨q, rfl, hq⟩ := hp x (List.mem_of_getElem? hx) c (List.mem_of_getElem? hj)
  cases h with
  | imm h => cases h with | v _ h => exact .imm (.v _ h)
theorem obj_flat {I I' : Nat → Prop} {β β' : Nat → Option BI} {w w' : World} {M M' : Nat → Prop} {t : TypeId} {sz : Nat} {els : List (List Cell)} (hp : qA els) (h : ObjAt I β w M 0 ⟨t, sz, els⟩) (hβ : β' 0 = β 0) (hb : ∀ b B, β 0 = some B → B.blk = some b → M b → ¬ I' b ∧ M' b ∧ w'.heap[b]? = w.heap[b]?) : ObjAt I' β' w' M' 0 ⟨t, sz, els⟩ := by
  obtain ⟨B, hB, h2, h3, h4⟩ := h
  refine ⟨B, hβ.trans hB, h2, h3, fun b hbb => ?_⟩
  obtain ⟨k0, k1, k2, arr, k3, k4, k5, k6, k7⟩ := h4 b hbb
  obtain ⟨q1, q2, q3⟩ := hb b B hB hbb k1
  refine ⟨k0, q2, q1, arr, q3.trans k3, k4, k5, k6, fun i j x c hx hj => ?_⟩
  obtain ⟨u, hu, hr⟩ := k7 i j x c hx hj
  exact ⟨u, hu, plain_rep hp hx hj hr⟩
section
variable {t : TypeId} {sz : Nat} {els : List (List Cell)} {k : Nat} {v : Value}
theorem GotF.keep {lo hi lo' hi' : Nat} {w w' : World} (h : GotF t sz lo hi w els k v) (hl : lo' ≤ lo) (hh : hi ≤ hi') (hb : ∀ b, lo ≤ b → b < hi → w'.heap[b]? = w.heap[b]?) : GotF t sz lo' hi' w' els k v := by
  obtain ⟨h1, hp, β, h2, h3⟩ := h
  exact ⟨h1, hp, β, obj_flat hp h2 rfl fun b B _ _ hM => ⟨fun h => h, ⟨by omega, by omega⟩, hb b hM.1 hM.2⟩, ref_rep h3 rfl⟩
theorem GotF.below {lo hi : Nat} {w w' : World} (h : GotF t sz lo hi w els k v) (hh : hi ≤ w.heap.size) (hb : Below w.heap.size w w') : GotF t sz lo hi w' els k v :=
  h.keep (Nat.le_refl _) (Nat.le_refl _) fun b _ h2 => hb.block b (by omega)
theorem GotF.fr {lo hi lo' hi' : Nat} {w w' : World} (h : GotF t sz lo hi w els k v) (hh : hi ≤ w.heap.size) (hf : Fr lo' hi' w w') (hd : hi ≤ lo' ∨ hi' ≤ lo) : GotF t sz lo hi w' els k v :=
  h.keep (Nat.le_refl _) (Nat.le_refl _) fun b h1 h2 => hf.block b (by omega) (by omega)
theorem GotF.rep {lo hi : Nat} {w : World} (h : GotF t sz lo hi w els k v) : RepI (fun b => lo ≤ b ∧ b < hi) w (.sl (els.take k)) v := by
  obtain ⟨h1, hp, β, ⟨B, hB, e2, e3, e4⟩, h3⟩ := h
  cases h3 with
  | imm h => cases h
  | refE _ _ A cap h => exact absurd rfl h
  | ref0 _ sz C h => rw [List.take_zero]; exact .sl0 none 0
  | ref _ _ _ b sz' cap C q1 q2 q3 =>
    rw [hB] at q1
    obtain rfl : B = ⟨some b, sz', C⟩ := Option.some.inj q1
    obtain ⟨k0, k1, _, arr, k3, k4, k5, k6, k7⟩ := e4 b rfl
    have k0' : sz' = sz := k0
    subst k0'
    have hel : ∀ {i : Nat} {x : List Cell}, (els.take k)[i]? = some x → els[i]? = some x := fun {i x} hx => by
      rw [List.getElem?_take] at hx
      split at hx
      · exact hx
      · cases hx
    refine .sl _ b (0 * sz') sz' _ cap (fun i j => (arr[i * sz' + j]?).getD undef) (by rw [List.length_take]; omega) q2 (fun x hx => e2 x (List.mem_of_mem_take hx)) k1 (fun i j x c hx hj => ?_) (fun i j x c hx hj => ?_)
    · obtain ⟨u, hu, hr⟩ := k7 i j x c (hel hx) hj
      have hu' : arr[i * sz' + j]? = some u := hu
      rw [cell_of_row w b _ arr _ _ k3, Nat.zero_mul, Nat.zero_add, hu']
      rfl
    · obtain ⟨u, hu, hr⟩ := k7 i j x c (hel hx) hj
      have hu' : arr[i * sz' + j]? = some u := hu
      rw [hu']
      obtain ⟨q, rfl, hq⟩ := hp x (List.mem_of_getElem? (hel hx)) c (List.mem_of_getElem? hj)
      cases hr with
      | imm hr => cases hr with | v _ h => exact .v _ h
theorem GotF.rep' {lo hi : Nat} {w : World} (h : GotF t sz lo hi w els k v) {els' : List (List Cell)} (e : els.take k = els') (hh : hi ≤ w.heap.size) : Rep (fun b => b < w.heap.size) (fun _ => none) w (.sl els') v := by
  subst e
  exact Rep.imm (h.rep.mono (fun b hb => by have := hb.2; omega) (fun _ _ => rfl))
theorem markF {f : Nat} {els' : List (List Cell)} {ya : AVal} {va : Value} {lo hi n m : Nat} {w : World} (hm : PFM Tryd.prog f [⟨t, sz, els⟩] [ya, .c (int (n : Int))] [some ⟨t, sz, els'⟩] (.c (int (m : Int)))) (h : GotF t sz lo hi w els k v)
    (hya : ∀ {I : Nat → Prop} {β : Nat → Option BI} {w : World}, Rep I β w (.ref 0 0 k) v → RepF I β w ya va) (hl : els.length = els'.length) (hp' : qA els') (gi : GI (fun b => b < lo) w) (hlo : lo ≤ w.heap.size) :
    Calls Tryd.prog f #[va, .int .i64 (n : Int)] w fun e w' => e = .returned (.int .i64 (m : Int)) ∧ GotF t sz lo hi w' els' k v ∧ Fr lo hi w w' := by
  obtain ⟨hk1, hp, β, h2, h3⟩ := h
  have hin : ∀ b B, β 0 = some B → B.blk = some b → lo ≤ b ∧ b < hi := fun b B hB hb => (h2.lt hB hb).2.1
  have hβ : ∀ o B, (fun o => if o = 0 then β 0 else none) o = some B → o = 0 ∧ β 0 = some B := fun o B e => by
    simp only at e
    split at e
    · exact ⟨by assumption, e⟩
    · cases e
  have hblk : ∀ b, wI (fun o => if o = 0 then β 0 else none) 1 b → lo ≤ b ∧ b < hi := fun b ⟨o, B, _, hB, hb⟩ => hin b B (hβ o B hB).2 hb
  refine (hm.run (fun b => b < lo) (fun o => if o = 0 then β 0 else none) w [va, .int .i64 (n : Int)] (fun b hb => Nat.lt_of_lt_of_le hb hlo) gi (fun o B e => by have := (hβ o B e).1; simp; omega) (fun o obj e => ?_) (fun o o' obj obj' B B' b e e' hne hB hB' => absurd ((hβ o B hB).1.trans (hβ o' B' hB').1.symm) hne) (.cons (hya (ref_rep h3 rfl)) (.cons (Rep.imm (.v _ rfl)) .nil))).mono ?_
  · cases o with
    | zero =>
      simp only [List.getElem?_cons_zero, Option.some.injEq] at e
      subst e
      exact obj_flat hp h2 rfl fun b B hB hb hM => ⟨fun hlt => by have := hM.1; omega, ⟨0, B, by simp, by simpa using hB, hb⟩, rfl⟩
    | succ o => simp at e
  · rintro e w' ⟨u, I', β', rfl, hv, hk, hI, _, _, h5, h6, _⟩
    have e : u = .int .i64 (m : Int) := qI (show Rep I' β' w' (int (m : Int)) u from hv)
    subst e
    have hβ0 : β' 0 = β 0 := by have := h5 0 (by simp); simpa using this
    have ho := h6 0 _ rfl
    exact ⟨rfl, ⟨by omega, hp', β', obj_flat hp' ho rfl fun b B hB hb _ => ⟨fun h => h, hin b B (by rw [← hβ0]; exact hB) hb, rfl⟩, ref_rep h3 hβ0⟩, ⟨hk.os, hk.tape, hk.output, hk.size, fun b hb hn => hk.block b hb fun hbl => by have := hblk b hbl; omega⟩⟩
end
theorem qF {f : Nat} {ys : List AVal} {r : Value} (h : PF Tryd.prog f ys [] (.c (.v r))) {w : World} (gi : GI (fun b => b < w.heap.size) w) {vals : List Value} (ha : All2 (RepF (fun b => b < w.heap.size) (fun _ => none) w) ys vals) :
    Calls Tryd.prog f vals.toArray w fun e w' => e = .returned r ∧ Below w.heap.size w w' := by
  refine (vD h gi ha).mono ?_
  rintro e w' ⟨u, I', β', rfl, hv, hb, _⟩
  have e : u = r := qI (show Rep I' β' w' (.v r) u from hv)
  rw [e]
  exact ⟨rfl, hb⟩
end Go.Proofs.YtjeffognhcbiaaaDoor
