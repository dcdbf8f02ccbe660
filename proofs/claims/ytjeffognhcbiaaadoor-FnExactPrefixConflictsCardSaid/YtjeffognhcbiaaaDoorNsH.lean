/- Lists of lists that functions gave back: read, compared, held, in a concrete walk. -/
import Derived.Test.YtjeffognhcbiaaaDoorNsO
import Derived.Test.YtjeffognhcbiaaaDoorNsF
namespace Go.Proofs.YtjeffognhcbiaaaDoor
open Go Go.RowKit
theorem rep_sl {I : Nat → Prop} {w : World} {xs : List (List Cell)} {v : Value} (h : RepI I w (.sl xs) v) : ∃ A c, v = .slice A xs.length c := by
  generalize hx : Cell.sl xs = x at h
  cases h with
  | v _ _ => cases hx
  | nil => cases hx
  | ip _ _ _ _ _ _ _ => cases hx
  | fn _ _ _ _ _ _ _ => cases hx
  | sl0 A cap => injection hx with hx; subst hx; exact ⟨_, _, rfl⟩
  | sl ys b f sz n cap u h1 h2 h3 h4 h5 h6 => injection hx with hx; subst hx; subst h1; exact ⟨_, _, rfl⟩
theorem GotF.sl {t : TypeId} {sz lo hi : Nat} {w : World} {els : List (List Cell)} {k : Nat} {v : Value} (h : GotF t sz lo hi w els k v) : ∃ A c, v = .slice A k c := by
  have hk := h.le
  obtain ⟨A, c, e⟩ := rep_sl h.rep
  rw [List.length_take, Nat.min_eq_left hk] at e
  exact ⟨A, c, e⟩
def GotW (hi : Nat) (w : World) (L : List (List Int)) (v : Value) : Prop := RepI (fun b => b < hi) w (.sl (L.map eL)) v
theorem GotW.below {hi : Nat} {w w' : World} {L : List (List Int)} {v : Value} (h : GotW hi w L v) (hh : hi ≤ w.heap.size) (hb : Below w.heap.size w w') : GotW hi w' L v := RepI.mono h (fun _ h => h) fun b hb' => hb.block b (by omega)
theorem GotW.fr {hi lo hi' : Nat} {w w' : World} {L : List (List Int)} {v : Value} (h : GotW hi w L v) (hh : hi ≤ w.heap.size) (hf : Fr lo hi' w w') (hd : hi ≤ lo) : GotW hi w' L v := RepI.mono h (fun _ h => h) fun b hb' => hf.block b (by omega) (by omega)
theorem GotW.nil (hi : Nat) (w : World) : GotW hi w [] (.slice none 0 0) := .sl0 none 0
theorem obj_rep {I : Nat → Prop} {β : Nat → Option BI} {w : World} {M : Nat → Prop} {t : TypeId} {L : List (List Int)} {v : Value} (hI : ∀ b, I b → b < w.heap.size) (ho : ObjAt I β w M 0 ⟨t, 1, L.map eL⟩) (h3 : Rep I β w (.ref 0 0 L.length) v) : RepI (fun b => b < w.heap.size) w (.sl (L.map eL)) v := by
  have ho' := ho
  obtain ⟨B, hB, e2, e3, e4⟩ := ho
  generalize hn : L.length = n at h3
  cases h3 with
  | imm h => cases h
  | refE _ _ A cap h => exact absurd rfl h
  | ref0 _ sz C h =>
    have : L = [] := List.length_eq_zero_iff.1 hn
    subst this
    exact .sl0 none 0
  | ref _ _ _ b sz' cap C q1 q2 q3 =>
    rw [hB] at q1
    obtain rfl : B = ⟨some b, sz', C⟩ := Option.some.inj q1
    obtain ⟨k0, k1, k2, arr, k3, k4, k5, k6, k7⟩ := e4 b rfl
    have k0' : sz' = 1 := k0
    subst k0'
    have hL : (L.map eL).length = n := by rw [List.length_map]; exact hn
    refine .sl _ b (0 * 1) 1 _ cap (fun i j => (arr[i * 1 + j]?).getD undef) (by omega) q2 e2 ((ho'.lt hB rfl).1) (fun i j x c hx hj => ?_) (fun i j x c hx hj => ?_)
    · obtain ⟨u, hu, hr⟩ := k7 i j x c hx hj
      have hu' : arr[i * 1 + j]? = some u := hu
      rw [cell_of_row w b _ arr _ _ k3, Nat.zero_mul, Nat.zero_add, hu']
      rfl
    · obtain ⟨u, hu, hr⟩ := k7 i j x c hx hj
      have hu' : arr[i * 1 + j]? = some u := hu
      rw [hu']
      obtain ⟨q, _, rfl⟩ := List.mem_map.1 (List.mem_of_getElem? hx)
      have := List.mem_of_getElem? hj
      simp only [eL, List.mem_singleton] at this
      subst this
      cases hr with
      | imm hr => exact hr.mono hI (fun _ _ => rfl)
theorem gotW_tup {I : Nat → Prop} {β : Nat → Option BI} {w : World} {M : Nat → Prop} {t : TypeId} {L : List (List Int)} {b : Bool} {v : Value} (hI : ∀ b, I b → b < w.heap.size) (h : RepV I β w (.tup [.c (.ref 0 0 L.length), .c (boo b)]) v) (ho : ObjAt I β w M 0 ⟨t, 1, L.map eL⟩) :
    ∃ u, v = .tuple #[u, .bool b] ∧ GotW w.heap.size w L u := by
  obtain ⟨u, y, rfl, h1, h2⟩ := tup_two h
  have h2' : Rep I β w (boo b) y := h2
  have e : y = .bool b := qI h2'
  subst e
  exact ⟨u, rfl, obj_rep hI ho h1⟩
theorem wZ {lo hi hi' : Nat} {w : World} {L : List (List Int)} {u u' : Value} (h : GotN lo hi w L u) (h' : GotW hi' w L u') (hl : L.length ≤ 4000000) (hb : ∀ o ∈ L, o.length ≤ 4000000) (hh : hi ≤ w.heap.size) (hh' : hi' ≤ w.heap.size) (gi : GI (fun b => b < w.heap.size) w) :
    Calls Tryd.prog 17 #[u, u'] w fun e w' => e = .returned (.bool true) ∧ Below w.heap.size w w' :=
  qF (eqIntSS_pf L hl hb) gi (vals := [_, _]) (.cons (Rep.imm (h.rep.mono (fun b hb => by have := hb.2; omega) (fun _ _ => rfl))) (.cons (Rep.imm (RepI.mono h' (fun b hb => by have h : b < hi' := hb; show b < _; omega) (fun _ _ => rfl))) .nil))
theorem heldN_call {lo hi k : Nat} {w : World} {L : List (List Int)} {u : Value} (h : GotN lo hi w (mkII k L) u) (hl : L.length ≤ 2000000) (hk : k + L.flatten.length ≤ 2097152) (hh : hi ≤ w.heap.size) (gi : GI (fun b => b < w.heap.size) w) :
    Calls Tryd.prog 19 #[u, .int .i64 (k : Int)] w fun e w' => e = .returned (.int .i64 ((k + L.flatten.length : Nat) : Int)) ∧ Below w.heap.size w w' :=
  qF (heldIntSS_pf L k hl hk) gi (vals := [_, .int .i64 (k : Int)]) (.cons (Rep.imm (h.rep.mono (fun b hb => by have := hb.2; omega) (fun _ _ => rfl))) (.cons (Rep.imm (.v _ rfl)) .nil))
end Go.Proofs.YtjeffognhcbiaaaDoor
