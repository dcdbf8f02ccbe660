/- 'append([]T{}, xs...)' and impl.copyOf. Printed by gen_copy.py. -/
import Derived.Test.YtobfjpopicndnaaMem2
import Derived.Test.YtobfjpopicndnaaStruct
namespace Go.Proofs.Ytobfjpopicndnaa
open Go.RowKit

theorem copy_TI {ops : Array Oper} {rest : List Oper} {o : Oper} {a : Act} {Q : Exit → Act → World → Prop} (W : World) (hgd : o.guard = none) (s x : Operand)
    (ho : o.op = .call { callee := .builtin .append, args := #[s, x], argTypes := #[27, 27] })
    (N : Nat) (hv : a.eval s = .slice (some ⟨N, 0, none⟩) 0 0) (A : Option Addr) (ys : List (Int × Bool)) (c B : Nat) (hx : a.eval x = .slice A ys.length c) (hN : N = W.heap.size) (hrd : Rd encTI 2 W B A ys) (hB : B ≤ W.heap.size) (hl : ys.length ≤ 2097152)
    (h : ∀ g cap w', Own encTI 2 w' W.heap.size 62 (.slice (some ⟨g, 0, none⟩) ys.length cap) ys → Below W.heap.size W w' → g < w'.heap.size → W.heap.size < w'.heap.size →
      wpList Try.prog ops Q rest (a.put o.dst (.slice (some ⟨g, 0, none⟩) ys.length cap)) w') : wpList Try.prog ops Q (o :: rest) a (W.alloc (.cells #[] 62)) :=
  wpList_copy encTI 2 W hgd s x _ _ _ 16 ho Try.underlying27 infoTI rfl (by omega) encTI_len encTI_one N hv A ys c B hx hN hrd hB (by omega) (by unfold maxLen; omega) h
theorem copyOf_TI (A : Option Addr) (c : Nat) (xs : List (Int × Bool)) (w : World) (hb : xs.length ≤ 2097152) (hr : Rd encTI 2 w w.heap.size A xs) :
    Calls Try.prog 54 #[.slice A xs.length c] w fun e w' => ∃ g c', e = .returned (.slice (some ⟨g, 0, none⟩) xs.length c') ∧ Own encTI 2 w' w.heap.size 62 (.slice (some ⟨g, 0, none⟩) xs.length c') xs ∧ Below w.heap.size w w' := by
  have HR := Lib.hid hr
  clear hr
  go_enter Try.func54, Try.ntmps54
  go_wp2_with (at_builtin; refine copy_TI _ rfl (.tmp 3) (.tmp 4) rfl _ rfl A xs c _ rfl rfl HR.out (Nat.le_refl _) hb ?_; rintro g cap w1 hown1 hb1 hg1 hz1; simp only [Act.put, List.setIfInBounds_toArray, List.set_cons_succ, List.set_cons_zero])
  go_ret
  exact ⟨g, cap, rfl, hown1, hb1⟩

end Go.Proofs.Ytobfjpopicndnaa
