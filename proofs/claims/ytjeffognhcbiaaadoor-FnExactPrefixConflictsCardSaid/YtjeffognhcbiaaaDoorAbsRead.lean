/- The abstract machine, part 17: what a readable argument looks like to it; and from a law's contract to what its row asks. -/
import Derived.Test.YtjeffognhcbiaaaDoorAbs3
import Derived.Test.YtjeffognhcbiaaaDoorOld
import Derived.Deep.Strs
namespace Go.Proofs.YtjeffognhcbiaaaDoor
open Go Go.RowKit Go.ChangeShapes Go.WideShapes Go.ChangeAt Go.Deep
def Reads (P : Program) (w : World) (t : TypeId) (Q : List Cell → Prop) : Prop :=
  ∀ (H : Type) (enc : TypeId × Value → H) (base : Nat) (spare : Nat → Bool) (held : Bool) (fuel : Nat) (cs : List Value) (x : DataW H × List MemPlace),
    DataW.trod enc P w base spare held fuel t cs = some x → ∃ cells, Q cells ∧ All2 (RepI (fun b => b < w.heap.size) w) cells cs
section
variable {P : Program} {w : World} {t : TypeId}
theorem Reads.mono {Q Q' : List Cell → Prop} (h : Reads P w t Q) (hq : ∀ cs, Q cs → Q' cs) : Reads P w t Q' := fun H enc b s d f cs x hx => by
  obtain ⟨cells, h1, h2⟩ := h H enc b s d f cs x hx
  exact ⟨cells, hq _ h1, h2⟩
theorem reads_int (ht : P.underlying t = some (.int .i64)) : Reads P w t (fun cs => ∃ n : Int, cs = [int n] ∧ -9223372036854775808 ≤ n ∧ n ≤ 9223372036854775807) := fun H enc b s d f cs x hx => by
  obtain ⟨n, rfl, _, hw⟩ := DataW.trod_int ht hx
  refine ⟨[int n], ⟨n, rfl, ?_⟩, .cons (.v _ rfl) .nil⟩
  have e1 : IntKind.i64.min = -9223372036854775808 := by decide
  have e2 : IntKind.i64.max = 9223372036854775807 := by decide
  have h : IntKind.i64.min ≤ n ∧ n ≤ IntKind.i64.max := by simpa [Lit.wf] using hw
  rwa [e1, e2] at h
theorem reads_str (ht : P.underlying t = some .string) : Reads P w t (fun cs => ∃ l : List UInt8, cs = [str l] ∧ l.length ≤ 9223372036854775807) := fun H enc b s d f cs x hx => by
  obtain ⟨n, rfl, _, hs⟩ := DataW.trod_string ht hx
  exact ⟨[str n.data.toList], ⟨_, rfl, hs⟩, .cons (.v _ rfl) .nil⟩
theorem All2.appendI {R : Cell → Value → Prop} : ∀ {a b : List Cell} {c d : List Value}, All2 R a c → All2 R b d → All2 R (a ++ b) (c ++ d)
  | _, _, _, _, .nil, h => h
  | _, _, _, _, .cons h hs, k => .cons h (All2.appendI hs k)
theorem reads_struct1 {f0 : Field} {Q0 : List Cell → Prop} (ht : P.underlying t = some (.struct #[f0])) (o0 : f0.offset = 0) (hC : P.cellsOf t = P.cellsOf f0.type) (h0 : Reads P w f0.type Q0) : Reads P w t Q0 := fun H enc b s d f cs x hx => by
  obtain ⟨y0, n, _, hl, h⟩ := trod_struct1 ht hx
  rw [o0, List.drop_zero, List.take_of_length_le (by omega)] at h
  exact h0 _ _ _ _ _ _ _ _ h
theorem reads_struct2 {f0 f1 : Field} {Q0 Q1 : List Cell → Prop} (ht : P.underlying t = some (.struct #[f0, f1])) (o0 : f0.offset = 0) (o1 : f1.offset = P.cellsOf f0.type) (hC : P.cellsOf t = P.cellsOf f0.type + P.cellsOf f1.type)
    (h0 : Reads P w f0.type Q0) (h1 : Reads P w f1.type Q1) : Reads P w t (fun cs => ∃ a b, cs = a ++ b ∧ Q0 a ∧ Q1 b) := fun H enc b s d f cs x hx => by
  obtain ⟨y0, y1, n, _, hl, k0, k1⟩ := trod_struct2 ht hx
  rw [o0, List.drop_zero] at k0
  rw [o1, List.take_of_length_le (by simp; omega)] at k1
  obtain ⟨a, ha, ra⟩ := h0 _ _ _ _ _ _ _ _ k0
  obtain ⟨b, hb, rb⟩ := h1 _ _ _ _ _ _ _ _ k1
  refine ⟨a ++ b, ⟨a, b, rfl, ha, hb⟩, ?_⟩
  have := All2.appendI ra rb
  rwa [List.take_append_drop] at this
theorem reads_slice {e : TypeId} {Q : List Cell → Prop} (ht : P.underlying t = some (.slice e)) (hpos : 0 < P.cellsOf e) (h : Reads P w e Q) :
    Reads P w t (fun cs => ∃ xs : List (List Cell), cs = [.sl xs] ∧ xs.length ≤ 9223372036854775807 ∧ ∀ x ∈ xs, Q x) := fun H enc b s d f cs x hx => by
  rcases open_slice ht hx with ⟨rfl, _⟩ | ⟨a, len, cap, m, n, D, Pl, rfl, hb, hl, hm, hmm, _, hi⟩
  · exact ⟨[.sl []], ⟨[], rfl, Nat.zero_le _, by simp⟩, .cons (.sl0 _ _) .nil⟩
  · have hlm : len ≤ m := by rw [hmm]; split <;> omega
    have key : ∀ k, k ≤ len → ∃ ys : List (List Cell), ys.length = k ∧ ∀ i y, ys[i]? = some y → Q y ∧ ∃ cs', w.cells? b (a.add (i * P.cellsOf e)) (P.cellsOf e) = some cs' ∧ All2 (RepI (fun b => b < w.heap.size) w) y cs' := by
      intro k
      induction k with
      | zero => exact fun _ => ⟨[], rfl, fun i y h => by simp at h⟩
      | succ k ih =>
        intro hk
        obtain ⟨ys, hys, hyc⟩ := ih (by omega)
        obtain ⟨cs', hc, ht'⟩ := hi k (by omega)
        obtain ⟨y, hq, hr⟩ := h _ _ _ _ _ _ _ _ ht'
        refine ⟨ys ++ [y], by simp [hys], fun i z hz => ?_⟩
        rcases Nat.lt_or_ge i k with hik | hik
        · rw [List.getElem?_append_left (by omega)] at hz
          exact hyc i z hz
        · rw [List.getElem?_append_right (by omega)] at hz
          have hi0 : i - ys.length = 0 := by
            rcases Nat.eq_zero_or_pos (i - ys.length) with h0 | h0
            · exact h0
            · rw [List.getElem?_eq_none (by simp; omega)] at hz; cases hz
          rw [hi0] at hz
          simp only [List.getElem?_cons_zero, Option.some.injEq] at hz
          obtain rfl : i = k := by omega
          rw [← hz]
          exact ⟨hq, cs', hc, hr⟩
    obtain ⟨ys, hys, hyc⟩ := key len (Nat.le_refl _)
    refine ⟨[.sl ys], ⟨ys, rfl, by have : maxLen = 9223372036854775807 := rfl; omega, fun y hy => ?_⟩, .cons ?_ .nil⟩
    · obtain ⟨i, hi⟩ := List.getElem?_of_mem hy
      exact (hyc i y hi).1
    · cases ys with
      | nil => simp at hys; subst hys; exact .sl0 _ _
      | cons y0 ys =>
        obtain ⟨_, c0, hc0, _⟩ := hyc 0 y0 rfl
        obtain ⟨_, hln, hat⟩ := World.cells?_some hc0
        have h0 : ∃ v, w.cell? (a.add 0) = some v := by
          have := hat 0 hpos
          rw [Nat.zero_mul] at this
          have h00 : (a.add 0).add 0 = a.add 0 := by unfold Addr.add; simp
          rw [h00] at this
          exact ⟨_, this.trans (List.getElem?_eq_getElem (by omega))⟩
        obtain ⟨v, hv⟩ := h0
        have ha := spot_none hv
        have hb' : a.block < w.heap.size := by
          have := block_lt_of_cell hv
          have h00 : a.add 0 = a := by unfold Addr.add; simp
          rwa [h00] at this
        have each : ∀ (i j : Nat) x c, (y0 :: ys)[i]? = some x → x[j]? = some c → ∃ u, w.cell? ⟨a.block, a.off + i * P.cellsOf e + j, none⟩ = some u ∧ RepI (fun b => b < w.heap.size) w c u := by
          intro i j x c hx hc
          obtain ⟨_, c1, hc1, hr1⟩ := hyc i x hx
          obtain ⟨_, hln1, hat1⟩ := World.cells?_some hc1
          obtain ⟨u, hu, hru⟩ := hr1.at hc
          have hj : j < P.cellsOf e := by rw [← hln1]; exact (List.getElem?_eq_some_iff.1 hu).1
          have := hat1 j hj
          rw [ha, add_lit, add_lit] at this
          exact ⟨u, this.trans hu, hru⟩
        rw [ha]
        refine .sl (y0 :: ys) a.block a.off (P.cellsOf e) len cap (fun i j => (w.cell? ⟨a.block, a.off + i * P.cellsOf e + j, none⟩).getD undef) hys.symm hl (fun x hx => ?_) hb' (fun i j x c hx hc => ?_) (fun i j x c hx hc => ?_)
        · obtain ⟨i, hi⟩ := List.getElem?_of_mem hx
          obtain ⟨_, c1, hc1, hr1⟩ := hyc i x hi
          obtain ⟨_, hln1, _⟩ := World.cells?_some hc1
          rw [← hr1.length, hln1]
        · obtain ⟨u, hu, _⟩ := each i j x c hx hc
          rw [hu]; rfl
        · obtain ⟨u, hu, hr⟩ := each i j x c hx hc
          simp only [hu, Option.getD_some]; exact hr
theorem lift_list {α : Type} {enc : α → List Cell} {ok : α → Prop} : ∀ {xs : List (List Cell)}, (∀ x ∈ xs, ∃ y, x = enc y ∧ ok y) → ∃ ys : List α, xs = ys.map enc ∧ ∀ y ∈ ys, ok y
  | [], _ => ⟨[], rfl, by simp⟩
  | x :: xs, h => by
    obtain ⟨y, rfl, hy⟩ := h x (by simp)
    obtain ⟨ys, rfl, hys⟩ := lift_list (xs := xs) fun z hz => h z (by simp [hz])
    exact ⟨y :: ys, rfl, fun z hz => by rcases List.mem_cons.1 hz with rfl | hz; exact hy; exact hys z hz⟩
theorem reads_arg {Q : List Cell → Prop} {H : Type} {enc : TypeId × Value → H} {base : Nat} {sp : Nat → Bool} {held : Bool} {v : Value} {d : DataW H} {ps : List MemPlace} (h : Reads P w t Q) (hd : DataW.Trod enc P w base sp held t v d ps) :
    ∃ cells, Q cells ∧ All2 (RepI (fun b => b < w.heap.size) w) cells v.cells.toList := by
  obtain ⟨fuel, hf⟩ := hd
  exact h _ _ _ _ _ _ _ _ hf
theorem all2_imm {I : Nat → Prop} {β : Nat → Option BI} : ∀ {cs : List Cell} {vs : List Value}, All2 (RepI I w) cs vs → All2 (Rep I β w) cs vs
  | _, _, .nil => .nil
  | _, _, .cons h hs => .cons (.imm h) (all2_imm hs)
theorem arg_agg {β : Nat → Option BI} {fs : Array Field} {cells : List Cell} {v : Value} {r : Reach} {b : Nat} (ht : P.underlying t = some (.struct fs)) (hv : Value.okWide P w r b t v) (h : All2 (RepI (fun b => b < w.heap.size) w) cells v.cells.toList) :
    RepF (fun b => b < w.heap.size) β w (.agg cells) v := by
  obtain ⟨cs, rfl, _⟩ := okWide_struct ht hv
  exact ⟨cs.toList, rfl, all2_imm h⟩
theorem arg_one {β : Nat → Option BI} {c : Cell} {v : Value} (hv : v.cells = #[v]) (h : All2 (RepI (fun b => b < w.heap.size) w) [c] v.cells.toList) : RepF (fun b => b < w.heap.size) β w (.c c) v := by
  rw [hv] at h
  cases h with
  | cons h _ => exact .imm h
theorem arg_slice {β : Nat → Option BI} {e : TypeId} {c : Cell} {v : Value} {r : Reach} {b : Nat} (ht : P.underlying t = some (.slice e)) (hv : Value.okWide P w r b t v) (h : All2 (RepI (fun b => b < w.heap.size) w) [c] v.cells.toList) : RepF (fun b => b < w.heap.size) β w (.c c) v := by
  obtain ⟨_, _, _, rfl⟩ := okWide_slice ht hv; exact arg_one rfl h
end
end Go.Proofs.YtjeffognhcbiaaaDoor
