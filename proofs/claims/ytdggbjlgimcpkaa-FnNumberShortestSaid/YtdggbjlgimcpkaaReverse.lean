/- A string turned round, as impl does it: bytes, slices.Reverse, and back. No conditions but those stated. -/
import Derived.Test.YtdggbjlgimcpkaaBytes
import Derived.Test.YtdggbjlgimcpkaaSched2
import Derived.Lib.ConvBytes
import Derived.Laws.BytesArg
namespace Go.Proofs.Ytdggbjlgimcpkaa
open Go.RowKit

/-- block g holds the bytes xs, and they may be written -/
def RB (w : World) (g : Nat) (xs : List Int) : Prop := ∀ (j : Nat) x, xs[j]? = some x → w.cell? ⟨g, j, none⟩ = some (.int .u8 x) ∧ w.frozen? ⟨g, j, none⟩ = false
theorem RB.same {w w' : World} {g : Nat} {xs : List Int} (h : RB w g xs) (hs : Same w w') : RB w' g xs := fun j x hx => ⟨(hs.cell _).trans (h j x hx).1, (hs.frozen _).trans (h j x hx).2⟩
theorem RB.set {w : World} {g : Nat} {xs : List Int} (h : RB w g xs) {i : Nat} (hi : i < xs.length) (x : Int) : RB (w.setCell ⟨g, i, none⟩ (.int .u8 x)) g (xs.set i x) := by
  intro j y hy
  obtain ⟨z, hz⟩ := at_of_lt hi
  rw [List.getElem?_set] at hy
  by_cases hji : i = j
  · subst hji
    rw [if_pos rfl, if_pos hi] at hy
    cases hy
    exact ⟨World.cell?_setCell_same _ _ _ (h _ _ hz).1, (World.frozen?_setCell _ _ _ _).trans (h _ _ hz).2⟩
  · rw [if_neg hji] at hy
    exact ⟨(World.cell?_setCell_other _ _ _ _ (by simp only [ne_eq, Addr.mk.injEq, and_true, true_and]; exact hji)).trans (h _ _ hy).1, (World.frozen?_setCell _ _ _ _).trans (h _ _ hy).2⟩
/-- a list turned round from both ends, i steps -/
def Rev (xs ys : List Int) (i : Nat) : Prop := ys.length = xs.length ∧ ∀ p, ys[p]? = if p < i ∨ xs.length - 1 - i < p then xs.reverse[p]? else xs[p]?
theorem Rev.zero (xs : List Int) : Rev xs xs 0 := by
  refine ⟨rfl, fun p => ?_⟩
  split
  · rename_i h
    rw [List.getElem?_eq_none (by omega), List.getElem?_eq_none (by simp; omega)]
  · rfl
theorem Rev.done {xs ys : List Int} {i : Nat} (h : Rev xs ys i) (hi : xs.length ≤ 2 * i + 1) : ys = xs.reverse := by
  apply List.ext_getElem?
  intro p
  rw [h.2]
  split
  · rfl
  · rename_i hp
    rcases Nat.lt_or_ge p xs.length with h1 | h1
    · have : p = xs.length - 1 - p := by omega
      rw [List.getElem?_reverse h1, ← this]
    · rw [List.getElem?_eq_none h1, List.getElem?_eq_none (by simp; omega)]
theorem Rev.step {xs ys : List Int} {i : Nat} (h : Rev xs ys i) (hi : 2 * i + 1 < xs.length) {a b : Int} (ha : ys[i]? = some a) (hb : ys[xs.length - 1 - i]? = some b) : Rev xs ((ys.set i b).set (xs.length - 1 - i) a) (i + 1) := by
  have hl := h.1
  have e1 : xs[i]? = some a := by rw [h.2, if_neg (by omega)] at ha; exact ha
  have e2 : xs[xs.length - 1 - i]? = some b := by rw [h.2, if_neg (by omega)] at hb; exact hb
  refine ⟨by simp [hl], fun p => ?_⟩
  rw [List.getElem?_set, List.getElem?_set]
  by_cases h1 : xs.length - 1 - i = p
  · subst h1
    rw [if_pos rfl, if_pos (by simp; omega), if_pos (by omega), List.getElem?_reverse (by omega), show xs.length - 1 - (xs.length - 1 - i) = i by omega, e1]
  · rw [if_neg h1]
    by_cases h2 : i = p
    · subst h2
      rw [if_pos rfl, if_pos (by omega), if_pos (by omega), List.getElem?_reverse (by omega), e2]
    · rw [if_neg h2, h.2]
      by_cases h3 : p < i ∨ xs.length - 1 - i < p
      · rw [if_pos h3, if_pos (by omega)]
      · rw [if_neg h3, if_neg (by omega)]

set_option maxHeartbeats 1000000 in
theorem reverse_any (g c : Nat) (xs : List Int) (w : World) (hb : xs.length ≤ 1048576) (hr : RB w g xs) :
    Calls Try.prog 111 #[.slice (some ⟨g, 0, none⟩) xs.length c] w fun e w' => e = .returned (.tuple #[]) ∧ RB w' g xs.reverse ∧ w.grownBy w' (some g) := by
  go_enter Try.func111, Try.ntmps111
  go_wp2
  go_loopw [2, 3] (fun i j wr => ∃ (k : Nat) (ys : List Int), 2 * k ≤ xs.length + 1 ∧ i = .int .i64 k ∧ j = .int .i64 ((xs.length : Int) - 1 - k) ∧ Hid (Rev xs ys k) ∧ RB wr g ys ∧ w.grownBy wr (some g)) (fun i _ _ => xs.length - (intOf i).toNat)
  case atStart => exact ⟨0, xs, by omega, rfl, by go_num, Rev.zero xs, hr, grown_refl _ _⟩
  case round =>
    obtain ⟨k, ys, hk, rfl, rfl, HV, hrb, hgr⟩ := hrel
    by_cases hlt : 2 * k + 1 < xs.length
    · have hl := HV.out.1
      obtain ⟨a, ha⟩ := at_of_lt (xs := ys) (k := k) (by omega)
      obtain ⟨b, hb'⟩ := at_of_lt (xs := ys) (k := xs.length - 1 - k) (by omega)
      have hlt1 : (k : Int) < (xs.length : Int) - 1 - k := by omega
      obtain ⟨m, hm⟩ : ∃ m : Nat, (xs.length : Int) - 1 - k = (m : Int) := ⟨xs.length - 1 - k, by omega⟩
      have hmn : xs.length - 1 - k = m := by omega
      rw [hmn] at hb'
      rw [hm] at hlt1 ⊢
      have hm1 : (m : Int) < (xs.length : Int) := by omega
      have hk1 : (k : Int) < (xs.length : Int) := by omega
      have HVV := Lib.hid (HV.out.step hlt ha (by rw [hmn]; exact hb'))
      have HA := Lib.hid ha
      have HB := Lib.hid hb'
      have HL := Lib.hid hl
      have HM := Lib.hid hm
      clear ha hb' hl hm
      go_wp2_with fail
      refine wp_region_plan 15 (.held 0 (.held 1 (.held 2 (.held 3 (.held 4 (.held 5 (.held 6 (.held 8 (.held 9 (.held 10 (.fork 7 (.move 11 (.held 12 (.move 13 (.held 14 .done)))) 11 (.move 7 (.held 12 (.move 13 (.held 14 .done))))))))))))))) (fun w1 w' => w1.grownBy w' (some g)) (by kernel_rfl) (by kernel_rfl) (fun _ _ d _ _ h => by cases d <;> exact h) (fun w3 hs => ⟨grown_refl _ _, ?_⟩)
      have hrb3 := hrb.same hs
      have cA := (hrb3 _ _ HA.out).1
      have cB := (hrb3 _ _ HB.out).1
      have fA := (hrb3 _ _ HA.out).2
      have fB := (hrb3 _ _ HB.out).2
      have hgr3 : w.grownBy w3 (some g) := grown_trans hgr ⟨hs.os, hs.tape, hs.output, Nat.le_of_eq hs.size.symm, fun i _ _ => hs.block i⟩
      have HR3 := Lib.hid hrb3
      have HG3 := Lib.hid hgr3
      clear hrb hgr hs hrb3 hgr3
      (refine wpP_held rfl ?_; go_big_quiet_step (rfl); refine wpQuiet_nil ?_)
      (refine wpP_held rfl ?_; go_big_quiet_step (rfl); refine wpQuiet_nil ?_)
      (refine wpP_held rfl ?_; go_big_quiet_step (rfl); refine wpQuiet_nil ?_)
      (refine wpP_held rfl ?_; go_big_quiet_step (rfl); refine wpQuiet_nil ?_)
      (refine wpP_held rfl ?_; go_big_quiet_step (rfl); refine wpQuiet_nil ?_)
      (refine wpP_held rfl ?_; go_big_quiet_step (rfl); refine wpQuiet_nil ?_)
      (refine wpP_held rfl ?_; go_big_quiet_step (rfl); refine wpQuiet_nil ?_)
      (refine wpP_held rfl ?_; go_big_quiet_step (rfl); refine wpQuiet_nil ?_)
      (refine wpP_held rfl ?_; go_big_quiet_step (rfl); refine wpQuiet_nil ?_)
      (refine wpP_held rfl ?_; go_big_quiet_step (rfl); refine wpQuiet_nil ?_)
      refine wpP_fork rfl rfl ?_ ?_
      all_goals
        go_wp2_with fail
        refine ⟨grown_refl _ _, ?_⟩
        refine wpP_move rfl ?_
        go_wp2_with fail
        refine ⟨grown_refl _ _, ?_⟩
        (refine wpP_held rfl ?_; go_big_quiet_step (rfl); refine wpQuiet_nil ?_)
        refine wpP_move rfl ?_
        go_wp2_with fail
        refine ⟨grown_set (grown_refl _ _) _ _, ?_⟩
        (refine wpP_held rfl ?_; go_big_quiet_step (rfl); refine wpQuiet_nil ?_)
        (refine wpP_nil ?_; simp only [List.drop_succ_cons, List.drop_zero])
        go_wp2
        go_roundw
        case rel =>
          have hl := HL.out
          have hmz := HM.out
          have h1 := (HR3.out.set (i := k) (by omega) b).set (i := m) (by rw [List.length_set]; omega) a
          have h2 := HVV.out
          rw [hmn] at h2
          exact ⟨k + 1, (ys.set k b).set m a, by omega, by go_num, by go_num, h2, h1, grown_set (grown_set HG3.out _ _) _ _⟩
        case measure => simp [intOf]; omega
    · have hlt1 : ¬ (k : Int) < (xs.length : Int) - 1 - k := by omega
      go_wp2
      go_end0
      exact ⟨rfl, by rw [← HV.out.done (by omega)]; exact hrb, hgr⟩

theorem reverse_n (g n c : Nat) (xs : List Int) (w : World) (hn : xs.length = n) (hb : n ≤ 1048576) (hr : RB w g xs) :
    Calls Try.prog 111 #[.slice (some ⟨g, 0, none⟩) n c] w fun e w' => e = .returned (.tuple #[]) ∧ RB w' g xs.reverse ∧ w.grownBy w' (some g) := by
  subst hn; exact reverse_any g c xs w hb hr
theorem rb_new (w : World) (e : TypeId) (s : ByteArray) : RB (Lib.bytesWorld w e s) w.heap.size (bs s) := by
  intro j x hx
  have hj : j < s.size := by have := (List.getElem?_eq_some_iff.1 hx).1; rw [bs_len] at this; exact this
  rw [bs_at s j hj] at hx
  cases hx
  have h1 : (s.data.toList.getD j 0) = s[j] := by
    have : j < s.data.size := hj
    simp only [List.getD, Array.getElem?_toList]
    rw [Array.getElem?_eq_getElem this]
    rfl
  refine ⟨by rw [Lib.bytesWorld_cell w e s j hj, h1], ?_⟩
  have hz : (Lib.bytesCells w e s).size ≥ s.size := by
    unfold Lib.bytesCells
    rw [Array.size_append, Array.size_map]
    have : s.data.size = s.size := rfl
    omega
  unfold World.frozen?
  rw [Lib.bytesWorld_at_new]
  simp
  omega
theorem below_bytes (w : World) (e : TypeId) (s : ByteArray) : Below w.heap.size w (Lib.bytesWorld w e s) :=
  ⟨by simp [Lib.bytesWorld, World.freeze, World.alloc, World.drew, -World.alloc_eq, -World.drew_eq], by simp [Lib.bytesWorld, World.freeze, World.alloc, World.drew, -World.alloc_eq, -World.drew_eq], by simp [Lib.bytesWorld, World.freeze, World.alloc, World.drew, -World.alloc_eq, -World.drew_eq],
    by rw [Lib.bytesWorld_size]; omega, fun k hk => Lib.bytesWorld_at_old w e s k hk⟩
set_option maxRecDepth 100000 in
set_option maxHeartbeats 1000000 in
theorem reversed_any (s : ByteArray) (w : World) (hs : s.size ≤ 1048576) :
    Calls Try.prog 98 #[.string s] w fun e w' => e = .returned (.string (strOfNums (bs s).reverse)) ∧ Below w.heap.size w w' := by
  have HR := Lib.hid (rb_new w 5 s)
  go_enter Try.func98, Try.ntmps98
  go_wp2_with fail
  rw [Lib.run_convert_string_bytes w 9 46 5 s Try.underlying9 Try.underlying46 Try.underlying5]
  simp only [Result.andThen]
  rw [Oper.upon_value]
  simp only [Act.put, List.setIfInBounds_toArray, List.set_cons_succ, List.set_cons_zero]
  go_wp2_with (go_at_call 111; refine (reverse_n w.heap.size s.size _ (bs s) _ (bs_len s) hs HR.out).mono ?_; rintro e w1 ⟨rfl, hrb, hg1⟩)
  rw [run_convert_bytes_arg w1 46 5 Try.underlying46 Try.underlying5 w.heap.size 0 s.size _ (bs s).reverse (by rw [List.length_reverse, bs_len]) (fun i hi => by
    obtain ⟨x, hx⟩ := at_of_lt (xs := (bs s).reverse) (k := i) (by rw [List.length_reverse, bs_len]; exact hi)
    rw [Nat.zero_add, (hrb i x hx).1, List.getD_eq_getElem?_getD, hx]
    rfl) 9 Try.underlying9]
  simp only [Result.andThen]
  rw [Oper.upon_value]
  simp only [Act.put, List.setIfInBounds_toArray, List.set_cons_succ, List.set_cons_zero]
  go_wp2
  go_ret
  exact ⟨rfl, (below_bytes w _ s).grown hg1 (by rw [Lib.bytesWorld_size]; omega) (fun k e => by cases e; exact Nat.le_refl _)⟩
end Go.Proofs.Ytdggbjlgimcpkaa
