/- The functions of package laws that copy, compare, mark and ask lists of integers, walked concretely. Printed by gen_struct.py. -/
import Derived.Test.YtjeffognhcbiaaaDoorBasic
namespace Go.Proofs.YtjeffognhcbiaaaDoor
open Go.RowKit
theorem infoI : (Tryd.prog.info? 3).map (fun i => (i.zero, i.size, i.bytes)) = some (some (.int .i64 0), 1, 8) := by kernel_rfl
theorem mk_I {ops : Array Oper} {rest : List Oper} {o : Oper} {a : Act} {Q : Exit → Act → World → Prop} (W : World) (hgd : o.guard = none) (l c : Operand)
    (ho : o.op = Op.makeSlice 26 l c) (n : Nat) (hl : a.eval l = .int .i64 (n : Int)) (hc : a.eval c = .int .i64 (n : Int)) (hn : n ≤ 2097152)
    (h : ∀ w', Own xX 1 w' W.heap.size 3 (.slice (some ⟨W.heap.size, 0, none⟩) n n) (List.replicate n (0 : Int)) → Below W.heap.size W w' → W.heap.size < w'.heap.size → wpList Tryd.prog ops Q rest (a.put o.dst (.slice (some ⟨W.heap.size, 0, none⟩) n n)) w') : wpList Tryd.prog ops Q (o :: rest) a W :=
  wpList_mk xX 1 W hgd l c _ _ _ 8 ho Tryd.underlying26 infoI (by omega) wK 0 rfl n _ _ hl hc rfl rfl (by omega) (by unfold maxLen; omega) h
theorem toIntS_any (A : Option Addr) (c : Nat) (xs : List (Int)) (w : World) (hb : xs.length ≤ 2097152) (hr : Rd xX 1 w w.heap.size A xs) :
    Calls Tryd.prog 15 #[.slice A xs.length c] w fun e w' => ∃ g cap, e = .returned (.slice (some ⟨g, 0, none⟩) xs.length cap) ∧ Own xX 1 w' w.heap.size 3 (.slice (some ⟨g, 0, none⟩) xs.length cap) xs ∧ Below w.heap.size w w' := by
  go_enter Tryd.func15, Tryd.ntmps15
  go_wp2_with (at_make; refine mk_I _ rfl (.tmp 6) (.tmp 6) rfl xs.length rfl rfl hb ?_; rintro w1 hown1 hb1 hlt1)
  go_loopw [4] (fun i wr => ∃ k : Nat, k ≤ xs.length ∧ i = .int .i64 k ∧ Below w.heap.size w wr ∧ w.heap.size < wr.heap.size ∧
    Own xX 1 wr w.heap.size 3 (.slice (some ⟨w.heap.size, 0, none⟩) xs.length xs.length) (fill xs (0 : Int) k)) (fun i _ => xs.length - (intOf i).toNat)
  case atStart => exact ⟨0, Nat.zero_le _, rfl, hb1, hlt1, by rw [fill_zero]; exact hown1⟩
  case round =>
    obtain ⟨k, hk, rfl, hbel, hlt0, hown⟩ := hrel
    by_cases hlt : k < xs.length
    · obtain ⟨x, hx⟩ := xS hlt
      obtain ⟨b, o, rfl, hbB, hc0⟩ := (hr.below hbel (Nat.le_refl _)).int hx
      have X := Lib.hid hx
      have hk1 : (k : Int) < (xs.length : Int) := by omega
      have hy := fill_at xs (0 : Int) k hlt
      have hlen := (fill_len xs (0 : Int) k hk).symm
      have hd0 := hown.cellAt wK hlen hy (j := 0) (by omega)
      have f0 := hown.frozenAt hlen (k * 1 + 0)
      simp only [xX, Nat.add_zero, Nat.mul_one, List.getElem?_cons_zero] at hd0 f0
      have OW := Lib.hid hown
      have HY := Lib.hid hy
      have HL := Lib.hid hlen
      clear hx hr hown hown1 hy hlen
      go_wp2
      go_roundw
      case rel =>
        refine ⟨k + 1, by omega, by go_num, ?_, ?_, ?_⟩
        · repeat (first | exact Below.refl _ _ | assumption | refine Below.alloc ?_ (by first | (simp; done) | (simp; omega) | omega) _ | refine Below.setCell ?_ (by first | (simp; done) | (simp; omega) | omega) _ | refine Below.drew ?_)
        · simp; omega
        · have h4 := OW.out.set1 wK HL.out HY.out (x := x) rfl
          rw [fill_set xs _ x k X.out] at h4
          exact h4
      case measure => simp [intOf]; omega
    · go_wp2
      go_ret
      obtain rfl : k = xs.length := by omega
      exact ⟨_, _, rfl, by rw [fill_all] at hown; exact hown, hbel⟩
def qC (q : Nat) : Int := ((q + 0 : Nat) : Int)
theorem markIntS_any (A : Option Addr) (c : Nat) (xs : List (Int)) (k0 base : Nat) (w : World) (hb : xs.length ≤ 2097152) (hk0 : k0 ≤ 1073741824) (hown : Own xX 1 w base 3 (.slice A xs.length c) xs) :
    Calls Tryd.prog 12 #[.slice A xs.length c, .int .i64 (k0 : Int)] w fun e w' => e = .returned (.int .i64 (mend k0 1 xs.length)) ∧
      Own xX 1 w' base 3 (.slice A xs.length c) (vL qC 1 k0 xs.length) ∧ w.grownBy w' (Value.slice A xs.length c).ownBlock := by
  have ML := Lib.hid (marks_len qC 1 k0 xs.length)
  go_enter Tryd.func12, Tryd.ntmps12
  go_wp2
  go_loopw [5, 1] (fun i kk wr => ∃ k q : Nat, k ≤ xs.length ∧ i = .int .i64 k ∧ kk = .int .i64 (q : Int) ∧ Hid (q = k0 + 1 * k) ∧ q ≤ 1082130432 ∧ w.grownBy wr (Value.slice A xs.length c).ownBlock ∧
    Own xX 1 wr base 3 (.slice A xs.length c) (qD xs (vL qC 1 k0 xs.length) k)) (fun i _ _ => xs.length - (intOf i).toNat)
  case atStart => exact ⟨0, k0, Nat.zero_le _, rfl, rfl, by show k0 = _; omega, by omega, grown_refl _ _, by rw [turn_zero]; exact hown⟩
  case round =>
    obtain ⟨k, q, hk, rfl, rfl, HQ, hq, hg, hownr⟩ := hrel
    by_cases hlt : k < xs.length
    · obtain ⟨x, hx⟩ := xS hlt
      obtain ⟨g, rfl, hbg, hgl⟩ := hown.block (by omega)
      have hlen := (turn_len xs (vL qC 1 k0 xs.length) k ML.out hk).symm
      have hy := turn_at xs (vL qC 1 k0 xs.length) k ML.out x hx
      have hd0 := hownr.cellAt wK hlen hy (j := 0) (by omega)
      have f0 := hownr.frozenAt hlen (k * 1 + 0)
      simp only [xX, Nat.add_zero, Nat.mul_one, List.getElem?_cons_zero] at hd0 f0
      have X := Lib.hid hx
      have HY := Lib.hid hy
      have HL := Lib.hid hlen
      have OW := Lib.hid hownr
      have hk1 : (k : Int) < (xs.length : Int) := by omega
      clear hx hy hlen hown hownr
      go_wp2
      go_roundw
      case rel =>
        refine ⟨k + 1, q + 1, by omega, by go_num, by go_num, ?_, ?_, ?_, ?_⟩
        · have := HQ.out
          show q + 1 = k0 + 1 * (k + 1)
          omega
        · have := HQ.out
          omega
        · refine grown_set hg _ _
        · have h4 := OW.out.set1 wK HL.out HY.out (x := qC q) rfl
          rw [turn_set xs _ k ML.out (qC q) (by rw [marks_at _ _ _ _ _ hlt, ← HQ.out])] at h4
          exact h4
      case measure => simp [intOf]; omega
    · go_wp2
      go_ret
      obtain rfl : k = xs.length := by omega
      rw [turn_all _ _ ML.out] at hownr
      exact ⟨by rw [HQ.out]; rfl, hownr, hg⟩
end Go.Proofs.YtjeffognhcbiaaaDoor
