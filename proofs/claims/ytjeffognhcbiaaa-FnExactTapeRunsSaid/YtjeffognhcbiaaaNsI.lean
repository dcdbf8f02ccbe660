/- The functions of package laws that copy, compare, mark and ask lists of integers, walked concretely. Printed by gen_struct.py. -/
import Derived.Test.YtjeffognhcbiaaaBasic
namespace Go.Proofs.Ytjeffognhcbiaaa
open Go.RowKit
theorem infoI : (Try.prog.info? 3).map (fun i => (i.zero, i.size, i.bytes)) = some (some (.int .i64 0), 1, 8) := by kernel_rfl
theorem app_I {ops : Array Oper} {rest : List Oper} {o : Oper} {a : Act} {Q : Exit → Act → World → Prop} (W : World) (hgd : o.guard = none) (s x : Operand)
    (ho : o.op = .call { callee := .builtin .append, args := #[s, x], argTypes := #[44, 44] })
    (base : Nat) (v : Value) (xs : List (Int)) (hv : a.eval s = v) (hown : Own x5 1 W base 3 v xs) (y : Int) (hx : a.eval x = .slice (some ⟨W.heap.size, 0, none⟩) 1 1) (n : Nat) (hn : xs.length = n)
    (hlen : n ≤ 2097152) (hbase : base ≤ W.heap.size)
    (h : ∀ g cap w', Own x5 1 w' base 3 (.slice (some ⟨g, 0, none⟩) (n + 1) cap) (xs ++ [y]) → W.grownBy w' v.ownBlock → (v.ownBlock = some g ∨ W.heap.size < g) → g < w'.heap.size →
      wpList Try.prog ops Q rest (a.put o.dst (.slice (some ⟨g, 0, none⟩) (n + 1) cap)) w') : wpList Try.prog ops Q (o :: rest) a (W.alloc (.cells (x5 y).toArray 3)) := by
  subst hn
  exact wpList_app x5 1 W hgd s x _ _ _ 8 ho Try.underlying44 infoI rfl (by omega) encI_len encI_one base v xs hv hown y hx (by omega) (by unfold maxLen; omega) hbase h
def wV (q : Nat) : Int := ((q + 0 : Nat) : Int)
theorem markIntS_any (A : Option Addr) (c : Nat) (xs : List (Int)) (k0 base : Nat) (w : World) (hb : xs.length ≤ 2097152) (hk0 : k0 ≤ 1073741824) (hown : Own x5 1 w base 3 (.slice A xs.length c) xs) :
    Calls Try.prog 22 #[.slice A xs.length c, .int .i64 (k0 : Int)] w fun e w' => e = .returned (.int .i64 (mend k0 1 xs.length)) ∧
      Own x5 1 w' base 3 (.slice A xs.length c) (wG wV 1 k0 xs.length) ∧ w.grownBy w' (Value.slice A xs.length c).ownBlock := by
  have ML := Lib.hid (marks_len wV 1 k0 xs.length)
  go_enter Try.func22, Try.ntmps22
  go_wp2
  go_loopw [5, 1] (fun i kk wr => ∃ k q : Nat, k ≤ xs.length ∧ i = .int .i64 k ∧ kk = .int .i64 (q : Int) ∧ Hid (q = k0 + 1 * k) ∧ q ≤ 1082130432 ∧ w.grownBy wr (Value.slice A xs.length c).ownBlock ∧
    Own x5 1 wr base 3 (.slice A xs.length c) (wZ xs (wG wV 1 k0 xs.length) k)) (fun i _ _ => xs.length - (intOf i).toNat)
  case atStart => exact ⟨0, k0, Nat.zero_le _, rfl, rfl, by show k0 = _; omega, by omega, grown_refl _ _, by rw [turn_zero]; exact hown⟩
  case round =>
    obtain ⟨k, q, hk, rfl, rfl, HQ, hq, hg, hownr⟩ := hrel
    by_cases hlt : k < xs.length
    · obtain ⟨x, hx⟩ := xG hlt
      obtain ⟨g, rfl, hbg, hgl⟩ := hown.block (by omega)
      have hlen := (turn_len xs (wG wV 1 k0 xs.length) k ML.out hk).symm
      have hy := turn_at xs (wG wV 1 k0 xs.length) k ML.out x hx
      have hd0 := hownr.cellAt encI_len hlen hy (j := 0) (by omega)
      have f0 := hownr.frozenAt hlen (k * 1 + 0)
      simp only [x5, Nat.add_zero, Nat.mul_one, List.getElem?_cons_zero] at hd0 f0
      have X := Lib.hid hx
      have HY := Lib.hid hy
      have HL := Lib.hid hlen
      have OW := Lib.hid hownr
      have hk1 : (k : Int) < (xs.length : Int) := by omega
      clear hx hy hlen hown hownr
      go_wp2
      go_roundw
      case rel =>
        refine ⟨k + 1, q + 1, by omega, by go_num, by go_num, ?_, ?_, ?_, ?_⟩
        · have := HQ.out
          show q + 1 = k0 + 1 * (k + 1)
          omega
        · have := HQ.out
          omega
        · refine grown_set hg _ _
        · have h4 := OW.out.set1 encI_len HL.out HY.out (x := wV q) rfl
          rw [turn_set xs _ k ML.out (wV q) (by rw [marks_at _ _ _ _ _ hlt, ← HQ.out])] at h4
          exact h4
      case measure => simp [intOf]; omega
    · go_wp2
      go_ret
      obtain rfl : k = xs.length := by omega
      rw [turn_all _ _ ML.out] at hownr
      exact ⟨by rw [HQ.out]; rfl, hownr, hg⟩
end Go.Proofs.Ytjeffognhcbiaaa
