/- The functions of package laws that copy, compare, mark and ask flat structs and slices of them. Printed by gen_struct.py. -/
import Derived.Test.YtobfjpopicndnaaBasic
namespace Go.Proofs.Ytobfjpopicndnaa
open Go.RowKit


/-! ## []int -/
theorem infoI : (Try.prog.info? 3).map (fun i => (i.zero, i.size, i.bytes)) = some (some (.int .i64 0), 1, 8) := by kernel_rfl
theorem mk_I {ops : Array Oper} {rest : List Oper} {o : Oper} {a : Act} {Q : Exit → Act → World → Prop} (W : World) (hgd : o.guard = none) (l c : Operand)
    (ho : o.op = Op.makeSlice 33 l c) (n : Nat) (hl : a.eval l = .int .i64 (n : Int)) (hc : a.eval c = .int .i64 (n : Int)) (hn : n ≤ 2097152)
    (h : ∀ w', Own encI 1 w' W.heap.size 3 (.slice (some ⟨W.heap.size, 0, none⟩) n n) (List.replicate n (0 : Int)) → Below W.heap.size W w' → W.heap.size < w'.heap.size → wpList Try.prog ops Q rest (a.put o.dst (.slice (some ⟨W.heap.size, 0, none⟩) n n)) w') : wpList Try.prog ops Q (o :: rest) a W :=
  wpList_mk encI 1 W hgd l c _ _ _ 8 ho Try.underlying33 infoI (by omega) encI_len 0 rfl n _ _ hl hc rfl rfl (by omega) (by unfold maxLen; omega) h
theorem app_I {ops : Array Oper} {rest : List Oper} {o : Oper} {a : Act} {Q : Exit → Act → World → Prop} (W : World) (hgd : o.guard = none) (s x : Operand)
    (ho : o.op = .call { callee := .builtin .append, args := #[s, x], argTypes := #[33, 33] })
    (base : Nat) (v : Value) (xs : List (Int)) (hv : a.eval s = v) (hown : Own encI 1 W base 3 v xs) (y : Int) (hx : a.eval x = .slice (some ⟨W.heap.size, 0, none⟩) 1 1) (n : Nat) (hn : xs.length = n)
    (hlen : n ≤ 2097152) (hbase : base ≤ W.heap.size)
    (h : ∀ g cap w', Own encI 1 w' base 3 (.slice (some ⟨g, 0, none⟩) (n + 1) cap) (xs ++ [y]) → W.grownBy w' v.ownBlock → (v.ownBlock = some g ∨ W.heap.size < g) → g < w'.heap.size →
      wpList Try.prog ops Q rest (a.put o.dst (.slice (some ⟨g, 0, none⟩) (n + 1) cap)) w') : wpList Try.prog ops Q (o :: rest) a (W.alloc (.cells (encI y).toArray 3)) := by
  subst hn
  exact wpList_app encI 1 W hgd s x _ _ _ 8 ho Try.underlying33 infoI rfl (by omega) encI_len encI_one base v xs hv hown y hx (by omega) (by unfold maxLen; omega) hbase h
theorem toIntS_any (A : Option Addr) (c : Nat) (xs : List (Int)) (w : World) (hb : xs.length ≤ 2097152) (hr : Rd encI 1 w w.heap.size A xs) :
    Calls Try.prog 17 #[.slice A xs.length c] w fun e w' => ∃ g cap, e = .returned (.slice (some ⟨g, 0, none⟩) xs.length cap) ∧ Own encI 1 w' w.heap.size 3 (.slice (some ⟨g, 0, none⟩) xs.length cap) xs ∧ Below w.heap.size w w' := by
  go_enter Try.func17, Try.ntmps17
  go_wp2_with (at_make; refine mk_I _ rfl (.tmp 6) (.tmp 6) rfl xs.length rfl rfl hb ?_; rintro w1 hown1 hb1 hlt1)
  go_loopw [4] (fun i wr => ∃ k : Nat, k ≤ xs.length ∧ i = .int .i64 k ∧ Below w.heap.size w wr ∧ w.heap.size < wr.heap.size ∧
    Own encI 1 wr w.heap.size 3 (.slice (some ⟨w.heap.size, 0, none⟩) xs.length xs.length) (fill xs (0 : Int) k)) (fun i _ => xs.length - (intOf i).toNat)
  case atStart => exact ⟨0, Nat.zero_le _, rfl, hb1, hlt1, by rw [fill_zero]; exact hown1⟩
  case round =>
    obtain ⟨k, hk, rfl, hbel, hlt0, hown⟩ := hrel
    by_cases hlt : k < xs.length
    · obtain ⟨x, hx⟩ := at_of_lt hlt
      obtain ⟨b, o, rfl, hbB, hc0⟩ := (hr.below hbel (Nat.le_refl _)).int hx
      have X := Lib.hid hx
      have hk1 : (k : Int) < (xs.length : Int) := by omega
      have hy := fill_at xs (0 : Int) k hlt
      have hlen := (fill_len xs (0 : Int) k hk).symm
      have hd0 := hown.cellAt encI_len hlen hy (j := 0) (by omega)
      have f0 := hown.frozenAt hlen (k * 1 + 0)
      simp only [encI, Nat.add_zero, Nat.mul_one, List.getElem?_cons_zero] at hd0 f0
      have OW := Lib.hid hown
      have HY := Lib.hid hy
      have HL := Lib.hid hlen
      clear hx hr hown hown1 hy hlen
      go_wp2
      go_roundw
      case rel =>
        refine ⟨k + 1, by omega, by go_num, ?_, ?_, ?_⟩
        · repeat (first | exact Below.refl _ _ | assumption | refine Below.alloc ?_ (by first | (simp; done) | (simp; omega) | omega) _ | refine Below.setCell ?_ (by first | (simp; done) | (simp; omega) | omega) _ | refine Below.drew ?_)
        · simp; omega
        · have h4 := OW.out.set1 encI_len HL.out HY.out (x := x) rfl
          rw [fill_set xs _ x k X.out] at h4
          exact h4
      case measure => simp [intOf]; omega
    · go_wp2
      go_ret
      obtain rfl : k = xs.length := by omega
      exact ⟨_, _, rfl, by rw [fill_all] at hown; exact hown, hbel⟩
theorem eqIntS_same (A A' : Option Addr) (c c' : Nat) (xs : List (Int)) (w : World) (hb : xs.length ≤ 2097152) (hr : Rd encI 1 w w.heap.size A xs) (hr' : Rd encI 1 w w.heap.size A' xs) :
    Calls Try.prog 19 #[.slice A xs.length c, .slice A' xs.length c'] w fun e w' => e = .returned (.bool true) ∧ Below w.heap.size w w' := by
  go_enter Try.func19, Try.ntmps19
  go_wp2
  go_loopw [5] (fun i wr => ∃ k : Nat, k ≤ xs.length ∧ i = .int .i64 k ∧ Below w.heap.size w wr) (fun i _ => xs.length - (intOf i).toNat)
  case atStart => exact ⟨0, Nat.zero_le _, rfl, Below.refl _ _⟩
  case round =>
    obtain ⟨k, hk, rfl, hbel⟩ := hrel
    by_cases hlt : k < xs.length
    · obtain ⟨x, hx⟩ := at_of_lt hlt
      obtain ⟨b, o, rfl, hbB, hc0⟩ := (hr.below hbel (Nat.le_refl _)).int hx
      obtain ⟨b', o', rfl, hbB', hd0⟩ := (hr'.below hbel (Nat.le_refl _)).int hx
      have hk1 : (k : Int) < (xs.length : Int) := by omega
      clear hx hr hr'
      go_wp2_with fail
      refine wp_region_in 8 [(0, false), (1, false), (2, false), (3, false), (4, false), (5, false), (6, false), (7, false)] (fun w1 w' => Below w1.heap.size w1 w') (by kernel_rfl) (by kernel_rfl) (fun _ _ d _ _ h => by cases d <;> exact h) (fun w1 hs => ⟨Below.refl _ _, ?_⟩)
      have C0 := held_below ((hs.cell _).trans hc0)
      have D0 := held_below ((hs.cell _).trans hd0)
      have hbel1 := hbel.trans (hs.below _)
      clear hs hc0 hd0 hbel
      (refine wpH_held rfl ?_; go_big_quiet_step (rfl); refine wpQuiet_nil ?_)
      (refine wpH_held rfl ?_; go_big_quiet_step (rfl); refine wpQuiet_nil ?_)
      (refine wpH_held rfl ?_; go_big_quiet_step (rfl); refine wpQuiet_nil ?_)
      (refine wpH_held rfl ?_; go_big_quiet_step (rfl); refine wpQuiet_nil ?_)
      (refine wpH_held rfl ?_; go_big_quiet_step (rfl); refine wpQuiet_nil ?_)
      (refine wpH_held rfl ?_; go_big_quiet_step (rfl); refine wpQuiet_nil ?_)
      (refine wpH_held rfl ?_; go_big_quiet_step (rfl); refine wpQuiet_nil ?_)
      (refine wpH_held rfl ?_; go_big_quiet_step (rfl); refine wpQuiet_nil ?_)
      (refine wpH_nil ?_; simp only [List.drop_succ_cons, List.drop_zero])
      go_wp2
      go_roundw
      case rel => exact ⟨k + 1, by omega, by go_num, hbel1⟩
      case measure => simp [intOf]; omega
    · go_wp2
      go_ret
      exact ⟨rfl, hbel⟩

def markI (q : Nat) : Int := ((q + 0 : Nat) : Int)
theorem markIntS_any (A : Option Addr) (c : Nat) (xs : List (Int)) (k0 base : Nat) (w : World) (hb : xs.length ≤ 2097152) (hk0 : k0 ≤ 1073741824) (hown : Own encI 1 w base 3 (.slice A xs.length c) xs) :
    Calls Try.prog 20 #[.slice A xs.length c, .int .i64 (k0 : Int)] w fun e w' => e = .returned (.int .i64 (mend k0 1 xs.length)) ∧
      Own encI 1 w' base 3 (.slice A xs.length c) (marks markI 1 k0 xs.length) ∧ w.grownBy w' (Value.slice A xs.length c).ownBlock := by
  have ML := Lib.hid (marks_len markI 1 k0 xs.length)
  go_enter Try.func20, Try.ntmps20
  go_wp2
  go_loopw [5, 1] (fun i kk wr => ∃ k q : Nat, k ≤ xs.length ∧ i = .int .i64 k ∧ kk = .int .i64 (q : Int) ∧ Hid (q = k0 + 1 * k) ∧ q ≤ 1082130432 ∧ w.grownBy wr (Value.slice A xs.length c).ownBlock ∧
    Own encI 1 wr base 3 (.slice A xs.length c) (turn xs (marks markI 1 k0 xs.length) k)) (fun i _ _ => xs.length - (intOf i).toNat)
  case atStart => exact ⟨0, k0, Nat.zero_le _, rfl, rfl, by show k0 = _; omega, by omega, grown_refl _ _, by rw [turn_zero]; exact hown⟩
  case round =>
    obtain ⟨k, q, hk, rfl, rfl, HQ, hq, hg, hownr⟩ := hrel
    by_cases hlt : k < xs.length
    · obtain ⟨x, hx⟩ := at_of_lt hlt
      obtain ⟨g, rfl, hbg, hgl⟩ := hown.block (by omega)
      have hlen := (turn_len xs (marks markI 1 k0 xs.length) k ML.out hk).symm
      have hy := turn_at xs (marks markI 1 k0 xs.length) k ML.out x hx
      have hd0 := hownr.cellAt encI_len hlen hy (j := 0) (by omega)
      have f0 := hownr.frozenAt hlen (k * 1 + 0)
      simp only [encI, Nat.add_zero, Nat.mul_one, List.getElem?_cons_zero] at hd0 f0
      have X := Lib.hid hx
      have HY := Lib.hid hy
      have HL := Lib.hid hlen
      have OW := Lib.hid hownr
      have hk1 : (k : Int) < (xs.length : Int) := by omega
      clear hx hy hlen hown hownr
      go_wp2
      go_roundw
      case rel =>
        refine ⟨k + 1, q + 1, by omega, by go_num, by go_num, ?_, ?_, ?_, ?_⟩
        · have := HQ.out
          show q + 1 = k0 + 1 * (k + 1)
          omega
        · have := HQ.out
          omega
        · refine grown_set hg _ _
        · have h4 := OW.out.set1 encI_len HL.out HY.out (x := markI q) rfl
          rw [turn_set xs _ k ML.out (markI q) (by rw [marks_at _ _ _ _ _ hlt, ← HQ.out])] at h4
          exact h4
      case measure => simp [intOf]; omega
    · go_wp2
      go_ret
      obtain rfl : k = xs.length := by omega
      rw [turn_all _ _ ML.out] at hownr
      exact ⟨by rw [HQ.out]; rfl, hownr, hg⟩
theorem heldIntS_any (A : Option Addr) (c k0 n B : Nat) (w : World) (hb : n ≤ 2097152) (hk0 : k0 ≤ 1073741824) (hr : Rd encI 1 w B A (marks markI 1 k0 n)) :
    Calls Try.prog 25 #[.slice A n c, .int .i64 (k0 : Int)] w fun e w' => e = .returned (.int .i64 (mend k0 1 n)) ∧ w = w' := by
  go_enter Try.func25, Try.ntmps25
  go_wp2
  go_loop [5, 1] (fun i kk => ∃ k q : Nat, k ≤ n ∧ i = .int .i64 k ∧ kk = .int .i64 (q : Int) ∧ Hid (q = k0 + 1 * k) ∧ q ≤ 1082130432) (fun i _ => n - (intOf i).toNat)
  case atStart => exact ⟨0, k0, Nat.zero_le _, rfl, rfl, by show k0 = _; omega, by omega⟩
  case round =>
    obtain ⟨k, q, hk, rfl, rfl, HQ, hq⟩ := hrel
    by_cases hlt : k < n
    · have hx := marks_at markI 1 k0 n k hlt
      rw [← HQ.out] at hx
      obtain ⟨b, o, rfl, hbB, hc0⟩ := hr.int hx
      simp only [markI] at hc0
      have hk1 : (k : Int) < (n : Int) := by omega
      clear hx hr
      go_wp2
      all_goals first
        | (go_round
           case rel =>
             refine ⟨k + 1, q + 1, by omega, by go_num, by go_num, ?_, ?_⟩
             · have := HQ.out
               show q + 1 = k0 + 1 * (k + 1)
               omega
             · have := HQ.out
               omega
           case measure => simp [intOf]; omega)
        | (exfalso; simp_all; done)
    · go_wp2
      go_ret
      obtain rfl : k = n := by omega
      exact ⟨by rw [HQ.out]; rfl, rfl⟩


/-! ## TapeItem -/
theorem toTapeItem_any (x : Int × Bool) (w : World) :
    Calls Try.prog 62 #[.agg #[.int .i64 x.1, .bool x.2]] w fun e w' => e = .returned (.agg #[.int .i64 x.1, .bool x.2]) ∧ Below w.heap.size w w' := by
  go_enter Try.func62, Try.ntmps62
  go_wp2
  refine bodyPost_ret (v := .agg #[.int .i64 x.1, .bool x.2]) (by simp [results, Try.results62, go_sem]) rfl ⟨rfl, ?_⟩
  repeat (first | exact Below.refl _ _ | assumption | refine Below.alloc ?_ (by first | (simp; done) | (simp; omega) | omega) _ | refine Below.setCell ?_ (by first | (simp; done) | (simp; omega) | omega) _ | refine Below.drew ?_)
theorem eqTapeItem_same (x : Int × Bool) (w : World) :
    Calls Try.prog 66 #[.agg #[.int .i64 x.1, .bool x.2], .agg #[.int .i64 x.1, .bool x.2]] w fun e w' => e = .returned (.bool true) ∧ Below w.heap.size w w' := by
  go_enter Try.func66, Try.ntmps66
  go_wp2
  go_ret
  refine ⟨rfl, ?_⟩
  repeat (first | exact Below.refl _ _ | assumption | refine Below.alloc ?_ (by first | (simp; done) | (simp; omega) | omega) _ | refine Below.setCell ?_ (by first | (simp; done) | (simp; omega) | omega) _ | refine Below.drew ?_)
theorem eqTapeItemS_same (A A' : Option Addr) (c c' : Nat) (xs : List (Int × Bool)) (w : World) (hb : xs.length ≤ 2097152) (hr : Rd encTI 2 w w.heap.size A xs) (hr' : Rd encTI 2 w w.heap.size A' xs) :
    Calls Try.prog 46 #[.slice A xs.length c, .slice A' xs.length c'] w fun e w' => e = .returned (.bool true) ∧ Below w.heap.size w w' := by
  go_enter Try.func46, Try.ntmps46
  go_wp2
  go_loopw [5] (fun i wr => ∃ k : Nat, k ≤ xs.length ∧ i = .int .i64 k ∧ Below w.heap.size w wr) (fun i _ => xs.length - (intOf i).toNat)
  case atStart => exact ⟨0, Nat.zero_le _, rfl, Below.refl _ _⟩
  case round =>
    obtain ⟨k, hk, rfl, hbel⟩ := hrel
    by_cases hlt : k < xs.length
    · obtain ⟨x, hx⟩ := at_of_lt hlt
      obtain ⟨b, o, rfl, hbB, hc0, hc1⟩ := (hr.below hbel (Nat.le_refl _)).item hx
      obtain ⟨b', o', rfl, hbB', hd0, hd1⟩ := (hr'.below hbel (Nat.le_refl _)).item hx
      have hk1 : (k : Int) < (xs.length : Int) := by omega
      clear hx hr hr'
      go_wp2_with fail
      refine wp_region_in 9 [(0, false), (1, false), (2, false), (3, false), (4, false), (5, false), (6, false), (7, false), (8, true)] (fun w1 w' => Below w1.heap.size w1 w') (by kernel_rfl) (by kernel_rfl) (fun _ _ d _ _ h => by cases d <;> exact h) (fun w1 hs => ⟨Below.refl _ _, ?_⟩)
      have C0 := held_below ((hs.cell _).trans hc0)
      have D0 := held_below ((hs.cell _).trans hd0)
      have C1 := held_below ((hs.cell _).trans hc1)
      have D1 := held_below ((hs.cell _).trans hd1)
      have hbel1 := hbel.trans (hs.below _)
      have hsz := hbel1.size
      clear hs hc0 hc1 hd0 hd1 hbel
      (refine wpH_held rfl ?_; go_big_quiet_step (rfl); refine wpQuiet_nil ?_)
      (refine wpH_held rfl ?_; go_big_quiet_step (rfl); refine wpQuiet_nil ?_)
      (refine wpH_held rfl ?_; go_big_quiet_step (rfl); refine wpQuiet_nil ?_)
      (refine wpH_held rfl ?_; go_big_quiet_step (rfl); refine wpQuiet_nil ?_)
      (refine wpH_held rfl ?_; go_big_quiet_step (rfl); refine wpQuiet_nil ?_)
      (refine wpH_held rfl ?_; go_big_quiet_step (rfl); refine wpQuiet_nil ?_)
      (refine wpH_held rfl ?_; go_big_quiet_step (rfl); refine wpQuiet_nil ?_)
      (refine wpH_held rfl ?_; go_big_quiet_step (rfl); refine wpQuiet_nil ?_)
      refine wpH_move rfl ?_
      go_wp2_with (go_at_call 66; refine (eqTapeItem_same _ _).mono ?_; rintro e w2 ⟨rfl, hb2⟩)
      refine ⟨hb2, ?_⟩
      (refine wpH_nil ?_; simp only [List.drop_succ_cons, List.drop_zero])
      go_wp2
      go_roundw
      case rel => exact ⟨k + 1, by omega, by go_num, hbel1.trans (hb2.mono hsz)⟩
      case measure => simp [intOf]; omega
    · go_wp2
      go_ret
      exact ⟨rfl, hbel⟩

theorem infoTI : (Try.prog.info? 62).map (fun i => (i.zero, i.size, i.bytes)) = some (some (.agg #[.int .i64 0, .bool false]), 2, 16) := by kernel_rfl
theorem mk_TI {ops : Array Oper} {rest : List Oper} {o : Oper} {a : Act} {Q : Exit → Act → World → Prop} (W : World) (hgd : o.guard = none) (l c : Operand)
    (ho : o.op = Op.makeSlice 27 l c) (n : Nat) (hl : a.eval l = .int .i64 (n : Int)) (hc : a.eval c = .int .i64 (n : Int)) (hn : n ≤ 2097152)
    (h : ∀ w', Own encTI 2 w' W.heap.size 62 (.slice (some ⟨W.heap.size, 0, none⟩) n n) (List.replicate n ((0, false) : Int × Bool)) → Below W.heap.size W w' → W.heap.size < w'.heap.size → wpList Try.prog ops Q rest (a.put o.dst (.slice (some ⟨W.heap.size, 0, none⟩) n n)) w') : wpList Try.prog ops Q (o :: rest) a W :=
  wpList_mk encTI 2 W hgd l c _ _ _ 16 ho Try.underlying27 infoTI (by omega) encTI_len (0, false) rfl n _ _ hl hc rfl rfl (by omega) (by unfold maxLen; omega) h
theorem app_TI {ops : Array Oper} {rest : List Oper} {o : Oper} {a : Act} {Q : Exit → Act → World → Prop} (W : World) (hgd : o.guard = none) (s x : Operand)
    (ho : o.op = .call { callee := .builtin .append, args := #[s, x], argTypes := #[27, 27] })
    (base : Nat) (v : Value) (xs : List (Int × Bool)) (hv : a.eval s = v) (hown : Own encTI 2 W base 62 v xs) (y : Int × Bool) (hx : a.eval x = .slice (some ⟨W.heap.size, 0, none⟩) 1 1) (n : Nat) (hn : xs.length = n)
    (hlen : n ≤ 2097152) (hbase : base ≤ W.heap.size)
    (h : ∀ g cap w', Own encTI 2 w' base 62 (.slice (some ⟨g, 0, none⟩) (n + 1) cap) (xs ++ [y]) → W.grownBy w' v.ownBlock → (v.ownBlock = some g ∨ W.heap.size < g) → g < w'.heap.size →
      wpList Try.prog ops Q rest (a.put o.dst (.slice (some ⟨g, 0, none⟩) (n + 1) cap)) w') : wpList Try.prog ops Q (o :: rest) a (W.alloc (.cells (encTI y).toArray 62)) := by
  subst hn
  exact wpList_app encTI 2 W hgd s x _ _ _ 16 ho Try.underlying27 infoTI rfl (by omega) encTI_len encTI_one base v xs hv hown y hx (by omega) (by unfold maxLen; omega) hbase h
theorem toTapeItemS_any (A : Option Addr) (c : Nat) (xs : List (Int × Bool)) (w : World) (hb : xs.length ≤ 2097152) (hr : Rd encTI 2 w w.heap.size A xs) :
    Calls Try.prog 42 #[.slice A xs.length c] w fun e w' => ∃ g cap, e = .returned (.slice (some ⟨g, 0, none⟩) xs.length cap) ∧ Own encTI 2 w' w.heap.size 62 (.slice (some ⟨g, 0, none⟩) xs.length cap) xs ∧ Below w.heap.size w w' := by
  go_enter Try.func42, Try.ntmps42
  go_wp2_with (at_make; refine mk_TI _ rfl (.tmp 6) (.tmp 6) rfl xs.length rfl rfl hb ?_; rintro w1 hown1 hb1 hlt1)
  go_loopw [4] (fun i wr => ∃ k : Nat, k ≤ xs.length ∧ i = .int .i64 k ∧ Below w.heap.size w wr ∧ w.heap.size < wr.heap.size ∧
    Own encTI 2 wr w.heap.size 62 (.slice (some ⟨w.heap.size, 0, none⟩) xs.length xs.length) (fill xs ((0, false) : Int × Bool) k)) (fun i _ => xs.length - (intOf i).toNat)
  case atStart => exact ⟨0, Nat.zero_le _, rfl, hb1, hlt1, by rw [fill_zero]; exact hown1⟩
  case round =>
    obtain ⟨k, hk, rfl, hbel, hlt0, hown⟩ := hrel
    by_cases hlt : k < xs.length
    · obtain ⟨x, hx⟩ := at_of_lt hlt
      obtain ⟨b, o, rfl, hbB, hc0, hc1⟩ := (hr.below hbel (Nat.le_refl _)).item hx
      have X := Lib.hid hx
      have OW := Lib.hid hown
      have hk1 : (k : Int) < (xs.length : Int) := by omega
      clear hx hr hown hown1
      go_wp2_with fail
      refine (toTapeItem_any _ _).mono ?_
      rintro e w2 ⟨rfl, hb2⟩
      have hlt2 := Nat.lt_of_lt_of_le hlt0 hb2.size
      have hown2 := OW.out.below hb2
      have hy := fill_at xs ((0, false) : Int × Bool) k hlt
      have hlen := (fill_len xs ((0, false) : Int × Bool) k hk).symm
      have hd0 := hown2.cellAt encTI_len hlen hy (j := 0) (by omega)
      have f0 := hown2.frozenAt hlen (k * 2 + 0)
      have hd1 := hown2.cellAt encTI_len hlen hy (j := 1) (by omega)
      have f1 := hown2.frozenAt hlen (k * 2 + 1)
      simp only [encTI, Nat.add_zero, List.getElem?_cons_zero, List.getElem?_cons_succ] at hd0 hd1 f0 f1
      have HY := Lib.hid hy
      have HL := Lib.hid hlen
      have OW2 := Lib.hid hown2
      clear hy hlen hown2
      go_wp2
      go_roundw
      case rel =>
        refine ⟨k + 1, by omega, by go_num, ?_, ?_, ?_⟩
        · have h3 := hbel.trans (hb2.mono hbel.size)
          repeat (first | exact Below.refl _ _ | assumption | refine Below.alloc ?_ (by first | (simp; done) | (simp; omega) | omega) _ | refine Below.setCell ?_ (by first | (simp; done) | (simp; omega) | omega) _ | refine Below.drew ?_)
        · simp; omega
        · have h4 := OW2.out.set2 encTI_len HL.out HY.out (x := x) rfl
          rw [fill_set xs _ x k X.out] at h4
          exact h4
      case measure => simp [intOf]; omega
    · go_wp2
      go_ret
      obtain rfl : k = xs.length := by omega
      exact ⟨_, _, rfl, by rw [fill_all] at hown; exact hown, hbel⟩

def markTI (q : Nat) : Int × Bool := (((q + 0 : Nat) : Int), (((q + 1 : Nat) : Int) % 3 == 0))
theorem markTapeItemS_any (A : Option Addr) (c : Nat) (xs : List (Int × Bool)) (k0 base : Nat) (w : World) (hb : xs.length ≤ 2097152) (hk0 : k0 ≤ 1073741824) (hown : Own encTI 2 w base 62 (.slice A xs.length c) xs) :
    Calls Try.prog 48 #[.slice A xs.length c, .int .i64 (k0 : Int)] w fun e w' => e = .returned (.int .i64 (mend k0 2 xs.length)) ∧
      Own encTI 2 w' base 62 (.slice A xs.length c) (marks markTI 2 k0 xs.length) ∧ w.grownBy w' (Value.slice A xs.length c).ownBlock := by
  have ML := Lib.hid (marks_len markTI 2 k0 xs.length)
  go_enter Try.func48, Try.ntmps48
  go_wp2
  go_loopw [5, 1] (fun i kk wr => ∃ k q : Nat, k ≤ xs.length ∧ i = .int .i64 k ∧ kk = .int .i64 (q : Int) ∧ Hid (q = k0 + 2 * k) ∧ q ≤ 1082130432 ∧ w.grownBy wr (Value.slice A xs.length c).ownBlock ∧
    Own encTI 2 wr base 62 (.slice A xs.length c) (turn xs (marks markTI 2 k0 xs.length) k)) (fun i _ _ => xs.length - (intOf i).toNat)
  case atStart => exact ⟨0, k0, Nat.zero_le _, rfl, rfl, by show k0 = _; omega, by omega, grown_refl _ _, by rw [turn_zero]; exact hown⟩
  case round =>
    obtain ⟨k, q, hk, rfl, rfl, HQ, hq, hg, hownr⟩ := hrel
    by_cases hlt : k < xs.length
    · obtain ⟨x, hx⟩ := at_of_lt hlt
      obtain ⟨g, rfl, hbg, hgl⟩ := hown.block (by omega)
      have hlen := (turn_len xs (marks markTI 2 k0 xs.length) k ML.out hk).symm
      have hy := turn_at xs (marks markTI 2 k0 xs.length) k ML.out x hx
      have hd0 := hownr.cellAt encTI_len hlen hy (j := 0) (by omega)
      have f0 := hownr.frozenAt hlen (k * 2 + 0)
      have hd1 := hownr.cellAt encTI_len hlen hy (j := 1) (by omega)
      have f1 := hownr.frozenAt hlen (k * 2 + 1)
      simp only [encTI, Nat.add_zero, List.getElem?_cons_zero, List.getElem?_cons_succ] at hd0 hd1 f0 f1
      have X := Lib.hid hx
      have HY := Lib.hid hy
      have HL := Lib.hid hlen
      have OW := Lib.hid hownr
      have hk1 : (k : Int) < (xs.length : Int) := by omega
      clear hx hy hlen hown hownr
      go_wp2
      go_roundw
      case rel =>
        refine ⟨k + 1, q + 2, by omega, by go_num, by go_num, ?_, ?_, ?_, ?_⟩
        · have := HQ.out
          show q + 2 = k0 + 2 * (k + 1)
          omega
        · have := HQ.out
          omega
        · refine grown_set ?_ _ _; refine grown_set hg _ _
        · have h4 := OW.out.set2 encTI_len HL.out HY.out (x := markTI q) rfl
          rw [turn_set xs _ k ML.out (markTI q) (by rw [marks_at _ _ _ _ _ hlt, ← HQ.out])] at h4
          exact h4
      case measure => simp [intOf]; omega
    · go_wp2
      go_ret
      obtain rfl : k = xs.length := by omega
      rw [turn_all _ _ ML.out] at hownr
      exact ⟨by rw [HQ.out]; rfl, hownr, hg⟩
theorem heldTapeItemS_any (A : Option Addr) (c k0 n B : Nat) (w : World) (hb : n ≤ 2097152) (hk0 : k0 ≤ 1073741824) (hr : Rd encTI 2 w B A (marks markTI 2 k0 n)) :
    Calls Try.prog 49 #[.slice A n c, .int .i64 (k0 : Int)] w fun e w' => e = .returned (.int .i64 (mend k0 2 n)) ∧ w = w' := by
  go_enter Try.func49, Try.ntmps49
  go_wp2
  go_loop [5, 1] (fun i kk => ∃ k q : Nat, k ≤ n ∧ i = .int .i64 k ∧ kk = .int .i64 (q : Int) ∧ Hid (q = k0 + 2 * k) ∧ q ≤ 1082130432) (fun i _ => n - (intOf i).toNat)
  case atStart => exact ⟨0, k0, Nat.zero_le _, rfl, rfl, by show k0 = _; omega, by omega⟩
  case round =>
    obtain ⟨k, q, hk, rfl, rfl, HQ, hq⟩ := hrel
    by_cases hlt : k < n
    · have hx := marks_at markTI 2 k0 n k hlt
      rw [← HQ.out] at hx
      obtain ⟨b, o, rfl, hbB, hc0, hc1⟩ := hr.item hx
      simp only [markTI] at hc0 hc1
      have hk1 : (k : Int) < (n : Int) := by omega
      clear hx hr
      go_wp2
      all_goals first
        | (go_round
           case rel =>
             refine ⟨k + 1, q + 2, by omega, by go_num, by go_num, ?_, ?_⟩
             · have := HQ.out
               show q + 2 = k0 + 2 * (k + 1)
               omega
             · have := HQ.out
               omega
           case measure => simp [intOf]; omega)
        | (exfalso; simp_all; done)
    · go_wp2
      go_ret
      obtain rfl : k = n := by omega
      exact ⟨by rw [HQ.out]; rfl, rfl⟩

theorem szTapeItemS_any (A : Option Addr) (n c : Nat) (left : Int) (w : World) (hn : n ≤ maxLen) (h0 : 0 ≤ left) (h1 : left ≤ 1048576) :
    Calls Try.prog 40 #[.slice A n c, .int .i64 left] w fun e w' => e = .returned (.int .i64 (if left < n then -1 else left - n)) ∧ w = w' := by
  unfold maxLen at hn
  go_enter Try.func40, Try.ntmps40
  go_wp2
  all_goals
    go_ret
    exact ⟨rfl, rfl⟩

end Go.Proofs.Ytobfjpopicndnaa
