/- The functions of package laws over a struct of one slice. Printed by gen_wrap.py. -/
import Derived.Test.YtobfjpopicndnaaStruct
namespace Go.Proofs.Ytobfjpopicndnaa
open Go.RowKit


/-! ## Tape -/
theorem toTape_any (A : Option Addr) (c : Nat) (xs : List (Int × Bool)) (w : World) (hb : xs.length ≤ 2097152) (hr : Rd encTI 2 w w.heap.size A xs) :
    Calls Try.prog 13 #[.agg #[.slice A xs.length c]] w fun e w' => ∃ g cap, e = .returned (.agg #[.slice (some ⟨g, 0, none⟩) xs.length cap]) ∧ Own encTI 2 w' w.heap.size 62 (.slice (some ⟨g, 0, none⟩) xs.length cap) xs ∧ Below w.heap.size w w' := by
  have hr1 : ∀ W1, Below w.heap.size w W1 → Rd encTI 2 W1 W1.heap.size A xs := fun W1 h => (hr.below h (Nat.le_refl _)).mono h.size
  have HR := Lib.hid hr1
  clear hr1 hr
  go_enter Try.func13, Try.ntmps13
  go_wp2_with fail
  refine (toTapeItemS_any _ _ _ _ hb (HR.out _ (by repeat (first | exact Below.refl _ _ | assumption | refine Below.alloc ?_ (by first | (simp; done) | (simp; omega) | omega) _ | refine Below.setCell ?_ (by first | (simp; done) | (simp; omega) | omega) _ | refine Below.drew ?_)))).mono ?_
  rintro e w1 ⟨g, cap, rfl, hown, hb1⟩
  have hsz := hb1.size
  simp only [World.size_alloc] at hsz hown hb1
  have c1 : w1.cell? ⟨w.heap.size + 1, 0, none⟩ = some (.slice none 0 0) := (hb1.cell (p := ⟨w.heap.size + 1, 0, none⟩) (by first | (simp; done) | (simp; omega) | omega)).trans (by go_simp)
  have c2 : w1.cell? ⟨w.heap.size + 2, 0, none⟩ = some (.slice none 0 0) := (hb1.cell (p := ⟨w.heap.size + 2, 0, none⟩) (by first | (simp; done) | (simp; omega) | omega)).trans (by go_simp)
  have f1 : w1.frozen? ⟨w.heap.size + 1, 0, none⟩ = false := (hb1.frozen (p := ⟨w.heap.size + 1, 0, none⟩) (by first | (simp; done) | (simp; omega) | omega)).trans (by go_simp)
  have f2 : w1.frozen? ⟨w.heap.size + 2, 0, none⟩ = false := (hb1.frozen (p := ⟨w.heap.size + 2, 0, none⟩) (by first | (simp; done) | (simp; omega) | omega)).trans (by go_simp)
  have OW := Lib.hid hown
  have hbel : Below w.heap.size w w1 := (show Below w.heap.size w _ by repeat (first | exact Below.refl _ _ | assumption | refine Below.alloc ?_ (by first | (simp; done) | (simp; omega) | omega) _ | refine Below.setCell ?_ (by first | (simp; done) | (simp; omega) | omega) _ | refine Below.drew ?_)).trans (hb1.mono (by first | (simp; done) | (simp; omega) | omega))
  have hgb := hown.block_lt.1
  clear hown hb1
  go_wp2
  refine bodyPost_ret (v := .agg #[.slice (some ⟨g, 0, none⟩) xs.length cap]) (by simp [results, Try.results13, go_sem, c1]) rfl ⟨g, cap, rfl, ?_, ?_⟩
  · refine ((OW.out.mono (by omega)).setFar ?_ _).setFar ?_ _ <;> (intro e; simp [Value.ownBlock] at e; omega)
  · repeat (first | exact Below.refl _ _ | assumption | refine Below.alloc ?_ (by first | (simp; done) | (simp; omega) | omega) _ | refine Below.setCell ?_ (by first | (simp; done) | (simp; omega) | omega) _ | refine Below.drew ?_)
theorem eqTape_same (A A' : Option Addr) (c c' : Nat) (xs : List (Int × Bool)) (w : World) (hb : xs.length ≤ 2097152) (hr : Rd encTI 2 w w.heap.size A xs) (hr' : Rd encTI 2 w w.heap.size A' xs) :
    Calls Try.prog 15 #[.agg #[.slice A xs.length c], .agg #[.slice A' xs.length c']] w fun e w' => e = .returned (.bool true) ∧ Below w.heap.size w w' := by
  have hr1 : ∀ W1, Below w.heap.size w W1 → Rd encTI 2 W1 W1.heap.size A xs ∧ Rd encTI 2 W1 W1.heap.size A' xs := fun W1 h => ⟨(hr.below h (Nat.le_refl _)).mono h.size, (hr'.below h (Nat.le_refl _)).mono h.size⟩
  have HR := Lib.hid hr1
  clear hr1 hr hr'
  go_enter Try.func15, Try.ntmps15
  go_wp2_with fail
  have hbel : Below w.heap.size w ((w.alloc (.cells #[.slice A xs.length c] 29)).alloc (.cells #[.slice A' xs.length c'] 29)) := by repeat (first | exact Below.refl _ _ | assumption | refine Below.alloc ?_ (by first | (simp; done) | (simp; omega) | omega) _ | refine Below.setCell ?_ (by first | (simp; done) | (simp; omega) | omega) _ | refine Below.drew ?_)
  refine (eqTapeItemS_same _ _ _ _ _ _ hb (HR.out _ hbel).1 (HR.out _ hbel).2).mono ?_
  rintro e w1 ⟨rfl, hb1⟩
  go_wp2
  go_ret
  exact ⟨rfl, hbel.trans (hb1.mono (by first | (simp; done) | (simp; omega) | omega))⟩
theorem markTape_any (A : Option Addr) (c : Nat) (xs : List (Int × Bool)) (k0 base : Nat) (w : World) (hb : xs.length ≤ 2097152) (hk0 : k0 ≤ 1073741824) (hown : Own encTI 2 w base 62 (.slice A xs.length c) xs) :
    Calls Try.prog 21 #[.agg #[.slice A xs.length c], .int .i64 (k0 : Int)] w fun e w' => e = .returned (.int .i64 (mend k0 2 xs.length)) ∧
      Own encTI 2 w' base 62 (.slice A xs.length c) (marks markTI 2 k0 xs.length) ∧ w.grownBy w' (Value.slice A xs.length c).ownBlock := by
  have OW := Lib.hid (hown.alloc (.cells #[.slice A xs.length c] 29))
  clear hown
  go_enter Try.func21, Try.ntmps21
  go_wp2_with (go_at_call 48; refine (markTapeItemS_any A c xs k0 base _ hb hk0 OW.out).mono ?_; rintro e w1 ⟨rfl, hown1, hg1⟩)
  go_ret
  exact ⟨rfl, hown1, grown_trans (World.grownBy_alloc _ _ _) hg1⟩
theorem heldTape_any (A : Option Addr) (c k0 n B : Nat) (w : World) (hb : n ≤ 2097152) (hk0 : k0 ≤ 1073741824) (hB : B ≤ w.heap.size) (hr : Rd encTI 2 w B A (marks markTI 2 k0 n)) :
    Calls Try.prog 22 #[.agg #[.slice A n c], .int .i64 (k0 : Int)] w fun e w' => e = .returned (.int .i64 (mend k0 2 n)) ∧ Below w.heap.size w w' := by
  have hbel : Below w.heap.size w (w.alloc (.cells #[.slice A n c] 29)) := (Below.refl _ _).alloc (Nat.le_refl _) _
  have HR := Lib.hid (hr.below hbel hB)
  have h0 := mend_nonneg k0 2 n
  clear hr
  go_enter Try.func22, Try.ntmps22
  go_wp2_with (go_at_call 49; refine (heldTapeItemS_any A c k0 n B _ hb hk0 HR.out).mono ?_; rintro e w1 ⟨rfl, rfl⟩)
  go_ret
  exact ⟨rfl, hbel⟩
theorem szTape_ok (A : Option Addr) (n c : Nat) (left : Int) (w : World) (hn : n ≤ maxLen) (h0 : 0 ≤ left) (h1 : left ≤ 1048576) (hl : ¬ left < n) :
    Calls Try.prog 11 #[.agg #[.slice A n c], .int .i64 left] w fun e w' => e = .returned (.int .i64 (left - n)) ∧ Below w.heap.size w w' := by
  have HL := Lib.hid hl
  have hl' : 0 ≤ left - (n : Int) := by omega
  clear hl
  go_enter Try.func11, Try.ntmps11
  go_wp2_with (go_at_call 40; refine (szTapeItemS_any A n c left _ hn h0 h1).mono ?_; rw [if_neg HL.out]; rintro e w1 ⟨rfl, rfl⟩)
  go_ret
  exact ⟨rfl, by repeat (first | exact Below.refl _ _ | assumption | refine Below.alloc ?_ (by first | (simp; done) | (simp; omega) | omega) _ | refine Below.setCell ?_ (by first | (simp; done) | (simp; omega) | omega) _ | refine Below.drew ?_)⟩
theorem szTape_big (A : Option Addr) (n c : Nat) (left : Int) (w : World) (hn : n ≤ maxLen) (h0 : 0 ≤ left) (h1 : left ≤ 1048576) (hl : left < n) :
    Calls Try.prog 11 #[.agg #[.slice A n c], .int .i64 left] w fun e w' => e = .returned (.int .i64 (-1)) ∧ Below w.heap.size w w' := by
  have HL := Lib.hid hl
  clear hl
  go_enter Try.func11, Try.ntmps11
  go_wp2_with (go_at_call 40; refine (szTapeItemS_any A n c left _ hn h0 h1).mono ?_; rw [if_pos HL.out]; rintro e w1 ⟨rfl, rfl⟩)
  go_ret
  exact ⟨rfl, by repeat (first | exact Below.refl _ _ | assumption | refine Below.alloc ?_ (by first | (simp; done) | (simp; omega) | omega) _ | refine Below.setCell ?_ (by first | (simp; done) | (simp; omega) | omega) _ | refine Below.drew ?_)⟩

end Go.Proofs.Ytobfjpopicndnaa
