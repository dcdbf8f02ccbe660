/- ApplyMacro: both programs' functions at every tape and kind. No conditions but the tape's length. -/
import Derived.Test.YtobfjpopicndnaaTape
import Derived.Test.YtobfjpopicndnaaCopy
import Derived.Deep.DeepMust
namespace Go.Proofs.Ytobfjpopicndnaa
open Go.RowKit

/-- the star turned -/
def tog (s : Int) : Int := bits BinOp.xor IntKind.i64 s 1024
/-- a tape behind a macro, y its last item -/
def applyAt (xs : List Item) (y : Item) (kind : Int) : List Item :=
  if kind = 1 then xs ++ [(y.1, false)] else if kind = 2 then xs.set (xs.length - 1) (tog y.1, y.2) else if kind = 3 then xs.set (xs.length - 1) (y.1, true)
  else if kind = 4 then xs.set (xs.length - 1) (y.1, false) else xs.take (xs.length - 1)
set_option maxRecDepth 100000 in
set_option maxHeartbeats 1000000 in
theorem l16Apply_any (A : Option Addr) (c : Nat) (xs : List Item) (kind : Int) (w : World) (hb : xs.length ≤ 2097152) (hr : Rd encTI 2 w w.heap.size A xs) (y : Item) (hy : xs[xs.length - 1]? = some y) (hk : 1 ≤ kind ∧ kind ≤ 5) :
    Calls Try.prog 53 #[.agg #[.slice A xs.length c], .int .i64 kind] w fun e w' => ∃ A' c', e = .returned (.agg #[.slice A' (applyAt xs y kind).length c']) ∧ Own encTI 2 w' w.heap.size 62 (.slice A' (applyAt xs y kind).length c') (applyAt xs y kind) ∧ Below w.heap.size w w' := by
  obtain ⟨b, o, rfl, hbB, -⟩ := hr.item hy
  have hpos : 0 < xs.length := by have := (List.getElem?_eq_some_iff.1 hy).1; omega
  have HR := Lib.hid hr
  clear hr
  have hkk : kind = 1 ∨ kind = 2 ∨ kind = 3 ∨ kind = 4 ∨ kind = 5 := by omega
  obtain ⟨y0, y1⟩ := y
  have HY := Lib.hid hy
  clear hy hk
  rcases hkk with rfl | rfl | rfl | rfl | rfl
  all_goals
    go_enter Try.func53, Try.ntmps53
    go_wp2_with (at_builtin; go_must (refine copy_TI _ rfl (.tmp 7) (.tmp 9) rfl _ rfl _ xs c _ rfl (by simp) (HR.out.below (below2 _ _ _) (Nat.le_refl _)) (by first | (simp; done) | (simp; omega) | omega) hb ?_; rintro g cap w1 hown1 hb1 hlt1 hz1; have hz2 : w.heap.size + 2 < w1.heap.size := (by simpa using hz1); have cl0 : w1.cell? ⟨g, (xs.length - 1) * 2, none⟩ = some (.int .i64 y0) := hown1.cellAt encTI_len rfl HY.out (j := 0) (by omega); have cl1 : w1.cell? ⟨g, (xs.length - 1) * 2 + 1, none⟩ = some (.bool y1) := hown1.cellAt encTI_len rfl HY.out (j := 1) (by omega); have fl0 := hown1.frozenAt rfl ((xs.length - 1) * 2); have fl1 := hown1.frozenAt rfl ((xs.length - 1) * 2 + 1); have c4 : w1.cell? ⟨w.heap.size + 1, 0, none⟩ = some (.slice none 0 0) := (hb1.cell (p := ⟨w.heap.size + 1, 0, none⟩) (by simp)).trans (by go_simp); have f4 : w1.frozen? ⟨w.heap.size + 1, 0, none⟩ = false := (hb1.frozen (p := ⟨w.heap.size + 1, 0, none⟩) (by simp)).trans (by go_simp); have og := hown1.block_lt.1; have hcap : (xs.length : Int) - 1 ≤ (cap : Int) := (by have := hown1.cap_le; omega); simp only [World.size_alloc] at og; have hne4 : g ≠ w.heap.size + 1 := (by omega); have l4 : w.heap.size + 1 < w1.heap.size := (by omega); simp only [Act.put, List.setIfInBounds_toArray, List.set_cons_succ, List.set_cons_zero]; have HO := Lib.hid hown1; have HB := Lib.hid ((below2 w _ _).trans (hb1.mono (by first | (simp; done) | (simp; omega) | omega))); have hpos1 : (1 : Int) ≤ (xs.length : Int) := (by omega); clear hown1 hb1 hz1))
  · refine wp_region_in 12 [(0, false), (1, false), (2, false), (3, false), (4, false), (5, false), (6, false), (7, true), (8, false), (9, true), (10, true), (11, false)] (fun w1 w' => w1.grownBy w' (some g)) (by kernel_rfl) (by kernel_rfl) (fun _ _ d _ _ h => by cases d <;> exact h) (fun w2 hs => ⟨grown_refl _ _, ?_⟩)
    have sz := hs.size
    simp only [World.size_alloc] at sz
    have c5 : w2.cell? ⟨w1.heap.size, 0, none⟩ = some (.slice (some ⟨g, 0, none⟩) xs.length cap) := (hs.cell _).trans (by go_simp)
    have cl0' : w2.cell? ⟨g, (xs.length - 1) * 2, none⟩ = some (.int .i64 y0) := (hs.cell _).trans (by go_simp)
    have b5 : w2.heap[w1.heap.size]? = some (.cells #[.slice (some ⟨g, 0, none⟩) xs.length cap] 29 (0, 0)) := (hs.block _).trans (heap_alloc_new _ _)
    have b4 : w2.frozen? ⟨w.heap.size + 1, 0, none⟩ = false := (hs.frozen _).trans (by go_simp)
    have d4 : w2.cell? ⟨w.heap.size + 1, 0, none⟩ = some (.slice none 0 0) := (hs.cell _).trans (by go_simp)
    have HO' := Lib.hid ((HO.out.alloc _).same hs)
    have HB' := Lib.hid ((HB.out.alloc (by omega) _).trans (hs.below _))
    clear HO HB hs cl0 cl1 fl0 fl1 c4 f4
    have C1 := held_cell (E := some g) c5 (by simp; omega)
    (refine wpH_held rfl ?_; go_big_quiet_step (rfl); refine wpQuiet_nil ?_)
    (refine wpH_held rfl ?_; go_big_quiet_step (rfl); refine wpQuiet_nil ?_)
    (refine wpH_held rfl ?_; go_big_quiet_step (rfl); refine wpQuiet_nil ?_)
    (refine wpH_held rfl ?_; go_big_quiet_step (rfl); refine wpQuiet_nil ?_)
    (refine wpH_held rfl ?_; go_big_quiet_step (rfl); refine wpQuiet_nil ?_)
    (refine wpH_held rfl ?_; go_big_quiet_step (rfl); refine wpQuiet_nil ?_)
    (refine wpH_held rfl ?_; go_big_quiet_step (rfl); refine wpQuiet_nil ?_)
    refine wpH_move rfl ?_
    go_wp2_with fail
    refine ⟨grown_refl _ _, ?_⟩
    (refine wpH_held rfl ?_; go_big_quiet_step (rfl); refine wpQuiet_nil ?_)
    refine wpH_move rfl ?_
    go_wp2_with fail
    refine ⟨World.grownBy_alloc _ _ _, ?_⟩
    refine wpH_move rfl ?_
    refine app_TI _ rfl _ _ rfl _ (.slice (some ⟨g, 0, none⟩) xs.length cap) _ rfl HO'.out (y0, false) (by rw [sz]; rfl) xs.length rfl (by omega) (by first | (simp; done) | (simp; omega) | omega) ?_
    rintro g3 cap3 w3 hown3 hg3 hat3 hlt3
    go_wp2_with fail
    simp only [Act.put, List.setIfInBounds_toArray, List.set_cons_succ, List.set_cons_zero]
    refine ⟨hg3, ?_⟩
    (refine wpH_held rfl ?_; go_big_quiet_step (rfl); refine wpQuiet_nil ?_)
    (refine wpH_nil ?_; simp only [List.drop_succ_cons, List.drop_zero])
    have hg3' : w2.grownBy w3 (some g) := hg3
    have hat : g3 = g ∨ w1.heap.size + 1 < g3 := by
      rcases hat3 with e | e
      · exact .inl (Option.some.inj e).symm
      · exact .inr (by omega)
    have b5' := keep_block b5 hg3' (by simp; omega)
    have c5' := cell_of_one b5'
    have f5' := free_of_one b5'
    have c4' : w3.cell? ⟨w.heap.size + 1, 0, none⟩ = some (.slice none 0 0) := hg3'.cell d4 (by simp; omega)
    have f4' : w3.frozen? ⟨w.heap.size + 1, 0, none⟩ = false := (World.grownBy.frozen_far hg3' ⟨w.heap.size + 1, 0, none⟩ (by simp; omega) (by simp; omega)).trans b4
    have HB3 := Lib.hid (HB'.out.grown hg3' HB'.out.size (fun k e => by simp at e; omega))
    have HO3 := Lib.hid hown3
    have hne5 : w.heap.size + 1 ≠ w1.heap.size := by omega
    have hz3 := hg3'.size
    clear C1 hg3 hg3' hown3 HO' HB' hat3 c5 cl0' b5 b4 d4
    go_wp2
    refine bodyPost_ret (v := .agg #[.slice (some ⟨g3, 0, none⟩) (xs.length + 1) cap3]) (by simp only [results, Try.results53]; go_simp) rfl ?_
    rw [show applyAt xs (y0, y1) 1 = xs ++ [(y0, false)] from rfl, List.length_append]
    have H := (HO3.out.setFar (p := ⟨w1.heap.size, 0, none⟩) (by simp [Value.ownBlock]; omega) (.slice (some ⟨g3, 0, none⟩) (xs.length + 1) cap3)).setFar (p := ⟨w.heap.size + 1, 0, none⟩) (by simp [Value.ownBlock]; omega) (.slice (some ⟨g3, 0, none⟩) (xs.length + 1) cap3)
    exact ⟨_, cap3, rfl, H.mono (by simp; omega), (HB3.out.setCell (by simp; omega) _).setCell (by simp) _⟩
  · refine wp_region_in 12 [(0, false), (1, false), (2, false), (3, false), (4, false), (5, false), (6, false), (7, false), (8, false), (9, false), (10, false), (11, false)] (fun w1 w' => w1 = w') (by kernel_rfl) (by kernel_rfl) (fun _ _ d _ _ h => by cases d <;> exact h) (fun w2 hs => ⟨rfl, ?_⟩)
    have sz := hs.size
    simp only [World.size_alloc] at sz
    have c5 : w2.cell? ⟨w1.heap.size, 0, none⟩ = some (.slice (some ⟨g, 0, none⟩) xs.length cap) := (hs.cell _).trans (by go_simp)
    have cl0' : w2.cell? ⟨g, (xs.length - 1) * 2, none⟩ = some (.int .i64 y0) := (hs.cell _).trans (by go_simp)
    have fl0' : w2.frozen? ⟨g, (xs.length - 1) * 2, none⟩ = false := (hs.frozen _).trans (by go_simp)
    have b4 : w2.frozen? ⟨w.heap.size + 1, 0, none⟩ = false := (hs.frozen _).trans (by go_simp)
    have d4 : w2.cell? ⟨w.heap.size + 1, 0, none⟩ = some (.slice none 0 0) := (hs.cell _).trans (by go_simp)
    have HO' := Lib.hid ((HO.out.alloc _).same hs)
    have HB' := Lib.hid ((HB.out.alloc (by omega) _).trans (hs.below _))
    clear HO HB hs cl0 cl1 fl0 fl1 c4 f4
    have hsame : ∀ o : In (fun w' => w2 = w'), o.at_ = w2 := fun o => o.ok.symm
    have C1 : ∀ o : In (fun w' => w2 = w'), o.at_.cell? ⟨w1.heap.size, 0, none⟩ = some (.slice (some ⟨g, 0, none⟩) xs.length cap) := fun o => by rw [hsame]; exact c5
    have C2 : ∀ o : In (fun w' => w2 = w'), o.at_.cell? ⟨g, (xs.length - 1) * 2, none⟩ = some (.int .i64 y0) := fun o => by rw [hsame]; exact cl0'
    clear hsame
    (refine wpH_held rfl ?_; go_big_quiet_step (rfl); refine wpQuiet_nil ?_)
    (refine wpH_held rfl ?_; go_big_quiet_step (rfl); refine wpQuiet_nil ?_)
    (refine wpH_held rfl ?_; go_big_quiet_step (rfl); refine wpQuiet_nil ?_)
    (refine wpH_held rfl ?_; go_big_quiet_step (rfl); refine wpQuiet_nil ?_)
    (refine wpH_held rfl ?_; go_big_quiet_step (rfl); refine wpQuiet_nil ?_)
    (refine wpH_held rfl ?_; go_big_quiet_step (rfl); refine wpQuiet_nil ?_)
    (refine wpH_held rfl ?_; go_big_quiet_step (rfl); refine wpQuiet_nil ?_)
    (refine wpH_held rfl ?_; go_big_quiet_step (rfl); refine wpQuiet_nil ?_)
    (refine wpH_held rfl ?_; go_big_quiet_step (rfl); refine wpQuiet_nil ?_)
    (refine wpH_held rfl ?_; go_big_quiet_step (rfl); refine wpQuiet_nil ?_)
    (refine wpH_held rfl ?_; go_big_quiet_step (rfl); refine wpQuiet_nil ?_)
    (refine wpH_held rfl ?_; go_big_quiet_step (rfl); refine wpQuiet_nil ?_)
    (refine wpH_nil ?_; simp only [List.drop_succ_cons, List.drop_zero])
    clear C1 C2
    go_wp2
    refine bodyPost_ret (v := .agg #[.slice (some ⟨g, 0, none⟩) xs.length cap]) (by simp only [results, Try.results53]; go_simp) rfl ?_
    rw [show applyAt xs (y0, y1) 2 = xs.set (xs.length - 1) (tog y0, y1) from rfl, List.length_set]
    have H := (HO'.out.setAt encTI_len rfl HY.out (j := 0) (x := (tog y0, y1)) (by omega) rfl).setFar (p := ⟨w.heap.size + 1, 0, none⟩) (by simpa [Value.ownBlock] using hne4) (.slice (some ⟨g, 0, none⟩) xs.length cap)
    exact ⟨_, cap, rfl, H.mono (by simp; omega), (HB'.out.setCell (by simp; omega) _).setCell (by simp) _⟩
  · refine bodyPost_ret (v := .agg #[.slice (some ⟨g, 0, none⟩) xs.length cap]) (by simp only [results, Try.results53]; go_simp) rfl ?_
    rw [show applyAt xs (y0, y1) 3 = xs.set (xs.length - 1) (y0, true) from rfl, List.length_set]
    have H := ((HO.out.setAt encTI_len rfl HY.out (j := 1) (x := (y0, true)) (by omega) rfl).setFar (p := ⟨w.heap.size + 1, 0, none⟩) (by simpa [Value.ownBlock] using hne4) (.slice (some ⟨g, 0, none⟩) xs.length cap)).alloc (.cells #[.slice (some ⟨g, 0, none⟩) xs.length cap] 29)
    exact ⟨_, cap, rfl, H.mono (by simp; omega), ((HB.out.setCell (by simp; omega) _).setCell (by simp) _).alloc (by simp; omega) _⟩
  · refine bodyPost_ret (v := .agg #[.slice (some ⟨g, 0, none⟩) xs.length cap]) (by simp only [results, Try.results53]; go_simp) rfl ?_
    rw [show applyAt xs (y0, y1) 4 = xs.set (xs.length - 1) (y0, false) from rfl, List.length_set]
    have H := ((HO.out.setAt encTI_len rfl HY.out (j := 1) (x := (y0, false)) (by omega) rfl).setFar (p := ⟨w.heap.size + 1, 0, none⟩) (by simpa [Value.ownBlock] using hne4) (.slice (some ⟨g, 0, none⟩) xs.length cap)).alloc (.cells #[.slice (some ⟨g, 0, none⟩) xs.length cap] 29)
    exact ⟨_, cap, rfl, H.mono (by simp; omega), ((HB.out.setCell (by simp; omega) _).setCell (by simp) _).alloc (by simp; omega) _⟩
  · refine bodyPost_ret (v := .agg #[.slice (some ⟨g, 0, none⟩) (xs.length - 1) cap]) (by simp only [results, Try.results53]; go_simp) rfl ?_
    have hl : (xs.take (xs.length - 1)).length = xs.length - 1 := by simp
    rw [show applyAt xs (y0, y1) 5 = xs.take (xs.length - 1) from rfl, hl]
    have H := ((HO.out.takes encTI_len (m := xs.length - 1) (by omega)).setFar (p := ⟨w.heap.size + 1, 0, none⟩) (by simpa [Value.ownBlock] using hne4) (.slice (some ⟨g, 0, none⟩) (xs.length - 1) cap)).alloc (.cells #[.slice (some ⟨g, 0, none⟩) (xs.length - 1) cap] 29)
    exact ⟨_, cap, rfl, H.mono (by simp; omega), (HB.out.setCell (by simp) _).alloc (by simp; omega) _⟩
end Go.Proofs.Ytobfjpopicndnaa
