/- strconv.Itoa, as a contract of the abstract machine. No conditions but the number's bounds. -/
import Derived.Test.YtbboadheacmddaaDoorAbs4
import Derived.Shelf.LaysM
import Derived.Shelf.Strconv.Itoa3
import Derived.Lib.AppendIntMem
namespace Go.Proofs.YtbboadheacmddaaDoor
open Go Go.Shelf Go.RowKit
def laysM171_ren : Go.Shelf.Ren := ⟨fun | 171 => 19 | 243 => 36 | 246 => 49 | 283 => 60 | 284 => 61 | 285 => 62 | 286 => 63 | 129 => 75 | 317 => 74 | 318 => 76 | 319 => 77 | 320 => 78 | 337 => 84 | 338 => 85 | n => n, fun | 3 => 3 | 9 => 9 | 2 => 2 | 4 => 4 | 171 => 80 | 0 => 0 | 53 => 81 | 37 => 73 | 5 => 5 | 173 => 84 | 212 => 99 | 51 => 100 | 20 => 20 | 213 => 101 | 46 => 88 | 232 => 115 | 233 => 116 | n => n, fun | 17 => 3 | 18 => 6 | 19 => 7 | n => n⟩
theorem laysM171 : Go.Proofs.LaysM.n171 Tryd.prog laysM171_ren where
  mixed := by kernel_rfl
  f129 := Tryd.func75.trans (congrArg some (by kernel_rfl))
  f171 := Tryd.func19.trans (congrArg some (by kernel_rfl))
  f243 := Tryd.func36.trans (congrArg some (by kernel_rfl))
  f246 := Tryd.func49.trans (congrArg some (by kernel_rfl))
  f283 := Tryd.func60.trans (congrArg some (by kernel_rfl))
  f284 := Tryd.func61.trans (congrArg some (by kernel_rfl))
  f285 := Tryd.func62.trans (congrArg some (by kernel_rfl))
  f286 := Tryd.func63.trans (congrArg some (by kernel_rfl))
  f317 := Tryd.func74.trans (congrArg some (by kernel_rfl))
  f318 := Tryd.func76.trans (congrArg some (by kernel_rfl))
  f319 := Tryd.func77.trans (congrArg some (by kernel_rfl))
  f320 := Tryd.func78.trans (congrArg some (by kernel_rfl))
  f337 := Tryd.func84.trans (congrArg some (by kernel_rfl))
  f338 := Tryd.func85.trans (congrArg some (by kernel_rfl))
  t0 := Tryd.underlying0
  a0 := Tryd.isAgg0
  z0 := Tryd.sizeOf0
  v0 := Tryd.zeroValue0
  t2 := Tryd.underlying2
  a2 := Tryd.isAgg2
  z2 := Tryd.sizeOf2
  v2 := Tryd.zeroValue2
  t3 := Tryd.underlying3
  a3 := Tryd.isAgg3
  z3 := Tryd.sizeOf3
  v3 := Tryd.zeroValue3
  t4 := Tryd.underlying4
  a4 := Tryd.isAgg4
  z4 := Tryd.sizeOf4
  v4 := Tryd.zeroValue4
  t5 := Tryd.underlying5
  a5 := Tryd.isAgg5
  z5 := Tryd.sizeOf5
  v5 := Tryd.zeroValue5
  t9 := Tryd.underlying9
  a9 := Tryd.isAgg9
  z9 := Tryd.sizeOf9
  v9 := Tryd.zeroValue9
  t20 := Tryd.underlying20
  a20 := Tryd.isAgg20
  z20 := Tryd.sizeOf20
  v20 := Tryd.zeroValue20
  t37 := Tryd.underlying73
  a37 := Tryd.isAgg73
  z37 := Tryd.sizeOf73
  v37 := Tryd.zeroValue73
  t46 := Tryd.underlying88
  a46 := Tryd.isAgg88
  z46 := Tryd.sizeOf88
  v46 := Tryd.zeroValue88
  t51 := Tryd.underlying100
  a51 := Tryd.isAgg100
  z51 := Tryd.sizeOf100
  v51 := Tryd.zeroValue100
  t53 := Tryd.underlying81
  a53 := Tryd.isAgg81
  z53 := Tryd.sizeOf81
  v53 := Tryd.zeroValue81
  t171 := Tryd.underlying80
  a171 := Tryd.isAgg80
  z171 := Tryd.sizeOf80
  v171 := Tryd.zeroValue80
  t173 := Tryd.underlying84
  a173 := Tryd.isAgg84
  z173 := Tryd.sizeOf84
  v173 := Tryd.zeroValue84
  t212 := Tryd.underlying99
  a212 := Tryd.isAgg99
  z212 := Tryd.sizeOf99
  v212 := Tryd.zeroValue99
  t213 := Tryd.underlying101
  a213 := Tryd.isAgg101
  z213 := Tryd.sizeOf101
  t232 := Tryd.underlying115
  a232 := Tryd.isAgg115
  z232 := Tryd.sizeOf115
  v232 := Tryd.zeroValue115
  t233 := Tryd.underlying116
  a233 := Tryd.isAgg116
  z233 := Tryd.sizeOf116
  v233 := Tryd.zeroValue116
  g17 := by kernel_rfl
  g18 := by kernel_rfl
  g19 := by kernel_rfl
  i0 := by kernel_rfl
  i2 := by kernel_rfl
  i3 := by kernel_rfl
  i4 := by kernel_rfl
  i5 := by kernel_rfl
  i9 := by kernel_rfl
  i20 := by kernel_rfl
  i37 := by kernel_rfl
  i46 := by kernel_rfl
  i51 := by kernel_rfl
  i53 := by kernel_rfl
  i171 := by kernel_rfl
  i173 := by kernel_rfl
  i212 := by kernel_rfl
  i232 := by kernel_rfl
  i233 := by kernel_rfl
  m17 := by kernel_rfl
  m18 := by kernel_rfl
  m19 := by kernel_rfl
theorem pow10_is {I : Nat → Prop} {w : World} (h : GI I w) : Lib.TabIs Tryd.prog w "internal/strconv.uint64pow10" .u64 Lib.pow10Tab := by
  obtain ⟨_, arr, t, z, h1, h2⟩ := h 3 _ (.head _)
  have hg : Tryd.prog.globalNamed "internal/strconv.uint64pow10" = some 3 := by kernel_rfl
  unfold Lib.TabIs World.var?
  rw [hg, Option.bind_some, h1, h2]
theorem gi_var {w : World} {name : String} {g : Nat} {arr : Array Value} (hg : Tryd.prog.globalNamed name = some g) (h : w.var? Tryd.prog name = some arr) {p : Array Value → Prop} (hp : p arr) : g < w.heap.size ∧ ∃ arr t z, w.heap[g]? = some (.cells arr t z) ∧ p arr := by
  unfold World.var? at h
  rw [hg, Option.bind_some] at h
  cases hc : w.heap[g]? with
  | none => rw [hc] at h; cases h
  | some o =>
    rw [hc] at h
    cases o with
    | cells cs t z => exact ⟨(Array.getElem?_eq_some_iff.1 hc).1, cs, t, z, rfl, Option.some.inj h ▸ hp⟩
    | _ => cases h
theorem gi_cellv {w : World} {g : Nat} {v : Value} (h : w.cell? ⟨g, 0, none⟩ = some v) {p : Array Value → Prop} (hp : ∀ arr, arr[0]? = some v → p arr) : g < w.heap.size ∧ ∃ arr t z, w.heap[g]? = some (.cells arr t z) ∧ p arr := by
  unfold World.cell? at h
  cases hc : w.heap[g]? with
  | none => simp [hc] at h
  | some o =>
    cases o with
    | cells cs t z => exact ⟨(Array.getElem?_eq_some_iff.1 hc).1, cs, t, z, rfl, hp _ (by simpa [hc] using h)⟩
    | _ => simp [hc] at h
theorem itoa_pf (n : Int) (h0 : -9223372036854775808 ≤ n) (h1 : n ≤ 9223372036854775807) : PF Tryd.prog 19 [.c (int n)] [] (.c (str (Lib.itoa n))) := by
  refine ⟨⟨Tryd.f19, Tryd.func19, by kernel_rfl, rfl⟩, fun I β w vals hI hgi hβ _ _ hargs => ?_⟩
  cases hargs with
  | cons h1' h3 =>
    cases h3 with
    | nil =>
      rename_i v1
      have e2 : v1 = .int .i64 n := rep_v h1'
      subst e2
      refine (Any.strconv_Itoa laysM171 n h0 h1 w (pow10_is hgi)).mono ?_
      rintro e w' ⟨he, k, os, rfl⟩
      have hw := Lib.below_grow w.heap.size w (Nat.le_refl _) k os
      exact ⟨_, I, fun _ => none, he, Rep.imm (.v _ rfl), ⟨hw.os, hw.tape, hw.output, hw.size, fun k hk _ => hw.block k hk⟩, fun b hb => Nat.lt_of_lt_of_le (hI b hb) hw.size, fun _ _ => Iff.rfl, fun o B e => (by cases e), fun o ho => absurd ho (Nat.not_lt_zero _), fun o obj e => (by simp at e), fun o o' obj obj' B B' b e => (by simp at e)⟩
end Go.Proofs.YtbboadheacmddaaDoor
