/- math/bits.TrailingZeros of a power of two, as a contract of the abstract machine. No conditions but the power's bound. -/
import Derived.Test.YtchpdclknbmdoaaGreatDoorAbs4
import Derived.Shelf.Lays7
import Derived.Shelf.Spec.TrailingZeros
namespace Go.Proofs.YtchpdclknbmdoaaGreatDoor
open Go Go.Shelf Go.RowKit
theorem tz_at {I : Nat → Prop} {w : World} (h : GI I w) : TabAt 1 Lib.deBruijn64tab w := fun j hj => by
  obtain ⟨_, arr, t, z, h1, h2⟩ := h 1 gTz (List.mem_cons_self ..)
  have h3 : arr = (Lib.deBruijn64tab.map fun z : Nat => Value.int .u8 z).toArray := h2
  subst h3
  simp [World.cell?, h1, List.getElem?_map, List.getElem?_eq_getElem hj, List.getD_eq_getElem?_getD]
theorem ctz_pow (t : Nat) (h : t < 64) : Lib.ctz 64 (2 ^ t) = t := by
  have all : ∀ t : Fin 64, Lib.ctz 64 (2 ^ t.1) = t.1 := by decide +kernel
  exact all ⟨t, h⟩
def lays7n27_ren : Go.Shelf.Ren := ⟨fun | 27 => 114 | 28 => 155 | 29 => 156 | n => n, fun | 25 => 143 | 3 => 3 | 27 => 172 | 22 => 116 | 4 => 4 | 53 => 189 | 0 => 0 | 5 => 5 | 54 => 190 | n => n, fun | 0 => 0 | 1 => 1 | n => n⟩
theorem lays7n27 : Go.Proofs.Lays7.n27 Tryz.prog lays7n27_ren where
  mixed := by kernel_rfl
  f27 := Tryz.func114.trans (congrArg some (by kernel_rfl))
  f28 := Tryz.func155.trans (congrArg some (by kernel_rfl))
  f29 := Tryz.func156.trans (congrArg some (by kernel_rfl))
  t0 := Tryz.underlying0
  a0 := Tryz.isAgg0
  z0 := Tryz.sizeOf0
  v0 := Tryz.zeroValue0
  i0 := by kernel_rfl
  t3 := Tryz.underlying3
  a3 := Tryz.isAgg3
  z3 := Tryz.sizeOf3
  v3 := Tryz.zeroValue3
  i3 := by kernel_rfl
  t4 := Tryz.underlying4
  a4 := Tryz.isAgg4
  z4 := Tryz.sizeOf4
  v4 := Tryz.zeroValue4
  i4 := by kernel_rfl
  t5 := Tryz.underlying5
  a5 := Tryz.isAgg5
  z5 := Tryz.sizeOf5
  v5 := Tryz.zeroValue5
  i5 := by kernel_rfl
  t22 := Tryz.underlying116
  a22 := Tryz.isAgg116
  z22 := Tryz.sizeOf116
  v22 := Tryz.zeroValue116
  i22 := by kernel_rfl
  t25 := Tryz.underlying143
  a25 := Tryz.isAgg143
  z25 := Tryz.sizeOf143
  v25 := Tryz.zeroValue143
  i25 := by kernel_rfl
  t27 := Tryz.underlying172
  a27 := Tryz.isAgg172
  z27 := Tryz.sizeOf172
  v27 := Tryz.zeroValue172
  i27 := by kernel_rfl
  t53 := Tryz.underlying189
  a53 := Tryz.isAgg189
  z53 := Tryz.sizeOf189
  v53 := Tryz.zeroValue189
  i53 := by kernel_rfl
  t54 := Tryz.underlying190
  a54 := Tryz.isAgg190
  z54 := Tryz.sizeOf190
  g0 := by kernel_rfl
  g1 := by kernel_rfl
theorem tz_pf (t : Nat) (ht : t < 64) : PF Tryz.prog 114 [.c (.v (.int .u64 ((2 ^ t : Nat) : Int)))] [] (.c (int t)) := by
  refine ⟨⟨Tryz.f114, Tryz.func114, by kernel_rfl, rfl⟩, fun I β w vals hI hgi hβ _ _ hargs => ?_⟩
  obtain _ | ⟨h1, ⟨⟩⟩ := hargs
  rename_i v1
  have e1 : v1 = .int .u64 ((2 ^ t : Nat) : Int) := xY h1
  subst e1
  refine (Any7.bits_TrailingZeros lays7n27 (2 ^ t) (Nat.lt_of_lt_of_le (Nat.pow_lt_pow_right (by omega) ht) (by decide)) w (fun _ => tz_at hgi)).mono ?_
  rintro e w' ⟨he, hw'⟩
  rw [ctz_pow t ht] at he
  have hw : Below w.heap.size w w' := hw' ▸ Below.refl _ _
  exact ⟨_, I, fun _ => none, he, Rep.imm (.v _ rfl), ⟨hw.os, hw.tape, hw.output, hw.size, fun k hk _ => hw.block k hk⟩, fun b hb => Nat.lt_of_lt_of_le (hI b hb) hw.size, fun _ _ => Iff.rfl, fun o B e => (by cases e), fun o ho => absurd ho (Nat.not_lt_zero _), fun o obj e => (by simp at e), fun o o' obj obj' B B' b e => (by simp at e)⟩
end Go.Proofs.YtchpdclknbmdoaaGreatDoor
