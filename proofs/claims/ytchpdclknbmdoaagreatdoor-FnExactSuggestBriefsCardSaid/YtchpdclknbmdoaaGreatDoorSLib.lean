/- strings.Cut, strings.Split, strconv.Atoi, as contracts of the abstract machine. No conditions but bounds of lengths. -/
import Derived.Test.YtchpdclknbmdoaaGreatDoorAbs4
import Derived.Shelf.LaysM
import Derived.Shelf.LaysC
import Derived.Shelf.Strings.Cut
import Derived.Shelf.Strings.Split
import Derived.Shelf.Strconv.AtoiAll
import Derived.Lib.AppendIntMem
import Derived.Lib.AtoiErrMem
namespace Go.Proofs.YtchpdclknbmdoaaGreatDoor
open Go Go.Shelf Go.RowKit
theorem Flat.dead : Flat .dead := fun I I' β w v h => by
  cases h with
  | imm h => cases h
  | dead _ h => exact .dead _ h
theorem gi_cell {I : Nat → Prop} {w : World} (h : GI I w) {g : Nat} {p : Array Value → Prop} (hm : (g, p) ∈ gtab) {q : Value → Prop} (hp : ∀ arr, p arr → ∃ v, arr[0]? = some v ∧ q v) : ∃ v, w.cell? ⟨g, 0, none⟩ = some v ∧ q v := by
  obtain ⟨_, arr, t, z, h1, h2⟩ := h g p hm
  obtain ⟨v, h3, h4⟩ := hp arr h2
  exact ⟨v, by simp [World.cell?, h1, h3], h4⟩
theorem maxLen_is {I : Nat → Prop} {w : World} (h : GI I w) : ∃ m, w.cell? ⟨2, 0, none⟩ = some (.int .i64 m) := by
  obtain ⟨v, h1, m, rfl⟩ := gi_cell h (g := 2) (p := gMax) (by simp [gtab]) (q := fun v => ∃ m, v = .int .i64 m) (fun arr h => h)
  exact ⟨m, h1⟩
def laysM146_ren : Go.Shelf.Ren := ⟨fun | 146 => 127 | 221 => 165 | 268 => 191 | 138 => 192 | 143 => 193 | 195 => 220 | 197 => 215 | 218 => 221 | 219 => 222 | 260 => 237 | 217 => 183 | 225 => 239 | 224 => 240 | 267 => 241 | 266 => 212 | 314 => 253 | n => n, fun | 9 => 9 | 31 => 140 | 3 => 3 | 4 => 4 | 0 => 0 | 105 => 218 | 21 => 21 | 5 => 5 | 46 => 143 | 119 => 234 | 139 => 237 | 138 => 236 | 146 => 238 | 51 => 172 | n => n, fun | 1 => 2 | 3 => 3 | 4 => 4 | n => n⟩
theorem laysM146 : Go.Proofs.LaysM.n146 Tryz.prog laysM146_ren where
  mixed := by kernel_rfl
  f138 := Tryz.func192.trans (congrArg some (by kernel_rfl))
  f143 := Tryz.func193.trans (congrArg some (by kernel_rfl))
  f146 := Tryz.func127.trans (congrArg some (by kernel_rfl))
  f195 := Tryz.func220.trans (congrArg some (by kernel_rfl))
  f197 := Tryz.func215.trans (congrArg some (by kernel_rfl))
  f217 := Tryz.func183.trans (congrArg some (by kernel_rfl))
  f218 := Tryz.func221.trans (congrArg some (by kernel_rfl))
  f219 := Tryz.func222.trans (congrArg some (by kernel_rfl))
  f221 := Tryz.func165.trans (congrArg some (by kernel_rfl))
  f224 := Tryz.func240.trans (congrArg some (by kernel_rfl))
  f225 := Tryz.func239.trans (congrArg some (by kernel_rfl))
  f260 := Tryz.func237.trans (congrArg some (by kernel_rfl))
  f266 := Tryz.func212.trans (congrArg some (by kernel_rfl))
  f267 := Tryz.func241.trans (congrArg some (by kernel_rfl))
  f268 := Tryz.func191.trans (congrArg some (by kernel_rfl))
  f314 := Tryz.func253.trans (congrArg some (by kernel_rfl))
  t0 := Tryz.underlying0
  a0 := Tryz.isAgg0
  z0 := Tryz.sizeOf0
  v0 := Tryz.zeroValue0
  t3 := Tryz.underlying3
  a3 := Tryz.isAgg3
  z3 := Tryz.sizeOf3
  v3 := Tryz.zeroValue3
  t4 := Tryz.underlying4
  a4 := Tryz.isAgg4
  z4 := Tryz.sizeOf4
  v4 := Tryz.zeroValue4
  t5 := Tryz.underlying5
  a5 := Tryz.isAgg5
  z5 := Tryz.sizeOf5
  v5 := Tryz.zeroValue5
  t9 := Tryz.underlying9
  a9 := Tryz.isAgg9
  z9 := Tryz.sizeOf9
  v9 := Tryz.zeroValue9
  t21 := Tryz.underlying21
  a21 := Tryz.isAgg21
  z21 := Tryz.sizeOf21
  v21 := Tryz.zeroValue21
  t31 := Tryz.underlying140
  a31 := Tryz.isAgg140
  z31 := Tryz.sizeOf140
  v31 := Tryz.zeroValue140
  t46 := Tryz.underlying143
  a46 := Tryz.isAgg143
  z46 := Tryz.sizeOf143
  v46 := Tryz.zeroValue143
  t51 := Tryz.underlying172
  a51 := Tryz.isAgg172
  z51 := Tryz.sizeOf172
  v51 := Tryz.zeroValue172
  t105 := Tryz.underlying218
  a105 := Tryz.isAgg218
  z105 := Tryz.sizeOf218
  v105 := Tryz.zeroValue218
  t119 := Tryz.underlying234
  a119 := Tryz.isAgg234
  z119 := Tryz.sizeOf234
  t138 := Tryz.underlying236
  a138 := Tryz.isAgg236
  z138 := Tryz.sizeOf236
  v138 := Tryz.zeroValue236
  t139 := Tryz.underlying237
  a139 := Tryz.isAgg237
  z139 := Tryz.sizeOf237
  v139 := Tryz.zeroValue237
  t146 := Tryz.underlying238
  a146 := Tryz.isAgg238
  z146 := Tryz.sizeOf238
  v146 := Tryz.zeroValue238
  g1 := by kernel_rfl
  g3 := by kernel_rfl
  g4 := by kernel_rfl
  i0 := by kernel_rfl
  i3 := by kernel_rfl
  i4 := by kernel_rfl
  i5 := by kernel_rfl
  i9 := by kernel_rfl
  i21 := by kernel_rfl
  i31 := by kernel_rfl
  i46 := by kernel_rfl
  i51 := by kernel_rfl
  i105 := by kernel_rfl
  i138 := by kernel_rfl
  i139 := by kernel_rfl
  i146 := by kernel_rfl
  m1 := by kernel_rfl
  s1_3 := fun w h => Go.Proofs.cell_of_shapedOpen_int (zero := #[.int .i64 0]) (t := 3) h (of_decide_eq_true (by kernel_rfl)) (by kernel_rfl) rfl (by kernel_rfl) (by kernel_rfl) Tryz.underlying3
  m3 := by kernel_rfl
  m4 := by kernel_rfl
def wA (s sep : List UInt8) : List (List UInt8) := (Lib.splitB ⟨⟨sep⟩⟩ 0 (Lib.countB ⟨⟨s⟩⟩ ⟨⟨sep⟩⟩) ⟨⟨s⟩⟩).map (·.data.toList)
theorem split_pf (s sep : List UInt8) (hs : s.length < 4294967281) (h1 : 1 ≤ sep.length) : PF Tryz.prog 127 [.c (str s), .c (str sep)] [⟨9, 1, (wA s sep).map vX⟩] (.c (.ref 0 0 (wA s sep).length)) := by
  refine ⟨⟨Tryz.f127, Tryz.func127, by kernel_rfl, rfl⟩, fun I β w vals hI hgi hβ _ _ hargs => ?_⟩
  obtain _ | ⟨h2, _ | ⟨h3, ⟨⟩⟩⟩ := hargs
  rename_i v1 v2
  have e1 : v1 = .string ⟨⟨s⟩⟩ := xY h2
  have e2 : v2 = .string ⟨⟨sep⟩⟩ := xY h3
  subst e1 e2
  obtain ⟨m, hm⟩ := maxLen_is hgi
  have hlen := Lib.splitB_all ⟨⟨sep⟩⟩ h1 0 _ ⟨⟨s⟩⟩ rfl
  refine (Any.strings_Split { laysM146 with } laysM146.i9 ⟨⟨s⟩⟩ ⟨⟨sep⟩⟩ m w hs hm h1).mono ?_
  rintro e w' ⟨he, hw'⟩
  have hw : Below w.heap.size w w' := hw' ▸ (Below.refl _ _).alloc (Nat.le_refl _) _
  have hheap : w'.heap = w.heap.push (.cells ((Lib.splitB ⟨⟨sep⟩⟩ 0 (Lib.countB ⟨⟨s⟩⟩ ⟨⟨sep⟩⟩) ⟨⟨s⟩⟩).map Value.string).toArray (laysM146_ren.t 9)) := by rw [hw']; rfl
  have hsz : w'.heap.size = w.heap.size + 1 := by rw [hheap]; simp
  have hcell : ∀ i (l : List UInt8), (wA s sep)[i]? = some l → w'.cell? ⟨w.heap.size, i, none⟩ = some (.string ⟨⟨l⟩⟩) := by
    intro i l hl
    simp only [wA, List.getElem?_map, Option.map_eq_some_iff] at hl
    obtain ⟨y, hy, rfl⟩ := hl
    simp [World.cell?, hheap, hy]
  have hn : Lib.countB ⟨⟨s⟩⟩ ⟨⟨sep⟩⟩ + 1 = (wA s sep).length := by rw [wA, List.length_map, hlen]
  have hle : (wA s sep).length ≤ 4294967281 := by
    have := Lib.countB_le ⟨⟨sep⟩⟩ h1 _ ⟨⟨s⟩⟩ (Nat.le_refl _)
    have e : (⟨⟨s⟩⟩ : ByteArray).size = s.length := rfl
    omega
  have hml : 4294967281 ≤ maxLen := by decide
  have hge : w'.heap[w.heap.size]? = some (.cells ((Lib.splitB ⟨⟨sep⟩⟩ 0 (Lib.countB ⟨⟨s⟩⟩ ⟨⟨sep⟩⟩) ⟨⟨s⟩⟩).map Value.string).toArray (laysM146_ren.t 9)) := by rw [hheap]; simp
  have hR : Rep I (fun o => if o = 0 then some ⟨some w.heap.size, 1, (wA s sep).length⟩ else none) w' (.ref 0 0 (wA s sep).length) (.slice (some ⟨w.heap.size, 0, none⟩) (wA s sep).length (wA s sep).length) := by
    have := Rep.ref (I := I) (β := fun o => if o = 0 then some ⟨some w.heap.size, 1, (wA s sep).length⟩ else none) (w := w') 0 0 (wA s sep).length w.heap.size 1 (wA s sep).length (wA s sep).length rfl (Nat.le_refl _) (fun _ => rfl)
    simpa using this
  rw [hn] at he
  refine ⟨_, I, fun o => if o = 0 then some ⟨some w.heap.size, 1, (wA s sep).length⟩ else none, he, hR, ⟨hw.os, hw.tape, hw.output, hw.size, fun k hk _ => hw.block k hk⟩, fun b hb => Nat.lt_of_lt_of_le (hI b hb) hw.size, fun _ _ => Iff.rfl, fun o B e => ?_, fun o ho => absurd ho (Nat.not_lt_zero _), fun o obj e => ?_, fun o o' obj obj' B B' b e e' hne => ?_⟩
  · simp only at e
    split at e
    · subst o; simp
    · cases e
  · cases o with
    | succ o => simp at e
    | zero =>
      obtain rfl : _ = obj := Option.some.inj (Option.some.inj e)
      refine ⟨_, rfl, fun x hx => ?_, (fun h => by cases h), fun b hb => ?_⟩
      · obtain ⟨l, _, rfl⟩ := List.mem_map.1 hx; rfl
      · obtain rfl : w.heap.size = b := Option.some.inj hb
        refine ⟨rfl, Or.inr (Nat.le_refl _), fun h => absurd (hI _ h) (Nat.lt_irrefl _), _, hge, ?_, ?_, ?_, fun i j x c hx hj => ?_⟩
        · exact .inl (by simp [wA])
        · simp
        · exact Nat.le_trans hle hml
        · simp only [List.getElem?_map, Option.map_eq_some_iff] at hx
          obtain ⟨l, hl, rfl⟩ := hx
          have hj0 : j = 0 := by
            have := (List.getElem?_eq_some_iff.1 hj).1
            simp [vX] at this; omega
          subst hj0
          obtain rfl : str l = c := by simpa [vX] using hj
          refine ⟨.string ⟨⟨l⟩⟩, ?_, Rep.imm (.v _ rfl)⟩
          have h := hcell i l hl
          simp only [World.cell?, hge] at h
          simpa using h
  · cases o with
    | succ o => simp at e
    | zero =>
      cases o' with
      | succ o' => simp at e'
      | zero => exact absurd rfl hne
end Go.Proofs.YtchpdclknbmdoaaGreatDoor
