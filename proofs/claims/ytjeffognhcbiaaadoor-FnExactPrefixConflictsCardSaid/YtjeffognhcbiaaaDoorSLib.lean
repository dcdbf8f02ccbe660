/- strings.Cut, strings.Split, strconv.Atoi, as contracts of the abstract machine. No conditions but bounds of lengths. -/
import Derived.Test.YtjeffognhcbiaaaDoorAbs4
import Derived.Shelf.LaysM
import Derived.Shelf.LaysC
import Derived.Shelf.Strings.Cut
import Derived.Shelf.Strings.Split
namespace Go.Proofs.YtjeffognhcbiaaaDoor
open Go Go.Shelf Go.RowKit
theorem Flat.dead : Flat .dead := fun I I' β w v h => by
  cases h with
  | imm h => cases h
  | dead _ h => exact .dead _ h
theorem gi_cell {I : Nat → Prop} {w : World} (h : GI I w) {g : Nat} {p : Array Value → Prop} (hm : (g, p) ∈ gtab) {q : Value → Prop} (hp : ∀ arr, p arr → ∃ v, arr[0]? = some v ∧ q v) : ∃ v, w.cell? ⟨g, 0, none⟩ = some v ∧ q v := by
  obtain ⟨_, arr, t, z, h1, h2⟩ := h g p hm
  obtain ⟨v, h3, h4⟩ := hp arr h2
  exact ⟨v, by simp [World.cell?, h1, h3], h4⟩
theorem maxLen_is {I : Nat → Prop} {w : World} (h : GI I w) : ∃ m, w.cell? ⟨0, 0, none⟩ = some (.int .i64 m) := by
  obtain ⟨v, h1, m, rfl⟩ := gi_cell h (g := 0) (p := gMax) (by simp [gtab]) (q := fun v => ∃ m, v = .int .i64 m) (fun arr h => h)
  exact ⟨m, h1⟩
def laysM146_ren : Go.Shelf.Ren := ⟨fun | 146 => 68 | 221 => 71 | 268 => 74 | 138 => 75 | 143 => 76 | 195 => 86 | 197 => 87 | 218 => 88 | 219 => 89 | 260 => 95 | 217 => 96 | 225 => 97 | 224 => 98 | 267 => 99 | 266 => 103 | 314 => 104 | n => n, fun | 9 => 9 | 31 => 73 | 3 => 3 | 4 => 4 | 0 => 0 | 105 => 100 | 21 => 21 | 5 => 5 | 46 => 107 | 119 => 109 | 139 => 112 | 138 => 111 | 146 => 114 | 51 => 113 | n => n, fun | 1 => 0 | 3 => 1 | 4 => 2 | n => n⟩
theorem laysM146 : Go.Proofs.LaysM.n146 Tryd.prog laysM146_ren where
  mixed := by kernel_rfl
  f138 := Tryd.func75.trans (congrArg some (by kernel_rfl))
  f143 := Tryd.func76.trans (congrArg some (by kernel_rfl))
  f146 := Tryd.func68.trans (congrArg some (by kernel_rfl))
  f195 := Tryd.func86.trans (congrArg some (by kernel_rfl))
  f197 := Tryd.func87.trans (congrArg some (by kernel_rfl))
  f217 := Tryd.func96.trans (congrArg some (by kernel_rfl))
  f218 := Tryd.func88.trans (congrArg some (by kernel_rfl))
  f219 := Tryd.func89.trans (congrArg some (by kernel_rfl))
  f221 := Tryd.func71.trans (congrArg some (by kernel_rfl))
  f224 := Tryd.func98.trans (congrArg some (by kernel_rfl))
  f225 := Tryd.func97.trans (congrArg some (by kernel_rfl))
  f260 := Tryd.func95.trans (congrArg some (by kernel_rfl))
  f266 := Tryd.func103.trans (congrArg some (by kernel_rfl))
  f267 := Tryd.func99.trans (congrArg some (by kernel_rfl))
  f268 := Tryd.func74.trans (congrArg some (by kernel_rfl))
  f314 := Tryd.func104.trans (congrArg some (by kernel_rfl))
  t0 := Tryd.underlying0
  a0 := Tryd.isAgg0
  z0 := Tryd.sizeOf0
  v0 := Tryd.zeroValue0
  t3 := Tryd.underlying3
  a3 := Tryd.isAgg3
  z3 := Tryd.sizeOf3
  v3 := Tryd.zeroValue3
  t4 := Tryd.underlying4
  a4 := Tryd.isAgg4
  z4 := Tryd.sizeOf4
  v4 := Tryd.zeroValue4
  t5 := Tryd.underlying5
  a5 := Tryd.isAgg5
  z5 := Tryd.sizeOf5
  v5 := Tryd.zeroValue5
  t9 := Tryd.underlying9
  a9 := Tryd.isAgg9
  z9 := Tryd.sizeOf9
  v9 := Tryd.zeroValue9
  t21 := Tryd.underlying21
  a21 := Tryd.isAgg21
  z21 := Tryd.sizeOf21
  v21 := Tryd.zeroValue21
  t31 := Tryd.underlying73
  a31 := Tryd.isAgg73
  z31 := Tryd.sizeOf73
  v31 := Tryd.zeroValue73
  t46 := Tryd.underlying107
  a46 := Tryd.isAgg107
  z46 := Tryd.sizeOf107
  v46 := Tryd.zeroValue107
  t51 := Tryd.underlying113
  a51 := Tryd.isAgg113
  z51 := Tryd.sizeOf113
  v51 := Tryd.zeroValue113
  t105 := Tryd.underlying100
  a105 := Tryd.isAgg100
  z105 := Tryd.sizeOf100
  v105 := Tryd.zeroValue100
  t119 := Tryd.underlying109
  a119 := Tryd.isAgg109
  z119 := Tryd.sizeOf109
  t138 := Tryd.underlying111
  a138 := Tryd.isAgg111
  z138 := Tryd.sizeOf111
  v138 := Tryd.zeroValue111
  t139 := Tryd.underlying112
  a139 := Tryd.isAgg112
  z139 := Tryd.sizeOf112
  v139 := Tryd.zeroValue112
  t146 := Tryd.underlying114
  a146 := Tryd.isAgg114
  z146 := Tryd.sizeOf114
  v146 := Tryd.zeroValue114
  g1 := by kernel_rfl
  g3 := by kernel_rfl
  g4 := by kernel_rfl
  i0 := by kernel_rfl
  i3 := by kernel_rfl
  i4 := by kernel_rfl
  i5 := by kernel_rfl
  i9 := by kernel_rfl
  i21 := by kernel_rfl
  i31 := by kernel_rfl
  i46 := by kernel_rfl
  i51 := by kernel_rfl
  i105 := by kernel_rfl
  i138 := by kernel_rfl
  i139 := by kernel_rfl
  i146 := by kernel_rfl
  m1 := by kernel_rfl
  s1_3 := fun w h => Go.Proofs.cell_of_shapedOpen_int (zero := #[.int .i64 0]) (t := 3) h (of_decide_eq_true (by kernel_rfl)) (by kernel_rfl) rfl (by kernel_rfl) (by kernel_rfl) Tryd.underlying3
  m3 := by kernel_rfl
  m4 := by kernel_rfl
def x8 (s sep : List UInt8) : List (List UInt8) := (Lib.splitB ⟨⟨sep⟩⟩ 0 (Lib.countB ⟨⟨s⟩⟩ ⟨⟨sep⟩⟩) ⟨⟨s⟩⟩).map (·.data.toList)
theorem split_pf (s sep : List UInt8) (hs : s.length < 4294967281) (h1 : 1 ≤ sep.length) : PF Tryd.prog 68 [.c (str s), .c (str sep)] [⟨9, 1, (x8 s sep).map w7⟩] (.c (.ref 0 0 (x8 s sep).length)) := by
  refine ⟨⟨Tryd.f68, Tryd.func68, by kernel_rfl, rfl⟩, fun I β w vals hI hgi hβ _ _ hargs => ?_⟩
  obtain _ | ⟨h2, _ | ⟨h3, ⟨⟩⟩⟩ := hargs
  rename_i v1 v2
  have e1 : v1 = .string ⟨⟨s⟩⟩ := xV h2
  have e2 : v2 = .string ⟨⟨sep⟩⟩ := xV h3
  subst e1 e2
  obtain ⟨m, hm⟩ := maxLen_is hgi
  have hlen := Lib.splitB_all ⟨⟨sep⟩⟩ h1 0 _ ⟨⟨s⟩⟩ rfl
  refine (Any.strings_Split { laysM146 with } laysM146.i9 ⟨⟨s⟩⟩ ⟨⟨sep⟩⟩ m w hs hm h1).mono ?_
  rintro e w' ⟨he, hw'⟩
  have hw : Below w.heap.size w w' := hw' ▸ (Below.refl _ _).alloc (Nat.le_refl _) _
  have hheap : w'.heap = w.heap.push (.cells ((Lib.splitB ⟨⟨sep⟩⟩ 0 (Lib.countB ⟨⟨s⟩⟩ ⟨⟨sep⟩⟩) ⟨⟨s⟩⟩).map Value.string).toArray (laysM146_ren.t 9)) := by rw [hw']; rfl
  have hsz : w'.heap.size = w.heap.size + 1 := by rw [hheap]; simp
  have hcell : ∀ i (l : List UInt8), (x8 s sep)[i]? = some l → w'.cell? ⟨w.heap.size, i, none⟩ = some (.string ⟨⟨l⟩⟩) := by
    intro i l hl
    simp only [x8, List.getElem?_map, Option.map_eq_some_iff] at hl
    obtain ⟨y, hy, rfl⟩ := hl
    simp [World.cell?, hheap, hy]
  have hn : Lib.countB ⟨⟨s⟩⟩ ⟨⟨sep⟩⟩ + 1 = (x8 s sep).length := by rw [x8, List.length_map, hlen]
  have hle : (x8 s sep).length ≤ 4294967281 := by
    have := Lib.countB_le ⟨⟨sep⟩⟩ h1 _ ⟨⟨s⟩⟩ (Nat.le_refl _)
    have e : (⟨⟨s⟩⟩ : ByteArray).size = s.length := rfl
    omega
  have hml : 4294967281 ≤ maxLen := by decide
  have hge : w'.heap[w.heap.size]? = some (.cells ((Lib.splitB ⟨⟨sep⟩⟩ 0 (Lib.countB ⟨⟨s⟩⟩ ⟨⟨sep⟩⟩) ⟨⟨s⟩⟩).map Value.string).toArray (laysM146_ren.t 9)) := by rw [hheap]; simp
  have hR : Rep I (fun o => if o = 0 then some ⟨some w.heap.size, 1, (x8 s sep).length⟩ else none) w' (.ref 0 0 (x8 s sep).length) (.slice (some ⟨w.heap.size, 0, none⟩) (x8 s sep).length (x8 s sep).length) := by
    have := Rep.ref (I := I) (β := fun o => if o = 0 then some ⟨some w.heap.size, 1, (x8 s sep).length⟩ else none) (w := w') 0 0 (x8 s sep).length w.heap.size 1 (x8 s sep).length (x8 s sep).length rfl (Nat.le_refl _) (fun _ => rfl)
    simpa using this
  rw [hn] at he
  refine ⟨_, I, fun o => if o = 0 then some ⟨some w.heap.size, 1, (x8 s sep).length⟩ else none, he, hR, ⟨hw.os, hw.tape, hw.output, hw.size, fun k hk _ => hw.block k hk⟩, fun b hb => Nat.lt_of_lt_of_le (hI b hb) hw.size, fun _ _ => Iff.rfl, fun o B e => ?_, fun o ho => absurd ho (Nat.not_lt_zero _), fun o obj e => ?_, fun o o' obj obj' B B' b e e' hne => ?_⟩
  · simp only at e
    split at e
    · subst o; simp
    · cases e
  · cases o with
    | succ o => simp at e
    | zero =>
      obtain rfl : _ = obj := Option.some.inj (Option.some.inj e)
      refine ⟨_, rfl, fun x hx => ?_, (fun h => by cases h), fun b hb => ?_⟩
      · obtain ⟨l, _, rfl⟩ := List.mem_map.1 hx; rfl
      · obtain rfl : w.heap.size = b := Option.some.inj hb
        refine ⟨rfl, Or.inr (Nat.le_refl _), fun h => absurd (hI _ h) (Nat.lt_irrefl _), _, hge, ?_, ?_, ?_, fun i j x c hx hj => ?_⟩
        · exact .inl (by simp [x8])
        · simp
        · exact Nat.le_trans hle hml
        · simp only [List.getElem?_map, Option.map_eq_some_iff] at hx
          obtain ⟨l, hl, rfl⟩ := hx
          have hj0 : j = 0 := by
            have := (List.getElem?_eq_some_iff.1 hj).1
            simp [w7] at this; omega
          subst hj0
          obtain rfl : str l = c := by simpa [w7] using hj
          refine ⟨.string ⟨⟨l⟩⟩, ?_, Rep.imm (.v _ rfl)⟩
          have h := hcell i l hl
          simp only [World.cell?, hge] at h
          simpa using h
  · cases o with
    | succ o => simp at e
    | zero =>
      cases o' with
      | succ o' => simp at e'
      | zero => exact absurd rfl hne
end Go.Proofs.YtjeffognhcbiaaaDoor
