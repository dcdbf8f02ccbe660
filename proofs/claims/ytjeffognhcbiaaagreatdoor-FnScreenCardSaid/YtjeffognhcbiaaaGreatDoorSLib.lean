/- strings.Cut, strings.Split, strconv.Atoi, as contracts of the abstract machine. No conditions but bounds of lengths. -/
import Derived.Test.YtjeffognhcbiaaaGreatDoorAbs4
import Derived.Shelf.LaysM
import Derived.Shelf.LaysC
import Derived.Shelf.Strings.Cut
import Derived.Shelf.Strings.Split
namespace Go.Proofs.YtjeffognhcbiaaaGreatDoor
open Go Go.Shelf Go.RowKit
theorem Flat.dead : Flat .dead := fun I I' β w v h => by
  cases h with
  | imm h => cases h
  | dead _ h => exact .dead _ h
theorem gi_cell {I : Nat → Prop} {w : World} (h : GI I w) {g : Nat} {p : Array Value → Prop} (hm : (g, p) ∈ gtab) {q : Value → Prop} (hp : ∀ arr, p arr → ∃ v, arr[0]? = some v ∧ q v) : ∃ v, w.cell? ⟨g, 0, none⟩ = some v ∧ q v := by
  obtain ⟨_, arr, t, z, h1, h2⟩ := h g p hm
  obtain ⟨v, h3, h4⟩ := hp arr h2
  exact ⟨v, by simp [World.cell?, h1, h3], h4⟩
theorem maxLen_is {I : Nat → Prop} {w : World} (h : GI I w) : ∃ m, w.cell? ⟨0, 0, none⟩ = some (.int .i64 m) := by
  obtain ⟨v, h1, m, rfl⟩ := gi_cell h (g := 0) (p := gMax) (by simp [gtab]) (q := fun v => ∃ m, v = .int .i64 m) (fun arr h => h)
  exact ⟨m, h1⟩
def laysM146_ren : Go.Shelf.Ren := ⟨fun | 146 => 50 | 221 => 79 | 268 => 115 | 138 => 116 | 143 => 117 | 195 => 151 | 197 => 146 | 218 => 152 | 219 => 153 | 260 => 175 | 217 => 178 | 225 => 179 | 224 => 180 | 267 => 181 | 266 => 194 | 314 => 195 | n => n, fun | 9 => 9 | 31 => 86 | 3 => 3 | 4 => 4 | 0 => 0 | 105 => 169 | 21 => 21 | 5 => 5 | 46 => 91 | 119 => 191 | 139 => 194 | 138 => 193 | 146 => 196 | 51 => 195 | n => n, fun | 1 => 0 | 3 => 1 | 4 => 2 | n => n⟩
theorem laysM146 : Go.Proofs.LaysM.n146 Tryz.prog laysM146_ren where
  mixed := by kernel_rfl
  f138 := Tryz.func116.trans (congrArg some (by kernel_rfl))
  f143 := Tryz.func117.trans (congrArg some (by kernel_rfl))
  f146 := Tryz.func50.trans (congrArg some (by kernel_rfl))
  f195 := Tryz.func151.trans (congrArg some (by kernel_rfl))
  f197 := Tryz.func146.trans (congrArg some (by kernel_rfl))
  f217 := Tryz.func178.trans (congrArg some (by kernel_rfl))
  f218 := Tryz.func152.trans (congrArg some (by kernel_rfl))
  f219 := Tryz.func153.trans (congrArg some (by kernel_rfl))
  f221 := Tryz.func79.trans (congrArg some (by kernel_rfl))
  f224 := Tryz.func180.trans (congrArg some (by kernel_rfl))
  f225 := Tryz.func179.trans (congrArg some (by kernel_rfl))
  f260 := Tryz.func175.trans (congrArg some (by kernel_rfl))
  f266 := Tryz.func194.trans (congrArg some (by kernel_rfl))
  f267 := Tryz.func181.trans (congrArg some (by kernel_rfl))
  f268 := Tryz.func115.trans (congrArg some (by kernel_rfl))
  f314 := Tryz.func195.trans (congrArg some (by kernel_rfl))
  t0 := Tryz.underlying0
  a0 := Tryz.isAgg0
  z0 := Tryz.sizeOf0
  v0 := Tryz.zeroValue0
  t3 := Tryz.underlying3
  a3 := Tryz.isAgg3
  z3 := Tryz.sizeOf3
  v3 := Tryz.zeroValue3
  t4 := Tryz.underlying4
  a4 := Tryz.isAgg4
  z4 := Tryz.sizeOf4
  v4 := Tryz.zeroValue4
  t5 := Tryz.underlying5
  a5 := Tryz.isAgg5
  z5 := Tryz.sizeOf5
  v5 := Tryz.zeroValue5
  t9 := Tryz.underlying9
  a9 := Tryz.isAgg9
  z9 := Tryz.sizeOf9
  v9 := Tryz.zeroValue9
  t21 := Tryz.underlying21
  a21 := Tryz.isAgg21
  z21 := Tryz.sizeOf21
  v21 := Tryz.zeroValue21
  t31 := Tryz.underlying86
  a31 := Tryz.isAgg86
  z31 := Tryz.sizeOf86
  v31 := Tryz.zeroValue86
  t46 := Tryz.underlying91
  a46 := Tryz.isAgg91
  z46 := Tryz.sizeOf91
  v46 := Tryz.zeroValue91
  t51 := Tryz.underlying195
  a51 := Tryz.isAgg195
  z51 := Tryz.sizeOf195
  v51 := Tryz.zeroValue195
  t105 := Tryz.underlying169
  a105 := Tryz.isAgg169
  z105 := Tryz.sizeOf169
  v105 := Tryz.zeroValue169
  t119 := Tryz.underlying191
  a119 := Tryz.isAgg191
  z119 := Tryz.sizeOf191
  t138 := Tryz.underlying193
  a138 := Tryz.isAgg193
  z138 := Tryz.sizeOf193
  v138 := Tryz.zeroValue193
  t139 := Tryz.underlying194
  a139 := Tryz.isAgg194
  z139 := Tryz.sizeOf194
  v139 := Tryz.zeroValue194
  t146 := Tryz.underlying196
  a146 := Tryz.isAgg196
  z146 := Tryz.sizeOf196
  v146 := Tryz.zeroValue196
  g1 := by kernel_rfl
  g3 := by kernel_rfl
  g4 := by kernel_rfl
  i0 := by kernel_rfl
  i3 := by kernel_rfl
  i4 := by kernel_rfl
  i5 := by kernel_rfl
  i9 := by kernel_rfl
  i21 := by kernel_rfl
  i31 := by kernel_rfl
  i46 := by kernel_rfl
  i51 := by kernel_rfl
  i105 := by kernel_rfl
  i138 := by kernel_rfl
  i139 := by kernel_rfl
  i146 := by kernel_rfl
  m1 := by kernel_rfl
  s1_3 := fun w h => Go.Proofs.cell_of_shapedOpen_int (zero := #[.int .i64 0]) (t := 3) h (of_decide_eq_true (by kernel_rfl)) (by kernel_rfl) rfl (by kernel_rfl) (by kernel_rfl) Tryz.underlying3
  m3 := by kernel_rfl
  m4 := by kernel_rfl
def wS (s sep : List UInt8) : List (List UInt8) := (Lib.splitB ⟨⟨sep⟩⟩ 0 (Lib.countB ⟨⟨s⟩⟩ ⟨⟨sep⟩⟩) ⟨⟨s⟩⟩).map (·.data.toList)
theorem split_pf (s sep : List UInt8) (hs : s.length < 4294967281) (h1 : 1 ≤ sep.length) : PF Tryz.prog 50 [.c (str s), .c (str sep)] [⟨9, 1, (wS s sep).map wE⟩] (.c (.ref 0 0 (wS s sep).length)) := by
  refine ⟨⟨Tryz.f50, Tryz.func50, by kernel_rfl, rfl⟩, fun I β w vals hI hgi hβ _ _ hargs => ?_⟩
  obtain _ | ⟨h2, _ | ⟨h3, ⟨⟩⟩⟩ := hargs
  rename_i v1 v2
  have e1 : v1 = .string ⟨⟨s⟩⟩ := x8 h2
  have e2 : v2 = .string ⟨⟨sep⟩⟩ := x8 h3
  subst e1 e2
  obtain ⟨m, hm⟩ := maxLen_is hgi
  have hlen := Lib.splitB_all ⟨⟨sep⟩⟩ h1 0 _ ⟨⟨s⟩⟩ rfl
  refine (Any.strings_Split { laysM146 with } laysM146.i9 ⟨⟨s⟩⟩ ⟨⟨sep⟩⟩ m w hs hm h1).mono ?_
  rintro e w' ⟨he, hw'⟩
  have hw : Below w.heap.size w w' := hw' ▸ (Below.refl _ _).alloc (Nat.le_refl _) _
  have hheap : w'.heap = w.heap.push (.cells ((Lib.splitB ⟨⟨sep⟩⟩ 0 (Lib.countB ⟨⟨s⟩⟩ ⟨⟨sep⟩⟩) ⟨⟨s⟩⟩).map Value.string).toArray (laysM146_ren.t 9)) := by rw [hw']; rfl
  have hsz : w'.heap.size = w.heap.size + 1 := by rw [hheap]; simp
  have hcell : ∀ i (l : List UInt8), (wS s sep)[i]? = some l → w'.cell? ⟨w.heap.size, i, none⟩ = some (.string ⟨⟨l⟩⟩) := by
    intro i l hl
    simp only [wS, List.getElem?_map, Option.map_eq_some_iff] at hl
    obtain ⟨y, hy, rfl⟩ := hl
    simp [World.cell?, hheap, hy]
  have hn : Lib.countB ⟨⟨s⟩⟩ ⟨⟨sep⟩⟩ + 1 = (wS s sep).length := by rw [wS, List.length_map, hlen]
  have hle : (wS s sep).length ≤ 4294967281 := by
    have := Lib.countB_le ⟨⟨sep⟩⟩ h1 _ ⟨⟨s⟩⟩ (Nat.le_refl _)
    have e : (⟨⟨s⟩⟩ : ByteArray).size = s.length := rfl
    omega
  have hml : 4294967281 ≤ maxLen := by decide
  have hge : w'.heap[w.heap.size]? = some (.cells ((Lib.splitB ⟨⟨sep⟩⟩ 0 (Lib.countB ⟨⟨s⟩⟩ ⟨⟨sep⟩⟩) ⟨⟨s⟩⟩).map Value.string).toArray (laysM146_ren.t 9)) := by rw [hheap]; simp
  have hR : Rep I (fun o => if o = 0 then some ⟨some w.heap.size, 1, (wS s sep).length⟩ else none) w' (.ref 0 0 (wS s sep).length) (.slice (some ⟨w.heap.size, 0, none⟩) (wS s sep).length (wS s sep).length) := by
    have := Rep.ref (I := I) (β := fun o => if o = 0 then some ⟨some w.heap.size, 1, (wS s sep).length⟩ else none) (w := w') 0 0 (wS s sep).length w.heap.size 1 (wS s sep).length (wS s sep).length rfl (Nat.le_refl _) (fun _ => rfl)
    simpa using this
  rw [hn] at he
  refine ⟨_, I, fun o => if o = 0 then some ⟨some w.heap.size, 1, (wS s sep).length⟩ else none, he, hR, ⟨hw.os, hw.tape, hw.output, hw.size, fun k hk _ => hw.block k hk⟩, fun b hb => Nat.lt_of_lt_of_le (hI b hb) hw.size, fun _ _ => Iff.rfl, fun o B e => ?_, fun o ho => absurd ho (Nat.not_lt_zero _), fun o obj e => ?_, fun o o' obj obj' B B' b e e' hne => ?_⟩
  · simp only at e
    split at e
    · subst o; simp
    · cases e
  · cases o with
    | succ o => simp at e
    | zero =>
      obtain rfl : _ = obj := Option.some.inj (Option.some.inj e)
      refine ⟨_, rfl, fun x hx => ?_, (fun h => by cases h), fun b hb => ?_⟩
      · obtain ⟨l, _, rfl⟩ := List.mem_map.1 hx; rfl
      · obtain rfl : w.heap.size = b := Option.some.inj hb
        refine ⟨rfl, Or.inr (Nat.le_refl _), fun h => absurd (hI _ h) (Nat.lt_irrefl _), _, hge, ?_, ?_, ?_, fun i j x c hx hj => ?_⟩
        · exact .inl (by simp [wS])
        · simp
        · exact Nat.le_trans hle hml
        · simp only [List.getElem?_map, Option.map_eq_some_iff] at hx
          obtain ⟨l, hl, rfl⟩ := hx
          have hj0 : j = 0 := by
            have := (List.getElem?_eq_some_iff.1 hj).1
            simp [wE] at this; omega
          subst hj0
          obtain rfl : str l = c := by simpa [wE] using hj
          refine ⟨.string ⟨⟨l⟩⟩, ?_, Rep.imm (.v _ rfl)⟩
          have h := hcell i l hl
          simp only [World.cell?, hge] at h
          simpa using h
  · cases o with
    | succ o => simp at e
    | zero =>
      cases o' with
      | succ o' => simp at e'
      | zero => exact absurd rfl hne
end Go.Proofs.YtjeffognhcbiaaaGreatDoor
