/- strings.Cut, strings.Split, strconv.Atoi, as contracts of the abstract machine. No conditions but bounds of lengths. -/
import Derived.Test.YtchpdclknbmdoaaDoorAbs4
import Derived.Shelf.LaysM
import Derived.Shelf.LaysC
import Derived.Shelf.Strings.Cut
import Derived.Shelf.Strings.Split
import Derived.Shelf.Strconv.AtoiAll
import Derived.Lib.AppendIntMem
import Derived.Lib.AtoiErrMem
namespace Go.Proofs.YtchpdclknbmdoaaDoor
open Go Go.Shelf Go.RowKit
theorem Flat.dead : Flat .dead := fun I I' β w v h => by
  cases h with
  | imm h => cases h
  | dead _ h => exact .dead _ h
theorem gi_cell {I : Nat → Prop} {w : World} (h : GI I w) {g : Nat} {p : Array Value → Prop} (hm : (g, p) ∈ gtab) {q : Value → Prop} (hp : ∀ arr, p arr → ∃ v, arr[0]? = some v ∧ q v) : ∃ v, w.cell? ⟨g, 0, none⟩ = some v ∧ q v := by
  obtain ⟨_, arr, t, z, h1, h2⟩ := h g p hm
  obtain ⟨v, h3, h4⟩ := hp arr h2
  exact ⟨v, by simp [World.cell?, h1, h3], h4⟩
theorem maxLen_is {I : Nat → Prop} {w : World} (h : GI I w) : ∃ m, w.cell? ⟨0, 0, none⟩ = some (.int .i64 m) := by
  obtain ⟨v, h1, m, rfl⟩ := gi_cell h (g := 0) (p := gMax) (by simp [gtab]) (q := fun v => ∃ m, v = .int .i64 m) (fun arr h => h)
  exact ⟨m, h1⟩
def laysM146_ren : Go.Shelf.Ren := ⟨fun | 146 => 49 | 221 => 87 | 268 => 123 | 138 => 124 | 143 => 125 | 195 => 147 | 197 => 148 | 218 => 149 | 219 => 150 | 260 => 161 | 217 => 162 | 225 => 163 | 224 => 164 | 267 => 165 | 266 => 168 | 314 => 169 | n => n, fun | 9 => 9 | 31 => 72 | 3 => 3 | 4 => 4 | 0 => 0 | 105 => 159 | 21 => 21 | 5 => 5 | 46 => 142 | 119 => 170 | 139 => 173 | 138 => 172 | 146 => 175 | 51 => 174 | n => n, fun | 1 => 0 | 3 => 1 | 4 => 2 | n => n⟩
theorem laysM146 : Go.Proofs.LaysM.n146 Tryd.prog laysM146_ren where
  mixed := by kernel_rfl
  f138 := Tryd.func124.trans (congrArg some (by kernel_rfl))
  f143 := Tryd.func125.trans (congrArg some (by kernel_rfl))
  f146 := Tryd.func49.trans (congrArg some (by kernel_rfl))
  f195 := Tryd.func147.trans (congrArg some (by kernel_rfl))
  f197 := Tryd.func148.trans (congrArg some (by kernel_rfl))
  f217 := Tryd.func162.trans (congrArg some (by kernel_rfl))
  f218 := Tryd.func149.trans (congrArg some (by kernel_rfl))
  f219 := Tryd.func150.trans (congrArg some (by kernel_rfl))
  f221 := Tryd.func87.trans (congrArg some (by kernel_rfl))
  f224 := Tryd.func164.trans (congrArg some (by kernel_rfl))
  f225 := Tryd.func163.trans (congrArg some (by kernel_rfl))
  f260 := Tryd.func161.trans (congrArg some (by kernel_rfl))
  f266 := Tryd.func168.trans (congrArg some (by kernel_rfl))
  f267 := Tryd.func165.trans (congrArg some (by kernel_rfl))
  f268 := Tryd.func123.trans (congrArg some (by kernel_rfl))
  f314 := Tryd.func169.trans (congrArg some (by kernel_rfl))
  t0 := Tryd.underlying0
  a0 := Tryd.isAgg0
  z0 := Tryd.sizeOf0
  v0 := Tryd.zeroValue0
  t3 := Tryd.underlying3
  a3 := Tryd.isAgg3
  z3 := Tryd.sizeOf3
  v3 := Tryd.zeroValue3
  t4 := Tryd.underlying4
  a4 := Tryd.isAgg4
  z4 := Tryd.sizeOf4
  v4 := Tryd.zeroValue4
  t5 := Tryd.underlying5
  a5 := Tryd.isAgg5
  z5 := Tryd.sizeOf5
  v5 := Tryd.zeroValue5
  t9 := Tryd.underlying9
  a9 := Tryd.isAgg9
  z9 := Tryd.sizeOf9
  v9 := Tryd.zeroValue9
  t21 := Tryd.underlying21
  a21 := Tryd.isAgg21
  z21 := Tryd.sizeOf21
  v21 := Tryd.zeroValue21
  t31 := Tryd.underlying72
  a31 := Tryd.isAgg72
  z31 := Tryd.sizeOf72
  v31 := Tryd.zeroValue72
  t46 := Tryd.underlying142
  a46 := Tryd.isAgg142
  z46 := Tryd.sizeOf142
  v46 := Tryd.zeroValue142
  t51 := Tryd.underlying174
  a51 := Tryd.isAgg174
  z51 := Tryd.sizeOf174
  v51 := Tryd.zeroValue174
  t105 := Tryd.underlying159
  a105 := Tryd.isAgg159
  z105 := Tryd.sizeOf159
  v105 := Tryd.zeroValue159
  t119 := Tryd.underlying170
  a119 := Tryd.isAgg170
  z119 := Tryd.sizeOf170
  t138 := Tryd.underlying172
  a138 := Tryd.isAgg172
  z138 := Tryd.sizeOf172
  v138 := Tryd.zeroValue172
  t139 := Tryd.underlying173
  a139 := Tryd.isAgg173
  z139 := Tryd.sizeOf173
  v139 := Tryd.zeroValue173
  t146 := Tryd.underlying175
  a146 := Tryd.isAgg175
  z146 := Tryd.sizeOf175
  v146 := Tryd.zeroValue175
  g1 := by kernel_rfl
  g3 := by kernel_rfl
  g4 := by kernel_rfl
  i0 := by kernel_rfl
  i3 := by kernel_rfl
  i4 := by kernel_rfl
  i5 := by kernel_rfl
  i9 := by kernel_rfl
  i21 := by kernel_rfl
  i31 := by kernel_rfl
  i46 := by kernel_rfl
  i51 := by kernel_rfl
  i105 := by kernel_rfl
  i138 := by kernel_rfl
  i139 := by kernel_rfl
  i146 := by kernel_rfl
  m1 := by kernel_rfl
  s1_3 := fun w h => Go.Proofs.cell_of_shapedOpen_int (zero := #[.int .i64 0]) (t := 3) h (of_decide_eq_true (by kernel_rfl)) (by kernel_rfl) rfl (by kernel_rfl) (by kernel_rfl) Tryd.underlying3
  m3 := by kernel_rfl
  m4 := by kernel_rfl
def wH (s sep : List UInt8) : List (List UInt8) := (Lib.splitB ⟨⟨sep⟩⟩ 0 (Lib.countB ⟨⟨s⟩⟩ ⟨⟨sep⟩⟩) ⟨⟨s⟩⟩).map (·.data.toList)
theorem split_pf (s sep : List UInt8) (hs : s.length < 4294967281) (h1 : 1 ≤ sep.length) : PF Tryd.prog 49 [.c (str s), .c (str sep)] [⟨9, 1, (wH s sep).map wA⟩] (.c (.ref 0 0 (wH s sep).length)) := by
  refine ⟨⟨Tryd.f49, Tryd.func49, by kernel_rfl, rfl⟩, fun I β w vals hI hgi hβ _ _ hargs => ?_⟩
  obtain _ | ⟨h2, _ | ⟨h3, ⟨⟩⟩⟩ := hargs
  rename_i v1 v2
  have e1 : v1 = .string ⟨⟨s⟩⟩ := x7 h2
  have e2 : v2 = .string ⟨⟨sep⟩⟩ := x7 h3
  subst e1 e2
  obtain ⟨m, hm⟩ := maxLen_is hgi
  have hlen := Lib.splitB_all ⟨⟨sep⟩⟩ h1 0 _ ⟨⟨s⟩⟩ rfl
  refine (Any.strings_Split { laysM146 with } laysM146.i9 ⟨⟨s⟩⟩ ⟨⟨sep⟩⟩ m w hs hm h1).mono ?_
  rintro e w' ⟨he, hw'⟩
  have hw : Below w.heap.size w w' := hw' ▸ (Below.refl _ _).alloc (Nat.le_refl _) _
  have hheap : w'.heap = w.heap.push (.cells ((Lib.splitB ⟨⟨sep⟩⟩ 0 (Lib.countB ⟨⟨s⟩⟩ ⟨⟨sep⟩⟩) ⟨⟨s⟩⟩).map Value.string).toArray (laysM146_ren.t 9)) := by rw [hw']; rfl
  have hsz : w'.heap.size = w.heap.size + 1 := by rw [hheap]; simp
  have hcell : ∀ i (l : List UInt8), (wH s sep)[i]? = some l → w'.cell? ⟨w.heap.size, i, none⟩ = some (.string ⟨⟨l⟩⟩) := by
    intro i l hl
    simp only [wH, List.getElem?_map, Option.map_eq_some_iff] at hl
    obtain ⟨y, hy, rfl⟩ := hl
    simp [World.cell?, hheap, hy]
  have hn : Lib.countB ⟨⟨s⟩⟩ ⟨⟨sep⟩⟩ + 1 = (wH s sep).length := by rw [wH, List.length_map, hlen]
  have hle : (wH s sep).length ≤ 4294967281 := by
    have := Lib.countB_le ⟨⟨sep⟩⟩ h1 _ ⟨⟨s⟩⟩ (Nat.le_refl _)
    have e : (⟨⟨s⟩⟩ : ByteArray).size = s.length := rfl
    omega
  have hml : 4294967281 ≤ maxLen := by decide
  have hge : w'.heap[w.heap.size]? = some (.cells ((Lib.splitB ⟨⟨sep⟩⟩ 0 (Lib.countB ⟨⟨s⟩⟩ ⟨⟨sep⟩⟩) ⟨⟨s⟩⟩).map Value.string).toArray (laysM146_ren.t 9)) := by rw [hheap]; simp
  have hR : Rep I (fun o => if o = 0 then some ⟨some w.heap.size, 1, (wH s sep).length⟩ else none) w' (.ref 0 0 (wH s sep).length) (.slice (some ⟨w.heap.size, 0, none⟩) (wH s sep).length (wH s sep).length) := by
    have := Rep.ref (I := I) (β := fun o => if o = 0 then some ⟨some w.heap.size, 1, (wH s sep).length⟩ else none) (w := w') 0 0 (wH s sep).length w.heap.size 1 (wH s sep).length (wH s sep).length rfl (Nat.le_refl _) (fun _ => rfl)
    simpa using this
  rw [hn] at he
  refine ⟨_, I, fun o => if o = 0 then some ⟨some w.heap.size, 1, (wH s sep).length⟩ else none, he, hR, ⟨hw.os, hw.tape, hw.output, hw.size, fun k hk _ => hw.block k hk⟩, fun b hb => Nat.lt_of_lt_of_le (hI b hb) hw.size, fun _ _ => Iff.rfl, fun o B e => ?_, fun o ho => absurd ho (Nat.not_lt_zero _), fun o obj e => ?_, fun o o' obj obj' B B' b e e' hne => ?_⟩
  · simp only at e
    split at e
    · subst o; simp
    · cases e
  · cases o with
    | succ o => simp at e
    | zero =>
      obtain rfl : _ = obj := Option.some.inj (Option.some.inj e)
      refine ⟨_, rfl, fun x hx => ?_, (fun h => by cases h), fun b hb => ?_⟩
      · obtain ⟨l, _, rfl⟩ := List.mem_map.1 hx; rfl
      · obtain rfl : w.heap.size = b := Option.some.inj hb
        refine ⟨rfl, Or.inr (Nat.le_refl _), fun h => absurd (hI _ h) (Nat.lt_irrefl _), _, hge, ?_, ?_, ?_, fun i j x c hx hj => ?_⟩
        · exact .inl (by simp [wH])
        · simp
        · exact Nat.le_trans hle hml
        · simp only [List.getElem?_map, Option.map_eq_some_iff] at hx
          obtain ⟨l, hl, rfl⟩ := hx
          have hj0 : j = 0 := by
            have := (List.getElem?_eq_some_iff.1 hj).1
            simp [wA] at this; omega
          subst hj0
          obtain rfl : str l = c := by simpa [wA] using hj
          refine ⟨.string ⟨⟨l⟩⟩, ?_, Rep.imm (.v _ rfl)⟩
          have h := hcell i l hl
          simp only [World.cell?, hge] at h
          simpa using h
  · cases o with
    | succ o => simp at e
    | zero =>
      cases o' with
      | succ o' => simp at e'
      | zero => exact absurd rfl hne
end Go.Proofs.YtchpdclknbmdoaaDoor
