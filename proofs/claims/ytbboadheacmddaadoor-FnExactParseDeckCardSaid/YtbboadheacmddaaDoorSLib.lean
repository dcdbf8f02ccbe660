/- strings.Cut, strings.Split, strconv.Atoi, as contracts of the abstract machine. No conditions but bounds of lengths. -/
import Derived.Test.YtbboadheacmddaaDoorAbs4
import Derived.Shelf.LaysM
import Derived.Shelf.LaysC
import Derived.Shelf.Strings.Cut
import Derived.Shelf.Strings.Split
import Derived.Shelf.Strconv.AtoiAll
import Derived.Lib.AppendIntMem
import Derived.Lib.AtoiErrMem
namespace Go.Proofs.YtbboadheacmddaaDoor
open Go Go.Shelf Go.RowKit
theorem Flat.dead : Flat .dead := fun I I' β w v h => by
  cases h with
  | imm h => cases h
  | dead _ h => exact .dead _ h
theorem gi_cell {I : Nat → Prop} {w : World} (h : GI I w) {g : Nat} {p : Array Value → Prop} (hm : (g, p) ∈ gtab) {q : Value → Prop} (hp : ∀ arr, p arr → ∃ v, arr[0]? = some v ∧ q v) : ∃ v, w.cell? ⟨g, 0, none⟩ = some v ∧ q v := by
  obtain ⟨_, arr, t, z, h1, h2⟩ := h g p hm
  obtain ⟨v, h3, h4⟩ := hp arr h2
  exact ⟨v, by simp [World.cell?, h1, h3], h4⟩
theorem maxLen_is {I : Nat → Prop} {w : World} (h : GI I w) : ∃ m, w.cell? ⟨0, 0, none⟩ = some (.int .i64 m) := by
  obtain ⟨v, h1, m, rfl⟩ := gi_cell h (g := 0) (p := gMax) (by simp [gtab]) (q := fun v => ∃ m, v = .int .i64 m) (fun arr h => h)
  exact ⟨m, h1⟩
def laysM145_ren : Go.Shelf.Ren := ⟨fun | 145 => 23 | 220 => 38 | 219 => 50 | 217 => 64 | 225 => 65 | 224 => 66 | 267 => 67 | 266 => 79 | 314 => 80 | n => n, fun | 9 => 9 | 4 => 4 | 59 => 50 | 3 => 3 | 5 => 5 | 46 => 88 | 146 => 103 | 51 => 100 | n => n, fun | 1 => 0 | n => n⟩
theorem laysM145 : Go.Proofs.LaysM.n145 Tryd.prog laysM145_ren where
  mixed := by kernel_rfl
  f145 := Tryd.func23.trans (congrArg some (by kernel_rfl))
  f217 := Tryd.func64.trans (congrArg some (by kernel_rfl))
  f219 := Tryd.func50.trans (congrArg some (by kernel_rfl))
  f220 := Tryd.func38.trans (congrArg some (by kernel_rfl))
  f224 := Tryd.func66.trans (congrArg some (by kernel_rfl))
  f225 := Tryd.func65.trans (congrArg some (by kernel_rfl))
  f266 := Tryd.func79.trans (congrArg some (by kernel_rfl))
  f267 := Tryd.func67.trans (congrArg some (by kernel_rfl))
  f314 := Tryd.func80.trans (congrArg some (by kernel_rfl))
  t3 := Tryd.underlying3
  a3 := Tryd.isAgg3
  z3 := Tryd.sizeOf3
  v3 := Tryd.zeroValue3
  t4 := Tryd.underlying4
  a4 := Tryd.isAgg4
  z4 := Tryd.sizeOf4
  v4 := Tryd.zeroValue4
  t5 := Tryd.underlying5
  a5 := Tryd.isAgg5
  z5 := Tryd.sizeOf5
  v5 := Tryd.zeroValue5
  t9 := Tryd.underlying9
  a9 := Tryd.isAgg9
  z9 := Tryd.sizeOf9
  v9 := Tryd.zeroValue9
  t46 := Tryd.underlying88
  a46 := Tryd.isAgg88
  z46 := Tryd.sizeOf88
  v46 := Tryd.zeroValue88
  t51 := Tryd.underlying100
  a51 := Tryd.isAgg100
  z51 := Tryd.sizeOf100
  v51 := Tryd.zeroValue100
  t59 := Tryd.underlying50
  a59 := Tryd.isAgg50
  z59 := Tryd.sizeOf50
  v59 := Tryd.zeroValue50
  t146 := Tryd.underlying103
  a146 := Tryd.isAgg103
  z146 := Tryd.sizeOf103
  v146 := Tryd.zeroValue103
  g1 := by kernel_rfl
  i3 := by kernel_rfl
  i4 := by kernel_rfl
  i5 := by kernel_rfl
  i9 := by kernel_rfl
  i46 := by kernel_rfl
  i51 := by kernel_rfl
  i59 := by kernel_rfl
  i146 := by kernel_rfl
  m1 := by kernel_rfl
  s1_3 := fun w h => Go.Proofs.cell_of_shapedOpen_int (zero := #[.int .i64 0]) (t := 3) h (of_decide_eq_true (by kernel_rfl)) (by kernel_rfl) rfl (by kernel_rfl) (by kernel_rfl) Tryd.underlying3
theorem cut_pf (s sep : List UInt8) (hs : s.length < 4294967281) : PF Tryd.prog 23 [.c (str s), .c (str sep)] [] (.tup [.c (str (Lib.cut s sep).1), .c (str (Lib.cut s sep).2.1), .c (boo (Lib.cut s sep).2.2)]) := by
  refine ⟨⟨Tryd.f23, Tryd.func23, by kernel_rfl, rfl⟩, fun I β w vals hI hgi hβ _ _ hargs => ?_⟩
  obtain _ | ⟨h1, _ | ⟨h2, ⟨⟩⟩⟩ := hargs
  rename_i v1 v2
  have e1 : v1 = .string ⟨⟨s⟩⟩ := rep_v h1
  have e2 : v2 = .string ⟨⟨sep⟩⟩ := rep_v h2
  subst e1 e2
  obtain ⟨m, hm⟩ := maxLen_is hgi
  refine (Any.strings_Cut { laysM145 with } ⟨⟨s⟩⟩ ⟨⟨sep⟩⟩ m w hs hm).mono ?_
  rintro e w' ⟨he, n, rfl⟩
  have hw : Below w.heap.size w (w.drewN n) := ⟨rfl, rfl, rfl, Nat.le_refl _, fun _ _ => rfl⟩
  exact ⟨_, I, fun _ => none, he, ⟨[_, _, _], rfl, .cons (Rep.imm (.v _ rfl)) (.cons (Rep.imm (.v _ rfl)) (.cons (Rep.imm (.v _ rfl)) .nil))⟩, ⟨hw.os, hw.tape, hw.output, hw.size, fun k hk _ => hw.block k hk⟩, fun b hb => Nat.lt_of_lt_of_le (hI b hb) hw.size, fun _ _ => Iff.rfl, fun o B e => (by cases e), fun o ho => absurd ho (Nat.not_lt_zero _), fun o obj e => (by simp at e), fun o o' obj obj' B B' b e => (by simp at e)⟩
def laysM146_ren : Go.Shelf.Ren := ⟨fun | 146 => 24 | 221 => 39 | 268 => 51 | 138 => 52 | 143 => 53 | 195 => 68 | 197 => 69 | 218 => 70 | 219 => 50 | 260 => 81 | 217 => 64 | 225 => 65 | 224 => 66 | 267 => 67 | 266 => 79 | 314 => 80 | n => n, fun | 9 => 9 | 31 => 46 | 3 => 3 | 4 => 4 | 0 => 0 | 105 => 90 | 21 => 21 | 5 => 5 | 46 => 88 | 119 => 111 | 139 => 114 | 138 => 113 | 146 => 103 | 51 => 100 | n => n, fun | 1 => 0 | 3 => 4 | 4 => 5 | n => n⟩
theorem laysM146 : Go.Proofs.LaysM.n146 Tryd.prog laysM146_ren where
  mixed := by kernel_rfl
  f138 := Tryd.func52.trans (congrArg some (by kernel_rfl))
  f143 := Tryd.func53.trans (congrArg some (by kernel_rfl))
  f146 := Tryd.func24.trans (congrArg some (by kernel_rfl))
  f195 := Tryd.func68.trans (congrArg some (by kernel_rfl))
  f197 := Tryd.func69.trans (congrArg some (by kernel_rfl))
  f217 := Tryd.func64.trans (congrArg some (by kernel_rfl))
  f218 := Tryd.func70.trans (congrArg some (by kernel_rfl))
  f219 := Tryd.func50.trans (congrArg some (by kernel_rfl))
  f221 := Tryd.func39.trans (congrArg some (by kernel_rfl))
  f224 := Tryd.func66.trans (congrArg some (by kernel_rfl))
  f225 := Tryd.func65.trans (congrArg some (by kernel_rfl))
  f260 := Tryd.func81.trans (congrArg some (by kernel_rfl))
  f266 := Tryd.func79.trans (congrArg some (by kernel_rfl))
  f267 := Tryd.func67.trans (congrArg some (by kernel_rfl))
  f268 := Tryd.func51.trans (congrArg some (by kernel_rfl))
  f314 := Tryd.func80.trans (congrArg some (by kernel_rfl))
  t0 := Tryd.underlying0
  a0 := Tryd.isAgg0
  z0 := Tryd.sizeOf0
  v0 := Tryd.zeroValue0
  t3 := Tryd.underlying3
  a3 := Tryd.isAgg3
  z3 := Tryd.sizeOf3
  v3 := Tryd.zeroValue3
  t4 := Tryd.underlying4
  a4 := Tryd.isAgg4
  z4 := Tryd.sizeOf4
  v4 := Tryd.zeroValue4
  t5 := Tryd.underlying5
  a5 := Tryd.isAgg5
  z5 := Tryd.sizeOf5
  v5 := Tryd.zeroValue5
  t9 := Tryd.underlying9
  a9 := Tryd.isAgg9
  z9 := Tryd.sizeOf9
  v9 := Tryd.zeroValue9
  t21 := Tryd.underlying21
  a21 := Tryd.isAgg21
  z21 := Tryd.sizeOf21
  v21 := Tryd.zeroValue21
  t31 := Tryd.underlying46
  a31 := Tryd.isAgg46
  z31 := Tryd.sizeOf46
  v31 := Tryd.zeroValue46
  t46 := Tryd.underlying88
  a46 := Tryd.isAgg88
  z46 := Tryd.sizeOf88
  v46 := Tryd.zeroValue88
  t51 := Tryd.underlying100
  a51 := Tryd.isAgg100
  z51 := Tryd.sizeOf100
  v51 := Tryd.zeroValue100
  t105 := Tryd.underlying90
  a105 := Tryd.isAgg90
  z105 := Tryd.sizeOf90
  v105 := Tryd.zeroValue90
  t119 := Tryd.underlying111
  a119 := Tryd.isAgg111
  z119 := Tryd.sizeOf111
  t138 := Tryd.underlying113
  a138 := Tryd.isAgg113
  z138 := Tryd.sizeOf113
  v138 := Tryd.zeroValue113
  t139 := Tryd.underlying114
  a139 := Tryd.isAgg114
  z139 := Tryd.sizeOf114
  v139 := Tryd.zeroValue114
  t146 := Tryd.underlying103
  a146 := Tryd.isAgg103
  z146 := Tryd.sizeOf103
  v146 := Tryd.zeroValue103
  g1 := by kernel_rfl
  g3 := by kernel_rfl
  g4 := by kernel_rfl
  i0 := by kernel_rfl
  i3 := by kernel_rfl
  i4 := by kernel_rfl
  i5 := by kernel_rfl
  i9 := by kernel_rfl
  i21 := by kernel_rfl
  i31 := by kernel_rfl
  i46 := by kernel_rfl
  i51 := by kernel_rfl
  i105 := by kernel_rfl
  i138 := by kernel_rfl
  i139 := by kernel_rfl
  i146 := by kernel_rfl
  m1 := by kernel_rfl
  s1_3 := fun w h => Go.Proofs.cell_of_shapedOpen_int (zero := #[.int .i64 0]) (t := 3) h (of_decide_eq_true (by kernel_rfl)) (by kernel_rfl) rfl (by kernel_rfl) (by kernel_rfl) Tryd.underlying3
  m3 := by kernel_rfl
  m4 := by kernel_rfl
def splitL (s sep : List UInt8) : List (List UInt8) := (Lib.splitB ⟨⟨sep⟩⟩ 0 (Lib.countB ⟨⟨s⟩⟩ ⟨⟨sep⟩⟩) ⟨⟨s⟩⟩).map (·.data.toList)
theorem split_pf (s sep : List UInt8) (hs : s.length < 4294967281) (h1 : 1 ≤ sep.length) : PF Tryd.prog 24 [.c (str s), .c (str sep)] [⟨9, 1, (splitL s sep).map eStr⟩] (.c (.ref 0 0 (splitL s sep).length)) := by
  refine ⟨⟨Tryd.f24, Tryd.func24, by kernel_rfl, rfl⟩, fun I β w vals hI hgi hβ _ _ hargs => ?_⟩
  obtain _ | ⟨h2, _ | ⟨h3, ⟨⟩⟩⟩ := hargs
  rename_i v1 v2
  have e1 : v1 = .string ⟨⟨s⟩⟩ := rep_v h2
  have e2 : v2 = .string ⟨⟨sep⟩⟩ := rep_v h3
  subst e1 e2
  obtain ⟨m, hm⟩ := maxLen_is hgi
  have hlen := Lib.splitB_all ⟨⟨sep⟩⟩ h1 0 _ ⟨⟨s⟩⟩ rfl
  refine (Any.strings_Split { laysM146 with } laysM146.i9 ⟨⟨s⟩⟩ ⟨⟨sep⟩⟩ m w hs hm h1).mono ?_
  rintro e w' ⟨he, hw'⟩
  have hw : Below w.heap.size w w' := hw' ▸ (Below.refl _ _).alloc (Nat.le_refl _) _
  have hheap : w'.heap = w.heap.push (.cells ((Lib.splitB ⟨⟨sep⟩⟩ 0 (Lib.countB ⟨⟨s⟩⟩ ⟨⟨sep⟩⟩) ⟨⟨s⟩⟩).map Value.string).toArray (laysM146_ren.t 9)) := by rw [hw']; rfl
  have hsz : w'.heap.size = w.heap.size + 1 := by rw [hheap]; simp
  have hcell : ∀ i (l : List UInt8), (splitL s sep)[i]? = some l → w'.cell? ⟨w.heap.size, i, none⟩ = some (.string ⟨⟨l⟩⟩) := by
    intro i l hl
    simp only [splitL, List.getElem?_map, Option.map_eq_some_iff] at hl
    obtain ⟨y, hy, rfl⟩ := hl
    simp [World.cell?, hheap, hy]
  have hn : Lib.countB ⟨⟨s⟩⟩ ⟨⟨sep⟩⟩ + 1 = (splitL s sep).length := by rw [splitL, List.length_map, hlen]
  have hle : (splitL s sep).length ≤ 4294967281 := by
    have := Lib.countB_le ⟨⟨sep⟩⟩ h1 _ ⟨⟨s⟩⟩ (Nat.le_refl _)
    have e : (⟨⟨s⟩⟩ : ByteArray).size = s.length := rfl
    omega
  have hml : 4294967281 ≤ maxLen := by decide
  have hge : w'.heap[w.heap.size]? = some (.cells ((Lib.splitB ⟨⟨sep⟩⟩ 0 (Lib.countB ⟨⟨s⟩⟩ ⟨⟨sep⟩⟩) ⟨⟨s⟩⟩).map Value.string).toArray (laysM146_ren.t 9)) := by rw [hheap]; simp
  have hR : Rep I (fun o => if o = 0 then some ⟨some w.heap.size, 1, (splitL s sep).length⟩ else none) w' (.ref 0 0 (splitL s sep).length) (.slice (some ⟨w.heap.size, 0, none⟩) (splitL s sep).length (splitL s sep).length) := by
    have := Rep.ref (I := I) (β := fun o => if o = 0 then some ⟨some w.heap.size, 1, (splitL s sep).length⟩ else none) (w := w') 0 0 (splitL s sep).length w.heap.size 1 (splitL s sep).length (splitL s sep).length rfl (Nat.le_refl _) (fun _ => rfl)
    simpa using this
  rw [hn] at he
  refine ⟨_, I, fun o => if o = 0 then some ⟨some w.heap.size, 1, (splitL s sep).length⟩ else none, he, hR, ⟨hw.os, hw.tape, hw.output, hw.size, fun k hk _ => hw.block k hk⟩, fun b hb => Nat.lt_of_lt_of_le (hI b hb) hw.size, fun _ _ => Iff.rfl, fun o B e => ?_, fun o ho => absurd ho (Nat.not_lt_zero _), fun o obj e => ?_, fun o o' obj obj' B B' b e e' hne => ?_⟩
  · simp only at e
    split at e
    · subst o; simp
    · cases e
  · cases o with
    | succ o => simp at e
    | zero =>
      obtain rfl : _ = obj := Option.some.inj (Option.some.inj e)
      refine ⟨_, rfl, fun x hx => ?_, (fun h => by cases h), fun b hb => ?_⟩
      · obtain ⟨l, _, rfl⟩ := List.mem_map.1 hx; rfl
      · obtain rfl : w.heap.size = b := Option.some.inj hb
        refine ⟨rfl, Or.inr (Nat.le_refl _), fun h => absurd (hI _ h) (Nat.lt_irrefl _), _, hge, ?_, ?_, ?_, fun i j x c hx hj => ?_⟩
        · simp [splitL]
        · simp
        · exact Nat.le_trans hle hml
        · simp only [List.getElem?_map, Option.map_eq_some_iff] at hx
          obtain ⟨l, hl, rfl⟩ := hx
          have hj0 : j = 0 := by
            have := (List.getElem?_eq_some_iff.1 hj).1
            simp [eStr] at this; omega
          subst hj0
          obtain rfl : str l = c := by simpa [eStr] using hj
          refine ⟨.string ⟨⟨l⟩⟩, ?_, Rep.imm (.v _ rfl)⟩
          have h := hcell i l hl
          simp only [World.cell?, hge] at h
          simpa using h
  · cases o with
    | succ o => simp at e
    | zero =>
      cases o' with
      | succ o' => simp at e'
      | zero => exact absurd rfl hne
def laysC172_ren : Go.Shelf.Ren := ⟨fun | 172 => 25 | 244 => 40 | 245 => 41 | 247 => 54 | 279 => 55 | 280 => 56 | 281 => 57 | 282 => 58 | 287 => 71 | 316 => 72 | 171 => 19 | 205 => 73 | 321 => 82 | 322 => 83 | 243 => 36 | 246 => 49 | 283 => 60 | 284 => 61 | 285 => 62 | 286 => 63 | 129 => 75 | 317 => 74 | 318 => 76 | 319 => 77 | 320 => 78 | 337 => 84 | 338 => 85 | n => n, fun | 9 => 9 | 3 => 3 | 75 => 54 | 76 => 55 | 4 => 4 | 5 => 5 | 167 => 72 | 37 => 73 | 0 => 0 | 85 => 74 | 2 => 2 | 168 => 76 | 53 => 81 | 175 => 92 | 46 => 88 | 210 => 96 | 127 => 106 | 145 => 109 | 143 => 107 | 21 => 21 | 171 => 80 | 173 => 84 | 212 => 99 | 51 => 100 | 20 => 20 | 213 => 101 | 232 => 115 | 233 => 116 | 80 => 117 | n => n, fun | 15 => 1 | 16 => 2 | 17 => 3 | 18 => 6 | 19 => 7 | n => n⟩
theorem laysC172 : Go.Proofs.LaysC.n172 Tryd.prog laysC172_ren where
  mixed := by kernel_rfl
  f129 := Tryd.func75.trans (congrArg some (by kernel_rfl))
  f171 := Tryd.func19.trans (congrArg some (by kernel_rfl))
  f172 := Tryd.func25.trans (congrArg some (by kernel_rfl))
  f205 := Tryd.func73.trans (congrArg some (by kernel_rfl))
  f243 := Tryd.func36.trans (congrArg some (by kernel_rfl))
  f244 := Tryd.func40.trans (congrArg some (by kernel_rfl))
  f245 := Tryd.func41.trans (congrArg some (by kernel_rfl))
  f246 := Tryd.func49.trans (congrArg some (by kernel_rfl))
  f247 := Tryd.func54.trans (congrArg some (by kernel_rfl))
  f279 := Tryd.func55.trans (congrArg some (by kernel_rfl))
  f280 := Tryd.func56.trans (congrArg some (by kernel_rfl))
  f281 := Tryd.func57.trans (congrArg some (by kernel_rfl))
  f282 := Tryd.func58.trans (congrArg some (by kernel_rfl))
  f283 := Tryd.func60.trans (congrArg some (by kernel_rfl))
  f284 := Tryd.func61.trans (congrArg some (by kernel_rfl))
  f285 := Tryd.func62.trans (congrArg some (by kernel_rfl))
  f286 := Tryd.func63.trans (congrArg some (by kernel_rfl))
  f287 := Tryd.func71.trans (congrArg some (by kernel_rfl))
  f316 := Tryd.func72.trans (congrArg some (by kernel_rfl))
  f317 := Tryd.func74.trans (congrArg some (by kernel_rfl))
  f318 := Tryd.func76.trans (congrArg some (by kernel_rfl))
  f319 := Tryd.func77.trans (congrArg some (by kernel_rfl))
  f320 := Tryd.func78.trans (congrArg some (by kernel_rfl))
  f321 := Tryd.func82.trans (congrArg some (by kernel_rfl))
  f322 := Tryd.func83.trans (congrArg some (by kernel_rfl))
  f337 := Tryd.func84.trans (congrArg some (by kernel_rfl))
  f338 := Tryd.func85.trans (congrArg some (by kernel_rfl))
  t0 := Tryd.underlying0
  a0 := Tryd.isAgg0
  z0 := Tryd.sizeOf0
  v0 := Tryd.zeroValue0
  t2 := Tryd.underlying2
  a2 := Tryd.isAgg2
  z2 := Tryd.sizeOf2
  v2 := Tryd.zeroValue2
  t3 := Tryd.underlying3
  a3 := Tryd.isAgg3
  z3 := Tryd.sizeOf3
  v3 := Tryd.zeroValue3
  t4 := Tryd.underlying4
  a4 := Tryd.isAgg4
  z4 := Tryd.sizeOf4
  v4 := Tryd.zeroValue4
  t5 := Tryd.underlying5
  a5 := Tryd.isAgg5
  z5 := Tryd.sizeOf5
  v5 := Tryd.zeroValue5
  t9 := Tryd.underlying9
  a9 := Tryd.isAgg9
  z9 := Tryd.sizeOf9
  v9 := Tryd.zeroValue9
  t20 := Tryd.underlying20
  a20 := Tryd.isAgg20
  z20 := Tryd.sizeOf20
  v20 := Tryd.zeroValue20
  t21 := Tryd.underlying21
  a21 := Tryd.isAgg21
  z21 := Tryd.sizeOf21
  v21 := Tryd.zeroValue21
  t37 := Tryd.underlying73
  a37 := Tryd.isAgg73
  z37 := Tryd.sizeOf73
  v37 := Tryd.zeroValue73
  t46 := Tryd.underlying88
  a46 := Tryd.isAgg88
  z46 := Tryd.sizeOf88
  v46 := Tryd.zeroValue88
  t51 := Tryd.underlying100
  a51 := Tryd.isAgg100
  z51 := Tryd.sizeOf100
  v51 := Tryd.zeroValue100
  t53 := Tryd.underlying81
  a53 := Tryd.isAgg81
  z53 := Tryd.sizeOf81
  v53 := Tryd.zeroValue81
  t75 := Tryd.underlying54
  a75 := Tryd.isAgg54
  z75 := Tryd.sizeOf54
  v75 := Tryd.zeroValue54
  t76 := Tryd.underlying55
  a76 := Tryd.isAgg55
  z76 := Tryd.sizeOf55
  v76 := Tryd.zeroValue55
  t85 := Tryd.underlying74
  a85 := Tryd.isAgg74
  z85 := Tryd.sizeOf74
  v85 := Tryd.zeroValue74
  t127 := Tryd.underlying106
  a127 := Tryd.isAgg106
  z127 := Tryd.sizeOf106
  v127 := Tryd.zeroValue106
  t143 := Tryd.underlying107
  a143 := Tryd.isAgg107
  z143 := Tryd.sizeOf107
  v143 := Tryd.zeroValue107
  t145 := Tryd.underlying109
  a145 := Tryd.isAgg109
  z145 := Tryd.sizeOf109
  v145 := Tryd.zeroValue109
  t167 := Tryd.underlying72
  a167 := Tryd.isAgg72
  z167 := Tryd.sizeOf72
  v167 := Tryd.zeroValue72
  t168 := Tryd.underlying76
  a168 := Tryd.isAgg76
  z168 := Tryd.sizeOf76
  v168 := Tryd.zeroValue76
  t171 := Tryd.underlying80
  a171 := Tryd.isAgg80
  z171 := Tryd.sizeOf80
  v171 := Tryd.zeroValue80
  t173 := Tryd.underlying84
  a173 := Tryd.isAgg84
  z173 := Tryd.sizeOf84
  v173 := Tryd.zeroValue84
  t175 := Tryd.underlying92
  a175 := Tryd.isAgg92
  z175 := Tryd.sizeOf92
  v175 := Tryd.zeroValue92
  t210 := Tryd.underlying96
  a210 := Tryd.isAgg96
  z210 := Tryd.sizeOf96
  v210 := Tryd.zeroValue96
  t212 := Tryd.underlying99
  a212 := Tryd.isAgg99
  z212 := Tryd.sizeOf99
  v212 := Tryd.zeroValue99
  t213 := Tryd.underlying101
  a213 := Tryd.isAgg101
  z213 := Tryd.sizeOf101
  t232 := Tryd.underlying115
  a232 := Tryd.isAgg115
  z232 := Tryd.sizeOf115
  v232 := Tryd.zeroValue115
  t233 := Tryd.underlying116
  a233 := Tryd.isAgg116
  z233 := Tryd.sizeOf116
  v233 := Tryd.zeroValue116
  g15 := by kernel_rfl
  g16 := by kernel_rfl
  g17 := by kernel_rfl
  g18 := by kernel_rfl
  g19 := by kernel_rfl
  t80 := Tryd.underlying117
  a80 := Tryd.isAgg117
  z80 := Tryd.sizeOf117
  v80 := Tryd.zeroValue117
  i0 := by kernel_rfl
  i2 := by kernel_rfl
  i3 := by kernel_rfl
  i4 := by kernel_rfl
  i5 := by kernel_rfl
  i9 := by kernel_rfl
  i20 := by kernel_rfl
  i21 := by kernel_rfl
  i37 := by kernel_rfl
  i46 := by kernel_rfl
  i51 := by kernel_rfl
  i53 := by kernel_rfl
  i75 := by kernel_rfl
  i76 := by kernel_rfl
  i80 := by kernel_rfl
  i85 := by kernel_rfl
  i127 := by kernel_rfl
  i143 := by kernel_rfl
  i145 := by kernel_rfl
  i167 := by kernel_rfl
  i168 := by kernel_rfl
  i171 := by kernel_rfl
  i173 := by kernel_rfl
  i175 := by kernel_rfl
  i210 := by kernel_rfl
  i212 := by kernel_rfl
  i232 := by kernel_rfl
  i233 := by kernel_rfl
  m15 := by kernel_rfl
  m16 := by kernel_rfl
  m17 := by kernel_rfl
  m18 := by kernel_rfl
  m19 := by kernel_rfl
  c0 := by kernel_rfl
  c2 := by kernel_rfl
  c3 := by kernel_rfl
  c4 := by kernel_rfl
  c5 := by kernel_rfl
  c9 := by kernel_rfl
  c20 := by kernel_rfl
  c21 := by kernel_rfl
  c37 := by kernel_rfl
  c46 := by kernel_rfl
  c51 := by kernel_rfl
  c53 := by kernel_rfl
  c75 := by kernel_rfl
  c76 := by kernel_rfl
  c80 := by kernel_rfl
  c85 := by kernel_rfl
  c127 := by kernel_rfl
  c143 := by kernel_rfl
  c145 := by kernel_rfl
  c167 := by kernel_rfl
  c168 := by kernel_rfl
  c171 := by kernel_rfl
  c173 := by kernel_rfl
  c175 := by kernel_rfl
  c210 := by kernel_rfl
  c212 := by kernel_rfl
  c213 := by kernel_rfl
  c232 := by kernel_rfl
  c233 := by kernel_rfl
theorem errSyn_is {I : Nat → Prop} {w : World} (h : GI I w) : ∃ v, w.cell? ⟨1, 0, none⟩ = some v ∧ (v = .nilIface ∨ ∃ te pe, v = .iface te pe) :=
  gi_cell h (g := 1) (p := gErr) (by simp [gtab]) (fun arr h => h)
theorem errRng_is {I : Nat → Prop} {w : World} (h : GI I w) : ∃ v, w.cell? ⟨2, 0, none⟩ = some v ∧ (v = .nilIface ∨ ∃ te pe, v = .iface te pe) :=
  gi_cell h (g := 2) (p := gErr) (by simp [gtab]) (fun arr h => h)
/-- the number that strconv.Atoi answers, with or without an error -/
def atoiV (l : List UInt8) : Int := match Lib.atoiAll l with | Lib.NumEnd.ok v => v | Lib.NumEnd.range => Lib.atoiSat l | Lib.NumEnd.syntax => 0
theorem atoi_run (l : List UInt8) (hl : l.length ≤ 4000000) (I : Nat → Prop) (w : World) (hg : GI I w) :
    Calls Tryd.prog 25 #[.string ⟨⟨l⟩⟩] w fun e w' => (∃ x, e = .returned (.tuple #[.int .i64 (atoiV l), x]) ∧ x.oneCell' = true) ∧ Below w.heap.size w w' := by
  have hs : (⟨⟨l⟩⟩ : ByteArray).size = l.length := rfl
  match ha : Lib.atoiAll l with
  | Lib.NumEnd.ok v =>
    refine (Any.strconv_Atoi_ok laysC172 ⟨⟨l⟩⟩ (by omega) v ha w).mono ?_
    rintro e w' ⟨he, hw⟩
    refine ⟨⟨_, by rw [he, atoiV, ha], rfl⟩, ?_⟩
    rcases hw with rfl | ⟨t, rfl⟩
    · exact Below.refl _ _
    · exact Lib.bytesWorld_below _ _ _
  | Lib.NumEnd.range =>
    obtain ⟨ev, h1, h2⟩ := errRng_is hg
    refine (Any.strconv_Atoi_range laysC172 ⟨⟨l⟩⟩ (by omega) ha ev w h1 h2).mono ?_
    rintro e w' ⟨N, he, _, _, hw⟩
    exact ⟨⟨_, by rw [he, atoiV, ha], rfl⟩, hw⟩
  | Lib.NumEnd.syntax =>
    obtain ⟨ev, h1, h2⟩ := errSyn_is hg
    refine (Any.strconv_Atoi_syntax laysC172 ⟨⟨l⟩⟩ (by omega) ha ev w h1 h2).mono ?_
    rintro e w' ⟨N, he, _, _, hw⟩
    exact ⟨⟨_, by rw [he, atoiV, ha], rfl⟩, hw⟩
theorem atoi_pf (s : List UInt8) (hs : s.length ≤ 4000000) : PF Tryd.prog 25 [.c (str s)] [] (.tup [.c (int (atoiV s)), .c .dead]) := by
  refine ⟨⟨Tryd.f25, Tryd.func25, by kernel_rfl, rfl⟩, fun I β w vals hI hgi hβ _ _ hargs => ?_⟩
  obtain _ | ⟨h1, ⟨⟩⟩ := hargs
  rename_i v1
  have e1 : v1 = .string ⟨⟨s⟩⟩ := rep_v h1
  subst e1
  refine (atoi_run s hs I w hgi).mono ?_
  rintro e w' ⟨⟨x, he, hx⟩, hw⟩
  exact ⟨_, I, fun _ => none, he, ⟨[_, _], rfl, .cons (Rep.imm (.v _ rfl)) (.cons (Rep.dead _ hx) .nil)⟩, ⟨hw.os, hw.tape, hw.output, hw.size, fun k hk _ => hw.block k hk⟩, fun b hb => Nat.lt_of_lt_of_le (hI b hb) hw.size, fun _ _ => Iff.rfl, fun o B e => (by cases e), fun o ho => absurd ho (Nat.not_lt_zero _), fun o obj e => (by simp at e), fun o o' obj obj' B B' b e => (by simp at e)⟩
end Go.Proofs.YtbboadheacmddaaDoor
