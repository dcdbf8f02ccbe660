/- strings.Join, as a contract of the abstract machine. No conditions but bounds of lengths. -/
import Derived.Test.YtchpdclknbmdoaaDoorAbs4
import Derived.Shelf.Lays
import Derived.Shelf.Strings.OnBuilder
namespace Go.Proofs.YtchpdclknbmdoaaDoor
open Go Go.Shelf Go.RowKit
def lays156_ren : Go.Shelf.Ren := ⟨fun | 156 => 64 | 165 => 97 | 166 => 98 | 169 => 99 | 240 => 133 | 241 => 134 | 276 => 152 | 277 => 153 | n => n, fun | 31 => 72 | 9 => 9 | 3 => 3 | 4 => 4 | 0 => 0 | 20 => 20 | 72 => 123 | 76 => 127 | 70 => 121 | 37 => 30 | 75 => 126 | 127 => 148 | 164 => 163 | 5 => 5 | 80 => 110 | n => n, fun | n => n⟩
theorem lays156 : Go.Proofs.Lays.n156 Tryd.prog lays156_ren where
  mixed := by kernel_rfl
  f156 := Tryd.func64.trans (congrArg some (by kernel_rfl))
  f165 := Tryd.func97.trans (congrArg some (by kernel_rfl))
  f166 := Tryd.func98.trans (congrArg some (by kernel_rfl))
  f169 := Tryd.func99.trans (congrArg some (by kernel_rfl))
  f240 := Tryd.func133.trans (congrArg some (by kernel_rfl))
  f241 := Tryd.func134.trans (congrArg some (by kernel_rfl))
  f276 := Tryd.func152.trans (congrArg some (by kernel_rfl))
  f277 := Tryd.func153.trans (congrArg some (by kernel_rfl))
  t0 := Tryd.underlying0
  a0 := Tryd.isAgg0
  z0 := Tryd.sizeOf0
  v0 := Tryd.zeroValue0
  t3 := Tryd.underlying3
  a3 := Tryd.isAgg3
  z3 := Tryd.sizeOf3
  v3 := Tryd.zeroValue3
  t4 := Tryd.underlying4
  a4 := Tryd.isAgg4
  z4 := Tryd.sizeOf4
  v4 := Tryd.zeroValue4
  t9 := Tryd.underlying9
  a9 := Tryd.isAgg9
  z9 := Tryd.sizeOf9
  v9 := Tryd.zeroValue9
  t20 := Tryd.underlying20
  a20 := Tryd.isAgg20
  z20 := Tryd.sizeOf20
  v20 := Tryd.zeroValue20
  t31 := Tryd.underlying72
  a31 := Tryd.isAgg72
  z31 := Tryd.sizeOf72
  v31 := Tryd.zeroValue72
  t37 := Tryd.underlying30
  a37 := Tryd.isAgg30
  z37 := Tryd.sizeOf30
  v37 := Tryd.zeroValue30
  t70 := Tryd.underlying121
  a70 := Tryd.isAgg121
  z70 := Tryd.sizeOf121
  v70 := Tryd.zeroValue121
  t72 := Tryd.underlying123
  a72 := Tryd.isAgg123
  z72 := Tryd.sizeOf123
  v72 := Tryd.zeroValue123
  t75 := Tryd.underlying126
  a75 := Tryd.isAgg126
  z75 := Tryd.sizeOf126
  v75 := Tryd.zeroValue126
  t76 := Tryd.underlying127
  a76 := Tryd.isAgg127
  z76 := Tryd.sizeOf127
  v76 := Tryd.zeroValue127
  t127 := Tryd.underlying148
  a127 := Tryd.isAgg148
  z127 := Tryd.sizeOf148
  v127 := Tryd.zeroValue148
  t164 := Tryd.underlying163
  a164 := Tryd.isAgg163
  z164 := Tryd.sizeOf163
  v164 := Tryd.zeroValue163
theorem joinExtra : Builder.Extra Tryd.prog lays156_ren where
  sizeBuilder := by kernel_rfl
  liesBuilder := by kernel_rfl
  t5 := Tryd.underlying5
  a5 := Tryd.isAgg5
  z5 := Tryd.sizeOf5
  v5 := Tryd.zeroValue5
  infoByte := by kernel_rfl
  cellsByte := by kernel_rfl
  sizeByte := by kernel_rfl
  neB5 := by decide
theorem repI_str {I : Nat → Prop} {w : World} {l : List UInt8} {v : Value} (h : RepI I w (str l) v) : v = .string ⟨⟨l⟩⟩ := by
  cases h; rfl
theorem sJoin_run (ws : List (List UInt8)) (sep : List UInt8) (hN : ws.length ≤ 4000000) (hlen : (Lib.join ws sep).length ≤ 140737488355328) (I : Nat → Prop) (w : World) (hI : ∀ b, I b → b < w.heap.size) (v : Value) (hv : RepI I w (.sl (ws.map x4)) v) :
    Calls Tryd.prog 64 #[v, .string ⟨⟨sep⟩⟩] w fun e w' => e = .returned (.string ⟨⟨Lib.join ws sep⟩⟩) ∧ Below w.heap.size w w' := by
  have hmap : (ws.map fun l : List UInt8 => (⟨⟨l⟩⟩ : ByteArray)).map (·.data.toList) = ws := by
    rw [List.map_map]
    exact List.map_id' ws
  cases hx : ws with
  | nil =>
    subst hx
    obtain ⟨A, cap, rfl⟩ : ∃ A cap, v = .slice A 0 cap := by
      cases hv with
      | sl0 A cap => exact ⟨A, cap, rfl⟩
      | sl xs b o sz n cap u h1 h2 h3 h4 h5 h6 => exact ⟨_, cap, by rw [h1]; rfl⟩
    refine (Any.strings_Join_none lays156 joinExtra A cap ⟨⟨sep⟩⟩ w).mono fun e w' ⟨he, hw⟩ => ⟨he, hw ▸ Below.refl _ _⟩
  | cons a r =>
    rw [← hx]
    have hne : 0 < ws.length := by rw [hx]; simp
    generalize hg : ws.map x4 = g at hv
    cases hv with
    | sl0 A cap => simp [hx] at hg
    | sl xs b o sz n cap u h1 h2 h3 h4 h5 h6 =>
      subst hg
      have hsz : sz = 1 := by
        rw [← h3 (x4 a) (by rw [hx]; simp)]; rfl
      subst hsz
      rw [List.length_map] at h1
      have hc := Any.strings_Join lays156 joinExtra b o cap (ws.map fun l : List UInt8 => (⟨⟨l⟩⟩ : ByteArray)) ⟨⟨sep⟩⟩ w (fun j x hj => by
          rw [List.getElem?_map] at hj
          cases hl : ws[j]? with
          | none => rw [hl] at hj; cases hj
          | some l =>
            rw [hl] at hj
            cases hj
            have k1 := h5 j 0 (x4 l) (str l) (by rw [List.getElem?_map, hl]; rfl) rfl
            have k2 := repI_str (h6 j 0 (x4 l) (str l) (by rw [List.getElem?_map, hl]; rfl) rfl)
            rw [Nat.mul_one, Nat.add_zero] at k1
            rw [k1, k2]) (hI b h4) (by rw [List.length_map]; omega) (by rw [List.length_map]; omega) (by rw [hmap]; exact hlen)
      rw [hmap, List.length_map, ← h1] at hc
      exact hc
theorem sJoin_pf (ws : List (List UInt8)) (sep : List UInt8) (hN : ws.length ≤ 4000000) (hlen : (Lib.join ws sep).length ≤ 140737488355328) : PF Tryd.prog 64 [.c (.sl (ws.map x4)), .c (str sep)] [] (.c (str (Lib.join ws sep))) := by
  refine ⟨⟨Tryd.f64, Tryd.func64, by kernel_rfl, rfl⟩, fun I β w vals hI _ hβ _ _ hargs => ?_⟩
  cases hargs with
  | cons h1 h2 =>
    cases h2 with
    | cons h2 h3 =>
      cases h3 with
      | nil =>
        rename_i v1 v2
        have e2 : v2 = .string ⟨⟨sep⟩⟩ := wG h2
        subst e2
        have hv : RepI I w (.sl (ws.map x4)) v1 := Imm.sl _ _ _ _ _ h1
        refine (sJoin_run ws sep hN hlen I w hI v1 hv).mono fun e w' ⟨he, hw⟩ => ⟨_, I, fun _ => none, he, Rep.imm (.v _ rfl), ⟨hw.os, hw.tape, hw.output, hw.size, fun k hk _ => hw.block k hk⟩, fun b hb => Nat.lt_of_lt_of_le (hI b hb) hw.size, fun _ _ => Iff.rfl, fun o B e => (by cases e), fun o ho => absurd ho (Nat.not_lt_zero _), fun o obj e => (by simp at e), fun o o' obj obj' B B' b e => (by simp at e)⟩
end Go.Proofs.YtchpdclknbmdoaaDoor
