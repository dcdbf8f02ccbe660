/- strings.Join, as a contract of the abstract machine. No conditions but bounds of lengths. -/
import Derived.Test.YtdggbjlgimcpkaaAbs4
import Derived.Shelf.Lays
import Derived.Shelf.Strings.OnBuilder
namespace Go.Proofs.Ytdggbjlgimcpkaa
open Go Go.Shelf Go.RowKit
def lays156_ren : Go.Shelf.Ren := ⟨fun | 156 => 83 | 165 => 103 | 166 => 104 | 169 => 105 | 240 => 114 | 241 => 115 | 276 => 122 | 277 => 123 | n => n, fun | 31 => 83 | 9 => 9 | 3 => 3 | 4 => 4 | 0 => 0 | 20 => 20 | 72 => 109 | 76 => 113 | 70 => 107 | 37 => 46 | 75 => 112 | 127 => 119 | 164 => 126 | 5 => 5 | 80 => 106 | n => n, fun | n => n⟩
theorem lays156 : Go.Proofs.Lays.n156 Try.prog lays156_ren where
  mixed := by kernel_rfl
  f156 := Try.func83.trans (congrArg some (by kernel_rfl))
  f165 := Try.func103.trans (congrArg some (by kernel_rfl))
  f166 := Try.func104.trans (congrArg some (by kernel_rfl))
  f169 := Try.func105.trans (congrArg some (by kernel_rfl))
  f240 := Try.func114.trans (congrArg some (by kernel_rfl))
  f241 := Try.func115.trans (congrArg some (by kernel_rfl))
  f276 := Try.func122.trans (congrArg some (by kernel_rfl))
  f277 := Try.func123.trans (congrArg some (by kernel_rfl))
  t0 := Try.underlying0
  a0 := Try.isAgg0
  z0 := Try.sizeOf0
  v0 := Try.zeroValue0
  t3 := Try.underlying3
  a3 := Try.isAgg3
  z3 := Try.sizeOf3
  v3 := Try.zeroValue3
  t4 := Try.underlying4
  a4 := Try.isAgg4
  z4 := Try.sizeOf4
  v4 := Try.zeroValue4
  t9 := Try.underlying9
  a9 := Try.isAgg9
  z9 := Try.sizeOf9
  v9 := Try.zeroValue9
  t20 := Try.underlying20
  a20 := Try.isAgg20
  z20 := Try.sizeOf20
  v20 := Try.zeroValue20
  t31 := Try.underlying83
  a31 := Try.isAgg83
  z31 := Try.sizeOf83
  v31 := Try.zeroValue83
  t37 := Try.underlying46
  a37 := Try.isAgg46
  z37 := Try.sizeOf46
  v37 := Try.zeroValue46
  t70 := Try.underlying107
  a70 := Try.isAgg107
  z70 := Try.sizeOf107
  v70 := Try.zeroValue107
  t72 := Try.underlying109
  a72 := Try.isAgg109
  z72 := Try.sizeOf109
  v72 := Try.zeroValue109
  t75 := Try.underlying112
  a75 := Try.isAgg112
  z75 := Try.sizeOf112
  v75 := Try.zeroValue112
  t76 := Try.underlying113
  a76 := Try.isAgg113
  z76 := Try.sizeOf113
  v76 := Try.zeroValue113
  t127 := Try.underlying119
  a127 := Try.isAgg119
  z127 := Try.sizeOf119
  v127 := Try.zeroValue119
  t164 := Try.underlying126
  a164 := Try.isAgg126
  z164 := Try.sizeOf126
  v164 := Try.zeroValue126
theorem joinExtra : Builder.Extra Try.prog lays156_ren where
  sizeBuilder := by kernel_rfl
  liesBuilder := by kernel_rfl
  t5 := Try.underlying5
  a5 := Try.isAgg5
  z5 := Try.sizeOf5
  v5 := Try.zeroValue5
  infoByte := by kernel_rfl
  cellsByte := by kernel_rfl
  sizeByte := by kernel_rfl
  neB5 := by decide
theorem repI_str {I : Nat → Prop} {w : World} {l : List UInt8} {v : Value} (h : RepI I w (str l) v) : v = .string ⟨⟨l⟩⟩ := by
  cases h; rfl
theorem sJoin_run (ws : List (List UInt8)) (sep : List UInt8) (hN : ws.length ≤ 4000000) (hlen : (Lib.join ws sep).length ≤ 140737488355328) (I : Nat → Prop) (w : World) (hI : ∀ b, I b → b < w.heap.size) (v : Value) (hv : RepI I w (.sl (ws.map eStr)) v) :
    Calls Try.prog 83 #[v, .string ⟨⟨sep⟩⟩] w fun e w' => e = .returned (.string ⟨⟨Lib.join ws sep⟩⟩) ∧ Below w.heap.size w w' := by
  have hmap : (ws.map fun l : List UInt8 => (⟨⟨l⟩⟩ : ByteArray)).map (·.data.toList) = ws := by
    rw [List.map_map]
    exact List.map_id' ws
  cases hx : ws with
  | nil =>
    subst hx
    obtain ⟨A, cap, rfl⟩ : ∃ A cap, v = .slice A 0 cap := by
      cases hv with
      | sl0 A cap => exact ⟨A, cap, rfl⟩
      | sl xs b o sz n cap u h1 h2 h3 h4 h5 h6 => exact ⟨_, cap, by rw [h1]; rfl⟩
    refine (Any.strings_Join_none lays156 joinExtra A cap ⟨⟨sep⟩⟩ w).mono fun e w' ⟨he, hw⟩ => ⟨he, hw ▸ Below.refl _ _⟩
  | cons a r =>
    rw [← hx]
    have hne : 0 < ws.length := by rw [hx]; simp
    generalize hg : ws.map eStr = g at hv
    cases hv with
    | sl0 A cap => simp [hx] at hg
    | sl xs b o sz n cap u h1 h2 h3 h4 h5 h6 =>
      subst hg
      have hsz : sz = 1 := by
        rw [← h3 (eStr a) (by rw [hx]; simp)]; rfl
      subst hsz
      rw [List.length_map] at h1
      have hc := Any.strings_Join lays156 joinExtra b o cap (ws.map fun l : List UInt8 => (⟨⟨l⟩⟩ : ByteArray)) ⟨⟨sep⟩⟩ w (fun j x hj => by
          rw [List.getElem?_map] at hj
          cases hl : ws[j]? with
          | none => rw [hl] at hj; cases hj
          | some l =>
            rw [hl] at hj
            cases hj
            have k1 := h5 j 0 (eStr l) (str l) (by rw [List.getElem?_map, hl]; rfl) rfl
            have k2 := repI_str (h6 j 0 (eStr l) (str l) (by rw [List.getElem?_map, hl]; rfl) rfl)
            rw [Nat.mul_one, Nat.add_zero] at k1
            rw [k1, k2]) (hI b h4) (by rw [List.length_map]; omega) (by rw [List.length_map]; omega) (by rw [hmap]; exact hlen)
      rw [hmap, List.length_map, ← h1] at hc
      exact hc
theorem sJoin_pf (ws : List (List UInt8)) (sep : List UInt8) (hN : ws.length ≤ 4000000) (hlen : (Lib.join ws sep).length ≤ 140737488355328) : PF Try.prog 83 [.c (.sl (ws.map eStr)), .c (str sep)] [] (.c (str (Lib.join ws sep))) := by
  refine ⟨⟨Try.f83, Try.func83, by kernel_rfl, rfl⟩, fun I β w vals hI _ hβ _ _ hargs => ?_⟩
  cases hargs with
  | cons h1 h2 =>
    cases h2 with
    | cons h2 h3 =>
      cases h3 with
      | nil =>
        rename_i v1 v2
        have e2 : v2 = .string ⟨⟨sep⟩⟩ := rep_v h2
        subst e2
        have hv : RepI I w (.sl (ws.map eStr)) v1 := Imm.sl _ _ _ _ _ h1
        refine (sJoin_run ws sep hN hlen I w hI v1 hv).mono fun e w' ⟨he, hw⟩ => ⟨_, I, fun _ => none, he, Rep.imm (.v _ rfl), ⟨hw.os, hw.tape, hw.output, hw.size, fun k hk _ => hw.block k hk⟩, fun b hb => Nat.lt_of_lt_of_le (hI b hb) hw.size, fun _ _ => Iff.rfl, fun o B e => (by cases e), fun o ho => absurd ho (Nat.not_lt_zero _), fun o obj e => (by simp at e), fun o o' obj obj' B B' b e => (by simp at e)⟩
end Go.Proofs.Ytdggbjlgimcpkaa
