/- strings.Trim, strings.IndexByte, strings.Contains, as contracts of the abstract machine. No conditions but bounds of lengths and those stated. -/
import Derived.Test.YtjeffognhcbiaaaGreatDoorAbs4
import Derived.Shelf.Lays
import Derived.Shelf.Strings.SlTrimAscii
import Derived.Shelf.Strings.Search3
import Derived.Shelf.Small.Strs
namespace Go.Proofs.YtjeffognhcbiaaaGreatDoor
open Go Go.Shelf Go.RowKit
def lays160_ren : Go.Shelf.Ren := ⟨fun | 160 => 80 | 232 => 119 | 231 => 118 | 227 => 120 | 234 => 122 | 233 => 121 | 236 => 124 | 235 => 123 | 228 => 154 | 271 => 156 | 151 => 155 | 197 => 146 | 120 => 183 | 152 => 182 | 260 => 175 | 137 => 184 | 119 => 196 | 224 => 180 | 225 => 179 | 217 => 178 | 266 => 194 | n => n, fun | 9 => 9 | 4 => 4 | 3 => 3 | 5 => 5 | 117 => 149 | 116 => 148 | 0 => 0 | 124 => 152 | 21 => 21 | 105 => 169 | 46 => 91 | 119 => 191 | 139 => 194 | 138 => 193 | n => n, fun | 3 => 1 | 4 => 2 | n => n⟩
theorem lays160 : Go.Proofs.Lays.n160 Tryz.prog lays160_ren where
  mixed := by kernel_rfl
  f119 := Tryz.func196.trans (congrArg some (by kernel_rfl))
  f120 := Tryz.func183.trans (congrArg some (by kernel_rfl))
  f137 := Tryz.func184.trans (congrArg some (by kernel_rfl))
  f151 := Tryz.func155.trans (congrArg some (by kernel_rfl))
  f152 := Tryz.func182.trans (congrArg some (by kernel_rfl))
  f160 := Tryz.func80.trans (congrArg some (by kernel_rfl))
  f197 := Tryz.func146.trans (congrArg some (by kernel_rfl))
  f217 := Tryz.func178.trans (congrArg some (by kernel_rfl))
  f224 := Tryz.func180.trans (congrArg some (by kernel_rfl))
  f225 := Tryz.func179.trans (congrArg some (by kernel_rfl))
  f227 := Tryz.func120.trans (congrArg some (by kernel_rfl))
  f228 := Tryz.func154.trans (congrArg some (by kernel_rfl))
  f231 := Tryz.func118.trans (congrArg some (by kernel_rfl))
  f232 := Tryz.func119.trans (congrArg some (by kernel_rfl))
  f233 := Tryz.func121.trans (congrArg some (by kernel_rfl))
  f234 := Tryz.func122.trans (congrArg some (by kernel_rfl))
  f235 := Tryz.func123.trans (congrArg some (by kernel_rfl))
  f236 := Tryz.func124.trans (congrArg some (by kernel_rfl))
  f260 := Tryz.func175.trans (congrArg some (by kernel_rfl))
  f266 := Tryz.func194.trans (congrArg some (by kernel_rfl))
  f271 := Tryz.func156.trans (congrArg some (by kernel_rfl))
  t0 := Tryz.underlying0
  a0 := Tryz.isAgg0
  z0 := Tryz.sizeOf0
  v0 := Tryz.zeroValue0
  t3 := Tryz.underlying3
  a3 := Tryz.isAgg3
  z3 := Tryz.sizeOf3
  v3 := Tryz.zeroValue3
  t4 := Tryz.underlying4
  a4 := Tryz.isAgg4
  z4 := Tryz.sizeOf4
  v4 := Tryz.zeroValue4
  t5 := Tryz.underlying5
  a5 := Tryz.isAgg5
  z5 := Tryz.sizeOf5
  v5 := Tryz.zeroValue5
  t9 := Tryz.underlying9
  a9 := Tryz.isAgg9
  z9 := Tryz.sizeOf9
  v9 := Tryz.zeroValue9
  t21 := Tryz.underlying21
  a21 := Tryz.isAgg21
  z21 := Tryz.sizeOf21
  v21 := Tryz.zeroValue21
  t46 := Tryz.underlying91
  a46 := Tryz.isAgg91
  z46 := Tryz.sizeOf91
  v46 := Tryz.zeroValue91
  t105 := Tryz.underlying169
  a105 := Tryz.isAgg169
  z105 := Tryz.sizeOf169
  v105 := Tryz.zeroValue169
  t116 := Tryz.underlying148
  a116 := Tryz.isAgg148
  z116 := Tryz.sizeOf148
  t117 := Tryz.underlying149
  a117 := Tryz.isAgg149
  z117 := Tryz.sizeOf149
  v117 := Tryz.zeroValue149
  t119 := Tryz.underlying191
  a119 := Tryz.isAgg191
  z119 := Tryz.sizeOf191
  t124 := Tryz.underlying152
  a124 := Tryz.isAgg152
  z124 := Tryz.sizeOf152
  v124 := Tryz.zeroValue152
  t138 := Tryz.underlying193
  a138 := Tryz.isAgg193
  z138 := Tryz.sizeOf193
  v138 := Tryz.zeroValue193
  t139 := Tryz.underlying194
  a139 := Tryz.isAgg194
  z139 := Tryz.sizeOf194
  v139 := Tryz.zeroValue194
  g3 := by kernel_rfl
  g4 := by kernel_rfl
theorem trim_pf (s cs : List UInt8) (hs : s.length ≤ 4000000) (hcs : cs.length ≤ 4000000) (ha : cs.all (fun b => decide (b.toNat < 128)) = true) : PF Tryz.prog 80 [.c (str s), .c (str cs)] [] (.c (str (Lib.trimS s cs))) := by
  refine ⟨⟨Tryz.f80, Tryz.func80, by kernel_rfl, rfl⟩, fun I β w vals hI hgi hβ _ _ hargs => ?_⟩
  obtain _ | ⟨h1, _ | ⟨h2, ⟨⟩⟩⟩ := hargs
  rename_i v1 v2
  have e1 : v1 = .string ⟨⟨s⟩⟩ := x8 h1
  have e2 : v2 = .string ⟨⟨cs⟩⟩ := x8 h2
  subst e1 e2
  refine (Any.strings_Trim_laid lays160 (by kernel_rfl) ⟨⟨s⟩⟩ ⟨⟨cs⟩⟩ w (by show s.length ≤ _; omega) (by show cs.length < _; omega) (ascii_of_all ha)).mono ?_
  rintro e w' ⟨he, hw⟩
  exact ⟨_, I, fun _ => none, he, Rep.imm (.v _ rfl), ⟨hw.os, hw.tape, hw.output, hw.size, fun k hk _ => hw.block k hk⟩, fun b hb => Nat.lt_of_lt_of_le (hI b hb) hw.size, fun _ _ => Iff.rfl, fun o B e => (by cases e), fun o ho => absurd ho (Nat.not_lt_zero _), fun o obj e => (by simp at e), fun o o' obj obj' B B' b e => (by simp at e)⟩
end Go.Proofs.YtjeffognhcbiaaaGreatDoor
