/- strings.Trim, strings.IndexByte, strings.Contains, as contracts of the abstract machine. No conditions but bounds of lengths and those stated. -/
import Derived.Test.YtchpdclknbmdoaaDoorAbs4
import Derived.Shelf.Lays
import Derived.Shelf.Strings.SlTrimAscii
import Derived.Shelf.Strings.Search3
import Derived.Shelf.Small.Strs
namespace Go.Proofs.YtchpdclknbmdoaaDoor
open Go Go.Shelf Go.RowKit
def lays160_ren : Go.Shelf.Ren := ⟨fun | 160 => 170 | 232 => 173 | 231 => 172 | 227 => 174 | 234 => 176 | 233 => 175 | 236 => 178 | 235 => 177 | 228 => 181 | 271 => 183 | 151 => 182 | 197 => 148 | 120 => 187 | 152 => 186 | 260 => 161 | 137 => 188 | 119 => 189 | 224 => 164 | 225 => 163 | 217 => 162 | 266 => 168 | n => n, fun | 9 => 9 | 4 => 4 | 3 => 3 | 5 => 5 | 117 => 181 | 116 => 180 | 0 => 0 | 124 => 184 | 21 => 21 | 105 => 159 | 46 => 142 | 119 => 170 | 139 => 173 | 138 => 172 | n => n, fun | 3 => 1 | 4 => 2 | n => n⟩
theorem lays160 : Go.Proofs.Lays.n160 Tryd.prog lays160_ren where
  mixed := by kernel_rfl
  f119 := Tryd.func189.trans (congrArg some (by kernel_rfl))
  f120 := Tryd.func187.trans (congrArg some (by kernel_rfl))
  f137 := Tryd.func188.trans (congrArg some (by kernel_rfl))
  f151 := Tryd.func182.trans (congrArg some (by kernel_rfl))
  f152 := Tryd.func186.trans (congrArg some (by kernel_rfl))
  f160 := Tryd.func170.trans (congrArg some (by kernel_rfl))
  f197 := Tryd.func148.trans (congrArg some (by kernel_rfl))
  f217 := Tryd.func162.trans (congrArg some (by kernel_rfl))
  f224 := Tryd.func164.trans (congrArg some (by kernel_rfl))
  f225 := Tryd.func163.trans (congrArg some (by kernel_rfl))
  f227 := Tryd.func174.trans (congrArg some (by kernel_rfl))
  f228 := Tryd.func181.trans (congrArg some (by kernel_rfl))
  f231 := Tryd.func172.trans (congrArg some (by kernel_rfl))
  f232 := Tryd.func173.trans (congrArg some (by kernel_rfl))
  f233 := Tryd.func175.trans (congrArg some (by kernel_rfl))
  f234 := Tryd.func176.trans (congrArg some (by kernel_rfl))
  f235 := Tryd.func177.trans (congrArg some (by kernel_rfl))
  f236 := Tryd.func178.trans (congrArg some (by kernel_rfl))
  f260 := Tryd.func161.trans (congrArg some (by kernel_rfl))
  f266 := Tryd.func168.trans (congrArg some (by kernel_rfl))
  f271 := Tryd.func183.trans (congrArg some (by kernel_rfl))
  t0 := Tryd.underlying0
  a0 := Tryd.isAgg0
  z0 := Tryd.sizeOf0
  v0 := Tryd.zeroValue0
  t3 := Tryd.underlying3
  a3 := Tryd.isAgg3
  z3 := Tryd.sizeOf3
  v3 := Tryd.zeroValue3
  t4 := Tryd.underlying4
  a4 := Tryd.isAgg4
  z4 := Tryd.sizeOf4
  v4 := Tryd.zeroValue4
  t5 := Tryd.underlying5
  a5 := Tryd.isAgg5
  z5 := Tryd.sizeOf5
  v5 := Tryd.zeroValue5
  t9 := Tryd.underlying9
  a9 := Tryd.isAgg9
  z9 := Tryd.sizeOf9
  v9 := Tryd.zeroValue9
  t21 := Tryd.underlying21
  a21 := Tryd.isAgg21
  z21 := Tryd.sizeOf21
  v21 := Tryd.zeroValue21
  t46 := Tryd.underlying142
  a46 := Tryd.isAgg142
  z46 := Tryd.sizeOf142
  v46 := Tryd.zeroValue142
  t105 := Tryd.underlying159
  a105 := Tryd.isAgg159
  z105 := Tryd.sizeOf159
  v105 := Tryd.zeroValue159
  t116 := Tryd.underlying180
  a116 := Tryd.isAgg180
  z116 := Tryd.sizeOf180
  t117 := Tryd.underlying181
  a117 := Tryd.isAgg181
  z117 := Tryd.sizeOf181
  v117 := Tryd.zeroValue181
  t119 := Tryd.underlying170
  a119 := Tryd.isAgg170
  z119 := Tryd.sizeOf170
  t124 := Tryd.underlying184
  a124 := Tryd.isAgg184
  z124 := Tryd.sizeOf184
  v124 := Tryd.zeroValue184
  t138 := Tryd.underlying172
  a138 := Tryd.isAgg172
  z138 := Tryd.sizeOf172
  v138 := Tryd.zeroValue172
  t139 := Tryd.underlying173
  a139 := Tryd.isAgg173
  z139 := Tryd.sizeOf173
  v139 := Tryd.zeroValue173
  g3 := by kernel_rfl
  g4 := by kernel_rfl
theorem trim_pf (s cs : List UInt8) (hs : s.length ≤ 4000000) (hcs : cs.length ≤ 4000000) (ha : cs.all (fun b => decide (b.toNat < 128)) = true) : PF Tryd.prog 170 [.c (str s), .c (str cs)] [] (.c (str (Lib.trimS s cs))) := by
  refine ⟨⟨Tryd.f170, Tryd.func170, by kernel_rfl, rfl⟩, fun I β w vals hI hgi hβ _ _ hargs => ?_⟩
  obtain _ | ⟨h1, _ | ⟨h2, ⟨⟩⟩⟩ := hargs
  rename_i v1 v2
  have e1 : v1 = .string ⟨⟨s⟩⟩ := x7 h1
  have e2 : v2 = .string ⟨⟨cs⟩⟩ := x7 h2
  subst e1 e2
  refine (Any.strings_Trim_laid lays160 (by kernel_rfl) ⟨⟨s⟩⟩ ⟨⟨cs⟩⟩ w (by show s.length ≤ _; omega) (by show cs.length < _; omega) (ascii_of_all ha)).mono ?_
  rintro e w' ⟨he, hw⟩
  exact ⟨_, I, fun _ => none, he, Rep.imm (.v _ rfl), ⟨hw.os, hw.tape, hw.output, hw.size, fun k hk _ => hw.block k hk⟩, fun b hb => Nat.lt_of_lt_of_le (hI b hb) hw.size, fun _ _ => Iff.rfl, fun o B e => (by cases e), fun o ho => absurd ho (Nat.not_lt_zero _), fun o obj e => (by simp at e), fun o o' obj obj' B B' b e => (by simp at e)⟩
end Go.Proofs.YtchpdclknbmdoaaDoor
