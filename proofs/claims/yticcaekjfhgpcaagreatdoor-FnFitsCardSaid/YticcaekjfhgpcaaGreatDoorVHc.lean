/- A part of the proof. No condition. -/
import Derived.Test.YticcaekjfhgpcaaGreatDoorU2
import Derived.Laws.Externs
import Derived.Ground.Names7Prog
import Derived.Shelf.Bits.Mul64
import Derived.Shelf.LaysM
import Derived.Shelf.Slices.Cells
import Derived.Shelf.Slices.CompactS
import Derived.Shelf.Slices.In.SortNone
import Derived.Shelf.Slices.Turned
import Derived.Shelf.Small.Bits
import Derived.Shelf.Small.Strs
import Derived.Shelf.Small.Utf8
import Derived.Shelf.Small.Wraps
import Derived.Shelf.Sort.Plain
import Derived.Shelf.Spec.SlicesGrow
import Derived.Shelf.Spec.TrailingZeros
import Derived.Shelf.Strconv.Itoa0
import Derived.Shelf.Strconv.Itoa1
import Derived.Shelf.Strconv.Itoa2
import Derived.Shelf.Strconv.Itoa3
import Derived.Shelf.Strconv.Itoa4
import Derived.Shelf.Strings.Builder1
import Derived.Shelf.Strings.Builder2
import Derived.Shelf.Strings.BuilderF
import Derived.Shelf.Strings.Count
import Derived.Shelf.Strings.Cut
import Derived.Shelf.Strings.Explode
import Derived.Shelf.Strings.OnBuilder
import Derived.Shelf.Strings.Prefix
import Derived.Shelf.Strings.Repeat
import Derived.Shelf.Strings.Replace
import Derived.Shelf.Strings.RuneCount
import Derived.Shelf.Strings.Search1
import Derived.Shelf.Strings.Search2
import Derived.Shelf.Strings.Search3
import Derived.Shelf.Strings.Shaped
import Derived.Shelf.Strings.Split
import Derived.Shelf.Strings.SplitShaped
import Derived.Shelf.Unicode.CaseConvert
import Derived.Shelf.Unicode.CaseLaid
import Derived.Shelf.Unicode.CaseLookup
import Derived.Shelf.Unicode.CaseTo
import Derived.Shelf.Unicode.Decode
import Derived.Shelf.Unicode.DecodeAny
import Derived.Shelf.Unicode.DecodeSlow
import Derived.Shelf.Unicode.Latin
import Derived.Shelf.Utf8.RuneCount
import Derived.Test.YticcaekjfhgpcaaGreatDoorProg
set_option linter.unusedVariables false
set_option linter.unusedSimpArgs false
set_option linter.unusedSectionVars false
namespace Go.Proofs
open Go.Shelf
def Tryz.lays158_ren : Go.Shelf.Ren := ⟨fun | 158 => 132 | 165 => 69 | 166 => 71 | 167 => 151 | 169 => 73 | 230 => 152 | 203 => 153 | 240 => 98 | 241 => 99 | 197 => 72 | 118 => 176 | 168 => 177 | 270 => 178 | 262 => 179 | 276 => 126 | 277 => 127 | 260 => 101 | 242 => 196 | 313 => 197 | 278 => 202 | 274 => 203 | 275 => 204 | n => n, fun | 9 => 9 | 4 => 4 | 3 => 3 | 5 => 5 | 72 => 81 | 0 => 0 | 76 => 85 | 75 => 84 | 107 => 144 | 70 => 79 | 20 => 20 | 37 => 31 | 127 => 105 | 21 => 21 | 105 => 87 | 164 => 122 | 162 => 182 | 203 => 180 | 119 => 125 | 46 => 120 | 139 => 128 | 138 => 127 | 51 => 139 | 160 => 186 | 208 => 194 | 206 => 192 | 80 => 73 | n => n, fun | 13 => 4 | 3 => 1 | 4 => 2 | n => n⟩
theorem Tryz.lays158 : Go.Proofs.Lays.n158 Tryz.prog Tryz.lays158_ren := {
  mixed := by kernel_rfl
  f118 := Tryz.func176.trans (congrArg some (by kernel_rfl))
  f158 := Tryz.func132.trans (congrArg some (by kernel_rfl))
  f165 := Tryz.func69.trans (congrArg some (by kernel_rfl))
  f166 := Tryz.func71.trans (congrArg some (by kernel_rfl))
  f167 := Tryz.func151.trans (congrArg some (by kernel_rfl))
  f168 := Tryz.func177.trans (congrArg some (by kernel_rfl))
  f169 := Tryz.func73.trans (congrArg some (by kernel_rfl))
  f197 := Tryz.func72.trans (congrArg some (by kernel_rfl))
  f203 := Tryz.func153.trans (congrArg some (by kernel_rfl))
  f230 := Tryz.func152.trans (congrArg some (by kernel_rfl))
  f240 := Tryz.func98.trans (congrArg some (by kernel_rfl))
  f241 := Tryz.func99.trans (congrArg some (by kernel_rfl))
  f242 := Tryz.func196.trans (congrArg some (by kernel_rfl))
  f260 := Tryz.func101.trans (congrArg some (by kernel_rfl))
  f262 := Tryz.func179.trans (congrArg some (by kernel_rfl))
  f270 := Tryz.func178.trans (congrArg some (by kernel_rfl))
  f274 := Tryz.func203.trans (congrArg some (by kernel_rfl))
  f275 := Tryz.func204.trans (congrArg some (by kernel_rfl))
  f276 := Tryz.func126.trans (congrArg some (by kernel_rfl))
  f277 := Tryz.func127.trans (congrArg some (by kernel_rfl))
  f278 := Tryz.func202.trans (congrArg some (by kernel_rfl))
  f313 := Tryz.func197.trans (congrArg some (by kernel_rfl))
  t0 := Tryz.underlying0
  a0 := Tryz.isAgg0
  z0 := Tryz.sizeOf0
  v0 := Tryz.zeroValue0
  t3 := Tryz.underlying3
  a3 := Tryz.isAgg3
  z3 := Tryz.sizeOf3
  v3 := Tryz.zeroValue3
  t4 := Tryz.underlying4
  a4 := Tryz.isAgg4
  z4 := Tryz.sizeOf4
  v4 := Tryz.zeroValue4
  t5 := Tryz.underlying5
  a5 := Tryz.isAgg5
  z5 := Tryz.sizeOf5
  v5 := Tryz.zeroValue5
  t9 := Tryz.underlying9
  a9 := Tryz.isAgg9
  z9 := Tryz.sizeOf9
  v9 := Tryz.zeroValue9
  t20 := Tryz.underlying20
  a20 := Tryz.isAgg20
  z20 := Tryz.sizeOf20
  v20 := Tryz.zeroValue20
  t21 := Tryz.underlying21
  a21 := Tryz.isAgg21
  z21 := Tryz.sizeOf21
  v21 := Tryz.zeroValue21
  t37 := Tryz.underlying31
  a37 := Tryz.isAgg31
  z37 := Tryz.sizeOf31
  v37 := Tryz.zeroValue31
  t46 := Tryz.underlying120
  a46 := Tryz.isAgg120
  z46 := Tryz.sizeOf120
  v46 := Tryz.zeroValue120
  t51 := Tryz.underlying139
  a51 := Tryz.isAgg139
  z51 := Tryz.sizeOf139
  v51 := Tryz.zeroValue139
  t70 := Tryz.underlying79
  a70 := Tryz.isAgg79
  z70 := Tryz.sizeOf79
  v70 := Tryz.zeroValue79
  t72 := Tryz.underlying81
  a72 := Tryz.isAgg81
  z72 := Tryz.sizeOf81
  v72 := Tryz.zeroValue81
  t75 := Tryz.underlying84
  a75 := Tryz.isAgg84
  z75 := Tryz.sizeOf84
  v75 := Tryz.zeroValue84
  t76 := Tryz.underlying85
  a76 := Tryz.isAgg85
  z76 := Tryz.sizeOf85
  v76 := Tryz.zeroValue85
  t105 := Tryz.underlying87
  a105 := Tryz.isAgg87
  z105 := Tryz.sizeOf87
  v105 := Tryz.zeroValue87
  t107 := Tryz.underlying144
  a107 := Tryz.isAgg144
  z107 := Tryz.sizeOf144
  v107 := Tryz.zeroValue144
  t119 := Tryz.underlying125
  a119 := Tryz.isAgg125
  z119 := Tryz.sizeOf125
  t127 := Tryz.underlying105
  a127 := Tryz.isAgg105
  z127 := Tryz.sizeOf105
  v127 := Tryz.zeroValue105
  t138 := Tryz.underlying127
  a138 := Tryz.isAgg127
  z138 := Tryz.sizeOf127
  v138 := Tryz.zeroValue127
  t139 := Tryz.underlying128
  a139 := Tryz.isAgg128
  z139 := Tryz.sizeOf128
  v139 := Tryz.zeroValue128
  t160 := Tryz.underlying186
  a160 := Tryz.isAgg186
  z160 := Tryz.sizeOf186
  v160 := Tryz.zeroValue186
  t162 := Tryz.underlying182
  a162 := Tryz.isAgg182
  z162 := Tryz.sizeOf182
  v162 := Tryz.zeroValue182
  t164 := Tryz.underlying122
  a164 := Tryz.isAgg122
  z164 := Tryz.sizeOf122
  v164 := Tryz.zeroValue122
  t203 := Tryz.underlying180
  a203 := Tryz.isAgg180
  z203 := Tryz.sizeOf180
  v203 := Tryz.zeroValue180
  t206 := Tryz.underlying192
  a206 := Tryz.isAgg192
  z206 := Tryz.sizeOf192
  v206 := Tryz.zeroValue192
  t208 := Tryz.underlying194
  a208 := Tryz.isAgg194
  z208 := Tryz.sizeOf194
  v208 := Tryz.zeroValue194
  g3 := by kernel_rfl
  g4 := by kernel_rfl
  g13 := by kernel_rfl }
theorem Tryz.Builder_Extra_158 : Builder.Extra Tryz.prog Tryz.lays158_ren := {
  sizeBuilder := by kernel_rfl
  liesBuilder := by kernel_rfl
  t5 := Tryz.underlying5
  a5 := Tryz.isAgg5
  z5 := Tryz.sizeOf5
  v5 := Tryz.zeroValue5
  infoByte := by kernel_rfl
  cellsByte := by kernel_rfl
  sizeByte := by kernel_rfl
  neB5 := by decide }
open Go.RowKit in
theorem Tryz.strings_ToUpper_ascii (s : ByteArray) (w : World) (hs : s.size ≤ 140737488355328) (hascii : ∀ (j : Nat) (b : UInt8), s.data.toList[j]? = some b → b.toNat < 128) :
    Calls Tryz.prog 132 #[.string s] w fun e w' => e = .returned (.string ⟨(Lib.toUpperA s.data.toList).toArray⟩) ∧ Below w.heap.size w w' := Any.strings_ToUpper_ascii Tryz.lays158 Tryz.Builder_Extra_158 s w hs hascii
def Tryz.lays137_ren : Go.Shelf.Ren := ⟨fun | 137 => 200 | 217 => 128 | 266 => 149 | n => n, fun | 9 => 9 | 5 => 5 | 3 => 3 | n => n, fun | n => n⟩
theorem Tryz.lays137 : Go.Proofs.Lays.n137 Tryz.prog Tryz.lays137_ren := {
  mixed := by kernel_rfl
  f137 := Tryz.func200.trans (congrArg some (by kernel_rfl))
  f217 := Tryz.func128.trans (congrArg some (by kernel_rfl))
  f266 := Tryz.func149.trans (congrArg some (by kernel_rfl))
  t3 := Tryz.underlying3
  a3 := Tryz.isAgg3
  z3 := Tryz.sizeOf3
  v3 := Tryz.zeroValue3
  t5 := Tryz.underlying5
  a5 := Tryz.isAgg5
  z5 := Tryz.sizeOf5
  v5 := Tryz.zeroValue5
  t9 := Tryz.underlying9
  a9 := Tryz.isAgg9
  z9 := Tryz.sizeOf9
  v9 := Tryz.zeroValue9 }
open Go.RowKit in
theorem Tryz.strings_IndexByte (s : ByteArray) (c : Int) (w : World) :
    Calls Tryz.prog 200 #[.string s, .int .u8 c] w fun e w' => e = .returned (.int .i64 (Lib.indexByte s.data.toList c.toNat.toUInt8)) ∧ w' = w := Any.strings_IndexByte Tryz.lays137 s c w
def Tryz.lays103_ren : Go.Shelf.Ren := ⟨fun | 103 => 84 | 210 => 112 | 206 => 139 | n => n, fun | 9 => 9 | 4 => 4 | 24 => 41 | 3 => 3 | n => n, fun | n => n⟩
theorem Tryz.lays103 : Go.Proofs.Lays.n103 Tryz.prog Tryz.lays103_ren := {
  mixed := by kernel_rfl
  f103 := Tryz.func84.trans (congrArg some (by kernel_rfl))
  f206 := Tryz.func139.trans (congrArg some (by kernel_rfl))
  f210 := Tryz.func112.trans (congrArg some (by kernel_rfl))
  t3 := Tryz.underlying3
  a3 := Tryz.isAgg3
  z3 := Tryz.sizeOf3
  v3 := Tryz.zeroValue3
  t4 := Tryz.underlying4
  a4 := Tryz.isAgg4
  z4 := Tryz.sizeOf4
  v4 := Tryz.zeroValue4
  t9 := Tryz.underlying9
  a9 := Tryz.isAgg9
  z9 := Tryz.sizeOf9
  v9 := Tryz.zeroValue9
  t24 := Tryz.underlying41
  a24 := Tryz.isAgg41
  z24 := Tryz.sizeOf41
  v24 := Tryz.zeroValue41 }
open Go.RowKit in
theorem Tryz.strings_CutPrefix (s p : ByteArray) (w : World) :
    Calls Tryz.prog 84 #[.string s, .string p] w fun e w' => e = .returned (.tuple #[.string ⟨(Lib.trimPrefix s.data.toList p.data.toList).toArray⟩, .bool (Lib.hasPrefix s.data.toList p.data.toList)]) ∧ w' = w := Any.strings_CutPrefix Tryz.lays103 s p w
def Tryz.lays104_ren : Go.Shelf.Ren := ⟨fun | 104 => 85 | 211 => 113 | 207 => 140 | n => n, fun | 9 => 9 | 4 => 4 | 24 => 41 | 3 => 3 | n => n, fun | n => n⟩
theorem Tryz.lays104 : Go.Proofs.Lays.n104 Tryz.prog Tryz.lays104_ren := {
  mixed := by kernel_rfl
  f104 := Tryz.func85.trans (congrArg some (by kernel_rfl))
  f207 := Tryz.func140.trans (congrArg some (by kernel_rfl))
  f211 := Tryz.func113.trans (congrArg some (by kernel_rfl))
  t3 := Tryz.underlying3
  a3 := Tryz.isAgg3
  z3 := Tryz.sizeOf3
  v3 := Tryz.zeroValue3
  t4 := Tryz.underlying4
  a4 := Tryz.isAgg4
  z4 := Tryz.sizeOf4
  v4 := Tryz.zeroValue4
  t9 := Tryz.underlying9
  a9 := Tryz.isAgg9
  z9 := Tryz.sizeOf9
  v9 := Tryz.zeroValue9
  t24 := Tryz.underlying41
  a24 := Tryz.isAgg41
  z24 := Tryz.sizeOf41
  v24 := Tryz.zeroValue41 }
open Go.RowKit in
theorem Tryz.strings_CutSuffix (s p : ByteArray) (w : World) (hs : s.size ≤ 9223372036854775807) :
    Calls Tryz.prog 85 #[.string s, .string p] w fun e w' => e = .returned (.tuple #[.string ⟨(Lib.trimSuffix s.data.toList p.data.toList).toArray⟩, .bool (Lib.hasSuffix s.data.toList p.data.toList)]) ∧ w' = w := Any.strings_CutSuffix Tryz.lays104 s p w hs
def Tryz.laysM173_ren : Go.Shelf.Ren := ⟨fun | 173 => 103 | 246 => 134 | 283 => 156 | 284 => 157 | 285 => 158 | 286 => 159 | 129 => 175 | 317 => 182 | 318 => 183 | 319 => 184 | 320 => 185 | 337 => 198 | 338 => 199 | n => n, fun | 2 => 2 | 3 => 3 | 9 => 9 | 4 => 4 | 171 => 147 | 0 => 0 | 53 => 118 | 37 => 31 | 5 => 5 | 173 => 150 | 212 => 170 | 51 => 139 | 20 => 20 | 213 => 171 | 46 => 120 | 232 => 189 | 233 => 190 | n => n, fun | 17 => 3 | 18 => 5 | 19 => 6 | n => n⟩
theorem Tryz.laysM173 : Go.Proofs.LaysM.n173 Tryz.prog Tryz.laysM173_ren := {
  mixed := by kernel_rfl
  f129 := Tryz.func175.trans (congrArg some (by kernel_rfl))
  f173 := Tryz.func103.trans (congrArg some (by kernel_rfl))
  f246 := Tryz.func134.trans (congrArg some (by kernel_rfl))
  f283 := Tryz.func156.trans (congrArg some (by kernel_rfl))
  f284 := Tryz.func157.trans (congrArg some (by kernel_rfl))
  f285 := Tryz.func158.trans (congrArg some (by kernel_rfl))
  f286 := Tryz.func159.trans (congrArg some (by kernel_rfl))
  f317 := Tryz.func182.trans (congrArg some (by kernel_rfl))
  f318 := Tryz.func183.trans (congrArg some (by kernel_rfl))
  f319 := Tryz.func184.trans (congrArg some (by kernel_rfl))
  f320 := Tryz.func185.trans (congrArg some (by kernel_rfl))
  f337 := Tryz.func198.trans (congrArg some (by kernel_rfl))
  f338 := Tryz.func199.trans (congrArg some (by kernel_rfl))
  t0 := Tryz.underlying0
  a0 := Tryz.isAgg0
  z0 := Tryz.sizeOf0
  v0 := Tryz.zeroValue0
  t2 := Tryz.underlying2
  a2 := Tryz.isAgg2
  z2 := Tryz.sizeOf2
  v2 := Tryz.zeroValue2
  t3 := Tryz.underlying3
  a3 := Tryz.isAgg3
  z3 := Tryz.sizeOf3
  v3 := Tryz.zeroValue3
  t4 := Tryz.underlying4
  a4 := Tryz.isAgg4
  z4 := Tryz.sizeOf4
  v4 := Tryz.zeroValue4
  t5 := Tryz.underlying5
  a5 := Tryz.isAgg5
  z5 := Tryz.sizeOf5
  v5 := Tryz.zeroValue5
  t9 := Tryz.underlying9
  a9 := Tryz.isAgg9
  z9 := Tryz.sizeOf9
  v9 := Tryz.zeroValue9
  t20 := Tryz.underlying20
  a20 := Tryz.isAgg20
  z20 := Tryz.sizeOf20
  v20 := Tryz.zeroValue20
  t37 := Tryz.underlying31
  a37 := Tryz.isAgg31
  z37 := Tryz.sizeOf31
  v37 := Tryz.zeroValue31
  t46 := Tryz.underlying120
  a46 := Tryz.isAgg120
  z46 := Tryz.sizeOf120
  v46 := Tryz.zeroValue120
  t51 := Tryz.underlying139
  a51 := Tryz.isAgg139
  z51 := Tryz.sizeOf139
  v51 := Tryz.zeroValue139
  t53 := Tryz.underlying118
  a53 := Tryz.isAgg118
  z53 := Tryz.sizeOf118
  v53 := Tryz.zeroValue118
  t171 := Tryz.underlying147
  a171 := Tryz.isAgg147
  z171 := Tryz.sizeOf147
  v171 := Tryz.zeroValue147
  t173 := Tryz.underlying150
  a173 := Tryz.isAgg150
  z173 := Tryz.sizeOf150
  v173 := Tryz.zeroValue150
  t212 := Tryz.underlying170
  a212 := Tryz.isAgg170
  z212 := Tryz.sizeOf170
  v212 := Tryz.zeroValue170
  t213 := Tryz.underlying171
  a213 := Tryz.isAgg171
  z213 := Tryz.sizeOf171
  t232 := Tryz.underlying189
  a232 := Tryz.isAgg189
  z232 := Tryz.sizeOf189
  v232 := Tryz.zeroValue189
  t233 := Tryz.underlying190
  a233 := Tryz.isAgg190
  z233 := Tryz.sizeOf190
  v233 := Tryz.zeroValue190
  g17 := by kernel_rfl
  g18 := by kernel_rfl
  g19 := by kernel_rfl
  i0 := by kernel_rfl
  i2 := by kernel_rfl
  i3 := by kernel_rfl
  i4 := by kernel_rfl
  i5 := by kernel_rfl
  i9 := by kernel_rfl
  i20 := by kernel_rfl
  i37 := by kernel_rfl
  i46 := by kernel_rfl
  i51 := by kernel_rfl
  i53 := by kernel_rfl
  i171 := by kernel_rfl
  i173 := by kernel_rfl
  i212 := by kernel_rfl
  i232 := by kernel_rfl
  i233 := by kernel_rfl
  m17 := by kernel_rfl
  m18 := by kernel_rfl
  m19 := by kernel_rfl }
open Go.RowKit Go.Sort Go.Lib in
theorem Tryz.strconv_FormatInt_10 (n : Int) (h0 : -9223372036854775808 ≤ n) (h1 : n ≤ 9223372036854775807) (w : World) (htab : Lib.TabIs Tryz.prog w "internal/strconv.uint64pow10" .u64 Lib.pow10Tab) :
    Calls Tryz.prog 103 #[.int .i64 n, .int .i64 10] w fun e w' => e = .returned (.string ⟨(Lib.itoa n).toArray⟩) ∧ ∃ k os, w' = grow (w.drewN k) os := Any.strconv_FormatInt_10 Tryz.laysM173 n h0 h1 w htab
def Tryz.lays144_ren : Go.Shelf.Ren := ⟨fun | 144 => 66 | 143 => 70 | 219 => 100 | 217 => 128 | 225 => 129 | 224 => 130 | 267 => 131 | 266 => 149 | 314 => 150 | n => n, fun | 9 => 9 | 4 => 4 | 3 => 3 | 5 => 5 | 46 => 120 | 146 => 140 | 51 => 139 | n => n, fun | 1 => 0 | n => n⟩
theorem Tryz.lays144 : Go.Proofs.Lays.n144 Tryz.prog Tryz.lays144_ren := {
  mixed := by kernel_rfl
  f143 := Tryz.func70.trans (congrArg some (by kernel_rfl))
  f144 := Tryz.func66.trans (congrArg some (by kernel_rfl))
  f217 := Tryz.func128.trans (congrArg some (by kernel_rfl))
  f219 := Tryz.func100.trans (congrArg some (by kernel_rfl))
  f224 := Tryz.func130.trans (congrArg some (by kernel_rfl))
  f225 := Tryz.func129.trans (congrArg some (by kernel_rfl))
  f266 := Tryz.func149.trans (congrArg some (by kernel_rfl))
  f267 := Tryz.func131.trans (congrArg some (by kernel_rfl))
  f314 := Tryz.func150.trans (congrArg some (by kernel_rfl))
  t3 := Tryz.underlying3
  a3 := Tryz.isAgg3
  z3 := Tryz.sizeOf3
  v3 := Tryz.zeroValue3
  t4 := Tryz.underlying4
  a4 := Tryz.isAgg4
  z4 := Tryz.sizeOf4
  v4 := Tryz.zeroValue4
  t5 := Tryz.underlying5
  a5 := Tryz.isAgg5
  z5 := Tryz.sizeOf5
  v5 := Tryz.zeroValue5
  t9 := Tryz.underlying9
  a9 := Tryz.isAgg9
  z9 := Tryz.sizeOf9
  v9 := Tryz.zeroValue9
  t46 := Tryz.underlying120
  a46 := Tryz.isAgg120
  z46 := Tryz.sizeOf120
  v46 := Tryz.zeroValue120
  t51 := Tryz.underlying139
  a51 := Tryz.isAgg139
  z51 := Tryz.sizeOf139
  v51 := Tryz.zeroValue139
  t146 := Tryz.underlying140
  a146 := Tryz.isAgg140
  z146 := Tryz.sizeOf140
  v146 := Tryz.zeroValue140
  g1 := by kernel_rfl }
open Go.RowKit Go.Lib in
theorem Tryz.strings_Contains (s sub : ByteArray) (m : Int) (w : World) (hs : s.size < 4294967281) (hm : w.cell? ⟨0, 0, none⟩ = some (.int .i64 m)) :
    Calls Tryz.prog 66 #[.string s, .string sub] w fun e w' => e = .returned (.bool (Lib.contains s.data.toList sub.data.toList)) ∧ w' = w := Any.strings_Contains Tryz.lays144 s sub m w hs hm
def Tryz.lays145_ren : Go.Shelf.Ren := ⟨fun | 145 => 83 | 220 => 111 | 219 => 100 | 217 => 128 | 225 => 129 | 224 => 130 | 267 => 131 | 266 => 149 | 314 => 150 | n => n, fun | 9 => 9 | 4 => 4 | 59 => 95 | 3 => 3 | 5 => 5 | 46 => 120 | 146 => 140 | 51 => 139 | n => n, fun | 1 => 0 | n => n⟩
theorem Tryz.lays145 : Go.Proofs.Lays.n145 Tryz.prog Tryz.lays145_ren := {
  mixed := by kernel_rfl
  f145 := Tryz.func83.trans (congrArg some (by kernel_rfl))
  f217 := Tryz.func128.trans (congrArg some (by kernel_rfl))
  f219 := Tryz.func100.trans (congrArg some (by kernel_rfl))
  f220 := Tryz.func111.trans (congrArg some (by kernel_rfl))
  f224 := Tryz.func130.trans (congrArg some (by kernel_rfl))
  f225 := Tryz.func129.trans (congrArg some (by kernel_rfl))
  f266 := Tryz.func149.trans (congrArg some (by kernel_rfl))
  f267 := Tryz.func131.trans (congrArg some (by kernel_rfl))
  f314 := Tryz.func150.trans (congrArg some (by kernel_rfl))
  t3 := Tryz.underlying3
  a3 := Tryz.isAgg3
  z3 := Tryz.sizeOf3
  v3 := Tryz.zeroValue3
  t4 := Tryz.underlying4
  a4 := Tryz.isAgg4
  z4 := Tryz.sizeOf4
  v4 := Tryz.zeroValue4
  t5 := Tryz.underlying5
  a5 := Tryz.isAgg5
  z5 := Tryz.sizeOf5
  v5 := Tryz.zeroValue5
  t9 := Tryz.underlying9
  a9 := Tryz.isAgg9
  z9 := Tryz.sizeOf9
  v9 := Tryz.zeroValue9
  t46 := Tryz.underlying120
  a46 := Tryz.isAgg120
  z46 := Tryz.sizeOf120
  v46 := Tryz.zeroValue120
  t51 := Tryz.underlying139
  a51 := Tryz.isAgg139
  z51 := Tryz.sizeOf139
  v51 := Tryz.zeroValue139
  t59 := Tryz.underlying95
  a59 := Tryz.isAgg95
  z59 := Tryz.sizeOf95
  v59 := Tryz.zeroValue95
  t146 := Tryz.underlying140
  a146 := Tryz.isAgg140
  z146 := Tryz.sizeOf140
  v146 := Tryz.zeroValue140
  g1 := by kernel_rfl }
open Go.RowKit Go.Lib in
theorem Tryz.strings_Cut (s sep : ByteArray) (m : Int) (w : World) (hs : s.size < 4294967281) (hm : w.cell? ⟨0, 0, none⟩ = some (.int .i64 m)) :
    Calls Tryz.prog 83 #[.string s, .string sep] w fun e w' => e = .returned (.tuple #[.string ⟨(Lib.cut s.data.toList sep.data.toList).1.toArray⟩, .string ⟨(Lib.cut s.data.toList sep.data.toList).2.1.toArray⟩, .bool (Lib.cut s.data.toList sep.data.toList).2.2]) ∧ ∃ n, w' = w.drewN n := Any.strings_Cut Tryz.lays145 s sep m w hs hm
def Tryz.lays190_ren : Go.Shelf.Ren := ⟨fun | 190 => 120 | 125 => 145 | 258 => 144 | 128 => 174 | 129 => 175 | 302 => 165 | 303 => 166 | 304 => 167 | 305 => 168 | 306 => 169 | 307 => 170 | 308 => 171 | 309 => 172 | 310 => 173 | 333 => 190 | 329 => 191 | 330 => 192 | 334 => 193 | 335 => 194 | 336 => 195 | 344 => 201 | n => n, fun | 31 => 54 | 9 => 9 | 3 => 3 | 46 => 120 | 0 => 0 | 51 => 139 | 53 => 118 | 4 => 4 | 183 => 156 | 182 => 155 | 131 => 160 | 5 => 5 | 218 => 174 | 222 => 177 | 228 => 183 | 229 => 184 | n => n, fun | n => n⟩
theorem Tryz.lays190 : Go.Proofs.Lays.n190 Tryz.prog Tryz.lays190_ren := {
  mixed := by kernel_rfl
  f125 := Tryz.func145.trans (congrArg some (by kernel_rfl))
  f128 := Tryz.func174.trans (congrArg some (by kernel_rfl))
  f129 := Tryz.func175.trans (congrArg some (by kernel_rfl))
  f190 := Tryz.func120.trans (congrArg some (by kernel_rfl))
  f258 := Tryz.func144.trans (congrArg some (by kernel_rfl))
  f302 := Tryz.func165.trans (congrArg some (by kernel_rfl))
  f303 := Tryz.func166.trans (congrArg some (by kernel_rfl))
  f304 := Tryz.func167.trans (congrArg some (by kernel_rfl))
  f305 := Tryz.func168.trans (congrArg some (by kernel_rfl))
  f306 := Tryz.func169.trans (congrArg some (by kernel_rfl))
  f307 := Tryz.func170.trans (congrArg some (by kernel_rfl))
  f308 := Tryz.func171.trans (congrArg some (by kernel_rfl))
  f309 := Tryz.func172.trans (congrArg some (by kernel_rfl))
  f310 := Tryz.func173.trans (congrArg some (by kernel_rfl))
  f329 := Tryz.func191.trans (congrArg some (by kernel_rfl))
  f330 := Tryz.func192.trans (congrArg some (by kernel_rfl))
  f333 := Tryz.func190.trans (congrArg some (by kernel_rfl))
  f334 := Tryz.func193.trans (congrArg some (by kernel_rfl))
  f335 := Tryz.func194.trans (congrArg some (by kernel_rfl))
  f336 := Tryz.func195.trans (congrArg some (by kernel_rfl))
  f344 := Tryz.func201.trans (congrArg some (by kernel_rfl))
  t0 := Tryz.underlying0
  a0 := Tryz.isAgg0
  z0 := Tryz.sizeOf0
  v0 := Tryz.zeroValue0
  t3 := Tryz.underlying3
  a3 := Tryz.isAgg3
  z3 := Tryz.sizeOf3
  v3 := Tryz.zeroValue3
  t4 := Tryz.underlying4
  a4 := Tryz.isAgg4
  z4 := Tryz.sizeOf4
  v4 := Tryz.zeroValue4
  t5 := Tryz.underlying5
  a5 := Tryz.isAgg5
  z5 := Tryz.sizeOf5
  v5 := Tryz.zeroValue5
  t9 := Tryz.underlying9
  a9 := Tryz.isAgg9
  z9 := Tryz.sizeOf9
  v9 := Tryz.zeroValue9
  t31 := Tryz.underlying54
  a31 := Tryz.isAgg54
  z31 := Tryz.sizeOf54
  v31 := Tryz.zeroValue54
  t46 := Tryz.underlying120
  a46 := Tryz.isAgg120
  z46 := Tryz.sizeOf120
  v46 := Tryz.zeroValue120
  t51 := Tryz.underlying139
  a51 := Tryz.isAgg139
  z51 := Tryz.sizeOf139
  v51 := Tryz.zeroValue139
  t53 := Tryz.underlying118
  a53 := Tryz.isAgg118
  z53 := Tryz.sizeOf118
  v53 := Tryz.zeroValue118
  t131 := Tryz.underlying160
  a131 := Tryz.isAgg160
  z131 := Tryz.sizeOf160
  v131 := Tryz.zeroValue160
  t182 := Tryz.underlying155
  a182 := Tryz.isAgg155
  z182 := Tryz.sizeOf155
  v182 := Tryz.zeroValue155
  t183 := Tryz.underlying156
  a183 := Tryz.isAgg156
  z183 := Tryz.sizeOf156
  v183 := Tryz.zeroValue156
  t218 := Tryz.underlying174
  a218 := Tryz.isAgg174
  z218 := Tryz.sizeOf174
  v218 := Tryz.zeroValue174
  t222 := Tryz.underlying177
  a222 := Tryz.isAgg177
  z222 := Tryz.sizeOf177
  v222 := Tryz.zeroValue177
  t228 := Tryz.underlying183
  a228 := Tryz.isAgg183
  z228 := Tryz.sizeOf183
  v228 := Tryz.zeroValue183
  t229 := Tryz.underlying184
  a229 := Tryz.isAgg184
  z229 := Tryz.sizeOf184
  v229 := Tryz.zeroValue184 }
open Go.Sort Go.RowKit in
theorem Tryz.slices_Sort_string (blk off cap : Nat) (ss : List (List UInt8)) (w : World) (hH : Holds encStr w blk off ss.toArray) (hblk : blk < w.heap.size) (hsz : ss.length < 4611686018427387904) :
    Calls Tryz.prog 120 #[.slice (some ⟨blk, off, none⟩) ss.length cap] w fun e w' =>
      e = .returned (.tuple #[]) ∧ ∃ n os, w' = grow (putRow encStr (Sort.ahead w n) blk off (ss.mergeSort fun x y => decide (x ≤ y)).toArray) os := Any.slices_Sort_string Tryz.lays190 blk off cap ss w hH hblk hsz
def Tryz.lays146_ren : Go.Shelf.Ren := ⟨fun | 146 => 95 | 221 => 125 | 268 => 148 | 138 => 68 | 143 => 70 | 195 => 96 | 197 => 72 | 218 => 97 | 219 => 100 | 260 => 101 | 217 => 128 | 225 => 129 | 224 => 130 | 267 => 131 | 266 => 149 | 314 => 150 | n => n, fun | 9 => 9 | 31 => 54 | 3 => 3 | 4 => 4 | 0 => 0 | 105 => 87 | 21 => 21 | 5 => 5 | 46 => 120 | 119 => 125 | 139 => 128 | 138 => 127 | 146 => 140 | 51 => 139 | n => n, fun | 1 => 0 | 3 => 1 | 4 => 2 | n => n⟩
theorem Tryz.lays146 : Go.Proofs.Lays.n146 Tryz.prog Tryz.lays146_ren := {
  mixed := by kernel_rfl
  f138 := Tryz.func68.trans (congrArg some (by kernel_rfl))
  f143 := Tryz.func70.trans (congrArg some (by kernel_rfl))
  f146 := Tryz.func95.trans (congrArg some (by kernel_rfl))
  f195 := Tryz.func96.trans (congrArg some (by kernel_rfl))
  f197 := Tryz.func72.trans (congrArg some (by kernel_rfl))
  f217 := Tryz.func128.trans (congrArg some (by kernel_rfl))
  f218 := Tryz.func97.trans (congrArg some (by kernel_rfl))
  f219 := Tryz.func100.trans (congrArg some (by kernel_rfl))
  f221 := Tryz.func125.trans (congrArg some (by kernel_rfl))
  f224 := Tryz.func130.trans (congrArg some (by kernel_rfl))
  f225 := Tryz.func129.trans (congrArg some (by kernel_rfl))
  f260 := Tryz.func101.trans (congrArg some (by kernel_rfl))
  f266 := Tryz.func149.trans (congrArg some (by kernel_rfl))
  f267 := Tryz.func131.trans (congrArg some (by kernel_rfl))
  f268 := Tryz.func148.trans (congrArg some (by kernel_rfl))
  f314 := Tryz.func150.trans (congrArg some (by kernel_rfl))
  t0 := Tryz.underlying0
  a0 := Tryz.isAgg0
  z0 := Tryz.sizeOf0
  v0 := Tryz.zeroValue0
  t3 := Tryz.underlying3
  a3 := Tryz.isAgg3
  z3 := Tryz.sizeOf3
  v3 := Tryz.zeroValue3
  t4 := Tryz.underlying4
  a4 := Tryz.isAgg4
  z4 := Tryz.sizeOf4
  v4 := Tryz.zeroValue4
  t5 := Tryz.underlying5
  a5 := Tryz.isAgg5
  z5 := Tryz.sizeOf5
  v5 := Tryz.zeroValue5
  t9 := Tryz.underlying9
  a9 := Tryz.isAgg9
  z9 := Tryz.sizeOf9
  v9 := Tryz.zeroValue9
  t21 := Tryz.underlying21
  a21 := Tryz.isAgg21
  z21 := Tryz.sizeOf21
  v21 := Tryz.zeroValue21
  t31 := Tryz.underlying54
  a31 := Tryz.isAgg54
  z31 := Tryz.sizeOf54
  v31 := Tryz.zeroValue54
  t46 := Tryz.underlying120
  a46 := Tryz.isAgg120
  z46 := Tryz.sizeOf120
  v46 := Tryz.zeroValue120
  t51 := Tryz.underlying139
  a51 := Tryz.isAgg139
  z51 := Tryz.sizeOf139
  v51 := Tryz.zeroValue139
  t105 := Tryz.underlying87
  a105 := Tryz.isAgg87
  z105 := Tryz.sizeOf87
  v105 := Tryz.zeroValue87
  t119 := Tryz.underlying125
  a119 := Tryz.isAgg125
  z119 := Tryz.sizeOf125
  t138 := Tryz.underlying127
  a138 := Tryz.isAgg127
  z138 := Tryz.sizeOf127
  v138 := Tryz.zeroValue127
  t139 := Tryz.underlying128
  a139 := Tryz.isAgg128
  z139 := Tryz.sizeOf128
  v139 := Tryz.zeroValue128
  t146 := Tryz.underlying140
  a146 := Tryz.isAgg140
  z146 := Tryz.sizeOf140
  v146 := Tryz.zeroValue140
  g1 := by kernel_rfl
  g3 := by kernel_rfl
  g4 := by kernel_rfl }
open Go.RowKit Go.Lib in
theorem Tryz.strings_Split (s sep : ByteArray) (m : Int) (w : World) (hs : s.size < 4294967281) (hm : w.cell? ⟨0, 0, none⟩ = some (.int .i64 m)) (h1 : 1 ≤ sep.size) :
    Calls Tryz.prog 95 #[.string s, .string sep] w fun e w' =>
      e = .returned (.slice (some ⟨w.heap.size, 0, none⟩) (Lib.countB s sep + 1) (Lib.countB s sep + 1)) ∧ w' = w.alloc (.cells ((Lib.splitB sep 0 (Lib.countB s sep) s).map Value.string).toArray 9) := Any.strings_Split Tryz.lays146 (by kernel_rfl) s sep m w hs hm h1
def Tryz.lays154_ren : Go.Shelf.Ren := ⟨fun | 154 => 34 | 138 => 68 | 165 => 69 | 143 => 70 | 166 => 71 | 197 => 72 | 169 => 73 | 195 => 96 | 218 => 97 | 240 => 98 | 241 => 99 | 219 => 100 | 260 => 101 | 276 => 126 | 277 => 127 | 217 => 128 | 225 => 129 | 224 => 130 | 267 => 131 | 266 => 149 | 314 => 150 | n => n, fun | 9 => 9 | 3 => 3 | 4 => 4 | 72 => 81 | 0 => 0 | 76 => 85 | 105 => 87 | 21 => 21 | 5 => 5 | 70 => 79 | 20 => 20 | 37 => 31 | 75 => 84 | 127 => 105 | 164 => 122 | 46 => 120 | 119 => 125 | 139 => 128 | 138 => 127 | 146 => 140 | 51 => 139 | 80 => 73 | n => n, fun | 1 => 0 | 3 => 1 | 4 => 2 | n => n⟩
theorem Tryz.lays154 : Go.Proofs.Lays.n154 Tryz.prog Tryz.lays154_ren := {
  mixed := by kernel_rfl
  f138 := Tryz.func68.trans (congrArg some (by kernel_rfl))
  f143 := Tryz.func70.trans (congrArg some (by kernel_rfl))
  f154 := Tryz.func34.trans (congrArg some (by kernel_rfl))
  f165 := Tryz.func69.trans (congrArg some (by kernel_rfl))
  f166 := Tryz.func71.trans (congrArg some (by kernel_rfl))
  f169 := Tryz.func73.trans (congrArg some (by kernel_rfl))
  f195 := Tryz.func96.trans (congrArg some (by kernel_rfl))
  f197 := Tryz.func72.trans (congrArg some (by kernel_rfl))
  f217 := Tryz.func128.trans (congrArg some (by kernel_rfl))
  f218 := Tryz.func97.trans (congrArg some (by kernel_rfl))
  f219 := Tryz.func100.trans (congrArg some (by kernel_rfl))
  f224 := Tryz.func130.trans (congrArg some (by kernel_rfl))
  f225 := Tryz.func129.trans (congrArg some (by kernel_rfl))
  f240 := Tryz.func98.trans (congrArg some (by kernel_rfl))
  f241 := Tryz.func99.trans (congrArg some (by kernel_rfl))
  f260 := Tryz.func101.trans (congrArg some (by kernel_rfl))
  f266 := Tryz.func149.trans (congrArg some (by kernel_rfl))
  f267 := Tryz.func131.trans (congrArg some (by kernel_rfl))
  f276 := Tryz.func126.trans (congrArg some (by kernel_rfl))
  f277 := Tryz.func127.trans (congrArg some (by kernel_rfl))
  f314 := Tryz.func150.trans (congrArg some (by kernel_rfl))
  t0 := Tryz.underlying0
  a0 := Tryz.isAgg0
  z0 := Tryz.sizeOf0
  v0 := Tryz.zeroValue0
  t3 := Tryz.underlying3
  a3 := Tryz.isAgg3
  z3 := Tryz.sizeOf3
  v3 := Tryz.zeroValue3
  t4 := Tryz.underlying4
  a4 := Tryz.isAgg4
  z4 := Tryz.sizeOf4
  v4 := Tryz.zeroValue4
  t5 := Tryz.underlying5
  a5 := Tryz.isAgg5
  z5 := Tryz.sizeOf5
  v5 := Tryz.zeroValue5
  t9 := Tryz.underlying9
  a9 := Tryz.isAgg9
  z9 := Tryz.sizeOf9
  v9 := Tryz.zeroValue9
  t20 := Tryz.underlying20
  a20 := Tryz.isAgg20
  z20 := Tryz.sizeOf20
  v20 := Tryz.zeroValue20
  t21 := Tryz.underlying21
  a21 := Tryz.isAgg21
  z21 := Tryz.sizeOf21
  v21 := Tryz.zeroValue21
  t37 := Tryz.underlying31
  a37 := Tryz.isAgg31
  z37 := Tryz.sizeOf31
  v37 := Tryz.zeroValue31
  t46 := Tryz.underlying120
  a46 := Tryz.isAgg120
  z46 := Tryz.sizeOf120
  v46 := Tryz.zeroValue120
  t51 := Tryz.underlying139
  a51 := Tryz.isAgg139
  z51 := Tryz.sizeOf139
  v51 := Tryz.zeroValue139
  t70 := Tryz.underlying79
  a70 := Tryz.isAgg79
  z70 := Tryz.sizeOf79
  v70 := Tryz.zeroValue79
  t72 := Tryz.underlying81
  a72 := Tryz.isAgg81
  z72 := Tryz.sizeOf81
  v72 := Tryz.zeroValue81
  t75 := Tryz.underlying84
  a75 := Tryz.isAgg84
  z75 := Tryz.sizeOf84
  v75 := Tryz.zeroValue84
  t76 := Tryz.underlying85
  a76 := Tryz.isAgg85
  z76 := Tryz.sizeOf85
  v76 := Tryz.zeroValue85
  t105 := Tryz.underlying87
  a105 := Tryz.isAgg87
  z105 := Tryz.sizeOf87
  v105 := Tryz.zeroValue87
  t119 := Tryz.underlying125
  a119 := Tryz.isAgg125
  z119 := Tryz.sizeOf125
  t127 := Tryz.underlying105
  a127 := Tryz.isAgg105
  z127 := Tryz.sizeOf105
  v127 := Tryz.zeroValue105
  t138 := Tryz.underlying127
  a138 := Tryz.isAgg127
  z138 := Tryz.sizeOf127
  v138 := Tryz.zeroValue127
  t139 := Tryz.underlying128
  a139 := Tryz.isAgg128
  z139 := Tryz.sizeOf128
  v139 := Tryz.zeroValue128
  t146 := Tryz.underlying140
  a146 := Tryz.isAgg140
  z146 := Tryz.sizeOf140
  v146 := Tryz.zeroValue140
  t164 := Tryz.underlying122
  a164 := Tryz.isAgg122
  z164 := Tryz.sizeOf122
  v164 := Tryz.zeroValue122
  g1 := by kernel_rfl
  g3 := by kernel_rfl
  g4 := by kernel_rfl }
theorem Tryz.Builder_Extra_154 : Builder.Extra Tryz.prog Tryz.lays154_ren := {
  sizeBuilder := by kernel_rfl
  liesBuilder := by kernel_rfl
  t5 := Tryz.underlying5
  a5 := Tryz.isAgg5
  z5 := Tryz.sizeOf5
  v5 := Tryz.zeroValue5
  infoByte := by kernel_rfl
  cellsByte := by kernel_rfl
  sizeByte := by kernel_rfl
  neB5 := by decide }
open Go.RowKit Go.Lib in
theorem Tryz.strings_Replace (s old new : ByteArray) (n : Int) (m : Int) (w : World) (hs : s.size < 4294967281) (hm : w.cell? ⟨0, 0, none⟩ = some (.int .i64 m)) (h1 : 1 ≤ old.size) (hlen : s.size + Lib.countB s old * new.size ≤ 140737488355328) :
    Calls Tryz.prog 34 #[.string s, .string old, .string new, .int .i64 n] w fun e w' =>
      e = .returned (.string ⟨(Lib.replace s.data.toList old.data.toList new.data.toList n).toArray⟩) ∧ Below w.heap.size w w' := Any.strings_Replace Tryz.lays154 Tryz.Builder_Extra_154 s old new n m w hs hm h1 hlen
def Tryz.lays105_ren : Go.Shelf.Ren := ⟨fun | 105 => 133 | 212 => 154 | 99 => 143 | 165 => 69 | 166 => 71 | 170 => 155 | 169 => 73 | 263 => 180 | 264 => 181 | 206 => 139 | 240 => 98 | 241 => 99 | 276 => 126 | 277 => 127 | n => n, fun | 9 => 9 | 3 => 3 | 4 => 4 | 20 => 20 | 0 => 0 | 46 => 120 | 109 => 145 | 5 => 5 | 72 => 81 | 76 => 85 | 51 => 139 | 146 => 140 | 53 => 118 | 148 => 167 | 70 => 79 | 37 => 31 | 75 => 84 | 127 => 105 | 164 => 122 | 80 => 73 | n => n, fun | n => n⟩
theorem Tryz.lays105 : Go.Proofs.Lays.n105 Tryz.prog Tryz.lays105_ren := {
  mixed := by kernel_rfl
  f99 := Tryz.func143.trans (congrArg some (by kernel_rfl))
  f105 := Tryz.func133.trans (congrArg some (by kernel_rfl))
  f165 := Tryz.func69.trans (congrArg some (by kernel_rfl))
  f166 := Tryz.func71.trans (congrArg some (by kernel_rfl))
  f169 := Tryz.func73.trans (congrArg some (by kernel_rfl))
  f170 := Tryz.func155.trans (congrArg some (by kernel_rfl))
  f206 := Tryz.func139.trans (congrArg some (by kernel_rfl))
  f212 := Tryz.func154.trans (congrArg some (by kernel_rfl))
  f240 := Tryz.func98.trans (congrArg some (by kernel_rfl))
  f241 := Tryz.func99.trans (congrArg some (by kernel_rfl))
  f263 := Tryz.func180.trans (congrArg some (by kernel_rfl))
  f264 := Tryz.func181.trans (congrArg some (by kernel_rfl))
  f276 := Tryz.func126.trans (congrArg some (by kernel_rfl))
  f277 := Tryz.func127.trans (congrArg some (by kernel_rfl))
  t0 := Tryz.underlying0
  a0 := Tryz.isAgg0
  z0 := Tryz.sizeOf0
  v0 := Tryz.zeroValue0
  t3 := Tryz.underlying3
  a3 := Tryz.isAgg3
  z3 := Tryz.sizeOf3
  v3 := Tryz.zeroValue3
  t4 := Tryz.underlying4
  a4 := Tryz.isAgg4
  z4 := Tryz.sizeOf4
  v4 := Tryz.zeroValue4
  t5 := Tryz.underlying5
  a5 := Tryz.isAgg5
  z5 := Tryz.sizeOf5
  v5 := Tryz.zeroValue5
  t9 := Tryz.underlying9
  a9 := Tryz.isAgg9
  z9 := Tryz.sizeOf9
  v9 := Tryz.zeroValue9
  t20 := Tryz.underlying20
  a20 := Tryz.isAgg20
  z20 := Tryz.sizeOf20
  v20 := Tryz.zeroValue20
  t37 := Tryz.underlying31
  a37 := Tryz.isAgg31
  z37 := Tryz.sizeOf31
  v37 := Tryz.zeroValue31
  t46 := Tryz.underlying120
  a46 := Tryz.isAgg120
  z46 := Tryz.sizeOf120
  v46 := Tryz.zeroValue120
  t51 := Tryz.underlying139
  a51 := Tryz.isAgg139
  z51 := Tryz.sizeOf139
  v51 := Tryz.zeroValue139
  t53 := Tryz.underlying118
  a53 := Tryz.isAgg118
  z53 := Tryz.sizeOf118
  v53 := Tryz.zeroValue118
  t70 := Tryz.underlying79
  a70 := Tryz.isAgg79
  z70 := Tryz.sizeOf79
  v70 := Tryz.zeroValue79
  t72 := Tryz.underlying81
  a72 := Tryz.isAgg81
  z72 := Tryz.sizeOf81
  v72 := Tryz.zeroValue81
  t75 := Tryz.underlying84
  a75 := Tryz.isAgg84
  z75 := Tryz.sizeOf84
  v75 := Tryz.zeroValue84
  t76 := Tryz.underlying85
  a76 := Tryz.isAgg85
  z76 := Tryz.sizeOf85
  v76 := Tryz.zeroValue85
  t109 := Tryz.underlying145
  a109 := Tryz.isAgg145
  z109 := Tryz.sizeOf145
  v109 := Tryz.zeroValue145
  t127 := Tryz.underlying105
  a127 := Tryz.isAgg105
  z127 := Tryz.sizeOf105
  v127 := Tryz.zeroValue105
  t146 := Tryz.underlying140
  a146 := Tryz.isAgg140
  z146 := Tryz.sizeOf140
  v146 := Tryz.zeroValue140
  t148 := Tryz.underlying167
  a148 := Tryz.isAgg167
  z148 := Tryz.sizeOf167
  v148 := Tryz.zeroValue167
  t164 := Tryz.underlying122
  a164 := Tryz.isAgg122
  z164 := Tryz.sizeOf122
  v164 := Tryz.zeroValue122 }
theorem Tryz.Builder_Extra_105 : Builder.Extra Tryz.prog Tryz.lays105_ren := {
  sizeBuilder := by kernel_rfl
  liesBuilder := by kernel_rfl
  t5 := Tryz.underlying5
  a5 := Tryz.isAgg5
  z5 := Tryz.sizeOf5
  v5 := Tryz.zeroValue5
  infoByte := by kernel_rfl
  cellsByte := by kernel_rfl
  sizeByte := by kernel_rfl
  neB5 := by decide }
open Go.RowKit Go.Lib in
theorem Tryz.strings_Repeat (s : ByteArray) (c : Nat) (w : World) (hc : c ≤ 9223372036854775807) (hlen : s.size * c ≤ 140737488355328) :
    Calls Tryz.prog 133 #[.string s, .int .i64 c] w fun e w' => e = .returned (.string ⟨(Lib.repeatL s.data.toList c).toArray⟩) ∧ Below w.heap.size w w' := Any.strings_Repeat Tryz.lays105 Tryz.Builder_Extra_105 s c w hc hlen
def Tryz.lays194_ren : Go.Shelf.Ren := ⟨fun | 194 => 121 | n => n, fun | 31 => 54 | 9 => 9 | 3 => 3 | 4 => 4 | 0 => 0 | n => n, fun | n => n⟩
theorem Tryz.lays194 : Go.Proofs.Lays.n194 Tryz.prog Tryz.lays194_ren := {
  mixed := by kernel_rfl
  f194 := Tryz.func121.trans (congrArg some (by kernel_rfl))
  t0 := Tryz.underlying0
  a0 := Tryz.isAgg0
  z0 := Tryz.sizeOf0
  v0 := Tryz.zeroValue0
  t3 := Tryz.underlying3
  a3 := Tryz.isAgg3
  z3 := Tryz.sizeOf3
  v3 := Tryz.zeroValue3
  t4 := Tryz.underlying4
  a4 := Tryz.isAgg4
  z4 := Tryz.sizeOf4
  v4 := Tryz.zeroValue4
  t9 := Tryz.underlying9
  a9 := Tryz.isAgg9
  z9 := Tryz.sizeOf9
  v9 := Tryz.zeroValue9
  t31 := Tryz.underlying54
  a31 := Tryz.isAgg54
  z31 := Tryz.sizeOf54
  v31 := Tryz.zeroValue54 }
open Go.RowKit Go.Lib Go.Sort in
theorem Tryz.slices_Compact_string (blk off cap : Nat) (zs : List (List UInt8)) (w : World) (hH : Holds encStr w blk off zs.toArray) (hsz : zs.length ≤ 9223372036854775807) (hcap : zs.length ≤ cap) :
    Calls Tryz.prog 121 #[.slice (some ⟨blk, off, none⟩) zs.length cap] w fun e w' => e = .returned (.slice (some ⟨blk, off, none⟩) (Lib.compact zs).length cap) ∧ ∃ q, w' = putRow encStr (Sort.ahead w q) blk off (Lib.compact zs ++ List.replicate (zs.length - (Lib.compact zs).length) []).toArray := Any.slices_Compact_string Tryz.lays194 blk off cap zs w hH hsz hcap
open Go.RowKit Go.Lib Go.Sort in
theorem Tryz.slices_Compact_string_empty (a : Option Addr) (cap : Nat) (w : World) :
    Calls Tryz.prog 121 #[.slice a 0 cap] w fun e w' => e = .returned (.slice a 0 cap) ∧ w' = w := Any.slices_Compact_string_empty Tryz.lays194 a cap w
open Go.RowKit Go.Sort in
theorem Tryz.slices_Sort_string_none (p : Option Addr) (cap : Nat) (w : World) :
    Calls Tryz.prog 120 #[.slice p 0 cap] w fun e w' => e = .returned (.tuple #[]) ∧ w' = w := Any.slices_Sort_string_none Tryz.lays190 p cap w
def Tryz.growS_ren : Go.Shelf.Ren := ⟨fun | 4 => 147 | n => n, fun | 22 => 54 | 25 => 9 | 3 => 3 | 4 => 4 | 9 => 9 | 20 => 20 | 0 => 0 | n => n, fun | n => n⟩
theorem Tryz.growS : Go.Proofs.Lays8.n4 Tryz.prog Tryz.growS_ren := {
  mixed := by kernel_rfl
  f4 := ⟨Tryz.f147.name, by decide, Tryz.func147.trans (congrArg some (by kernel_rfl))⟩
  t0 := Tryz.underlying0
  a0 := Tryz.isAgg0
  z0 := Tryz.sizeOf0
  v0 := Tryz.zeroValue0
  t3 := Tryz.underlying3
  a3 := Tryz.isAgg3
  z3 := Tryz.sizeOf3
  v3 := Tryz.zeroValue3
  t4 := Tryz.underlying4
  a4 := Tryz.isAgg4
  z4 := Tryz.sizeOf4
  v4 := Tryz.zeroValue4
  t9 := Tryz.underlying9
  a9 := Tryz.isAgg9
  z9 := Tryz.sizeOf9
  v9 := Tryz.zeroValue9
  t20 := Tryz.underlying20
  a20 := Tryz.isAgg20
  z20 := Tryz.sizeOf20
  v20 := Tryz.zeroValue20
  t22 := Tryz.underlying54
  a22 := Tryz.isAgg54
  z22 := Tryz.sizeOf54
  v22 := Tryz.zeroValue54 }
def Tryz.lays7x27_ren : Go.Shelf.Ren := ⟨fun | 27 => 185 | 28 => 198 | 29 => 199 | n => n, fun | 25 => 120 | 3 => 3 | 27 => 139 | 22 => 118 | 4 => 4 | 53 => 189 | 0 => 0 | 5 => 5 | 54 => 190 | n => n, fun | 0 => 5 | 1 => 6 | n => n⟩
theorem Tryz.lays7x27 : Go.Proofs.Lays7.n27 Tryz.prog Tryz.lays7x27_ren := {
  mixed := by kernel_rfl
  f27 := Tryz.func185.trans (congrArg some (by kernel_rfl))
  f28 := Tryz.func198.trans (congrArg some (by kernel_rfl))
  f29 := Tryz.func199.trans (congrArg some (by kernel_rfl))
  t0 := Tryz.underlying0
  a0 := Tryz.isAgg0
  z0 := Tryz.sizeOf0
  v0 := Tryz.zeroValue0
  i0 := by kernel_rfl
  t3 := Tryz.underlying3
  a3 := Tryz.isAgg3
  z3 := Tryz.sizeOf3
  v3 := Tryz.zeroValue3
  i3 := by kernel_rfl
  t4 := Tryz.underlying4
  a4 := Tryz.isAgg4
  z4 := Tryz.sizeOf4
  v4 := Tryz.zeroValue4
  i4 := by kernel_rfl
  t5 := Tryz.underlying5
  a5 := Tryz.isAgg5
  z5 := Tryz.sizeOf5
  v5 := Tryz.zeroValue5
  i5 := by kernel_rfl
  t22 := Tryz.underlying118
  a22 := Tryz.isAgg118
  z22 := Tryz.sizeOf118
  v22 := Tryz.zeroValue118
  i22 := by kernel_rfl
  t25 := Tryz.underlying120
  a25 := Tryz.isAgg120
  z25 := Tryz.sizeOf120
  v25 := Tryz.zeroValue120
  i25 := by kernel_rfl
  t27 := Tryz.underlying139
  a27 := Tryz.isAgg139
  z27 := Tryz.sizeOf139
  v27 := Tryz.zeroValue139
  i27 := by kernel_rfl
  t53 := Tryz.underlying189
  a53 := Tryz.isAgg189
  z53 := Tryz.sizeOf189
  v53 := Tryz.zeroValue189
  i53 := by kernel_rfl
  t54 := Tryz.underlying190
  a54 := Tryz.isAgg190
  z54 := Tryz.sizeOf190
  g0 := by kernel_rfl
  g1 := by kernel_rfl }
end Go.Proofs
namespace Go.U.Tryz
open Go Go.U Go.Proofs Go.Proofs.Tryz
instance : Gl prog := ⟨[0, 6, 3], fun g o => ∃ arr ty fz, o = .cells arr ty fz ∧ (g = 0 → ∃ m, arr[0]? = some (.int .i64 m)) ∧ (g = 6 → ∀ j, j < Lib.deBruijn64tab.length → arr[j]? = some (.int .u8 (Lib.deBruijn64tab.getD j 0))) ∧ (g = 3 → arr = (Lib.pow10Tab.map fun z => Value.int .u64 z).toArray)⟩
theorem gl2 {w : World} (h : ∀ g, g ∈ Gl.l prog → GlAt prog w g) : ∃ m, w.cell? ⟨0, 0, none⟩ = some (.int .i64 m) := by
  obtain ⟨o, h1, arr, ty, fz, rfl, h2, _⟩ := h 0 (List.mem_cons_self ..)
  obtain ⟨m, hm⟩ := h2 rfl
  exact ⟨m, by simp only [World.cell?, h1]; exact hm⟩
theorem gl6 {w : World} (h : ∀ g, g ∈ Gl.l prog → GlAt prog w g) : TabAt 6 Lib.deBruijn64tab w := by
  obtain ⟨o, h1, arr, ty, fz, rfl, _, h2, _⟩ := h 6 (List.mem_cons_of_mem _ (List.mem_cons_self ..))
  intro j hj
  simp only [World.cell?, h1]
  exact h2 rfl j hj
theorem gl1 {w : World} (h : ∀ g, g ∈ Gl.l prog → GlAt prog w g) : Lib.TabIs prog w "internal/strconv.uint64pow10" .u64 Lib.pow10Tab := by
  obtain ⟨o, h1, arr, ty, fz, rfl, _, _, h2⟩ := h 3 (List.mem_cons_of_mem _ (List.mem_cons_of_mem _ (List.mem_cons_self ..)))
  have hg : prog.globalNamed "internal/strconv.uint64pow10" = some 3 := by kernel_rfl
  unfold Lib.TabIs World.var?
  rw [hg, Option.bind_some, h1, h2 rfl]
def splR (l m : List UInt8) : List (List UInt8) := (Lib.splitB ⟨m.toArray⟩ 0 (Lib.countB ⟨l.toArray⟩ ⟨m.toArray⟩) ⟨l.toArray⟩).map fun b => b.data.toList
def splF (x : List UInt8 × List UInt8) : Option (List (List UInt8)) := guard (decide (1 ≤ x.2.length ∧ x.1.length < 4294967281)) (some (splR x.1 x.2))
def conF (x : List UInt8 × List UInt8) : Option Bool := guard (decide (x.1.length < 4294967281)) (some (Lib.contains x.1 x.2))
def uppF (x : List UInt8) : Option (List UInt8) := guard (decide (x.length ≤ 140737488355328) && x.all fun b => decide (b.toNat < 128)) (some (Lib.toUpperA x))
def decF (x : Int × Int) : Option (List UInt8) := guard (decide (-9223372036854775808 ≤ x.1 ∧ x.1 ≤ 9223372036854775807 ∧ x.2 = 10)) (some (Lib.itoa x.1))
def ctzF (x : Int) : Option Int := guard (decide (0 ≤ x ∧ x < 18446744073709551616)) (some ((Lib.ctz 64 x.toNat : Nat) : Int))
theorem rd_str (w : World) (S : Nat → Prop) (b : ByteArray) : RD w S (.string b) (.str b.data.toList) := by
  have h := RD.str (w := w) (S := S) b.data.toList
  have : (⟨b.data.toList.toArray⟩ : ByteArray) = b := rfl
  rwa [this] at h
def strL (l : List ByteArray) : List (List UInt8) := l.map fun b => b.data.toList
theorem strL_len (l : List ByteArray) : (strL l).length = l.length := List.length_map ..
theorem strL_get {l : List ByteArray} {e : Nat} {y : List UInt8} (h : (strL l)[e]? = some y) : ∃ b, l[e]? = some b ∧ y = b.data.toList := by
  unfold strL at h
  rw [List.getElem?_map] at h
  cases hx : l[e]? with
  | none => rw [hx] at h; cases h
  | some b => rw [hx] at h; cases h; exact ⟨b, rfl, rfl⟩
theorem alloc_cell (w : World) (l : List ByteArray) (ty e : Nat) (b : ByteArray) (h : l[e]? = some b) : (w.alloc (.cells (l.map Value.string).toArray ty)).cell? ⟨w.heap.size, e, none⟩ = some (.string b) := by
  have h1 : (w.alloc (.cells (l.map Value.string).toArray ty)).heap[w.heap.size]? = some (.cells (l.map Value.string).toArray ty) := by
    show (w.heap.push _)[w.heap.size]? = _
    rw [Array.getElem?_push_size]
  simp only [World.cell?, h1, List.getElem?_toArray, List.getElem?_map, h]
  rfl
theorem rd_strs (w : World) (ty : Nat) (l : List ByteArray) : RD (w.alloc (.cells (l.map Value.string).toArray ty)) (Fresh w (w.alloc (.cells (l.map Value.string).toArray ty))) (.slice (some ⟨w.heap.size, 0, none⟩) l.length l.length) (.rov .s (strL l)) := by
  have hsz : w.heap.size < (w.alloc (.cells (l.map Value.string).toArray ty)).heap.size := by
    show w.heap.size < (w.heap.push _).size
    rw [Array.size_push]; omega
  by_cases hl : l = []
  · subst hl; exact .rov0 ..
  · have key := RD.rov (w := w.alloc (.cells (l.map Value.string).toArray ty)) (S := Fresh w (w.alloc (.cells (l.map Value.string).toArray ty))) w.heap.size 0 l.length .s (strL l)
      (fun e _ => ((l.map Value.string)[e]?).getD undef) ⟨Nat.le_refl _, hsz⟩ hsz (fun h => hl (by
        have := congrArg List.length h
        rw [strL_len] at this
        exact List.length_eq_zero_iff.1 this)) (Nat.le_of_eq (strL_len l))
      (fun e el j y h1 h2 => by
        obtain ⟨b, hb, rfl⟩ := strL_get h1
        cases j with
        | succ j => simp [Ty.enc] at h2
        | zero =>
          have h3 : (l.map Value.string)[e]? = some (.string b) := by rw [List.getElem?_map, hb]; rfl
          have h4 := alloc_cell w l ty e b hb
          simp only [Ty.size, Nat.mul_one, Nat.zero_add, Nat.add_zero, h3, Option.getD_some]
          exact h4)
      (fun e el j y h1 h2 => by
        obtain ⟨b, hb, rfl⟩ := strL_get h1
        cases j with
        | succ j => simp [Ty.enc] at h2
        | zero =>
          have h3 : (l.map Value.string)[e]? = some (.string b) := by rw [List.getElem?_map, hb]; rfl
          have hy : y = .str b.data.toList := by simpa [Ty.enc] using h2.symm
          subst hy
          rw [h3]
          exact rd_str _ _ b)
    have hlen : @List.length Ty.s.den (strL l) = l.length := strL_len l
    rw [hlen] at key
    exact key
theorem c95 (K : Nat) : CtOk prog 95 ⟨[.l (.v .s), .l (.v .s)], [], [.l (.v (.l .s))], [], [], splF⟩ :=
  ct_ss (rt := .l .s) splF Tryz.call95 fun l m r w hg hr => by
    obtain ⟨h1, h2⟩ := guard_some hr
    obtain ⟨g0, g1⟩ := of_decide_eq_true h1
    cases h2
    obtain ⟨x, hx⟩ := gl2 hg
    refine (Tryz.strings_Split ⟨l.toArray⟩ ⟨m.toArray⟩ x w g1 hx g0).mono ?_
    rintro e w' ⟨rfl, rfl⟩
    refine ⟨_, rfl, ?_, (Go.RowKit.Below.refl _ _).alloc (Nat.le_refl _) _⟩
    have hl := Lib.splitB_all ⟨m.toArray⟩ g0 0 _ ⟨l.toArray⟩ rfl
    have := rd_strs w 9 (Lib.splitB ⟨m.toArray⟩ 0 (Lib.countB ⟨l.toArray⟩ ⟨m.toArray⟩) ⟨l.toArray⟩)
    rw [hl] at this
    exact this
theorem c66 (K : Nat) : CtOk prog 66 ⟨[.l (.v .s), .l (.v .s)], [], [.l (.v .b)], [], [], conF⟩ :=
  ct_ss (rt := .b) conF Tryz.call66 fun l m r w hg hr => by
    obtain ⟨h1, h2⟩ := guard_some hr
    have g1 := of_decide_eq_true h1
    cases h2
    obtain ⟨x, hx⟩ := gl2 hg
    refine (Tryz.strings_Contains ⟨l.toArray⟩ ⟨m.toArray⟩ x w g1 hx).mono ?_
    rintro e w' ⟨rfl, rfl⟩
    exact ⟨_, rfl, .b _, Go.RowKit.Below.refl _ _⟩
theorem c132 (K : Nat) : CtOk prog 132 ⟨[.l (.v .s)], [], [.l (.v .s)], [], [], uppF⟩ :=
  ct_s (rt := .s) uppF Tryz.call132 fun l r w hg hr => by
    obtain ⟨h1, h2⟩ := guard_some hr
    rw [Bool.and_eq_true, List.all_eq_true] at h1
    cases h2
    refine (Tryz.strings_ToUpper_ascii ⟨l.toArray⟩ w (of_decide_eq_true h1.1) fun j b hb => of_decide_eq_true (h1.2 b (List.mem_of_getElem? hb))).mono ?_
    rintro e w' ⟨rfl, hb⟩
    exact ⟨_, rfl, .str _, hb⟩
theorem c133 (K : Nat) : CtOk prog 133 ⟨[.l (.v .s), .l (.v (.i .i64))], [], [.l (.v .s)], [], [], repF⟩ :=
  ct_sis repF Tryz.call133 fun l n r w hr => by
    obtain ⟨h1, h2⟩ := guard_some hr
    obtain ⟨g0, g1, g2⟩ := of_decide_eq_true h1
    cases h2
    obtain ⟨c, rfl⟩ : ∃ c : Nat, n = (c : Int) := ⟨n.toNat, by simp at g0; omega⟩
    simp only [Int.toNat_natCast] at g1 g2 ⊢
    exact Tryz.strings_Repeat ⟨l.toArray⟩ c w (by omega) g2
theorem c103 (K : Nat) : CtOk prog 103 ⟨[.l (.v (.i .i64)), .l (.v (.i .i64))], [], [.l (.v .s)], [], [], decF⟩ :=
  ct_ii (rt := .s) decF Tryz.call103 fun n b r w hg hr => by
    obtain ⟨h1, h2⟩ := guard_some hr
    obtain ⟨g0, g1, g2⟩ := of_decide_eq_true h1
    simp only at g0 g1 g2
    subst g2
    cases h2
    refine (Tryz.strconv_FormatInt_10 n g0 g1 w (gl1 hg)).mono ?_
    rintro e w' ⟨rfl, k, os, rfl⟩
    exact ⟨_, rfl, .str _, ⟨rfl, rfl, rfl, by show w.heap.size ≤ (w.heap ++ os).size; rw [Array.size_append]; omega, fun j hj => (Go.Sort.heap_grow_old (w.drewN k) os hj : _)⟩⟩
theorem Tz (x : Nat) (hx : x < 18446744073709551616) (w : World) (hT : x ≠ 0 → TabAt 6 Lib.deBruijn64tab w) :
    Calls Tryz.prog 185 #[.int .u64 x] w fun e w' => e = .returned (.int .i64 (Lib.ctz 64 x)) ∧ w' = w := Any7.bits_TrailingZeros Tryz.lays7x27 x hx w hT
theorem c185 (K : Nat) : CtOk prog 185 ⟨[.l (.v (.i .u64))], [], [.l (.v (.i .i64))], [], [], ctzF⟩ :=
  ct_i (rt := .i .i64) ctzF Tryz.call185 fun n r w hg hr => by
    obtain ⟨h1, h2⟩ := guard_some hr
    obtain ⟨g0, g1⟩ := of_decide_eq_true h1
    cases h2
    obtain ⟨c, rfl⟩ : ∃ c : Nat, n = (c : Int) := ⟨n.toNat, by omega⟩
    refine (Tz c (by omega) w fun _ => gl6 hg).mono ?_
    rintro e w' ⟨rfl, rfl⟩
    exact ⟨_, rfl, .i _ _, Go.RowKit.Below.refl _ _⟩
def F95 (K : Nat) (x : List UInt8 × List UInt8) : Option (List (List UInt8)) := splF x
def ct95 (K : Nat) : Ct := ⟨[.l (.v .s), .l (.v .s)], [], [.l (.v (.l .s))], [], [], F95 K⟩
def F66 (K : Nat) (x : List UInt8 × List UInt8) : Option (Bool) := conF x
def ct66 (K : Nat) : Ct := ⟨[.l (.v .s), .l (.v .s)], [], [.l (.v .b)], [], [], F66 K⟩
def F132 (K : Nat) (x : List UInt8) : Option (List UInt8) := uppF x
def ct132 (K : Nat) : Ct := ⟨[.l (.v .s)], [], [.l (.v .s)], [], [], F132 K⟩
def F133 (K : Nat) (x : List UInt8 × Int) : Option (List UInt8) := repF x
def ct133 (K : Nat) : Ct := ⟨[.l (.v .s), .l (.v (.i .i64))], [], [.l (.v .s)], [], [], F133 K⟩
def F103 (K : Nat) (x : Int × Int) : Option (List UInt8) := decF x
def ct103 (K : Nat) : Ct := ⟨[.l (.v (.i .i64)), .l (.v (.i .i64))], [], [.l (.v .s)], [], [], F103 K⟩
def F185 (K : Nat) (x : Int) : Option (Int) := ctzF x
def ct185 (K : Nat) : Ct := ⟨[.l (.v (.i .u64))], [], [.l (.v (.i .i64))], [], [], F185 K⟩
def ibF (x : List UInt8 × Int) : Option Int := some (Lib.indexByte x.1 x.2.toNat.toUInt8)
theorem ct_su {P : Program} [Gl P] {f : Nat} {rt : Ty} {q : IntKind} (F : List UInt8 × Int → Option rt.den) (hent : ∀ args w, (callFunc f args).run P w = .ok (.enter f args) w)
    (h : ∀ l m r w, (∀ g, g ∈ Gl.l P → GlAt P w g) → F (l, m) = some r → Calls P f #[.string ⟨l.toArray⟩, .int q m] w fun e w' => ∃ v, e = .returned v ∧ RD w' (Fresh w w') v (leafD rt r) ∧ Go.RowKit.Below w.heap.size w w') :
    CtOk P f ⟨[.l (.v .s), .l (.v (.i q))], [], [.l (.v rt)], [], [], F⟩ := by
  intro w β S vs args hs res hs' hF hp
  unfold funOf at hF
  split at hF
  case h_2 => cases hF
  rename_i a b ha hb
  obtain ⟨d0, d1, rfl, rfl⟩ := grab2 ha
  obtain ⟨rfl, rfl⟩ := grab0 hb
  obtain ⟨⟨l, m⟩, hx, hd⟩ := unDs_spec _ _ _ hF
  have e0 : d0 = .str l := dsub_str hd.1
  have e1 : d1 = .i q m := dsub_i hd.2.1
  subst e0 e1
  have hF' : (bindO (F (l, m)) fun r => some ([SV.d (leafD rt r)], ([] : List Blk))) = some (res, hs') := hx
  obtain ⟨r, hr, h2⟩ := bindO_some hF'
  cases h2
  have hsz := hp.sz
  obtain ⟨v0, v1, rfl⟩ : ∃ v0 v1, vs = #[v0, v1] := by
    have : vs.size = 2 := hsz
    refine ⟨vs[0]'(by omega), vs[1]'(by omega), ?_⟩
    apply Array.ext
    · simpa using this
    · intro i h1 h2
      simp at h2
      match i, h2 with
      | 0, _ => rfl
      | 1, _ => rfl
      | i + 2, h2 => omega
  have r0 := hp.args 0 v0 _ rfl rfl
  have r1 := hp.args 1 v1 _ rfl rfl
  have e0 : v0 = .string ⟨l.toArray⟩ := by cases r0 with | d h => cases h; rfl
  have e1 : v1 = .int q m := by cases r1 with | d h => cases h; rfl
  subst e0 e1
  refine .inl ⟨hent _ _, (h l m r w (fun g hg => (hp.gl g hg).2) hr).mono fun e w' ⟨v, he, hv, bel⟩ => ⟨v, β, _, he, post_data hp hv bel⟩⟩
theorem c200 (K : Nat) : CtOk prog 200 ⟨[.l (.v .s), .l (.v (.i .u8))], [], [.l (.v (.i .i64))], [], [], ibF⟩ :=
  ct_su (rt := .i .i64) ibF Tryz.call200 fun l m r w hg hr => by
    cases hr
    refine (Tryz.strings_IndexByte ⟨l.toArray⟩ m w).mono ?_
    rintro e w' ⟨rfl, rfl⟩
    exact ⟨_, rfl, .i _ _, Go.RowKit.Below.refl _ _⟩
def cutF (x : List UInt8 × List UInt8) : Option (List UInt8 × List UInt8 × Bool) := guard (decide (x.1.length < 4294967281)) (some (Lib.cut x.1 x.2))
def cpF (x : List UInt8 × List UInt8) : Option (List UInt8 × Bool) := some (Lib.trimPrefix x.1 x.2, Lib.hasPrefix x.1 x.2)
def csF (x : List UInt8 × List UInt8) : Option (List UInt8 × Bool) := guard (decide (x.1.length ≤ 9223372036854775807)) (some (Lib.trimSuffix x.1 x.2, Lib.hasSuffix x.1 x.2))
def srtF (xs : List (List UInt8)) : Option (List (List UInt8)) := guard (decide (xs.length < 4611686018427387904)) (some (xs.mergeSort fun x y => decide (x ≤ y)))
def cmpF (xs : List (List UInt8)) : Option (List (List UInt8)) := guard (decide (xs.length < 4611686018427387904)) (some (Lib.compact xs))
theorem below_drew (w : World) (n : Nat) : Go.RowKit.Below w.heap.size w (w.drewN n) := ⟨rfl, rfl, rfl, Nat.le_refl _, fun _ _ => rfl⟩
theorem c83 (K : Nat) : CtOk prog 83 ⟨[.l (.v .s), .l (.v .s)], [], [.l (.v .s), .l (.v .s), .l (.v .b)], [], [], cutF⟩ :=
  ct_ss3 cutF Tryz.call83 fun l m a c b w hg hr => by
    obtain ⟨h1, h2⟩ := guard_some hr
    have g1 := of_decide_eq_true h1
    obtain ⟨x, hx⟩ := gl2 hg
    have h2 := Option.some.inj h2
    refine (Tryz.strings_Cut ⟨l.toArray⟩ ⟨m.toArray⟩ x w g1 hx).mono ?_
    rintro e w' ⟨rfl, n, rfl⟩
    refine ⟨?_, below_drew w n⟩
    show _ = Ending.returned (.tuple #[.string ⟨a.toArray⟩, .string ⟨c.toArray⟩, .bool b])
    rw [← show (Lib.cut l m).1 = a from congrArg (fun z => z.1) h2, ← show (Lib.cut l m).2.1 = c from congrArg (fun z => z.2.1) h2, ← show (Lib.cut l m).2.2 = b from congrArg (fun z => z.2.2) h2]
theorem c84 (K : Nat) : CtOk prog 84 ⟨[.l (.v .s), .l (.v .s)], [], [.l (.v .s), .l (.v .b)], [], [], cpF⟩ :=
  ct_ss2 cpF Tryz.call84 fun l m a b w hg hr => by
    have h2 := Option.some.inj hr
    refine (Tryz.strings_CutPrefix ⟨l.toArray⟩ ⟨m.toArray⟩ w).mono ?_
    rintro e w' ⟨rfl, rfl⟩
    refine ⟨?_, Go.RowKit.Below.refl _ _⟩
    show _ = Ending.returned (.tuple #[.string ⟨a.toArray⟩, .bool b])
    rw [← show Lib.trimPrefix l m = a from congrArg (fun z => z.1) h2, ← show Lib.hasPrefix l m = b from congrArg (fun z => z.2) h2]
theorem c85 (K : Nat) : CtOk prog 85 ⟨[.l (.v .s), .l (.v .s)], [], [.l (.v .s), .l (.v .b)], [], [], csF⟩ :=
  ct_ss2 csF Tryz.call85 fun l m a b w hg hr => by
    obtain ⟨h1, h2⟩ := guard_some hr
    have g1 := of_decide_eq_true h1
    have h2 := Option.some.inj h2
    refine (Tryz.strings_CutSuffix ⟨l.toArray⟩ ⟨m.toArray⟩ w g1).mono ?_
    rintro e w' ⟨rfl, rfl⟩
    refine ⟨?_, Go.RowKit.Below.refl _ _⟩
    show _ = Ending.returned (.tuple #[.string ⟨a.toArray⟩, .bool b])
    rw [← show Lib.trimSuffix l m = a from congrArg (fun z => z.1) h2, ← show Lib.hasSuffix l m = b from congrArg (fun z => z.2) h2]
theorem c120 (K : Nat) : CtOk prog 120 ⟨[.l (.all 0)], [⟨1, true, .row .s⟩], [], [⟨1, false, .row .s⟩], [true], srtF⟩ :=
  ct_turnS (fun xs => xs.mergeSort fun x y => decide (x ≤ y)) (fun xs => List.length_mergeSort xs) Tryz.call120 (fun blk o cap ss w h1 h2 h3 => Tryz.slices_Sort_string blk o cap ss w h1 h2 h3)
    fun A w => (Tryz.slices_Sort_string_none A 0 w).mono fun e w' ⟨h1, h2⟩ => ⟨h1, 0, #[], by rw [h2, Go.Sort.grow_empty]; rfl⟩
theorem c121 (K : Nat) : CtOk prog 121 ⟨[.l (.all 0)], [⟨1, true, .row .s⟩], [.l (.all 0)], [⟨1, true, .row .s⟩], [true], cmpF⟩ :=
  ct_shortS Lib.compact (fun xs => Go.Lib.compact_length_le xs) Tryz.call121 (fun blk o cap ss w h1 h2 h3 => Tryz.slices_Compact_string blk o cap ss w h1 h2 h3) fun A cap w => Tryz.slices_Compact_string_empty A cap w
def F200 (K : Nat) (x : List UInt8 × Int) : Option (Int) := ibF x
def ct200 (K : Nat) : Ct := ⟨[.l (.v .s), .l (.v (.i .u8))], [], [.l (.v (.i .i64))], [], [], F200 K⟩
def F83 (K : Nat) (x : List UInt8 × List UInt8) : Option (List UInt8 × List UInt8 × Bool) := cutF x
def ct83 (K : Nat) : Ct := ⟨[.l (.v .s), .l (.v .s)], [], [.l (.v .s), .l (.v .s), .l (.v .b)], [], [], F83 K⟩
def F84 (K : Nat) (x : List UInt8 × List UInt8) : Option (List UInt8 × Bool) := cpF x
def ct84 (K : Nat) : Ct := ⟨[.l (.v .s), .l (.v .s)], [], [.l (.v .s), .l (.v .b)], [], [], F84 K⟩
def F85 (K : Nat) (x : List UInt8 × List UInt8) : Option (List UInt8 × Bool) := csF x
def ct85 (K : Nat) : Ct := ⟨[.l (.v .s), .l (.v .s)], [], [.l (.v .s), .l (.v .b)], [], [], F85 K⟩
def F120 (K : Nat) (x : List (List UInt8)) : Option (List (List UInt8)) := srtF x
def ct120 (K : Nat) : Ct := ⟨[.l (.all 0)], [⟨1, true, .row .s⟩], [], [⟨1, false, .row .s⟩], [true], F120 K⟩
def F121 (K : Nat) (x : List (List UInt8)) : Option (List (List UInt8)) := cmpF x
def ct121 (K : Nat) : Ct := ⟨[.l (.all 0)], [⟨1, true, .row .s⟩], [.l (.all 0)], [⟨1, true, .row .s⟩], [true], F121 K⟩
end Go.U.Tryz
