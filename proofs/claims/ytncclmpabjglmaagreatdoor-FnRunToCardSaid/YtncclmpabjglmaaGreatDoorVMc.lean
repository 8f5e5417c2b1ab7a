/- A part of the proof. No condition. -/
import Derived.Test.YtncclmpabjglmaaGreatDoorU1
import Derived.Laws.Externs
import Derived.Shelf.Strings.OnBuilder
import Derived.Shelf.LaysM
import Derived.Shelf.Strconv.Itoa4
import Derived.Shelf.Strings.Search3
import Derived.Shelf.Strings.Split
import Derived.Shelf.Strings.Replace
import Derived.Shelf.Strings.Repeat
import Derived.Shelf.Spec.TrailingZeros
import Derived.Ground.Names7Prog
import Derived.Shelf.SlicesG.Clone
import Derived.Ground.NamesProg
import Derived.Ground.SlgnProg
import Derived.Test.YtncclmpabjglmaaGreatDoorProg
set_option linter.unusedVariables false
set_option linter.unusedSimpArgs false
set_option linter.unusedSectionVars false
namespace Go.Proofs
open Go.Shelf
def Tryz.lays158_ren : Go.Shelf.Ren := ⟨fun | 158 => 132 | 165 => 147 | 166 => 148 | 167 => 186 | 169 => 150 | 230 => 187 | 203 => 188 | 240 => 205 | 241 => 206 | 197 => 192 | 118 => 234 | 168 => 235 | 270 => 236 | 262 => 237 | 276 => 249 | 277 => 250 | 260 => 245 | 242 => 258 | 313 => 259 | 278 => 272 | 274 => 273 | 275 => 274 | n => n, fun | 9 => 9 | 4 => 4 | 3 => 3 | 5 => 5 | 72 => 147 | 0 => 0 | 76 => 151 | 75 => 150 | 107 => 166 | 70 => 145 | 20 => 20 | 37 => 22 | 127 => 178 | 21 => 21 | 105 => 168 | 164 => 197 | 162 => 207 | 203 => 205 | 119 => 212 | 46 => 87 | 139 => 215 | 138 => 214 | 51 => 172 | 160 => 218 | 208 => 226 | 206 => 224 | 80 => 111 | n => n, fun | 13 => 0 | 3 => 3 | 4 => 4 | n => n⟩
theorem Tryz.lays158 : Go.Proofs.Lays.n158 Tryz.prog Tryz.lays158_ren := {
  mixed := by kernel_rfl
  f118 := Tryz.func234.trans (congrArg some (by kernel_rfl))
  f158 := Tryz.func132.trans (congrArg some (by kernel_rfl))
  f165 := Tryz.func147.trans (congrArg some (by kernel_rfl))
  f166 := Tryz.func148.trans (congrArg some (by kernel_rfl))
  f167 := Tryz.func186.trans (congrArg some (by kernel_rfl))
  f168 := Tryz.func235.trans (congrArg some (by kernel_rfl))
  f169 := Tryz.func150.trans (congrArg some (by kernel_rfl))
  f197 := Tryz.func192.trans (congrArg some (by kernel_rfl))
  f203 := Tryz.func188.trans (congrArg some (by kernel_rfl))
  f230 := Tryz.func187.trans (congrArg some (by kernel_rfl))
  f240 := Tryz.func205.trans (congrArg some (by kernel_rfl))
  f241 := Tryz.func206.trans (congrArg some (by kernel_rfl))
  f242 := Tryz.func258.trans (congrArg some (by kernel_rfl))
  f260 := Tryz.func245.trans (congrArg some (by kernel_rfl))
  f262 := Tryz.func237.trans (congrArg some (by kernel_rfl))
  f270 := Tryz.func236.trans (congrArg some (by kernel_rfl))
  f274 := Tryz.func273.trans (congrArg some (by kernel_rfl))
  f275 := Tryz.func274.trans (congrArg some (by kernel_rfl))
  f276 := Tryz.func249.trans (congrArg some (by kernel_rfl))
  f277 := Tryz.func250.trans (congrArg some (by kernel_rfl))
  f278 := Tryz.func272.trans (congrArg some (by kernel_rfl))
  f313 := Tryz.func259.trans (congrArg some (by kernel_rfl))
  t0 := Tryz.underlying0
  a0 := Tryz.isAgg0
  z0 := Tryz.sizeOf0
  v0 := Tryz.zeroValue0
  t3 := Tryz.underlying3
  a3 := Tryz.isAgg3
  z3 := Tryz.sizeOf3
  v3 := Tryz.zeroValue3
  t4 := Tryz.underlying4
  a4 := Tryz.isAgg4
  z4 := Tryz.sizeOf4
  v4 := Tryz.zeroValue4
  t5 := Tryz.underlying5
  a5 := Tryz.isAgg5
  z5 := Tryz.sizeOf5
  v5 := Tryz.zeroValue5
  t9 := Tryz.underlying9
  a9 := Tryz.isAgg9
  z9 := Tryz.sizeOf9
  v9 := Tryz.zeroValue9
  t20 := Tryz.underlying20
  a20 := Tryz.isAgg20
  z20 := Tryz.sizeOf20
  v20 := Tryz.zeroValue20
  t21 := Tryz.underlying21
  a21 := Tryz.isAgg21
  z21 := Tryz.sizeOf21
  v21 := Tryz.zeroValue21
  t37 := Tryz.underlying22
  a37 := Tryz.isAgg22
  z37 := Tryz.sizeOf22
  v37 := Tryz.zeroValue22
  t46 := Tryz.underlying87
  a46 := Tryz.isAgg87
  z46 := Tryz.sizeOf87
  v46 := Tryz.zeroValue87
  t51 := Tryz.underlying172
  a51 := Tryz.isAgg172
  z51 := Tryz.sizeOf172
  v51 := Tryz.zeroValue172
  t70 := Tryz.underlying145
  a70 := Tryz.isAgg145
  z70 := Tryz.sizeOf145
  v70 := Tryz.zeroValue145
  t72 := Tryz.underlying147
  a72 := Tryz.isAgg147
  z72 := Tryz.sizeOf147
  v72 := Tryz.zeroValue147
  t75 := Tryz.underlying150
  a75 := Tryz.isAgg150
  z75 := Tryz.sizeOf150
  v75 := Tryz.zeroValue150
  t76 := Tryz.underlying151
  a76 := Tryz.isAgg151
  z76 := Tryz.sizeOf151
  v76 := Tryz.zeroValue151
  t105 := Tryz.underlying168
  a105 := Tryz.isAgg168
  z105 := Tryz.sizeOf168
  v105 := Tryz.zeroValue168
  t107 := Tryz.underlying166
  a107 := Tryz.isAgg166
  z107 := Tryz.sizeOf166
  v107 := Tryz.zeroValue166
  t119 := Tryz.underlying212
  a119 := Tryz.isAgg212
  z119 := Tryz.sizeOf212
  t127 := Tryz.underlying178
  a127 := Tryz.isAgg178
  z127 := Tryz.sizeOf178
  v127 := Tryz.zeroValue178
  t138 := Tryz.underlying214
  a138 := Tryz.isAgg214
  z138 := Tryz.sizeOf214
  v138 := Tryz.zeroValue214
  t139 := Tryz.underlying215
  a139 := Tryz.isAgg215
  z139 := Tryz.sizeOf215
  v139 := Tryz.zeroValue215
  t160 := Tryz.underlying218
  a160 := Tryz.isAgg218
  z160 := Tryz.sizeOf218
  v160 := Tryz.zeroValue218
  t162 := Tryz.underlying207
  a162 := Tryz.isAgg207
  z162 := Tryz.sizeOf207
  v162 := Tryz.zeroValue207
  t164 := Tryz.underlying197
  a164 := Tryz.isAgg197
  z164 := Tryz.sizeOf197
  v164 := Tryz.zeroValue197
  t203 := Tryz.underlying205
  a203 := Tryz.isAgg205
  z203 := Tryz.sizeOf205
  v203 := Tryz.zeroValue205
  t206 := Tryz.underlying224
  a206 := Tryz.isAgg224
  z206 := Tryz.sizeOf224
  v206 := Tryz.zeroValue224
  t208 := Tryz.underlying226
  a208 := Tryz.isAgg226
  z208 := Tryz.sizeOf226
  v208 := Tryz.zeroValue226
  g3 := by kernel_rfl
  g4 := by kernel_rfl
  g13 := by kernel_rfl }
theorem Tryz.Builder_Extra_158 : Builder.Extra Tryz.prog Tryz.lays158_ren := {
  sizeBuilder := by kernel_rfl
  liesBuilder := by kernel_rfl
  t5 := Tryz.underlying5
  a5 := Tryz.isAgg5
  z5 := Tryz.sizeOf5
  v5 := Tryz.zeroValue5
  infoByte := by kernel_rfl
  cellsByte := by kernel_rfl
  sizeByte := by kernel_rfl
  neB5 := by decide }
open Go.RowKit in
theorem Tryz.strings_ToUpper_ascii (s : ByteArray) (w : World) (hs : s.size ≤ 140737488355328) (hascii : ∀ (j : Nat) (b : UInt8), s.data.toList[j]? = some b → b.toNat < 128) :
    Calls Tryz.prog 132 #[.string s] w fun e w' => e = .returned (.string ⟨(Lib.toUpperA s.data.toList).toArray⟩) ∧ Below w.heap.size w w' := Any.strings_ToUpper_ascii Tryz.lays158 Tryz.Builder_Extra_158 s w hs hascii
open Go.RowKit Go.Sort Go.Lib in
def Tryz.laysM173_ren : Go.Shelf.Ren := ⟨fun | 173 => 133 | 246 => 189 | 283 => 238 | 284 => 239 | 285 => 240 | 286 => 241 | 129 => 261 | 317 => 260 | 318 => 262 | 319 => 263 | 320 => 264 | 337 => 275 | 338 => 276 | n => n, fun | 2 => 2 | 3 => 3 | 9 => 9 | 4 => 4 | 171 => 190 | 0 => 0 | 53 => 175 | 37 => 22 | 5 => 5 | 173 => 193 | 212 => 209 | 51 => 172 | 20 => 20 | 213 => 210 | 46 => 87 | 232 => 227 | 233 => 228 | n => n, fun | 17 => 1 | 18 => 5 | 19 => 6 | n => n⟩
theorem Tryz.laysM173 : Go.Proofs.LaysM.n173 Tryz.prog Tryz.laysM173_ren := {
  mixed := by kernel_rfl
  f129 := Tryz.func261.trans (congrArg some (by kernel_rfl))
  f173 := Tryz.func133.trans (congrArg some (by kernel_rfl))
  f246 := Tryz.func189.trans (congrArg some (by kernel_rfl))
  f283 := Tryz.func238.trans (congrArg some (by kernel_rfl))
  f284 := Tryz.func239.trans (congrArg some (by kernel_rfl))
  f285 := Tryz.func240.trans (congrArg some (by kernel_rfl))
  f286 := Tryz.func241.trans (congrArg some (by kernel_rfl))
  f317 := Tryz.func260.trans (congrArg some (by kernel_rfl))
  f318 := Tryz.func262.trans (congrArg some (by kernel_rfl))
  f319 := Tryz.func263.trans (congrArg some (by kernel_rfl))
  f320 := Tryz.func264.trans (congrArg some (by kernel_rfl))
  f337 := Tryz.func275.trans (congrArg some (by kernel_rfl))
  f338 := Tryz.func276.trans (congrArg some (by kernel_rfl))
  t0 := Tryz.underlying0
  a0 := Tryz.isAgg0
  z0 := Tryz.sizeOf0
  v0 := Tryz.zeroValue0
  t2 := Tryz.underlying2
  a2 := Tryz.isAgg2
  z2 := Tryz.sizeOf2
  v2 := Tryz.zeroValue2
  t3 := Tryz.underlying3
  a3 := Tryz.isAgg3
  z3 := Tryz.sizeOf3
  v3 := Tryz.zeroValue3
  t4 := Tryz.underlying4
  a4 := Tryz.isAgg4
  z4 := Tryz.sizeOf4
  v4 := Tryz.zeroValue4
  t5 := Tryz.underlying5
  a5 := Tryz.isAgg5
  z5 := Tryz.sizeOf5
  v5 := Tryz.zeroValue5
  t9 := Tryz.underlying9
  a9 := Tryz.isAgg9
  z9 := Tryz.sizeOf9
  v9 := Tryz.zeroValue9
  t20 := Tryz.underlying20
  a20 := Tryz.isAgg20
  z20 := Tryz.sizeOf20
  v20 := Tryz.zeroValue20
  t37 := Tryz.underlying22
  a37 := Tryz.isAgg22
  z37 := Tryz.sizeOf22
  v37 := Tryz.zeroValue22
  t46 := Tryz.underlying87
  a46 := Tryz.isAgg87
  z46 := Tryz.sizeOf87
  v46 := Tryz.zeroValue87
  t51 := Tryz.underlying172
  a51 := Tryz.isAgg172
  z51 := Tryz.sizeOf172
  v51 := Tryz.zeroValue172
  t53 := Tryz.underlying175
  a53 := Tryz.isAgg175
  z53 := Tryz.sizeOf175
  v53 := Tryz.zeroValue175
  t171 := Tryz.underlying190
  a171 := Tryz.isAgg190
  z171 := Tryz.sizeOf190
  v171 := Tryz.zeroValue190
  t173 := Tryz.underlying193
  a173 := Tryz.isAgg193
  z173 := Tryz.sizeOf193
  v173 := Tryz.zeroValue193
  t212 := Tryz.underlying209
  a212 := Tryz.isAgg209
  z212 := Tryz.sizeOf209
  v212 := Tryz.zeroValue209
  t213 := Tryz.underlying210
  a213 := Tryz.isAgg210
  z213 := Tryz.sizeOf210
  t232 := Tryz.underlying227
  a232 := Tryz.isAgg227
  z232 := Tryz.sizeOf227
  v232 := Tryz.zeroValue227
  t233 := Tryz.underlying228
  a233 := Tryz.isAgg228
  z233 := Tryz.sizeOf228
  v233 := Tryz.zeroValue228
  g17 := by kernel_rfl
  g18 := by kernel_rfl
  g19 := by kernel_rfl
  i0 := by kernel_rfl
  i2 := by kernel_rfl
  i3 := by kernel_rfl
  i4 := by kernel_rfl
  i5 := by kernel_rfl
  i9 := by kernel_rfl
  i20 := by kernel_rfl
  i37 := by kernel_rfl
  i46 := by kernel_rfl
  i51 := by kernel_rfl
  i53 := by kernel_rfl
  i171 := by kernel_rfl
  i173 := by kernel_rfl
  i212 := by kernel_rfl
  i232 := by kernel_rfl
  i233 := by kernel_rfl
  m17 := by kernel_rfl
  m18 := by kernel_rfl
  m19 := by kernel_rfl }
open Go.RowKit Go.Sort Go.Lib in
theorem Tryz.strconv_FormatInt_10 (n : Int) (h0 : -9223372036854775808 ≤ n) (h1 : n ≤ 9223372036854775807) (w : World) (htab : Lib.TabIs Tryz.prog w "internal/strconv.uint64pow10" .u64 Lib.pow10Tab) :
    Calls Tryz.prog 133 #[.int .i64 n, .int .i64 10] w fun e w' => e = .returned (.string ⟨(Lib.itoa n).toArray⟩) ∧ ∃ k os, w' = grow (w.drewN k) os := Any.strconv_FormatInt_10 Tryz.laysM173 n h0 h1 w htab
open Go.RowKit Go.Sort Go.Lib in
open Go.RowKit Go.Lib in
def Tryz.lays144_ren : Go.Shelf.Ren := ⟨fun | 144 => 180 | 143 => 191 | 219 => 244 | 217 => 265 | 225 => 266 | 224 => 267 | 267 => 268 | 266 => 277 | 314 => 278 | n => n, fun | 9 => 9 | 4 => 4 | 3 => 3 | 5 => 5 | 46 => 87 | 146 => 173 | 51 => 172 | n => n, fun | 1 => 2 | n => n⟩
theorem Tryz.lays144 : Go.Proofs.Lays.n144 Tryz.prog Tryz.lays144_ren := {
  mixed := by kernel_rfl
  f143 := Tryz.func191.trans (congrArg some (by kernel_rfl))
  f144 := Tryz.func180.trans (congrArg some (by kernel_rfl))
  f217 := Tryz.func265.trans (congrArg some (by kernel_rfl))
  f219 := Tryz.func244.trans (congrArg some (by kernel_rfl))
  f224 := Tryz.func267.trans (congrArg some (by kernel_rfl))
  f225 := Tryz.func266.trans (congrArg some (by kernel_rfl))
  f266 := Tryz.func277.trans (congrArg some (by kernel_rfl))
  f267 := Tryz.func268.trans (congrArg some (by kernel_rfl))
  f314 := Tryz.func278.trans (congrArg some (by kernel_rfl))
  t3 := Tryz.underlying3
  a3 := Tryz.isAgg3
  z3 := Tryz.sizeOf3
  v3 := Tryz.zeroValue3
  t4 := Tryz.underlying4
  a4 := Tryz.isAgg4
  z4 := Tryz.sizeOf4
  v4 := Tryz.zeroValue4
  t5 := Tryz.underlying5
  a5 := Tryz.isAgg5
  z5 := Tryz.sizeOf5
  v5 := Tryz.zeroValue5
  t9 := Tryz.underlying9
  a9 := Tryz.isAgg9
  z9 := Tryz.sizeOf9
  v9 := Tryz.zeroValue9
  t46 := Tryz.underlying87
  a46 := Tryz.isAgg87
  z46 := Tryz.sizeOf87
  v46 := Tryz.zeroValue87
  t51 := Tryz.underlying172
  a51 := Tryz.isAgg172
  z51 := Tryz.sizeOf172
  v51 := Tryz.zeroValue172
  t146 := Tryz.underlying173
  a146 := Tryz.isAgg173
  z146 := Tryz.sizeOf173
  v146 := Tryz.zeroValue173
  g1 := by kernel_rfl }
open Go.RowKit Go.Lib in
theorem Tryz.strings_Contains (s sub : ByteArray) (m : Int) (w : World) (hs : s.size < 4294967281) (hm : w.cell? ⟨2, 0, none⟩ = some (.int .i64 m)) :
    Calls Tryz.prog 180 #[.string s, .string sub] w fun e w' => e = .returned (.bool (Lib.contains s.data.toList sub.data.toList)) ∧ w' = w := Any.strings_Contains Tryz.lays144 s sub m w hs hm
def Tryz.lays146_ren : Go.Shelf.Ren := ⟨fun | 146 => 233 | 221 => 257 | 268 => 271 | 138 => 190 | 143 => 191 | 195 => 242 | 197 => 192 | 218 => 243 | 219 => 244 | 260 => 245 | 217 => 265 | 225 => 266 | 224 => 267 | 267 => 268 | 266 => 277 | 314 => 278 | n => n, fun | 9 => 9 | 31 => 70 | 3 => 3 | 4 => 4 | 0 => 0 | 105 => 168 | 21 => 21 | 5 => 5 | 46 => 87 | 119 => 212 | 139 => 215 | 138 => 214 | 146 => 173 | 51 => 172 | n => n, fun | 1 => 2 | 3 => 3 | 4 => 4 | n => n⟩
theorem Tryz.lays146 : Go.Proofs.Lays.n146 Tryz.prog Tryz.lays146_ren := {
  mixed := by kernel_rfl
  f138 := Tryz.func190.trans (congrArg some (by kernel_rfl))
  f143 := Tryz.func191.trans (congrArg some (by kernel_rfl))
  f146 := Tryz.func233.trans (congrArg some (by kernel_rfl))
  f195 := Tryz.func242.trans (congrArg some (by kernel_rfl))
  f197 := Tryz.func192.trans (congrArg some (by kernel_rfl))
  f217 := Tryz.func265.trans (congrArg some (by kernel_rfl))
  f218 := Tryz.func243.trans (congrArg some (by kernel_rfl))
  f219 := Tryz.func244.trans (congrArg some (by kernel_rfl))
  f221 := Tryz.func257.trans (congrArg some (by kernel_rfl))
  f224 := Tryz.func267.trans (congrArg some (by kernel_rfl))
  f225 := Tryz.func266.trans (congrArg some (by kernel_rfl))
  f260 := Tryz.func245.trans (congrArg some (by kernel_rfl))
  f266 := Tryz.func277.trans (congrArg some (by kernel_rfl))
  f267 := Tryz.func268.trans (congrArg some (by kernel_rfl))
  f268 := Tryz.func271.trans (congrArg some (by kernel_rfl))
  f314 := Tryz.func278.trans (congrArg some (by kernel_rfl))
  t0 := Tryz.underlying0
  a0 := Tryz.isAgg0
  z0 := Tryz.sizeOf0
  v0 := Tryz.zeroValue0
  t3 := Tryz.underlying3
  a3 := Tryz.isAgg3
  z3 := Tryz.sizeOf3
  v3 := Tryz.zeroValue3
  t4 := Tryz.underlying4
  a4 := Tryz.isAgg4
  z4 := Tryz.sizeOf4
  v4 := Tryz.zeroValue4
  t5 := Tryz.underlying5
  a5 := Tryz.isAgg5
  z5 := Tryz.sizeOf5
  v5 := Tryz.zeroValue5
  t9 := Tryz.underlying9
  a9 := Tryz.isAgg9
  z9 := Tryz.sizeOf9
  v9 := Tryz.zeroValue9
  t21 := Tryz.underlying21
  a21 := Tryz.isAgg21
  z21 := Tryz.sizeOf21
  v21 := Tryz.zeroValue21
  t31 := Tryz.underlying70
  a31 := Tryz.isAgg70
  z31 := Tryz.sizeOf70
  v31 := Tryz.zeroValue70
  t46 := Tryz.underlying87
  a46 := Tryz.isAgg87
  z46 := Tryz.sizeOf87
  v46 := Tryz.zeroValue87
  t51 := Tryz.underlying172
  a51 := Tryz.isAgg172
  z51 := Tryz.sizeOf172
  v51 := Tryz.zeroValue172
  t105 := Tryz.underlying168
  a105 := Tryz.isAgg168
  z105 := Tryz.sizeOf168
  v105 := Tryz.zeroValue168
  t119 := Tryz.underlying212
  a119 := Tryz.isAgg212
  z119 := Tryz.sizeOf212
  t138 := Tryz.underlying214
  a138 := Tryz.isAgg214
  z138 := Tryz.sizeOf214
  v138 := Tryz.zeroValue214
  t139 := Tryz.underlying215
  a139 := Tryz.isAgg215
  z139 := Tryz.sizeOf215
  v139 := Tryz.zeroValue215
  t146 := Tryz.underlying173
  a146 := Tryz.isAgg173
  z146 := Tryz.sizeOf173
  v146 := Tryz.zeroValue173
  g1 := by kernel_rfl
  g3 := by kernel_rfl
  g4 := by kernel_rfl }
open Go.RowKit Go.Lib in
theorem Tryz.strings_Split (s sep : ByteArray) (m : Int) (w : World) (hs : s.size < 4294967281) (hm : w.cell? ⟨2, 0, none⟩ = some (.int .i64 m)) (h1 : 1 ≤ sep.size) :
    Calls Tryz.prog 233 #[.string s, .string sep] w fun e w' =>
      e = .returned (.slice (some ⟨w.heap.size, 0, none⟩) (Lib.countB s sep + 1) (Lib.countB s sep + 1)) ∧ w' = w.alloc (.cells ((Lib.splitB sep 0 (Lib.countB s sep) s).map Value.string).toArray 9) := Any.strings_Split Tryz.lays146 (by kernel_rfl) s sep m w hs hm h1
open Go.RowKit Go.Lib in
def Tryz.lays105_ren : Go.Shelf.Ren := ⟨fun | 105 => 104 | 212 => 145 | 99 => 146 | 165 => 147 | 166 => 148 | 170 => 149 | 169 => 150 | 263 => 202 | 264 => 203 | 206 => 204 | 240 => 205 | 241 => 206 | 276 => 249 | 277 => 250 | n => n, fun | 9 => 9 | 3 => 3 | 4 => 4 | 20 => 20 | 0 => 0 | 46 => 87 | 109 => 142 | 5 => 5 | 72 => 147 | 76 => 151 | 51 => 172 | 146 => 173 | 53 => 175 | 148 => 176 | 70 => 145 | 37 => 22 | 75 => 150 | 127 => 178 | 164 => 197 | 80 => 111 | n => n, fun | n => n⟩
theorem Tryz.lays105 : Go.Proofs.Lays.n105 Tryz.prog Tryz.lays105_ren := {
  mixed := by kernel_rfl
  f99 := Tryz.func146.trans (congrArg some (by kernel_rfl))
  f105 := Tryz.func104.trans (congrArg some (by kernel_rfl))
  f165 := Tryz.func147.trans (congrArg some (by kernel_rfl))
  f166 := Tryz.func148.trans (congrArg some (by kernel_rfl))
  f169 := Tryz.func150.trans (congrArg some (by kernel_rfl))
  f170 := Tryz.func149.trans (congrArg some (by kernel_rfl))
  f206 := Tryz.func204.trans (congrArg some (by kernel_rfl))
  f212 := Tryz.func145.trans (congrArg some (by kernel_rfl))
  f240 := Tryz.func205.trans (congrArg some (by kernel_rfl))
  f241 := Tryz.func206.trans (congrArg some (by kernel_rfl))
  f263 := Tryz.func202.trans (congrArg some (by kernel_rfl))
  f264 := Tryz.func203.trans (congrArg some (by kernel_rfl))
  f276 := Tryz.func249.trans (congrArg some (by kernel_rfl))
  f277 := Tryz.func250.trans (congrArg some (by kernel_rfl))
  t0 := Tryz.underlying0
  a0 := Tryz.isAgg0
  z0 := Tryz.sizeOf0
  v0 := Tryz.zeroValue0
  t3 := Tryz.underlying3
  a3 := Tryz.isAgg3
  z3 := Tryz.sizeOf3
  v3 := Tryz.zeroValue3
  t4 := Tryz.underlying4
  a4 := Tryz.isAgg4
  z4 := Tryz.sizeOf4
  v4 := Tryz.zeroValue4
  t5 := Tryz.underlying5
  a5 := Tryz.isAgg5
  z5 := Tryz.sizeOf5
  v5 := Tryz.zeroValue5
  t9 := Tryz.underlying9
  a9 := Tryz.isAgg9
  z9 := Tryz.sizeOf9
  v9 := Tryz.zeroValue9
  t20 := Tryz.underlying20
  a20 := Tryz.isAgg20
  z20 := Tryz.sizeOf20
  v20 := Tryz.zeroValue20
  t37 := Tryz.underlying22
  a37 := Tryz.isAgg22
  z37 := Tryz.sizeOf22
  v37 := Tryz.zeroValue22
  t46 := Tryz.underlying87
  a46 := Tryz.isAgg87
  z46 := Tryz.sizeOf87
  v46 := Tryz.zeroValue87
  t51 := Tryz.underlying172
  a51 := Tryz.isAgg172
  z51 := Tryz.sizeOf172
  v51 := Tryz.zeroValue172
  t53 := Tryz.underlying175
  a53 := Tryz.isAgg175
  z53 := Tryz.sizeOf175
  v53 := Tryz.zeroValue175
  t70 := Tryz.underlying145
  a70 := Tryz.isAgg145
  z70 := Tryz.sizeOf145
  v70 := Tryz.zeroValue145
  t72 := Tryz.underlying147
  a72 := Tryz.isAgg147
  z72 := Tryz.sizeOf147
  v72 := Tryz.zeroValue147
  t75 := Tryz.underlying150
  a75 := Tryz.isAgg150
  z75 := Tryz.sizeOf150
  v75 := Tryz.zeroValue150
  t76 := Tryz.underlying151
  a76 := Tryz.isAgg151
  z76 := Tryz.sizeOf151
  v76 := Tryz.zeroValue151
  t109 := Tryz.underlying142
  a109 := Tryz.isAgg142
  z109 := Tryz.sizeOf142
  v109 := Tryz.zeroValue142
  t127 := Tryz.underlying178
  a127 := Tryz.isAgg178
  z127 := Tryz.sizeOf178
  v127 := Tryz.zeroValue178
  t146 := Tryz.underlying173
  a146 := Tryz.isAgg173
  z146 := Tryz.sizeOf173
  v146 := Tryz.zeroValue173
  t148 := Tryz.underlying176
  a148 := Tryz.isAgg176
  z148 := Tryz.sizeOf176
  v148 := Tryz.zeroValue176
  t164 := Tryz.underlying197
  a164 := Tryz.isAgg197
  z164 := Tryz.sizeOf197
  v164 := Tryz.zeroValue197 }
theorem Tryz.Builder_Extra_105 : Builder.Extra Tryz.prog Tryz.lays105_ren := {
  sizeBuilder := by kernel_rfl
  liesBuilder := by kernel_rfl
  t5 := Tryz.underlying5
  a5 := Tryz.isAgg5
  z5 := Tryz.sizeOf5
  v5 := Tryz.zeroValue5
  infoByte := by kernel_rfl
  cellsByte := by kernel_rfl
  sizeByte := by kernel_rfl
  neB5 := by decide }
open Go.RowKit Go.Lib in
theorem Tryz.strings_Repeat (s : ByteArray) (c : Nat) (w : World) (hc : c ≤ 9223372036854775807) (hlen : s.size * c ≤ 140737488355328) :
    Calls Tryz.prog 104 #[.string s, .int .i64 c] w fun e w' => e = .returned (.string ⟨(Lib.repeatL s.data.toList c).toArray⟩) ∧ Below w.heap.size w w' := Any.strings_Repeat Tryz.lays105 Tryz.Builder_Extra_105 s c w hc hlen
def Tryz.lays7x27_ren : Go.Shelf.Ren := ⟨fun | 27 => 264 | 28 => 275 | 29 => 276 | n => n, fun | 25 => 87 | 3 => 3 | 27 => 172 | 22 => 175 | 4 => 4 | 53 => 227 | 0 => 0 | 5 => 5 | 54 => 228 | n => n, fun | 0 => 5 | 1 => 6 | n => n⟩
theorem Tryz.lays7x27 : Go.Proofs.Lays7.n27 Tryz.prog Tryz.lays7x27_ren := {
  mixed := by kernel_rfl
  f27 := Tryz.func264.trans (congrArg some (by kernel_rfl))
  f28 := Tryz.func275.trans (congrArg some (by kernel_rfl))
  f29 := Tryz.func276.trans (congrArg some (by kernel_rfl))
  t0 := Tryz.underlying0
  a0 := Tryz.isAgg0
  z0 := Tryz.sizeOf0
  v0 := Tryz.zeroValue0
  i0 := by kernel_rfl
  t3 := Tryz.underlying3
  a3 := Tryz.isAgg3
  z3 := Tryz.sizeOf3
  v3 := Tryz.zeroValue3
  i3 := by kernel_rfl
  t4 := Tryz.underlying4
  a4 := Tryz.isAgg4
  z4 := Tryz.sizeOf4
  v4 := Tryz.zeroValue4
  i4 := by kernel_rfl
  t5 := Tryz.underlying5
  a5 := Tryz.isAgg5
  z5 := Tryz.sizeOf5
  v5 := Tryz.zeroValue5
  i5 := by kernel_rfl
  t22 := Tryz.underlying175
  a22 := Tryz.isAgg175
  z22 := Tryz.sizeOf175
  v22 := Tryz.zeroValue175
  i22 := by kernel_rfl
  t25 := Tryz.underlying87
  a25 := Tryz.isAgg87
  z25 := Tryz.sizeOf87
  v25 := Tryz.zeroValue87
  i25 := by kernel_rfl
  t27 := Tryz.underlying172
  a27 := Tryz.isAgg172
  z27 := Tryz.sizeOf172
  v27 := Tryz.zeroValue172
  i27 := by kernel_rfl
  t53 := Tryz.underlying227
  a53 := Tryz.isAgg227
  z53 := Tryz.sizeOf227
  v53 := Tryz.zeroValue227
  i53 := by kernel_rfl
  t54 := Tryz.underlying228
  a54 := Tryz.isAgg228
  z54 := Tryz.sizeOf228
  g0 := by kernel_rfl
  g1 := by kernel_rfl }
theorem Tryz.bits_TrailingZeros (x : Nat) (hx : x < 18446744073709551616) (w : World) (hT : x ≠ 0 → TabAt 6 Lib.deBruijn64tab w) :
    Calls Tryz.prog 264 #[.int .u64 x] w fun e w' => e = .returned (.int .i64 (Lib.ctz 64 x)) ∧ w' = w := Any7.bits_TrailingZeros Tryz.lays7x27 x hx w hT
def Tryz.laysSlN41_f111_ren : Go.Shelf.Ren := ⟨fun | 41 => 111 | n => n, fun | 22 => 28 | 23 => 2 | 4 => 4 | n => n, fun | n => n⟩
theorem Tryz.laysSlN41_f111 : Go.Proofs.SlLaysN.n41 Tryz.prog Tryz.laysSlN41_f111_ren := {
  mixed := by kernel_rfl
  f41 := ⟨Tryz.f111.name, by decide, Tryz.func111.trans (congrArg some (by kernel_rfl))⟩
  t4 := Tryz.underlying4
  a4 := Tryz.isAgg4
  z4 := Tryz.sizeOf4
  v4 := Tryz.zeroValue4
  t22 := Tryz.underlying28
  a22 := Tryz.isAgg28
  z22 := Tryz.sizeOf28
  v22 := Tryz.zeroValue28
  t23 := Tryz.underlying2
  a23 := Tryz.isAgg2
  z23 := Tryz.sizeOf2
  v23 := Tryz.zeroValue2
  i23 := by kernel_rfl }
open Go.RowKit Go.Lib in
theorem Tryz.slices_Clone_int (b off n c : Nat) (zs : List Int) (w : World) (hz : n ≤ zs.length) (hbig : n * 8 ≤ 140737488355328) (hc : ∀ j, j < zs.length → w.cell? ⟨b, off + j, none⟩ = some (.int .i64 (zs.getD j 0))) :
    Calls Tryz.prog 111 #[.slice (some ⟨b, off, none⟩) n c] w fun e w' => ∃ v', e = .returned v' ∧ w'.ownsRow w.heap.size 2 1 v' n ((zs.take n).map (Value.int .i64)) ∧ v' ≠ .slice none 0 0 ∧ Below w.heap.size w w' := AnyG.slices_Clone_int Tryz.laysSlN41_f111 b off n c zs w hz hbig hc
open Go.RowKit Go.Lib in
theorem Tryz.slices_Clone_int_nil (n c : Nat) (w : World) :
    Calls Tryz.prog 111 #[.slice none n c] w fun e w' => e = .returned (.slice none 0 0) ∧ w' = w := AnyG.slices_Clone_int_nil Tryz.laysSlN41_f111 n c w
open Go.RowKit Go.Lib in
theorem Tryz.slices_Clone_int_zero (a : Addr) (c : Nat) (w : World) :
    Calls Tryz.prog 111 #[.slice (some a) 0 c] w fun e w' => ∃ v', e = .returned v' ∧ w'.ownsRow w.heap.size 2 1 v' 0 [] ∧ v' ≠ .slice none 0 0 ∧ Below w.heap.size w w' := AnyG.slices_Clone_int_zero Tryz.laysSlN41_f111 a c w
end Go.Proofs
namespace Go.U.Tryz
open Go Go.U Go.Proofs Go.Proofs.Tryz
instance : Gl prog := ⟨[2, 6, 1], fun g o => ∃ arr ty fz, o = .cells arr ty fz ∧ (g = 2 → ∃ m, arr[0]? = some (.int .i64 m)) ∧ (g = 6 → ∀ j, j < Lib.deBruijn64tab.length → arr[j]? = some (.int .u8 (Lib.deBruijn64tab.getD j 0))) ∧ (g = 1 → arr = (Lib.pow10Tab.map fun z => Value.int .u64 z).toArray)⟩
theorem gl2 {w : World} (h : ∀ g, g ∈ Gl.l prog → GlAt prog w g) : ∃ m, w.cell? ⟨2, 0, none⟩ = some (.int .i64 m) := by
  obtain ⟨o, h1, arr, ty, fz, rfl, h2, _⟩ := h 2 (List.mem_cons_self ..)
  obtain ⟨m, hm⟩ := h2 rfl
  exact ⟨m, by simp only [World.cell?, h1]; exact hm⟩
theorem gl6 {w : World} (h : ∀ g, g ∈ Gl.l prog → GlAt prog w g) : TabAt 6 Lib.deBruijn64tab w := by
  obtain ⟨o, h1, arr, ty, fz, rfl, _, h2, _⟩ := h 6 (List.mem_cons_of_mem _ (List.mem_cons_self ..))
  intro j hj
  simp only [World.cell?, h1]
  exact h2 rfl j hj
theorem gl1 {w : World} (h : ∀ g, g ∈ Gl.l prog → GlAt prog w g) : Lib.TabIs prog w "internal/strconv.uint64pow10" .u64 Lib.pow10Tab := by
  obtain ⟨o, h1, arr, ty, fz, rfl, _, _, h2⟩ := h 1 (List.mem_cons_of_mem _ (List.mem_cons_of_mem _ (List.mem_cons_self ..)))
  have hg : prog.globalNamed "internal/strconv.uint64pow10" = some 1 := by kernel_rfl
  unfold Lib.TabIs World.var?
  rw [hg, Option.bind_some, h1, h2 rfl]
def splR (l m : List UInt8) : List (List UInt8) := (Lib.splitB ⟨m.toArray⟩ 0 (Lib.countB ⟨l.toArray⟩ ⟨m.toArray⟩) ⟨l.toArray⟩).map fun b => b.data.toList
def splF (x : List UInt8 × List UInt8) : Option (List (List UInt8)) := guard (decide (1 ≤ x.2.length ∧ x.1.length < 4294967281)) (some (splR x.1 x.2))
def conF (x : List UInt8 × List UInt8) : Option Bool := guard (decide (x.1.length < 4294967281)) (some (Lib.contains x.1 x.2))
def uppF (x : List UInt8) : Option (List UInt8) := guard (decide (x.length ≤ 140737488355328) && x.all fun b => decide (b.toNat < 128)) (some (Lib.toUpperA x))
def decF (x : Int × Int) : Option (List UInt8) := guard (decide (-9223372036854775808 ≤ x.1 ∧ x.1 ≤ 9223372036854775807 ∧ x.2 = 10)) (some (Lib.itoa x.1))
def ctzF (x : Int) : Option Int := guard (decide (0 ≤ x ∧ x < 18446744073709551616)) (some ((Lib.ctz 64 x.toNat : Nat) : Int))
theorem rd_str (w : World) (S : Nat → Prop) (b : ByteArray) : RD w S (.string b) (.str b.data.toList) := by
  have h := RD.str (w := w) (S := S) b.data.toList
  have : (⟨b.data.toList.toArray⟩ : ByteArray) = b := rfl
  rwa [this] at h
def strL (l : List ByteArray) : List (List UInt8) := l.map fun b => b.data.toList
theorem strL_len (l : List ByteArray) : (strL l).length = l.length := List.length_map ..
theorem strL_get {l : List ByteArray} {e : Nat} {y : List UInt8} (h : (strL l)[e]? = some y) : ∃ b, l[e]? = some b ∧ y = b.data.toList := by
  unfold strL at h
  rw [List.getElem?_map] at h
  cases hx : l[e]? with
  | none => rw [hx] at h; cases h
  | some b => rw [hx] at h; cases h; exact ⟨b, rfl, rfl⟩
theorem alloc_cell (w : World) (l : List ByteArray) (ty e : Nat) (b : ByteArray) (h : l[e]? = some b) : (w.alloc (.cells (l.map Value.string).toArray ty)).cell? ⟨w.heap.size, e, none⟩ = some (.string b) := by
  have h1 : (w.alloc (.cells (l.map Value.string).toArray ty)).heap[w.heap.size]? = some (.cells (l.map Value.string).toArray ty) := by
    show (w.heap.push _)[w.heap.size]? = _
    rw [Array.getElem?_push_size]
  simp only [World.cell?, h1, List.getElem?_toArray, List.getElem?_map, h]
  rfl
theorem rd_strs (w : World) (ty : Nat) (l : List ByteArray) : RD (w.alloc (.cells (l.map Value.string).toArray ty)) (Fresh w (w.alloc (.cells (l.map Value.string).toArray ty))) (.slice (some ⟨w.heap.size, 0, none⟩) l.length l.length) (.rov .s (strL l)) := by
  have hsz : w.heap.size < (w.alloc (.cells (l.map Value.string).toArray ty)).heap.size := by
    show w.heap.size < (w.heap.push _).size
    rw [Array.size_push]; omega
  by_cases hl : l = []
  · subst hl; exact .rov0 ..
  · have key := RD.rov (w := w.alloc (.cells (l.map Value.string).toArray ty)) (S := Fresh w (w.alloc (.cells (l.map Value.string).toArray ty))) w.heap.size 0 l.length .s (strL l)
      (fun e _ => ((l.map Value.string)[e]?).getD undef) ⟨Nat.le_refl _, hsz⟩ hsz (fun h => hl (by
        have := congrArg List.length h
        rw [strL_len] at this
        exact List.length_eq_zero_iff.1 this)) (Nat.le_of_eq (strL_len l))
      (fun e el j y h1 h2 => by
        obtain ⟨b, hb, rfl⟩ := strL_get h1
        cases j with
        | succ j => simp [Ty.enc] at h2
        | zero =>
          have h3 : (l.map Value.string)[e]? = some (.string b) := by rw [List.getElem?_map, hb]; rfl
          have h4 := alloc_cell w l ty e b hb
          simp only [Ty.size, Nat.mul_one, Nat.zero_add, Nat.add_zero, h3, Option.getD_some]
          exact h4)
      (fun e el j y h1 h2 => by
        obtain ⟨b, hb, rfl⟩ := strL_get h1
        cases j with
        | succ j => simp [Ty.enc] at h2
        | zero =>
          have h3 : (l.map Value.string)[e]? = some (.string b) := by rw [List.getElem?_map, hb]; rfl
          have hy : y = .str b.data.toList := by simpa [Ty.enc] using h2.symm
          subst hy
          rw [h3]
          exact rd_str _ _ b)
    have hlen : @List.length Ty.s.den (strL l) = l.length := strL_len l
    rw [hlen] at key
    exact key
theorem c233 (K : Nat) : CtOk prog 233 ⟨[.l (.v .s), .l (.v .s)], [], [.l (.v (.l .s))], [], [], splF⟩ :=
  ct_ss (rt := .l .s) splF Tryz.call233 fun l m r w hg hr => by
    obtain ⟨h1, h2⟩ := guard_some hr
    obtain ⟨g0, g1⟩ := of_decide_eq_true h1
    cases h2
    obtain ⟨x, hx⟩ := gl2 hg
    refine (Tryz.strings_Split ⟨l.toArray⟩ ⟨m.toArray⟩ x w g1 hx g0).mono ?_
    rintro e w' ⟨rfl, rfl⟩
    refine ⟨_, rfl, ?_, (Go.RowKit.Below.refl _ _).alloc (Nat.le_refl _) _⟩
    have hl := Lib.splitB_all ⟨m.toArray⟩ g0 0 _ ⟨l.toArray⟩ rfl
    have := rd_strs w 9 (Lib.splitB ⟨m.toArray⟩ 0 (Lib.countB ⟨l.toArray⟩ ⟨m.toArray⟩) ⟨l.toArray⟩)
    rw [hl] at this
    exact this
theorem c180 (K : Nat) : CtOk prog 180 ⟨[.l (.v .s), .l (.v .s)], [], [.l (.v .b)], [], [], conF⟩ :=
  ct_ss (rt := .b) conF Tryz.call180 fun l m r w hg hr => by
    obtain ⟨h1, h2⟩ := guard_some hr
    have g1 := of_decide_eq_true h1
    cases h2
    obtain ⟨x, hx⟩ := gl2 hg
    refine (Tryz.strings_Contains ⟨l.toArray⟩ ⟨m.toArray⟩ x w g1 hx).mono ?_
    rintro e w' ⟨rfl, rfl⟩
    exact ⟨_, rfl, .b _, Go.RowKit.Below.refl _ _⟩
theorem c132 (K : Nat) : CtOk prog 132 ⟨[.l (.v .s)], [], [.l (.v .s)], [], [], uppF⟩ :=
  ct_s (rt := .s) uppF Tryz.call132 fun l r w hg hr => by
    obtain ⟨h1, h2⟩ := guard_some hr
    rw [Bool.and_eq_true, List.all_eq_true] at h1
    cases h2
    refine (Tryz.strings_ToUpper_ascii ⟨l.toArray⟩ w (of_decide_eq_true h1.1) fun j b hb => of_decide_eq_true (h1.2 b (List.mem_of_getElem? hb))).mono ?_
    rintro e w' ⟨rfl, hb⟩
    exact ⟨_, rfl, .str _, hb⟩
theorem c104 (K : Nat) : CtOk prog 104 ⟨[.l (.v .s), .l (.v (.i .i64))], [], [.l (.v .s)], [], [], repF⟩ :=
  ct_sis repF Tryz.call104 fun l n r w hr => by
    obtain ⟨h1, h2⟩ := guard_some hr
    obtain ⟨g0, g1, g2⟩ := of_decide_eq_true h1
    cases h2
    obtain ⟨c, rfl⟩ : ∃ c : Nat, n = (c : Int) := ⟨n.toNat, by simp at g0; omega⟩
    simp only [Int.toNat_natCast] at g1 g2 ⊢
    exact Tryz.strings_Repeat ⟨l.toArray⟩ c w (by omega) g2
theorem c133d (K : Nat) : CtOk prog 133 ⟨[.l (.v (.i .i64)), .l (.v (.i .i64))], [], [.l (.v .s)], [], [], decF⟩ :=
  ct_ii (rt := .s) decF Tryz.call133 fun n b r w hg hr => by
    obtain ⟨h1, h2⟩ := guard_some hr
    obtain ⟨g0, g1, g2⟩ := of_decide_eq_true h1
    simp only at g0 g1 g2
    subst g2
    cases h2
    refine (Tryz.strconv_FormatInt_10 n g0 g1 w (gl1 hg)).mono ?_
    rintro e w' ⟨rfl, k, os, rfl⟩
    exact ⟨_, rfl, .str _, ⟨rfl, rfl, rfl, by show w.heap.size ≤ (w.heap ++ os).size; rw [Array.size_append]; omega, fun j hj => (Go.Sort.heap_grow_old (w.drewN k) os hj : _)⟩⟩
theorem c264 (K : Nat) : CtOk prog 264 ⟨[.l (.v (.i .u64))], [], [.l (.v (.i .i64))], [], [], ctzF⟩ :=
  ct_i (rt := .i .i64) ctzF Tryz.call264 fun n r w hg hr => by
    obtain ⟨h1, h2⟩ := guard_some hr
    obtain ⟨g0, g1⟩ := of_decide_eq_true h1
    cases h2
    obtain ⟨c, rfl⟩ : ∃ c : Nat, n = (c : Int) := ⟨n.toNat, by omega⟩
    refine (Tryz.bits_TrailingZeros c (by omega) w fun _ => gl6 hg).mono ?_
    rintro e w' ⟨rfl, rfl⟩
    exact ⟨_, rfl, .i _ _, Go.RowKit.Below.refl _ _⟩
def F233 (K : Nat) (x : List UInt8 × List UInt8) : Option (List (List UInt8)) := splF x
def F180 (K : Nat) (x : List UInt8 × List UInt8) : Option (Bool) := conF x
def F132 (K : Nat) (x : List UInt8) : Option (List UInt8) := uppF x
def F104 (K : Nat) (x : List UInt8 × Int) : Option (List UInt8) := repF x
def F133d (K : Nat) (x : Int × Int) : Option (List UInt8) := decF x
def F264 (K : Nat) (x : Int) : Option (Int) := ctzF x
def F143r (K : Nat) (x : Int) : Option (List UInt8) := none
def ct143r (K : Nat) : Ct := ⟨[.l (.v (.i .i64))], [], [.l (.v .s)], [], [], F143r K⟩
theorem c143r (K : Nat) : CtOk prog 143 (ct143r K) := ct_none
def F111 (K : Nat) (x : List Int) : Option (List Int) := cloneF x
def ct111 (K : Nat) : Ct := ⟨[.l (.v (.l (.i .i64)))], [], [.l (.all 0)], [⟨1, true, .row (.i .i64)⟩], [], F111 K⟩
theorem c111 (K : Nat) : CtOk prog 111 (ct111 K) := ct_clone (e := 2) Tryz.call111 (fun b off n c zs w h1 h2 h3 => Tryz.slices_Clone_int b off n c zs w h1 h2 h3) (fun n c w => Tryz.slices_Clone_int_nil n c w) (fun a c w => Tryz.slices_Clone_int_zero a c w)
abbrev pr4 {a b c d z1 r : Type} (x : a × b × c × d × z1 × r) : z1 := x.2.2.2.2.1
abbrev er4 {a b c d r : Type} (x : a × b × c × d × r) : r := x.2.2.2.2
abbrev pr5 {a b c d e z1 r : Type} (x : a × b × c × d × e × z1 × r) : z1 := x.2.2.2.2.2.1
abbrev er5 {a b c d e r : Type} (x : a × b × c × d × e × r) : r := x.2.2.2.2.2
abbrev pr6 {a b c d e f z1 r : Type} (x : a × b × c × d × e × f × z1 × r) : z1 := x.2.2.2.2.2.2.1
abbrev er6 {a b c d e f r : Type} (x : a × b × c × d × e × f × r) : r := x.2.2.2.2.2.2
abbrev pr7 {a b c d e f g z1 r : Type} (x : a × b × c × d × e × f × g × z1 × r) : z1 := x.2.2.2.2.2.2.2.1
abbrev pr8 {a b c d e f g h z1 r : Type} (x : a × b × c × d × e × f × g × h × z1 × r) : z1 := x.2.2.2.2.2.2.2.2.1
abbrev pr9 {a b c d e f g h i z1 r : Type} (x : a × b × c × d × e × f × g × h × i × z1 × r) : z1 := x.2.2.2.2.2.2.2.2.2.1
abbrev pr10 {a b c d e f g h i j z1 r : Type} (x : a × b × c × d × e × f × g × h × i × j × z1 × r) : z1 := x.2.2.2.2.2.2.2.2.2.2.1
abbrev pr11 {a b c d e f g h i j k z1 r : Type} (x : a × b × c × d × e × f × g × h × i × j × k × z1 × r) : z1 := x.2.2.2.2.2.2.2.2.2.2.2.1
abbrev pr12 {a b c d e f g h i j k l z1 r : Type} (x : a × b × c × d × e × f × g × h × i × j × k × l × z1 × r) : z1 := x.2.2.2.2.2.2.2.2.2.2.2.2.1
abbrev pr13 {a b c d e f g h i j k l m z1 r : Type} (x : a × b × c × d × e × f × g × h × i × j × k × l × m × z1 × r) : z1 := x.2.2.2.2.2.2.2.2.2.2.2.2.2.1
abbrev pr14 {a b c d e f g h i j k l m n z1 r : Type} (x : a × b × c × d × e × f × g × h × i × j × k × l × m × n × z1 × r) : z1 := x.2.2.2.2.2.2.2.2.2.2.2.2.2.2.1
abbrev er14 {a b c d e f g h i j k l m n r : Type} (x : a × b × c × d × e × f × g × h × i × j × k × l × m × n × r) : r := x.2.2.2.2.2.2.2.2.2.2.2.2.2.2
abbrev pr15 {a b c d e f g h i j k l m n o z1 r : Type} (x : a × b × c × d × e × f × g × h × i × j × k × l × m × n × o × z1 × r) : z1 := x.2.2.2.2.2.2.2.2.2.2.2.2.2.2.2.1
abbrev pr16 {a b c d e f g h i j k l m n o p z1 r : Type} (x : a × b × c × d × e × f × g × h × i × j × k × l × m × n × o × p × z1 × r) : z1 := x.2.2.2.2.2.2.2.2.2.2.2.2.2.2.2.2.1
abbrev pr17 {a b c d e f g h i j k l m n o p q z1 r : Type} (x : a × b × c × d × e × f × g × h × i × j × k × l × m × n × o × p × q × z1 × r) : z1 := x.2.2.2.2.2.2.2.2.2.2.2.2.2.2.2.2.2.1
abbrev pr18 {a b c d e f g h i j k l m n o p q s z1 r : Type} (x : a × b × c × d × e × f × g × h × i × j × k × l × m × n × o × p × q × s × z1 × r) : z1 := x.2.2.2.2.2.2.2.2.2.2.2.2.2.2.2.2.2.2.1
abbrev pr19 {a b c d e f g h i j k l m n o p q s t z1 r : Type} (x : a × b × c × d × e × f × g × h × i × j × k × l × m × n × o × p × q × s × t × z1 × r) : z1 := x.2.2.2.2.2.2.2.2.2.2.2.2.2.2.2.2.2.2.2.1
abbrev pr20 {a b c d e f g h i j k l m n o p q s t u z1 r : Type} (x : a × b × c × d × e × f × g × h × i × j × k × l × m × n × o × p × q × s × t × u × z1 × r) : z1 := x.2.2.2.2.2.2.2.2.2.2.2.2.2.2.2.2.2.2.2.2.1
abbrev pr21 {a b c d e f g h i j k l m n o p q s t u v z1 r : Type} (x : a × b × c × d × e × f × g × h × i × j × k × l × m × n × o × p × q × s × t × u × v × z1 × r) : z1 := x.2.2.2.2.2.2.2.2.2.2.2.2.2.2.2.2.2.2.2.2.2.1
abbrev er21 {a b c d e f g h i j k l m n o p q s t u v r : Type} (x : a × b × c × d × e × f × g × h × i × j × k × l × m × n × o × p × q × s × t × u × v × r) : r := x.2.2.2.2.2.2.2.2.2.2.2.2.2.2.2.2.2.2.2.2.2
abbrev pr22 {a b c d e f g h i j k l m n o p q s t u v w z1 r : Type} (x : a × b × c × d × e × f × g × h × i × j × k × l × m × n × o × p × q × s × t × u × v × w × z1 × r) : z1 := x.2.2.2.2.2.2.2.2.2.2.2.2.2.2.2.2.2.2.2.2.2.2.1
abbrev er22 {a b c d e f g h i j k l m n o p q s t u v w r : Type} (x : a × b × c × d × e × f × g × h × i × j × k × l × m × n × o × p × q × s × t × u × v × w × r) : r := x.2.2.2.2.2.2.2.2.2.2.2.2.2.2.2.2.2.2.2.2.2.2
abbrev pr23 {a b c d e f g h i j k l m n o p q s t u v w y z1 r : Type} (x : a × b × c × d × e × f × g × h × i × j × k × l × m × n × o × p × q × s × t × u × v × w × y × z1 × r) : z1 := x.2.2.2.2.2.2.2.2.2.2.2.2.2.2.2.2.2.2.2.2.2.2.2.1
abbrev er23 {a b c d e f g h i j k l m n o p q s t u v w y r : Type} (x : a × b × c × d × e × f × g × h × i × j × k × l × m × n × o × p × q × s × t × u × v × w × y × r) : r := x.2.2.2.2.2.2.2.2.2.2.2.2.2.2.2.2.2.2.2.2.2.2.2
abbrev pr24 {a b c d e f g h i j k l m n o p q s t u v w y z z1 r : Type} (x : a × b × c × d × e × f × g × h × i × j × k × l × m × n × o × p × q × s × t × u × v × w × y × z × z1 × r) : z1 := x.2.2.2.2.2.2.2.2.2.2.2.2.2.2.2.2.2.2.2.2.2.2.2.2.1
abbrev er24 {a b c d e f g h i j k l m n o p q s t u v w y z r : Type} (x : a × b × c × d × e × f × g × h × i × j × k × l × m × n × o × p × q × s × t × u × v × w × y × z × r) : r := x.2.2.2.2.2.2.2.2.2.2.2.2.2.2.2.2.2.2.2.2.2.2.2.2
abbrev q24 {a b c d e f g h i j k l m n o p q s t u v w y z r : Type} (x : a × b × c × d × e × f × g × h × i × j × k × l × m × n × o × p × q × s × t × u × v × w × y × z × r) : r := x.2.2.2.2.2.2.2.2.2.2.2.2.2.2.2.2.2.2.2.2.2.2.2.2
abbrev MM := Int × Int × Int × Int × Int × Int × Int × Int × Int × Int × Bool × Bool × (List UInt8) × Int × Int × (List UInt8) × Int × Bool × Int × (List UInt8) × (List UInt8) × (List Int) × Int
abbrev WW := Int × Int × Int × Int × Int × Int × Int × Int × Int × Int × Bool × Bool × (List UInt8) × Int × Int × (List UInt8) × Int × Bool × Int × (List UInt8) × (List UInt8) × (List Int) × Int × Bool
abbrev sN (a : An) : An := .seq .no a
abbrev MC (r : Type) := Int × Int × Int × Int × Int × Int × Int × Int × Int × Int × Bool × Bool × (List UInt8) × Int × Int × (List UInt8) × Int × Bool × Int × (List UInt8) × (List UInt8) × (List Int) × Int × r
abbrev i6 : Lf := .v (.i .i64)
abbrev mL : List Lf := [i6, i6, i6, i6, i6, i6, i6, i6, i6, i6, (.v .b), (.v .b), (.v .s), i6, i6, (.v .s), i6, (.v .b), i6, (.v .s), (.v .s), (.v (.l (.i .i64))), i6]
abbrev mN : List Sh := [.l i6, .l i6, .l i6, .l i6, .l i6, .l i6, .l i6, .l i6, .l i6, .l i6, .l (.v .b), .l (.v .b), .l (.v .s), .l i6, .l i6, .l (.v .s), .l i6, .l (.v .b), .l i6, .l (.v .s), .l (.v .s), .l (.v (.l (.i .i64))), .l i6]
abbrev wN : List Sh := [.l i6, .l i6, .l i6, .l i6, .l i6, .l i6, .l i6, .l i6, .l i6, .l i6, .l (.v .b), .l (.v .b), .l (.v .s), .l i6, .l i6, .l (.v .s), .l i6, .l (.v .b), .l i6, .l (.v .s), .l (.v .s), .l (.v (.l (.i .i64))), .l i6, .l (.v .b)]
end Go.U.Tryz
