/- A part of the proof. No condition. -/
import Derived.Test.YtclapampnmjmoaaGreatDoorU2
import Derived.Laws.Externs
import Derived.Shelf.SlGeneric
import Derived.Shelf.SlLaysH
import Derived.Shelf.SlicesE.DeleteFunc
import Derived.Ground.SlgfProg
import Derived.Lib.Replace
import Derived.MapKept
import Derived.Shelf.LaysM
import Derived.Shelf.Small.Strs
import Derived.Shelf.Small.Utf8
import Derived.Shelf.Strings.AsciiSet
import Derived.Shelf.Strings.Builder1
import Derived.Shelf.Strings.Builder2
import Derived.Shelf.Strings.BuilderF
import Derived.Shelf.Strings.Count
import Derived.Shelf.Strings.Cut
import Derived.Shelf.Strings.Explode
import Derived.Shelf.Strings.OnBuilder
import Derived.Shelf.Strings.Prefix
import Derived.Shelf.Strings.Replace
import Derived.Shelf.Strings.RuneCount
import Derived.Shelf.Strings.Runes
import Derived.Shelf.Strings.Search1
import Derived.Shelf.Strings.Search2
import Derived.Shelf.Strings.Search3
import Derived.Shelf.Strings.Shaped
import Derived.Shelf.Strings.Split
import Derived.Shelf.Strings.SplitShaped
import Derived.Shelf.Unicode.Decode
import Derived.Shelf.Unicode.DecodeAny
import Derived.Shelf.Unicode.DecodeSlow
import Derived.Shelf.Utf8.RuneCount
import Derived.Test.YtclapampnmjmoaaGreatDoorProg
set_option linter.unusedVariables false
set_option linter.unusedSimpArgs false
set_option linter.unusedSectionVars false
namespace Go.Proofs
open Go.Shelf
def Tryz.lays156_ren : Go.Shelf.Ren := ⟨fun | 156 => 56 | 165 => 77 | 166 => 57 | 169 => 59 | 240 => 78 | 241 => 89 | 276 => 90 | 277 => 104 | n => n, fun | 31 => 22 | 9 => 9 | 3 => 3 | 4 => 4 | 0 => 0 | 20 => 20 | 72 => 77 | 76 => 80 | 70 => 75 | 37 => 29 | 75 => 79 | 127 => 95 | 164 => 105 | 5 => 5 | 80 => 83 | n => n, fun | n => n⟩
theorem Tryz.lays156 : Go.Proofs.Lays.n156 Tryz.prog Tryz.lays156_ren := {
  mixed := by kernel_rfl
  f156 := Tryz.func56.trans (congrArg some (by kernel_rfl))
  f165 := Tryz.func77.trans (congrArg some (by kernel_rfl))
  f166 := Tryz.func57.trans (congrArg some (by kernel_rfl))
  f169 := Tryz.func59.trans (congrArg some (by kernel_rfl))
  f240 := Tryz.func78.trans (congrArg some (by kernel_rfl))
  f241 := Tryz.func89.trans (congrArg some (by kernel_rfl))
  f276 := Tryz.func90.trans (congrArg some (by kernel_rfl))
  f277 := Tryz.func104.trans (congrArg some (by kernel_rfl))
  t0 := Tryz.underlying0
  a0 := Tryz.isAgg0
  z0 := Tryz.sizeOf0
  v0 := Tryz.zeroValue0
  t3 := Tryz.underlying3
  a3 := Tryz.isAgg3
  z3 := Tryz.sizeOf3
  v3 := Tryz.zeroValue3
  t4 := Tryz.underlying4
  a4 := Tryz.isAgg4
  z4 := Tryz.sizeOf4
  v4 := Tryz.zeroValue4
  t9 := Tryz.underlying9
  a9 := Tryz.isAgg9
  z9 := Tryz.sizeOf9
  v9 := Tryz.zeroValue9
  t20 := Tryz.underlying20
  a20 := Tryz.isAgg20
  z20 := Tryz.sizeOf20
  v20 := Tryz.zeroValue20
  t31 := Tryz.underlying22
  a31 := Tryz.isAgg22
  z31 := Tryz.sizeOf22
  v31 := Tryz.zeroValue22
  t37 := Tryz.underlying29
  a37 := Tryz.isAgg29
  z37 := Tryz.sizeOf29
  v37 := Tryz.zeroValue29
  t70 := Tryz.underlying75
  a70 := Tryz.isAgg75
  z70 := Tryz.sizeOf75
  v70 := Tryz.zeroValue75
  t72 := Tryz.underlying77
  a72 := Tryz.isAgg77
  z72 := Tryz.sizeOf77
  v72 := Tryz.zeroValue77
  t75 := Tryz.underlying79
  a75 := Tryz.isAgg79
  z75 := Tryz.sizeOf79
  v75 := Tryz.zeroValue79
  t76 := Tryz.underlying80
  a76 := Tryz.isAgg80
  z76 := Tryz.sizeOf80
  v76 := Tryz.zeroValue80
  t127 := Tryz.underlying95
  a127 := Tryz.isAgg95
  z127 := Tryz.sizeOf95
  v127 := Tryz.zeroValue95
  t164 := Tryz.underlying105
  a164 := Tryz.isAgg105
  z164 := Tryz.sizeOf105
  v164 := Tryz.zeroValue105 }
theorem Tryz.Builder_Extra_156 : Builder.Extra Tryz.prog Tryz.lays156_ren := {
  sizeBuilder := by kernel_rfl
  liesBuilder := by kernel_rfl
  t5 := Tryz.underlying5
  a5 := Tryz.isAgg5
  z5 := Tryz.sizeOf5
  v5 := Tryz.zeroValue5
  infoByte := by kernel_rfl
  cellsByte := by kernel_rfl
  sizeByte := by kernel_rfl
  neB5 := by decide }
open Go.RowKit in
theorem Tryz.strings_Join_none (a : Option Addr) (c : Nat) (sep : ByteArray) (w : World) :
    Calls Tryz.prog 56 #[.slice a 0 c, .string sep] w fun e w' => e = .returned (.string ⟨#[]⟩) ∧ w' = w := Any.strings_Join_none Tryz.lays156 Tryz.Builder_Extra_156 a c sep w
open Go.RowKit in
theorem Tryz.strings_Join (bk o c : Nat) (xs : List ByteArray) (sep : ByteArray) (w : World) (hcells : ∀ (j : Nat) x, xs[j]? = some x → w.cell? ⟨bk, o + j, none⟩ = some (.string x)) (hbk : bk < w.heap.size) (hN : xs.length ≤ 140737488355328) (hcap : xs.length ≤ c) (hlen : (Lib.join (xs.map (·.data.toList)) sep.data.toList).length ≤ 140737488355328) :
    Calls Tryz.prog 56 #[.slice (some ⟨bk, o, none⟩) xs.length c, .string sep] w fun e w' => e = .returned (.string ⟨(Lib.join (xs.map (·.data.toList)) sep.data.toList).toArray⟩) ∧ Below w.heap.size w w' := Any.strings_Join Tryz.lays156 Tryz.Builder_Extra_156 bk o c xs sep w hcells hbk hN hcap hlen
def Tryz.lays137_ren : Go.Shelf.Ren := ⟨fun | 137 => 157 | 217 => 135 | 266 => 149 | n => n, fun | 9 => 9 | 5 => 5 | 3 => 3 | n => n, fun | n => n⟩
theorem Tryz.lays137 : Go.Proofs.Lays.n137 Tryz.prog Tryz.lays137_ren := {
  mixed := by kernel_rfl
  f137 := Tryz.func157.trans (congrArg some (by kernel_rfl))
  f217 := Tryz.func135.trans (congrArg some (by kernel_rfl))
  f266 := Tryz.func149.trans (congrArg some (by kernel_rfl))
  t3 := Tryz.underlying3
  a3 := Tryz.isAgg3
  z3 := Tryz.sizeOf3
  v3 := Tryz.zeroValue3
  t5 := Tryz.underlying5
  a5 := Tryz.isAgg5
  z5 := Tryz.sizeOf5
  v5 := Tryz.zeroValue5
  t9 := Tryz.underlying9
  a9 := Tryz.isAgg9
  z9 := Tryz.sizeOf9
  v9 := Tryz.zeroValue9 }
open Go.RowKit in
theorem Tryz.strings_IndexByte (s : ByteArray) (c : Int) (w : World) :
    Calls Tryz.prog 157 #[.string s, .int .u8 c] w fun e w' => e = .returned (.int .i64 (Lib.indexByte s.data.toList c.toNat.toUInt8)) ∧ w' = w := Any.strings_IndexByte Tryz.lays137 s c w
def Tryz.lays145_ren : Go.Shelf.Ren := ⟨fun | 145 => 81 | 220 => 94 | 219 => 115 | 217 => 135 | 225 => 136 | 224 => 137 | 267 => 138 | 266 => 149 | 314 => 150 | n => n, fun | 9 => 9 | 4 => 4 | 59 => 55 | 3 => 3 | 5 => 5 | 46 => 139 | 146 => 162 | 51 => 152 | n => n, fun | 1 => 0 | n => n⟩
theorem Tryz.lays145 : Go.Proofs.Lays.n145 Tryz.prog Tryz.lays145_ren := {
  mixed := by kernel_rfl
  f145 := Tryz.func81.trans (congrArg some (by kernel_rfl))
  f217 := Tryz.func135.trans (congrArg some (by kernel_rfl))
  f219 := Tryz.func115.trans (congrArg some (by kernel_rfl))
  f220 := Tryz.func94.trans (congrArg some (by kernel_rfl))
  f224 := Tryz.func137.trans (congrArg some (by kernel_rfl))
  f225 := Tryz.func136.trans (congrArg some (by kernel_rfl))
  f266 := Tryz.func149.trans (congrArg some (by kernel_rfl))
  f267 := Tryz.func138.trans (congrArg some (by kernel_rfl))
  f314 := Tryz.func150.trans (congrArg some (by kernel_rfl))
  t3 := Tryz.underlying3
  a3 := Tryz.isAgg3
  z3 := Tryz.sizeOf3
  v3 := Tryz.zeroValue3
  t4 := Tryz.underlying4
  a4 := Tryz.isAgg4
  z4 := Tryz.sizeOf4
  v4 := Tryz.zeroValue4
  t5 := Tryz.underlying5
  a5 := Tryz.isAgg5
  z5 := Tryz.sizeOf5
  v5 := Tryz.zeroValue5
  t9 := Tryz.underlying9
  a9 := Tryz.isAgg9
  z9 := Tryz.sizeOf9
  v9 := Tryz.zeroValue9
  t46 := Tryz.underlying139
  a46 := Tryz.isAgg139
  z46 := Tryz.sizeOf139
  v46 := Tryz.zeroValue139
  t51 := Tryz.underlying152
  a51 := Tryz.isAgg152
  z51 := Tryz.sizeOf152
  v51 := Tryz.zeroValue152
  t59 := Tryz.underlying55
  a59 := Tryz.isAgg55
  z59 := Tryz.sizeOf55
  v59 := Tryz.zeroValue55
  t146 := Tryz.underlying162
  a146 := Tryz.isAgg162
  z146 := Tryz.sizeOf162
  v146 := Tryz.zeroValue162
  g1 := by kernel_rfl }
open Go.RowKit Go.Lib in
theorem Tryz.strings_Cut (s sep : ByteArray) (m : Int) (w : World) (hs : s.size < 4294967281) (hm : w.cell? ⟨0, 0, none⟩ = some (.int .i64 m)) :
    Calls Tryz.prog 81 #[.string s, .string sep] w fun e w' => e = .returned (.tuple #[.string ⟨(Lib.cut s.data.toList sep.data.toList).1.toArray⟩, .string ⟨(Lib.cut s.data.toList sep.data.toList).2.1.toArray⟩, .bool (Lib.cut s.data.toList sep.data.toList).2.2]) ∧ ∃ n, w' = w.drewN n := Any.strings_Cut Tryz.lays145 s sep m w hs hm
def Tryz.lays146_ren : Go.Shelf.Ren := ⟨fun | 146 => 85 | 221 => 101 | 268 => 128 | 138 => 129 | 143 => 130 | 195 => 145 | 197 => 131 | 218 => 146 | 219 => 115 | 260 => 147 | 217 => 135 | 225 => 136 | 224 => 137 | 267 => 138 | 266 => 149 | 314 => 150 | n => n, fun | 9 => 9 | 31 => 22 | 3 => 3 | 4 => 4 | 0 => 0 | 105 => 154 | 21 => 21 | 5 => 5 | 46 => 139 | 119 => 165 | 139 => 168 | 138 => 167 | 146 => 162 | 51 => 152 | n => n, fun | 1 => 0 | 3 => 1 | 4 => 2 | n => n⟩
theorem Tryz.lays146 : Go.Proofs.Lays.n146 Tryz.prog Tryz.lays146_ren := {
  mixed := by kernel_rfl
  f138 := Tryz.func129.trans (congrArg some (by kernel_rfl))
  f143 := Tryz.func130.trans (congrArg some (by kernel_rfl))
  f146 := Tryz.func85.trans (congrArg some (by kernel_rfl))
  f195 := Tryz.func145.trans (congrArg some (by kernel_rfl))
  f197 := Tryz.func131.trans (congrArg some (by kernel_rfl))
  f217 := Tryz.func135.trans (congrArg some (by kernel_rfl))
  f218 := Tryz.func146.trans (congrArg some (by kernel_rfl))
  f219 := Tryz.func115.trans (congrArg some (by kernel_rfl))
  f221 := Tryz.func101.trans (congrArg some (by kernel_rfl))
  f224 := Tryz.func137.trans (congrArg some (by kernel_rfl))
  f225 := Tryz.func136.trans (congrArg some (by kernel_rfl))
  f260 := Tryz.func147.trans (congrArg some (by kernel_rfl))
  f266 := Tryz.func149.trans (congrArg some (by kernel_rfl))
  f267 := Tryz.func138.trans (congrArg some (by kernel_rfl))
  f268 := Tryz.func128.trans (congrArg some (by kernel_rfl))
  f314 := Tryz.func150.trans (congrArg some (by kernel_rfl))
  t0 := Tryz.underlying0
  a0 := Tryz.isAgg0
  z0 := Tryz.sizeOf0
  v0 := Tryz.zeroValue0
  t3 := Tryz.underlying3
  a3 := Tryz.isAgg3
  z3 := Tryz.sizeOf3
  v3 := Tryz.zeroValue3
  t4 := Tryz.underlying4
  a4 := Tryz.isAgg4
  z4 := Tryz.sizeOf4
  v4 := Tryz.zeroValue4
  t5 := Tryz.underlying5
  a5 := Tryz.isAgg5
  z5 := Tryz.sizeOf5
  v5 := Tryz.zeroValue5
  t9 := Tryz.underlying9
  a9 := Tryz.isAgg9
  z9 := Tryz.sizeOf9
  v9 := Tryz.zeroValue9
  t21 := Tryz.underlying21
  a21 := Tryz.isAgg21
  z21 := Tryz.sizeOf21
  v21 := Tryz.zeroValue21
  t31 := Tryz.underlying22
  a31 := Tryz.isAgg22
  z31 := Tryz.sizeOf22
  v31 := Tryz.zeroValue22
  t46 := Tryz.underlying139
  a46 := Tryz.isAgg139
  z46 := Tryz.sizeOf139
  v46 := Tryz.zeroValue139
  t51 := Tryz.underlying152
  a51 := Tryz.isAgg152
  z51 := Tryz.sizeOf152
  v51 := Tryz.zeroValue152
  t105 := Tryz.underlying154
  a105 := Tryz.isAgg154
  z105 := Tryz.sizeOf154
  v105 := Tryz.zeroValue154
  t119 := Tryz.underlying165
  a119 := Tryz.isAgg165
  z119 := Tryz.sizeOf165
  t138 := Tryz.underlying167
  a138 := Tryz.isAgg167
  z138 := Tryz.sizeOf167
  v138 := Tryz.zeroValue167
  t139 := Tryz.underlying168
  a139 := Tryz.isAgg168
  z139 := Tryz.sizeOf168
  v139 := Tryz.zeroValue168
  t146 := Tryz.underlying162
  a146 := Tryz.isAgg162
  z146 := Tryz.sizeOf162
  v146 := Tryz.zeroValue162
  g1 := by kernel_rfl
  g3 := by kernel_rfl
  g4 := by kernel_rfl }
open Go.RowKit Go.Lib in
theorem Tryz.strings_Split (s sep : ByteArray) (m : Int) (w : World) (hs : s.size < 4294967281) (hm : w.cell? ⟨0, 0, none⟩ = some (.int .i64 m)) (h1 : 1 ≤ sep.size) :
    Calls Tryz.prog 85 #[.string s, .string sep] w fun e w' =>
      e = .returned (.slice (some ⟨w.heap.size, 0, none⟩) (Lib.countB s sep + 1) (Lib.countB s sep + 1)) ∧ w' = w.alloc (.cells ((Lib.splitB sep 0 (Lib.countB s sep) s).map Value.string).toArray 9) := Any.strings_Split Tryz.lays146 (by kernel_rfl) s sep m w hs hm h1
def Tryz.lays154_ren : Go.Shelf.Ren := ⟨fun | 154 => 103 | 138 => 129 | 165 => 77 | 143 => 130 | 166 => 57 | 197 => 131 | 169 => 59 | 195 => 145 | 218 => 146 | 240 => 78 | 241 => 89 | 219 => 115 | 260 => 147 | 276 => 90 | 277 => 104 | 217 => 135 | 225 => 136 | 224 => 137 | 267 => 138 | 266 => 149 | 314 => 150 | n => n, fun | 9 => 9 | 3 => 3 | 4 => 4 | 72 => 77 | 0 => 0 | 76 => 80 | 105 => 154 | 21 => 21 | 5 => 5 | 70 => 75 | 20 => 20 | 37 => 29 | 75 => 79 | 127 => 95 | 164 => 105 | 46 => 139 | 119 => 165 | 139 => 168 | 138 => 167 | 146 => 162 | 51 => 152 | 80 => 83 | n => n, fun | 1 => 0 | 3 => 1 | 4 => 2 | n => n⟩
theorem Tryz.lays154 : Go.Proofs.Lays.n154 Tryz.prog Tryz.lays154_ren := {
  mixed := by kernel_rfl
  f138 := Tryz.func129.trans (congrArg some (by kernel_rfl))
  f143 := Tryz.func130.trans (congrArg some (by kernel_rfl))
  f154 := Tryz.func103.trans (congrArg some (by kernel_rfl))
  f165 := Tryz.func77.trans (congrArg some (by kernel_rfl))
  f166 := Tryz.func57.trans (congrArg some (by kernel_rfl))
  f169 := Tryz.func59.trans (congrArg some (by kernel_rfl))
  f195 := Tryz.func145.trans (congrArg some (by kernel_rfl))
  f197 := Tryz.func131.trans (congrArg some (by kernel_rfl))
  f217 := Tryz.func135.trans (congrArg some (by kernel_rfl))
  f218 := Tryz.func146.trans (congrArg some (by kernel_rfl))
  f219 := Tryz.func115.trans (congrArg some (by kernel_rfl))
  f224 := Tryz.func137.trans (congrArg some (by kernel_rfl))
  f225 := Tryz.func136.trans (congrArg some (by kernel_rfl))
  f240 := Tryz.func78.trans (congrArg some (by kernel_rfl))
  f241 := Tryz.func89.trans (congrArg some (by kernel_rfl))
  f260 := Tryz.func147.trans (congrArg some (by kernel_rfl))
  f266 := Tryz.func149.trans (congrArg some (by kernel_rfl))
  f267 := Tryz.func138.trans (congrArg some (by kernel_rfl))
  f276 := Tryz.func90.trans (congrArg some (by kernel_rfl))
  f277 := Tryz.func104.trans (congrArg some (by kernel_rfl))
  f314 := Tryz.func150.trans (congrArg some (by kernel_rfl))
  t0 := Tryz.underlying0
  a0 := Tryz.isAgg0
  z0 := Tryz.sizeOf0
  v0 := Tryz.zeroValue0
  t3 := Tryz.underlying3
  a3 := Tryz.isAgg3
  z3 := Tryz.sizeOf3
  v3 := Tryz.zeroValue3
  t4 := Tryz.underlying4
  a4 := Tryz.isAgg4
  z4 := Tryz.sizeOf4
  v4 := Tryz.zeroValue4
  t5 := Tryz.underlying5
  a5 := Tryz.isAgg5
  z5 := Tryz.sizeOf5
  v5 := Tryz.zeroValue5
  t9 := Tryz.underlying9
  a9 := Tryz.isAgg9
  z9 := Tryz.sizeOf9
  v9 := Tryz.zeroValue9
  t20 := Tryz.underlying20
  a20 := Tryz.isAgg20
  z20 := Tryz.sizeOf20
  v20 := Tryz.zeroValue20
  t21 := Tryz.underlying21
  a21 := Tryz.isAgg21
  z21 := Tryz.sizeOf21
  v21 := Tryz.zeroValue21
  t37 := Tryz.underlying29
  a37 := Tryz.isAgg29
  z37 := Tryz.sizeOf29
  v37 := Tryz.zeroValue29
  t46 := Tryz.underlying139
  a46 := Tryz.isAgg139
  z46 := Tryz.sizeOf139
  v46 := Tryz.zeroValue139
  t51 := Tryz.underlying152
  a51 := Tryz.isAgg152
  z51 := Tryz.sizeOf152
  v51 := Tryz.zeroValue152
  t70 := Tryz.underlying75
  a70 := Tryz.isAgg75
  z70 := Tryz.sizeOf75
  v70 := Tryz.zeroValue75
  t72 := Tryz.underlying77
  a72 := Tryz.isAgg77
  z72 := Tryz.sizeOf77
  v72 := Tryz.zeroValue77
  t75 := Tryz.underlying79
  a75 := Tryz.isAgg79
  z75 := Tryz.sizeOf79
  v75 := Tryz.zeroValue79
  t76 := Tryz.underlying80
  a76 := Tryz.isAgg80
  z76 := Tryz.sizeOf80
  v76 := Tryz.zeroValue80
  t105 := Tryz.underlying154
  a105 := Tryz.isAgg154
  z105 := Tryz.sizeOf154
  v105 := Tryz.zeroValue154
  t119 := Tryz.underlying165
  a119 := Tryz.isAgg165
  z119 := Tryz.sizeOf165
  t127 := Tryz.underlying95
  a127 := Tryz.isAgg95
  z127 := Tryz.sizeOf95
  v127 := Tryz.zeroValue95
  t138 := Tryz.underlying167
  a138 := Tryz.isAgg167
  z138 := Tryz.sizeOf167
  v138 := Tryz.zeroValue167
  t139 := Tryz.underlying168
  a139 := Tryz.isAgg168
  z139 := Tryz.sizeOf168
  v139 := Tryz.zeroValue168
  t146 := Tryz.underlying162
  a146 := Tryz.isAgg162
  z146 := Tryz.sizeOf162
  v146 := Tryz.zeroValue162
  t164 := Tryz.underlying105
  a164 := Tryz.isAgg105
  z164 := Tryz.sizeOf105
  v164 := Tryz.zeroValue105
  g1 := by kernel_rfl
  g3 := by kernel_rfl
  g4 := by kernel_rfl }
theorem Tryz.Builder_Extra_154 : Builder.Extra Tryz.prog Tryz.lays154_ren := {
  sizeBuilder := by kernel_rfl
  liesBuilder := by kernel_rfl
  t5 := Tryz.underlying5
  a5 := Tryz.isAgg5
  z5 := Tryz.sizeOf5
  v5 := Tryz.zeroValue5
  infoByte := by kernel_rfl
  cellsByte := by kernel_rfl
  sizeByte := by kernel_rfl
  neB5 := by decide }
open Go.RowKit Go.Lib in
theorem Tryz.strings_Replace (s old new : ByteArray) (n : Int) (m : Int) (w : World) (hs : s.size < 4294967281) (hm : w.cell? ⟨0, 0, none⟩ = some (.int .i64 m)) (h1 : 1 ≤ old.size) (hlen : s.size + Lib.countB s old * new.size ≤ 140737488355328) :
    Calls Tryz.prog 103 #[.string s, .string old, .string new, .int .i64 n] w fun e w' =>
      e = .returned (.string ⟨(Lib.replace s.data.toList old.data.toList new.data.toList n).toArray⟩) ∧ Below w.heap.size w w' := Any.strings_Replace Tryz.lays154 Tryz.Builder_Extra_154 s old new n m w hs hm h1 hlen
def Tryz.l86_ren : Go.Shelf.Ren := ⟨fun | 10 => 86 | 6 => 102 | n => n, fun | 22 => 22 | 23 => 9 | 25 => 54 | 3 => 3 | 4 => 4 | 0 => 0 | n => n, fun | n => n⟩
theorem Tryz.l86 : Go.Proofs.SlLaysH.n10 Tryz.prog Tryz.l86_ren := {
  mixed := by kernel_rfl
  f6 := ⟨Tryz.f102.name, by decide, Tryz.func102.trans (congrArg some (by kernel_rfl))⟩
  f10 := ⟨Tryz.f86.name, by decide, Tryz.func86.trans (congrArg some (by kernel_rfl))⟩
  t0 := Tryz.underlying0
  a0 := Tryz.isAgg0
  z0 := Tryz.sizeOf0
  v0 := Tryz.zeroValue0
  t3 := Tryz.underlying3
  a3 := Tryz.isAgg3
  z3 := Tryz.sizeOf3
  v3 := Tryz.zeroValue3
  t4 := Tryz.underlying4
  a4 := Tryz.isAgg4
  z4 := Tryz.sizeOf4
  v4 := Tryz.zeroValue4
  t22 := Tryz.underlying22
  a22 := Tryz.isAgg22
  z22 := Tryz.sizeOf22
  v22 := Tryz.zeroValue22
  a23 := Tryz.isAgg9
  z23 := Tryz.sizeOf9
  t25 := Tryz.underlying54
  a25 := Tryz.isAgg54
  z25 := Tryz.sizeOf54
  v25 := Tryz.zeroValue54 }
end Go.Proofs
namespace Go.U
open Go Go.RowKit
theorem grab4 {t u p q : Ty} {args : List SV} {a : List D} (h : grabShs [.l (.v t), .l (.v u), .l (.v p), .l (.v q)] args = some a) : ∃ d0 d1 d2 d3, args = [.d d0, .d d1, .d d2, .d d3] ∧ a = [d0, d1, d2, d3] := by
  match args, h with
  | [], h => cases h
  | x0 :: l0, h =>
    simp only [grabShs, grabSh] at h
    obtain ⟨a1, b1, h1, h2, h3⟩ := apO_some h
    obtain ⟨d0, rfl, rfl⟩ := grab_v h1
    match l0, h2 with
    | [], h2 => cases h2
    | x1 :: l1, h2 =>
      simp only [grabShs, grabSh] at h2
      obtain ⟨a2, b2, h4, h5, h6⟩ := apO_some h2
      obtain ⟨d1, rfl, rfl⟩ := grab_v h4
      match l1, h5 with
      | [], h5 => cases h5
      | x2 :: l2, h5 =>
        simp only [grabShs, grabSh] at h5
        obtain ⟨a3, b3, h7, h8, h9⟩ := apO_some h5
        obtain ⟨d2, rfl, rfl⟩ := grab_v h7
        match l2, h8 with
        | [], h8 => cases h8
        | x3 :: l3, h8 =>
          simp only [grabShs, grabSh] at h8
          obtain ⟨a4, b4, h10, h11, h12⟩ := apO_some h8
          obtain ⟨d3, rfl, rfl⟩ := grab_v h10
          match l3, h11 with
          | [], h11 => cases h11; exact ⟨d0, d1, d2, d3, rfl, by rw [h3, h6, h9, h12]; rfl⟩
          | _ :: _, h11 => cases h11
section
variable {P : Program} [Gl P] {f : Nat} {rt : Ty}
theorem ct_sssi (F : List UInt8 × List UInt8 × List UInt8 × Int → Option rt.den) (hent : ∀ args w, (callFunc f args).run P w = .ok (.enter f args) w)
    (h : ∀ l m o n r w, (∀ g, g ∈ Gl.l P → GlAt P w g) → F (l, m, o, n) = some r → Calls P f #[.string ⟨l.toArray⟩, .string ⟨m.toArray⟩, .string ⟨o.toArray⟩, .int .i64 n] w fun e w' => ∃ v, e = .returned v ∧ RD w' (Fresh w w') v (leafD rt r) ∧ Below w.heap.size w w') :
    CtOk P f ⟨[.l (.v .s), .l (.v .s), .l (.v .s), .l (.v (.i .i64))], [], [.l (.v rt)], [], [], F⟩ := by
  intro w β S vs args hs res hs' hF hp
  unfold funOf at hF
  split at hF
  case h_2 => cases hF
  rename_i a b ha hb
  obtain ⟨d0, d1, d2, d3, rfl, rfl⟩ := grab4 ha
  obtain ⟨rfl, rfl⟩ := grab0 hb
  obtain ⟨⟨l, m, o, n⟩, hx, hd⟩ := unDs_spec _ _ _ hF
  have e0 : d0 = .str l := dsub_str hd.1
  have e1 : d1 = .str m := dsub_str hd.2.1
  have e2 : d2 = .str o := dsub_str hd.2.2.1
  have e3 : d3 = .i .i64 n := dsub_i hd.2.2.2.1
  subst e0 e1 e2 e3
  have hF' : (bindO (F (l, m, o, n)) fun r => some ([SV.d (leafD rt r)], ([] : List Blk))) = some (res, hs') := hx
  obtain ⟨r, hr, h2⟩ := bindO_some hF'
  cases h2
  have hsz := hp.sz
  obtain ⟨v0, v1, v2, v3, rfl⟩ : ∃ v0 v1 v2 v3, vs = #[v0, v1, v2, v3] := by
    have : vs.size = 4 := hsz
    refine ⟨vs[0]'(by omega), vs[1]'(by omega), vs[2]'(by omega), vs[3]'(by omega), ?_⟩
    apply Array.ext
    · simpa using this
    · intro i h1 h2
      simp at h2
      match i, h2 with
      | 0, _ => rfl
      | 1, _ => rfl
      | 2, _ => rfl
      | 3, _ => rfl
      | i + 4, h2 => omega
  have r0 := hp.args 0 v0 _ rfl rfl
  have r1 := hp.args 1 v1 _ rfl rfl
  have r2 := hp.args 2 v2 _ rfl rfl
  have r3 := hp.args 3 v3 _ rfl rfl
  have e0 : v0 = .string ⟨l.toArray⟩ := by cases r0 with | d h => cases h; rfl
  have e1 : v1 = .string ⟨m.toArray⟩ := by cases r1 with | d h => cases h; rfl
  have e2 : v2 = .string ⟨o.toArray⟩ := by cases r2 with | d h => cases h; rfl
  have e3 : v3 = .int .i64 n := by cases r3 with | d h => cases h; rfl
  subst e0 e1 e2 e3
  refine .inl ⟨hent _ _, (h l m o n r w (fun g hg => (hp.gl g hg).2) hr).mono fun e w' ⟨v, he, hv, bel⟩ => ⟨v, β, _, he, post_data hp hv bel⟩⟩
end
end Go.U
namespace Go.U.Tryz
open Go Go.U Go.Proofs Go.Proofs.Tryz
set_option maxRecDepth 100000
instance : Gl prog := ⟨[0], fun _ o => ∃ arr ty fz, o = .cells arr ty fz ∧ ∃ m, arr[0]? = some (.int .i64 m)⟩
theorem gl0 {w : World} (h : ∀ g, g ∈ Gl.l prog → GlAt prog w g) : ∃ m, w.cell? ⟨0, 0, none⟩ = some (.int .i64 m) := by
  obtain ⟨o, h1, arr, ty, fz, rfl, m, hm⟩ := h 0 (List.mem_cons_self ..)
  exact ⟨m, by simp only [World.cell?, h1]; exact hm⟩
def splR (l m : List UInt8) : List (List UInt8) := (Lib.splitB ⟨m.toArray⟩ 0 (Lib.countB ⟨l.toArray⟩ ⟨m.toArray⟩) ⟨l.toArray⟩).map fun b => b.data.toList
def splF (x : List UInt8 × List UInt8) : Option (List (List UInt8)) := guard (decide (1 ≤ x.2.length ∧ x.1.length < 4294967281)) (some (splR x.1 x.2))
def strL (l : List ByteArray) : List (List UInt8) := l.map fun b => b.data.toList
theorem strL_get {l : List ByteArray} {e : Nat} {y : List UInt8} (h : (strL l)[e]? = some y) : ∃ b, l[e]? = some b ∧ y = b.data.toList := by
  unfold strL at h
  rw [List.getElem?_map] at h
  cases hx : l[e]? with
  | none => rw [hx] at h; cases h
  | some b => rw [hx] at h; cases h; exact ⟨b, rfl, rfl⟩
theorem ct_su {P : Program} [Gl P] {f : Nat} {rt : Ty} {q : IntKind} (F : List UInt8 × Int → Option rt.den) (hent : ∀ args w, (callFunc f args).run P w = .ok (.enter f args) w)
    (h : ∀ l m r w, (∀ g, g ∈ Gl.l P → GlAt P w g) → F (l, m) = some r → Calls P f #[.string ⟨l.toArray⟩, .int q m] w fun e w' => ∃ v, e = .returned v ∧ RD w' (Fresh w w') v (leafD rt r) ∧ Go.RowKit.Below w.heap.size w w') :
    CtOk P f ⟨[.l (.v .s), .l (.v (.i q))], [], [.l (.v rt)], [], [], F⟩ := by
  intro w β S vs args hs res hs' hF hp
  unfold funOf at hF
  split at hF
  case h_2 => cases hF
  rename_i a b ha hb
  obtain ⟨d0, d1, rfl, rfl⟩ := grab2 ha
  obtain ⟨rfl, rfl⟩ := grab0 hb
  obtain ⟨⟨l, m⟩, hx, hd⟩ := unDs_spec _ _ _ hF
  have e0 : d0 = .str l := dsub_str hd.1
  have e1 : d1 = .i q m := dsub_i hd.2.1
  subst e0 e1
  have hF' : (bindO (F (l, m)) fun r => some ([SV.d (leafD rt r)], ([] : List Blk))) = some (res, hs') := hx
  obtain ⟨r, hr, h2⟩ := bindO_some hF'
  cases h2
  have hsz := hp.sz
  obtain ⟨v0, v1, rfl⟩ : ∃ v0 v1, vs = #[v0, v1] := by
    have : vs.size = 2 := hsz
    refine ⟨vs[0]'(by omega), vs[1]'(by omega), ?_⟩
    apply Array.ext
    · simpa using this
    · intro i h1 h2
      simp at h2
      match i, h2 with
      | 0, _ => rfl
      | 1, _ => rfl
      | i + 2, h2 => omega
  have r0 := hp.args 0 v0 _ rfl rfl
  have r1 := hp.args 1 v1 _ rfl rfl
  have e0 : v0 = .string ⟨l.toArray⟩ := by cases r0 with | d h => cases h; rfl
  have e1 : v1 = .int q m := by cases r1 with | d h => cases h; rfl
  subst e0 e1
  refine .inl ⟨hent _ _, (h l m r w (fun g hg => (hp.gl g hg).2) hr).mono fun e w' ⟨v, he, hv, bel⟩ => ⟨v, β, _, he, post_data hp hv bel⟩⟩
def ibF (x : List UInt8 × Int) : Option Int := some (Lib.indexByte x.1 x.2.toNat.toUInt8)
def cutF (x : List UInt8 × List UInt8) : Option (List UInt8 × List UInt8 × Bool) := guard (decide (x.1.length < 4294967281)) (some (Lib.cut x.1 x.2))
def joinF (x : List (List UInt8) × List UInt8) : Option (List UInt8) := guard (decide (x.1.length ≤ 140737488355328 ∧ (Lib.join x.1 x.2).length ≤ 140737488355328)) (some (Lib.join x.1 x.2))
def delF (xs : List (List UInt8)) : Option (List (List UInt8)) := guard (decide (0 < xs.length ∧ xs.length < 4611686018427387904)) (some (xs.filter fun x => !decide (x = [])))
def rplF (x : List UInt8 × List UInt8 × List UInt8 × Int) : Option (List UInt8) := guard (decide (1 ≤ x.2.1.length ∧ x.1.length ≤ 1000 ∧ x.2.2.1.length ≤ 1000)) (some (Lib.replace x.1 x.2.1 x.2.2.1 x.2.2.2))
theorem below_drew (w : World) (n : Nat) : Go.RowKit.Below w.heap.size w (w.drewN n) := ⟨rfl, rfl, rfl, Nat.le_refl _, fun _ _ => rfl⟩
theorem c157 (K : Nat) : CtOk prog 157 ⟨[.l (.v .s), .l (.v (.i .u8))], [], [.l (.v (.i .i64))], [], [], ibF⟩ :=
  ct_su (rt := .i .i64) ibF Tryz.call157 fun l m r w hg hr => by
    cases hr
    refine (Tryz.strings_IndexByte ⟨l.toArray⟩ m w).mono ?_
    rintro e w' ⟨rfl, rfl⟩
    exact ⟨_, rfl, .i _ _, Go.RowKit.Below.refl _ _⟩
theorem c81 (K : Nat) : CtOk prog 81 ⟨[.l (.v .s), .l (.v .s)], [], [.l (.v .s), .l (.v .s), .l (.v .b)], [], [], cutF⟩ :=
  ct_ss3 cutF Tryz.call81 fun l m a c b w hg hr => by
    obtain ⟨h1, h2⟩ := guard_some hr
    have g1 := of_decide_eq_true h1
    obtain ⟨x, hx⟩ := gl0 hg
    have h2 := Option.some.inj h2
    refine (Tryz.strings_Cut ⟨l.toArray⟩ ⟨m.toArray⟩ x w g1 hx).mono ?_
    rintro e w' ⟨rfl, n, rfl⟩
    refine ⟨?_, below_drew w n⟩
    show _ = Ending.returned (.tuple #[.string ⟨a.toArray⟩, .string ⟨c.toArray⟩, .bool b])
    rw [← show (Lib.cut l m).1 = a from congrArg (fun z => z.1) h2, ← show (Lib.cut l m).2.1 = c from congrArg (fun z => z.2.1) h2, ← show (Lib.cut l m).2.2 = b from congrArg (fun z => z.2.2) h2]
theorem join_map (l : List (List UInt8)) : (l.map fun x => (⟨x.toArray⟩ : ByteArray)).map (·.data.toList) = l := by
  rw [List.map_map]
  exact (List.map_congr_left fun x _ => rfl).trans (List.map_id l)
theorem c56 (K : Nat) : CtOk prog 56 ⟨[.l (.v (.l .s)), .l (.v .s)], [], [.l (.v .s)], [], [], joinF⟩ :=
  ct_lsS joinF Tryz.call56 (fun l m r w b o c hg hr hb hc hcell => by
    obtain ⟨h1, h2⟩ := guard_some hr
    obtain ⟨g1, g2⟩ := of_decide_eq_true h1
    cases h2
    have hjm := join_map l
    have hc2 := Tryz.strings_Join b o c (l.map fun x => (⟨x.toArray⟩ : ByteArray)) ⟨m.toArray⟩ w (fun j x hx => by
      rw [List.getElem?_map] at hx
      cases hy : l[j]? with
      | none => rw [hy] at hx; cases hx
      | some y => rw [hy] at hx; cases hx; exact hcell j y hy) hb (by simpa using g1) (by simpa using hc) (by rw [hjm]; exact g2)
    rw [hjm] at hc2
    simpa using hc2)
    fun A c m r w hr => by
      obtain ⟨h1, h2⟩ := guard_some hr
      cases h2
      refine (Tryz.strings_Join_none A c ⟨m.toArray⟩ w).mono ?_
      rintro e w' ⟨rfl, rfl⟩
      exact ⟨rfl, Go.RowKit.Below.refl _ _⟩
theorem c85 (K : Nat) : CtOk prog 85 ⟨[.l (.v .s), .l (.v .s)], [], [.l (.all 0)], [⟨1, true, .row .s⟩], [], splF⟩ :=
  ct_ssO splF Tryz.call85 fun l m r w hg hr => by
    obtain ⟨h1, h2⟩ := guard_some hr
    obtain ⟨g0, g1⟩ := of_decide_eq_true h1
    cases h2
    obtain ⟨x, hx⟩ := gl0 hg
    refine (Tryz.strings_Split ⟨l.toArray⟩ ⟨m.toArray⟩ x w g1 hx g0).mono ?_
    rintro e w' ⟨rfl, rfl⟩
    have hl := Lib.splitB_all ⟨m.toArray⟩ g0 0 _ ⟨l.toArray⟩ rfl
    have hr2 : (splR l m).length = (Lib.splitB ⟨m.toArray⟩ 0 (Lib.countB ⟨l.toArray⟩ ⟨m.toArray⟩) ⟨l.toArray⟩).length := List.length_map ..
    refine ⟨_, 9, _, by rw [hr2, hl], rfl, by rw [hr2, hl]; exact Nat.le_refl _, by simp [hl], fun e x hx => ?_⟩
    obtain ⟨b, hb, rfl⟩ := strL_get hx
    rw [List.getElem?_toArray, List.getElem?_map, hb]
    rfl
section
open Go.Sort Go.RowKit
set_option maxRecDepth 1000000
theorem gives87 (x : List UInt8) (W : World) : FnGives prog 87 #[] #[encStr x] (.bool (decide (x = []))) W := by
  show Calls Tryz.prog 87 #[.string ⟨x.toArray⟩] W _
  have hx : ((⟨x.toArray⟩ : ByteArray) == ⟨#[]⟩) = decide (x = []) := by
    rw [Bool.eq_iff_iff, MapKept.bytes_beq, decide_eq_true_iff]
    exact ⟨fun e => by simpa using e, fun e => by rw [e]⟩
  go_enter Tryz.func87, Tryz.ntmps87
  go_wp2
  all_goals (go_ret; exact ⟨by cases x <;> simp_all, 0, rfl⟩)
theorem c86 (K : Nat) : CtOk prog 86 ⟨[.l (.all 0), .clo 87 []], [⟨1, true, .row .s⟩], [.l (.all 0)], [⟨1, true, .row .s⟩], [true], delF⟩ :=
  ct_shortSF (g := 87) (fun xs => xs.filter fun x => !decide (x = [])) (by decide) (fun xs => List.length_filter_le _ _) Tryz.call86 fun blk o cap ss w h1 h2 h3 => by
    have eg : ∀ args w, (callFunc 87 args).run Tryz.prog w = .ok (.enter 87 args) w := Tryz.call87
    have := AnyE.slices_DeleteFunc Tryz.l86 encStr (fun _ => rfl) (fun x => decide (x = [])) 87 #[] eg [] Tryz.zeroValue9 blk o cap ss.toArray w (fun W x _ => gives87 x W) (fun n os dk x _ => gives87 x _) h1 (by simpa using h2) (by simpa using h3)
    have e86 : Tryz.l86_ren.f 10 = 86 := rfl
    rw [e86] at this
    simpa using this
end
theorem c103 (K : Nat) : CtOk prog 103 ⟨[.l (.v .s), .l (.v .s), .l (.v .s), .l (.v (.i .i64))], [], [.l (.v .s)], [], [], rplF⟩ :=
  ct_sssi (rt := .s) rplF Tryz.call103 fun l m o n r w hg hr => by
    obtain ⟨h1, h2⟩ := guard_some hr
    obtain ⟨g0, g1, g2⟩ := of_decide_eq_true h1
    simp only at g0 g1 g2
    cases h2
    obtain ⟨x, hx⟩ := gl0 hg
    have hc := Lib.count_le l m
    have hm : Lib.count l m * o.length ≤ 1001 * 1000 := Nat.mul_le_mul (by omega) g2
    have b : l.length + Lib.count l m * o.length ≤ 140737488355328 := by omega
    refine (Tryz.strings_Replace ⟨l.toArray⟩ ⟨m.toArray⟩ ⟨o.toArray⟩ n x w (Nat.lt_of_le_of_lt g1 (by decide)) hx g0 b).mono ?_
    rintro e w' ⟨rfl, hb⟩
    exact ⟨_, rfl, .str _, hb⟩
def F157 (K : Nat) (x : List UInt8 × Int) : Option (Int) := ibF x
def ct157 (K : Nat) : Ct := ⟨[.l (.v .s), .l (.v (.i .u8))], [], [.l (.v (.i .i64))], [], [], F157 K⟩
def F81 (K : Nat) (x : List UInt8 × List UInt8) : Option (List UInt8 × List UInt8 × Bool) := cutF x
def ct81 (K : Nat) : Ct := ⟨[.l (.v .s), .l (.v .s)], [], [.l (.v .s), .l (.v .s), .l (.v .b)], [], [], F81 K⟩
def F56 (K : Nat) (x : List (List UInt8) × List UInt8) : Option (List UInt8) := joinF x
def ct56 (K : Nat) : Ct := ⟨[.l (.v (.l .s)), .l (.v .s)], [], [.l (.v .s)], [], [], F56 K⟩
def F85 (K : Nat) (x : List UInt8 × List UInt8) : Option (List (List UInt8)) := splF x
def ct85 (K : Nat) : Ct := ⟨[.l (.v .s), .l (.v .s)], [], [.l (.all 0)], [⟨1, true, .row .s⟩], [], F85 K⟩
def F86 (K : Nat) (x : List (List UInt8)) : Option (List (List UInt8)) := delF x
def ct86 (K : Nat) : Ct := ⟨[.l (.all 0), .clo 87 []], [⟨1, true, .row .s⟩], [.l (.all 0)], [⟨1, true, .row .s⟩], [true], F86 K⟩
def F103 (K : Nat) (x : List UInt8 × List UInt8 × List UInt8 × Int) : Option (List UInt8) := rplF x
def ct103 (K : Nat) : Ct := ⟨[.l (.v .s), .l (.v .s), .l (.v .s), .l (.v (.i .i64))], [], [.l (.v .s)], [], [], F103 K⟩
end Go.U.Tryz
