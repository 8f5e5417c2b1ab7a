/- A part of the proof. No condition. -/
import Derived.Test.YtllgcnjhlhkhjaaDoorU1
import Derived.Shelf.Small.Strs
import Derived.Shelf.Utf8.RuneCount
import Derived.Shelf.Strings.Search1
import Derived.Shelf.Strings.Search2
import Derived.Shelf.Strings.Search3
import Derived.Shelf.Strings.Count
import Derived.Shelf.LaysM
import Derived.Shelf.Strings.Shaped
import Derived.Shelf.Strings.Prefix
import Derived.Shelf.Strings.Split
import Derived.Shelf.Strings.SplitShaped
import Derived.Shelf.Unicode.Decode
import Derived.Shelf.Strings.RuneCount
import Derived.Shelf.Strings.Explode
import Derived.Shelf.Unicode.DecodeSlow
import Derived.Shelf.Unicode.DecodeAny
import Derived.Test.YtllgcnjhlhkhjaaDoorProg
set_option linter.unusedVariables false
set_option linter.unusedSimpArgs false
set_option linter.unusedSectionVars false
namespace Go.Proofs
open Go.Shelf
def Tryd.lays137_ren : Go.Shelf.Ren := ⟨fun | 137 => 78 | 217 => 83 | 266 => 88 | n => n, fun | 9 => 9 | 5 => 5 | 3 => 3 | n => n, fun | n => n⟩
theorem Tryd.lays137 : Go.Proofs.Lays.n137 Tryd.prog Tryd.lays137_ren := {
  mixed := by kernel_rfl
  f137 := Tryd.func78.trans (congrArg some (by kernel_rfl))
  f217 := Tryd.func83.trans (congrArg some (by kernel_rfl))
  f266 := Tryd.func88.trans (congrArg some (by kernel_rfl))
  t3 := Tryd.underlying3
  a3 := Tryd.isAgg3
  z3 := Tryd.sizeOf3
  v3 := Tryd.zeroValue3
  t5 := Tryd.underlying5
  a5 := Tryd.isAgg5
  z5 := Tryd.sizeOf5
  v5 := Tryd.zeroValue5
  t9 := Tryd.underlying9
  a9 := Tryd.isAgg9
  z9 := Tryd.sizeOf9
  v9 := Tryd.zeroValue9 }
open Go.RowKit in
theorem Tryd.strings_IndexByte (s : ByteArray) (c : Int) (w : World) :
    Calls Tryd.prog 78 #[.string s, .int .u8 c] w fun e w' => e = .returned (.int .i64 (Lib.indexByte s.data.toList c.toNat.toUInt8)) ∧ w' = w := Any.strings_IndexByte Tryd.lays137 s c w
def Tryd.lays195_ren : Go.Shelf.Ren := ⟨fun | 195 => 79 | n => n, fun | 9 => 9 | 3 => 3 | 0 => 0 | 4 => 4 | n => n, fun | n => n⟩
def Tryd.lays217_ren : Go.Shelf.Ren := ⟨fun | 217 => 83 | 266 => 88 | n => n, fun | 9 => 9 | 5 => 5 | 3 => 3 | n => n, fun | n => n⟩
def Tryd.lays224_ren : Go.Shelf.Ren := ⟨fun | 224 => 86 | n => n, fun | 3 => 3 | n => n, fun | n => n⟩
def Tryd.lays314_ren : Go.Shelf.Ren := ⟨fun | 314 => 89 | n => n, fun | 9 => 9 | 51 => 89 | 3 => 3 | 4 => 4 | 5 => 5 | 46 => 74 | n => n, fun | n => n⟩
def Tryd.lays267_ren : Go.Shelf.Ren := ⟨fun | 267 => 87 | 314 => 89 | n => n, fun | 9 => 9 | 3 => 3 | 146 => 102 | 51 => 89 | 4 => 4 | 5 => 5 | 46 => 74 | n => n, fun | n => n⟩
def Tryd.lays219_ren : Go.Shelf.Ren := ⟨fun | 219 => 82 | 217 => 83 | 225 => 85 | 224 => 86 | 267 => 87 | 266 => 88 | 314 => 89 | n => n, fun | 9 => 9 | 3 => 3 | 4 => 4 | 5 => 5 | 46 => 74 | 146 => 102 | 51 => 89 | n => n, fun | 1 => 0 | n => n⟩
def Tryd.lays143_ren : Go.Shelf.Ren := ⟨fun | 143 => 77 | 219 => 82 | 217 => 83 | 225 => 85 | 224 => 86 | 267 => 87 | 266 => 88 | 314 => 89 | n => n, fun | 9 => 9 | 3 => 3 | 4 => 4 | 5 => 5 | 46 => 74 | 146 => 102 | 51 => 89 | n => n, fun | 1 => 0 | n => n⟩
def Tryd.lays138_ren : Go.Shelf.Ren := ⟨fun | 138 => 76 | 195 => 79 | 218 => 81 | 143 => 77 | 219 => 82 | 217 => 83 | 225 => 85 | 224 => 86 | 267 => 87 | 266 => 88 | 314 => 89 | n => n, fun | 9 => 9 | 3 => 3 | 4 => 4 | 5 => 5 | 0 => 0 | 46 => 74 | 146 => 102 | 51 => 89 | n => n, fun | 1 => 0 | n => n⟩
def Tryd.laysM219_ren : Go.Shelf.Ren := ⟨fun | 219 => 82 | 217 => 83 | 225 => 85 | 224 => 86 | 267 => 87 | 266 => 88 | 314 => 89 | n => n, fun | 9 => 9 | 3 => 3 | 4 => 4 | 5 => 5 | 46 => 74 | 146 => 102 | 51 => 89 | n => n, fun | 1 => 0 | n => n⟩
def Tryd.laysM143_ren : Go.Shelf.Ren := ⟨fun | 143 => 77 | 219 => 82 | 217 => 83 | 225 => 85 | 224 => 86 | 267 => 87 | 266 => 88 | 314 => 89 | n => n, fun | 9 => 9 | 3 => 3 | 4 => 4 | 5 => 5 | 46 => 74 | 146 => 102 | 51 => 89 | n => n, fun | 1 => 0 | n => n⟩
def Tryd.laysM138_ren : Go.Shelf.Ren := ⟨fun | 138 => 76 | 195 => 79 | 218 => 81 | 143 => 77 | 219 => 82 | 217 => 83 | 225 => 85 | 224 => 86 | 267 => 87 | 266 => 88 | 314 => 89 | n => n, fun | 9 => 9 | 3 => 3 | 4 => 4 | 5 => 5 | 0 => 0 | 46 => 74 | 146 => 102 | 51 => 89 | n => n, fun | 1 => 0 | n => n⟩
def Tryd.lays206_ren : Go.Shelf.Ren := ⟨fun | 206 => 71 | n => n, fun | 9 => 9 | 4 => 4 | 3 => 3 | n => n, fun | n => n⟩
def Tryd.lays99_ren : Go.Shelf.Ren := ⟨fun | 99 => 58 | 206 => 71 | n => n, fun | 9 => 9 | 4 => 4 | 3 => 3 | n => n, fun | n => n⟩
def Tryd.lays221_ren : Go.Shelf.Ren := ⟨fun | 221 => 72 | 268 => 75 | 138 => 76 | 143 => 77 | 195 => 79 | 197 => 80 | 218 => 81 | 219 => 82 | 260 => 84 | 217 => 83 | 225 => 85 | 224 => 86 | 267 => 87 | 266 => 88 | 314 => 89 | n => n, fun | 9 => 9 | 3 => 3 | 31 => 57 | 4 => 4 | 0 => 0 | 105 => 96 | 21 => 21 | 5 => 5 | 46 => 74 | 119 => 98 | 139 => 101 | 138 => 100 | 146 => 102 | 51 => 89 | n => n, fun | 1 => 0 | 3 => 1 | 4 => 2 | n => n⟩
def Tryd.lays146_ren : Go.Shelf.Ren := ⟨fun | 146 => 59 | 221 => 72 | 268 => 75 | 138 => 76 | 143 => 77 | 195 => 79 | 197 => 80 | 218 => 81 | 219 => 82 | 260 => 84 | 217 => 83 | 225 => 85 | 224 => 86 | 267 => 87 | 266 => 88 | 314 => 89 | n => n, fun | 9 => 9 | 31 => 57 | 3 => 3 | 4 => 4 | 0 => 0 | 105 => 96 | 21 => 21 | 5 => 5 | 46 => 74 | 119 => 98 | 139 => 101 | 138 => 100 | 146 => 102 | 51 => 89 | n => n, fun | 1 => 0 | 3 => 1 | 4 => 2 | n => n⟩
theorem Tryd.lays146 : Go.Proofs.Lays.n146 Tryd.prog Tryd.lays146_ren := {
  mixed := by kernel_rfl
  f138 := Tryd.func76.trans (congrArg some (by kernel_rfl))
  f143 := Tryd.func77.trans (congrArg some (by kernel_rfl))
  f146 := Tryd.func59.trans (congrArg some (by kernel_rfl))
  f195 := Tryd.func79.trans (congrArg some (by kernel_rfl))
  f197 := Tryd.func80.trans (congrArg some (by kernel_rfl))
  f217 := Tryd.func83.trans (congrArg some (by kernel_rfl))
  f218 := Tryd.func81.trans (congrArg some (by kernel_rfl))
  f219 := Tryd.func82.trans (congrArg some (by kernel_rfl))
  f221 := Tryd.func72.trans (congrArg some (by kernel_rfl))
  f224 := Tryd.func86.trans (congrArg some (by kernel_rfl))
  f225 := Tryd.func85.trans (congrArg some (by kernel_rfl))
  f260 := Tryd.func84.trans (congrArg some (by kernel_rfl))
  f266 := Tryd.func88.trans (congrArg some (by kernel_rfl))
  f267 := Tryd.func87.trans (congrArg some (by kernel_rfl))
  f268 := Tryd.func75.trans (congrArg some (by kernel_rfl))
  f314 := Tryd.func89.trans (congrArg some (by kernel_rfl))
  t0 := Tryd.underlying0
  a0 := Tryd.isAgg0
  z0 := Tryd.sizeOf0
  v0 := Tryd.zeroValue0
  t3 := Tryd.underlying3
  a3 := Tryd.isAgg3
  z3 := Tryd.sizeOf3
  v3 := Tryd.zeroValue3
  t4 := Tryd.underlying4
  a4 := Tryd.isAgg4
  z4 := Tryd.sizeOf4
  v4 := Tryd.zeroValue4
  t5 := Tryd.underlying5
  a5 := Tryd.isAgg5
  z5 := Tryd.sizeOf5
  v5 := Tryd.zeroValue5
  t9 := Tryd.underlying9
  a9 := Tryd.isAgg9
  z9 := Tryd.sizeOf9
  v9 := Tryd.zeroValue9
  t21 := Tryd.underlying21
  a21 := Tryd.isAgg21
  z21 := Tryd.sizeOf21
  v21 := Tryd.zeroValue21
  t31 := Tryd.underlying57
  a31 := Tryd.isAgg57
  z31 := Tryd.sizeOf57
  v31 := Tryd.zeroValue57
  t46 := Tryd.underlying74
  a46 := Tryd.isAgg74
  z46 := Tryd.sizeOf74
  v46 := Tryd.zeroValue74
  t51 := Tryd.underlying89
  a51 := Tryd.isAgg89
  z51 := Tryd.sizeOf89
  v51 := Tryd.zeroValue89
  t105 := Tryd.underlying96
  a105 := Tryd.isAgg96
  z105 := Tryd.sizeOf96
  v105 := Tryd.zeroValue96
  t119 := Tryd.underlying98
  a119 := Tryd.isAgg98
  z119 := Tryd.sizeOf98
  t138 := Tryd.underlying100
  a138 := Tryd.isAgg100
  z138 := Tryd.sizeOf100
  v138 := Tryd.zeroValue100
  t139 := Tryd.underlying101
  a139 := Tryd.isAgg101
  z139 := Tryd.sizeOf101
  v139 := Tryd.zeroValue101
  t146 := Tryd.underlying102
  a146 := Tryd.isAgg102
  z146 := Tryd.sizeOf102
  v146 := Tryd.zeroValue102
  g1 := by kernel_rfl
  g3 := by kernel_rfl
  g4 := by kernel_rfl }
open Go.RowKit Go.Lib in
theorem Tryd.strings_Split (s sep : ByteArray) (m : Int) (w : World) (hs : s.size < 4294967281) (hm : w.cell? ⟨0, 0, none⟩ = some (.int .i64 m)) (h1 : 1 ≤ sep.size) :
    Calls Tryd.prog 59 #[.string s, .string sep] w fun e w' =>
      e = .returned (.slice (some ⟨w.heap.size, 0, none⟩) (Lib.countB s sep + 1) (Lib.countB s sep + 1)) ∧ w' = w.alloc (.cells ((Lib.splitB sep 0 (Lib.countB s sep) s).map Value.string).toArray 9) := Any.strings_Split Tryd.lays146 (by kernel_rfl) s sep m w hs hm h1
def Tryd.laysM146_ren : Go.Shelf.Ren := ⟨fun | 146 => 59 | 221 => 72 | 268 => 75 | 138 => 76 | 143 => 77 | 195 => 79 | 197 => 80 | 218 => 81 | 219 => 82 | 260 => 84 | 217 => 83 | 225 => 85 | 224 => 86 | 267 => 87 | 266 => 88 | 314 => 89 | n => n, fun | 9 => 9 | 31 => 57 | 3 => 3 | 4 => 4 | 0 => 0 | 105 => 96 | 21 => 21 | 5 => 5 | 46 => 74 | 119 => 98 | 139 => 101 | 138 => 100 | 146 => 102 | 51 => 89 | n => n, fun | 1 => 0 | 3 => 1 | 4 => 2 | n => n⟩
def Tryd.lays197_ren : Go.Shelf.Ren := ⟨fun | 197 => 80 | 260 => 84 | n => n, fun | 9 => 9 | 21 => 21 | 3 => 3 | 4 => 4 | 5 => 5 | 105 => 96 | 119 => 98 | 0 => 0 | 46 => 74 | 139 => 101 | 138 => 100 | n => n, fun | 3 => 1 | 4 => 2 | n => n⟩
def Tryd.lays268_ren : Go.Shelf.Ren := ⟨fun | 268 => 75 | 195 => 79 | 197 => 80 | 260 => 84 | n => n, fun | 9 => 9 | 3 => 3 | 31 => 57 | 4 => 4 | 105 => 96 | 21 => 21 | 0 => 0 | 5 => 5 | 119 => 98 | 46 => 74 | 139 => 101 | 138 => 100 | n => n, fun | 3 => 1 | 4 => 2 | n => n⟩
def Tryd.lays260_ren : Go.Shelf.Ren := ⟨fun | 260 => 84 | n => n, fun | 9 => 9 | 21 => 21 | 3 => 3 | 4 => 4 | 5 => 5 | 119 => 98 | 0 => 0 | 46 => 74 | 139 => 101 | 138 => 100 | n => n, fun | 3 => 1 | 4 => 2 | n => n⟩
end Go.Proofs
namespace Go.U.Tryd
open Go Go.U Go.Proofs Go.Proofs.Tryd
instance : Gl prog := ⟨[0], fun _ o => ∃ arr ty fz, o = .cells arr ty fz ∧ ∃ m, arr[0]? = some (.int .i64 m)⟩
theorem gl0 {w : World} (h : ∀ g, g ∈ Gl.l prog → GlAt prog w g) : ∃ m, w.cell? ⟨0, 0, none⟩ = some (.int .i64 m) := by
  obtain ⟨o, h1, arr, ty, fz, rfl, m, hm⟩ := h 0 (List.mem_cons_self ..)
  exact ⟨m, by simp only [World.cell?, h1]; exact hm⟩
def splR (l m : List UInt8) : List (List UInt8) := (Lib.splitB ⟨m.toArray⟩ 0 (Lib.countB ⟨l.toArray⟩ ⟨m.toArray⟩) ⟨l.toArray⟩).map fun b => b.data.toList
def splF (x : List UInt8 × List UInt8) : Option (List (List UInt8)) := guard (decide (1 ≤ x.2.length ∧ x.1.length < 4294967281)) (some (splR x.1 x.2))
theorem rd_str (w : World) (S : Nat → Prop) (b : ByteArray) : RD w S (.string b) (.str b.data.toList) := by
  have h := RD.str (w := w) (S := S) b.data.toList
  have : (⟨b.data.toList.toArray⟩ : ByteArray) = b := rfl
  rwa [this] at h
def strL (l : List ByteArray) : List (List UInt8) := l.map fun b => b.data.toList
theorem strL_len (l : List ByteArray) : (strL l).length = l.length := List.length_map ..
theorem strL_get {l : List ByteArray} {e : Nat} {y : List UInt8} (h : (strL l)[e]? = some y) : ∃ b, l[e]? = some b ∧ y = b.data.toList := by
  unfold strL at h
  rw [List.getElem?_map] at h
  cases hx : l[e]? with
  | none => rw [hx] at h; cases h
  | some b => rw [hx] at h; cases h; exact ⟨b, rfl, rfl⟩
theorem alloc_cell (w : World) (l : List ByteArray) (ty e : Nat) (b : ByteArray) (h : l[e]? = some b) : (w.alloc (.cells (l.map Value.string).toArray ty)).cell? ⟨w.heap.size, e, none⟩ = some (.string b) := by
  have h1 : (w.alloc (.cells (l.map Value.string).toArray ty)).heap[w.heap.size]? = some (.cells (l.map Value.string).toArray ty) := by
    show (w.heap.push _)[w.heap.size]? = _
    rw [Array.getElem?_push_size]
  simp only [World.cell?, h1, List.getElem?_toArray, List.getElem?_map, h]
  rfl
theorem rd_strs (w : World) (ty : Nat) (l : List ByteArray) : RD (w.alloc (.cells (l.map Value.string).toArray ty)) (Fresh w (w.alloc (.cells (l.map Value.string).toArray ty))) (.slice (some ⟨w.heap.size, 0, none⟩) l.length l.length) (.rov .s (strL l)) := by
  have hsz : w.heap.size < (w.alloc (.cells (l.map Value.string).toArray ty)).heap.size := by
    show w.heap.size < (w.heap.push _).size
    rw [Array.size_push]; omega
  by_cases hl : l = []
  · subst hl; exact .rov0 ..
  · have key := RD.rov (w := w.alloc (.cells (l.map Value.string).toArray ty)) (S := Fresh w (w.alloc (.cells (l.map Value.string).toArray ty))) w.heap.size 0 l.length .s (strL l)
      (fun e _ => ((l.map Value.string)[e]?).getD undef) ⟨Nat.le_refl _, hsz⟩ hsz (fun h => hl (by
        have := congrArg List.length h
        rw [strL_len] at this
        exact List.length_eq_zero_iff.1 this)) (Nat.le_of_eq (strL_len l))
      (fun e el j y h1 h2 => by
        obtain ⟨b, hb, rfl⟩ := strL_get h1
        cases j with
        | succ j => simp [Ty.enc] at h2
        | zero =>
          have h3 : (l.map Value.string)[e]? = some (.string b) := by rw [List.getElem?_map, hb]; rfl
          have h4 := alloc_cell w l ty e b hb
          simp only [Ty.size, Nat.mul_one, Nat.zero_add, Nat.add_zero, h3, Option.getD_some]
          exact h4)
      (fun e el j y h1 h2 => by
        obtain ⟨b, hb, rfl⟩ := strL_get h1
        cases j with
        | succ j => simp [Ty.enc] at h2
        | zero =>
          have h3 : (l.map Value.string)[e]? = some (.string b) := by rw [List.getElem?_map, hb]; rfl
          have hy : y = .str b.data.toList := by simpa [Ty.enc] using h2.symm
          subst hy
          rw [h3]
          exact rd_str _ _ b)
    have hlen : @List.length Ty.s.den (strL l) = l.length := strL_len l
    rw [hlen] at key
    exact key
def ibF (x : List UInt8 × Int) : Option Int := some (Lib.indexByte x.1 x.2.toNat.toUInt8)
theorem c59 (K : Nat) : CtOk prog 59 ⟨[.l (.v .s), .l (.v .s)], [], [.l (.v (.l .s))], [], [], splF⟩ :=
  ct_ss (rt := .l .s) splF Tryd.call59 fun l m r w hg hr => by
    obtain ⟨h1, h2⟩ := guard_some hr
    obtain ⟨g0, g1⟩ := of_decide_eq_true h1
    cases h2
    obtain ⟨x, hx⟩ := gl0 hg
    refine (Tryd.strings_Split ⟨l.toArray⟩ ⟨m.toArray⟩ x w g1 hx g0).mono ?_
    rintro e w' ⟨rfl, rfl⟩
    refine ⟨_, rfl, ?_, (Go.RowKit.Below.refl _ _).alloc (Nat.le_refl _) _⟩
    have hl := Lib.splitB_all ⟨m.toArray⟩ g0 0 _ ⟨l.toArray⟩ rfl
    have := rd_strs w 9 (Lib.splitB ⟨m.toArray⟩ 0 (Lib.countB ⟨l.toArray⟩ ⟨m.toArray⟩) ⟨l.toArray⟩)
    rw [hl] at this
    exact this
theorem ct_su {P : Program} [Gl P] {f : Nat} {rt : Ty} {q : IntKind} (F : List UInt8 × Int → Option rt.den) (hent : ∀ args w, (callFunc f args).run P w = .ok (.enter f args) w)
    (h : ∀ l m r w, (∀ g, g ∈ Gl.l P → GlAt P w g) → F (l, m) = some r → Calls P f #[.string ⟨l.toArray⟩, .int q m] w fun e w' => ∃ v, e = .returned v ∧ RD w' (Fresh w w') v (leafD rt r) ∧ Go.RowKit.Below w.heap.size w w') :
    CtOk P f ⟨[.l (.v .s), .l (.v (.i q))], [], [.l (.v rt)], [], [], F⟩ := by
  intro w β S vs args hs res hs' hF hp
  unfold funOf at hF
  split at hF
  case h_2 => cases hF
  rename_i a b ha hb
  obtain ⟨d0, d1, rfl, rfl⟩ := grab2 ha
  obtain ⟨rfl, rfl⟩ := grab0 hb
  obtain ⟨⟨l, m⟩, hx, hd⟩ := unDs_spec _ _ _ hF
  have e0 : d0 = .str l := dsub_str hd.1
  have e1 : d1 = .i q m := dsub_i hd.2.1
  subst e0 e1
  have hF' : (bindO (F (l, m)) fun r => some ([SV.d (leafD rt r)], ([] : List Blk))) = some (res, hs') := hx
  obtain ⟨r, hr, h2⟩ := bindO_some hF'
  cases h2
  have hsz := hp.sz
  obtain ⟨v0, v1, rfl⟩ : ∃ v0 v1, vs = #[v0, v1] := by
    have : vs.size = 2 := hsz
    refine ⟨vs[0]'(by omega), vs[1]'(by omega), ?_⟩
    apply Array.ext
    · simpa using this
    · intro i h1 h2
      simp at h2
      match i, h2 with
      | 0, _ => rfl
      | 1, _ => rfl
      | i + 2, h2 => omega
  have r0 := hp.args 0 v0 _ rfl rfl
  have r1 := hp.args 1 v1 _ rfl rfl
  have e0 : v0 = .string ⟨l.toArray⟩ := by cases r0 with | d h => cases h; rfl
  have e1 : v1 = .int q m := by cases r1 with | d h => cases h; rfl
  subst e0 e1
  refine .inl ⟨hent _ _, (h l m r w (fun g hg => (hp.gl g hg).2) hr).mono fun e w' ⟨v, he, hv, bel⟩ => ⟨v, β, _, he, post_data hp hv bel⟩⟩
theorem c78 (K : Nat) : CtOk prog 78 ⟨[.l (.v .s), .l (.v (.i .u8))], [], [.l (.v (.i .i64))], [], [], ibF⟩ :=
  ct_su (rt := .i .i64) ibF Tryd.call78 fun l m r w hg hr => by
    cases hr
    refine (Tryd.strings_IndexByte ⟨l.toArray⟩ m w).mono ?_
    rintro e w' ⟨rfl, rfl⟩
    exact ⟨_, rfl, .i _ _, Go.RowKit.Below.refl _ _⟩
def F59 (K : Nat) (x : List UInt8 × List UInt8) : Option (List (List UInt8)) := splF x
def ct59 (K : Nat) : Ct := ⟨[.l (.v .s), .l (.v .s)], [], [.l (.v (.l .s))], [], [], F59 K⟩
def F78 (K : Nat) (x : List UInt8 × Int) : Option (Int) := ibF x
def ct78 (K : Nat) : Ct := ⟨[.l (.v .s), .l (.v (.i .u8))], [], [.l (.v (.i .i64))], [], [], F78 K⟩
end Go.U.Tryd
