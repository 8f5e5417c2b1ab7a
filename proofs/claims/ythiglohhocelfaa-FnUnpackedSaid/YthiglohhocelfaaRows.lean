/-
  No cell of these rows narrows 'for every input' (looked for: loops, veiled, ifaces, maps, wideKeys, modest, calm, conditions, laid).
  DERIVED. THE GIVEN ROWS OF THIS SEAT. 10 by the template 'for every input the law returns true; each argument reads behind the call as it read before'; 0 by the template 'total and deterministic' (their statements: YthiglohhocelfaaTotals.lean).
  GIVEN WITH THE SEED: the statements are not yours to turn. If you find one false, say at which input.
  Laid BY PROGRAM, IN A SANDBOX (cutbox-rows.mjs): the forced cells as the released guide's own fill.sh prints them over the translation 53217298033c4f3f… (all of the seat's roots in one cut). By AI agents, Wed Nov 11 2026. No macro, syntax, notation, axiom, sorry.
-/
import Derived.Test.YthiglohhocelfaaChecked
import GoSem.Claim
import GoSem.ClaimJoined
import GoSem.ClaimMapViews
import Derived.JoinedTies
import Derived.KernelRfl
namespace Go.Proofs.Ythiglohhocelfaa
/- THE CELL 'sum', in the pinned program and in every row, IS THE sha256 OF THE DUMP (.gsa) THAT YthiglohhocelfaaProg.lean LOADS. Nothing in Lean hashes anything: it is a label: what it is worth is what the hold of that sum in a sandbox is worth. -/
noncomputable def Try.pinned : Pinned := { name := "ythiglohhocelfaa", sum := "53217298033c4f3f8688d5d50bab6ec53fcc18d0c402a612d29a86276fed620e", checked := Try.checked }
namespace Rows
def none {H : Type} : Left H := { results := [], args := [] }

/-- 'laws.FnExactCharsOk': WHATEVER THE INPUT: true; the input reads as it did. -/
def fnExactCharsOkSpec : ChangeSpec := { name := "fnExactCharsOk", fn := fun _ => fun
  | [d] => { results := [.lit (.bool true)], args := [d] }
  | _ => none }
def fnExactCharsOkRow : OpenClaim := { program := "ythiglohhocelfaa", sum := "53217298033c4f3f8688d5d50bab6ec53fcc18d0c402a612d29a86276fed620e", func := "loop.example/g00460/laws.FnExactCharsOk", spec := "fnExactCharsOk", apart := false }
def FnExactCharsOkSaid : Prop := fnExactCharsOkRow.holds Try.pinned (OpenSpec.ofChange fnExactCharsOkSpec)

/-- ITS FALSE NEIGHBOUR: 'it returns false'. Refute it at one input. -/
def fnExactCharsOkWrong : ChangeSpec := { name := "fnExactCharsOk", fn := fun _ => fun
  | [d] => { results := [.lit (.bool false)], args := [d] }
  | _ => none }
def FnExactCharsOkWrongFalsely : Prop := fnExactCharsOkRow.holds Try.pinned (OpenSpec.ofChange fnExactCharsOkWrong)

/-- 'laws.FnExactPackedOf': WHATEVER THE INPUT: true; the input reads as it did. -/
def fnExactPackedOfSpec : ChangeSpec := { name := "fnExactPackedOf", fn := fun _ => fun
  | [d] => { results := [.lit (.bool true)], args := [d] }
  | _ => none }
def fnExactPackedOfRow : OpenClaim := { program := "ythiglohhocelfaa", sum := "53217298033c4f3f8688d5d50bab6ec53fcc18d0c402a612d29a86276fed620e", func := "loop.example/g00460/laws.FnExactPackedOf", spec := "fnExactPackedOf", inPlace := ["internal/abi.NoEscape"], apart := false }
def FnExactPackedOfSaid : Prop := fnExactPackedOfRow.holds Try.pinned (OpenSpec.ofChange fnExactPackedOfSpec)

/-- ITS FALSE NEIGHBOUR: 'it returns false'. Refute it at one input. -/
def fnExactPackedOfWrong : ChangeSpec := { name := "fnExactPackedOf", fn := fun _ => fun
  | [d] => { results := [.lit (.bool false)], args := [d] }
  | _ => none }
def FnExactPackedOfWrongFalsely : Prop := fnExactPackedOfRow.holds Try.pinned (OpenSpec.ofChange fnExactPackedOfWrong)

/-- 'laws.FnExactUnmapped': WHATEVER THE INPUT: true; the input reads as it did. -/
def fnExactUnmappedSpec : ChangeSpec := { name := "fnExactUnmapped", fn := fun _ => fun
  | [d1, d2] => { results := [.lit (.bool true)], args := [d1, d2] }
  | _ => none }
def fnExactUnmappedRow : OpenClaim := { program := "ythiglohhocelfaa", sum := "53217298033c4f3f8688d5d50bab6ec53fcc18d0c402a612d29a86276fed620e", func := "loop.example/g00460/laws.FnExactUnmapped", spec := "fnExactUnmapped", inPlace := ["internal/abi.NoEscape"], unfollowed := true, recurses := true, apart := false }
def FnExactUnmappedSaid : Prop := fnExactUnmappedRow.holds Try.pinned (OpenSpec.ofChange fnExactUnmappedSpec)

/-- ITS FALSE NEIGHBOUR: 'it returns false'. Refute it at one input. -/
def fnExactUnmappedWrong : ChangeSpec := { name := "fnExactUnmapped", fn := fun _ => fun
  | [d1, d2] => { results := [.lit (.bool false)], args := [d1, d2] }
  | _ => none }
def FnExactUnmappedWrongFalsely : Prop := fnExactUnmappedRow.holds Try.pinned (OpenSpec.ofChange fnExactUnmappedWrong)

/-- 'laws.FnUnmapped': WHATEVER THE INPUT: true; the input reads as it did. -/
def fnUnmappedSpec : ChangeSpec := { name := "fnUnmapped", fn := fun _ => fun
  | [d] => { results := [.lit (.bool true)], args := [d] }
  | _ => none }
def fnUnmappedRow : OpenClaim := { program := "ythiglohhocelfaa", sum := "53217298033c4f3f8688d5d50bab6ec53fcc18d0c402a612d29a86276fed620e", func := "loop.example/g00460/laws.FnUnmapped", spec := "fnUnmapped", inPlace := ["internal/abi.NoEscape"], unfollowed := true, recurses := true, apart := false }
def FnUnmappedSaid : Prop := fnUnmappedRow.holds Try.pinned (OpenSpec.ofChange fnUnmappedSpec)

/-- ITS FALSE NEIGHBOUR: 'it returns false'. Refute it at one input. -/
def fnUnmappedWrong : ChangeSpec := { name := "fnUnmapped", fn := fun _ => fun
  | [d] => { results := [.lit (.bool false)], args := [d] }
  | _ => none }
def FnUnmappedWrongFalsely : Prop := fnUnmappedRow.holds Try.pinned (OpenSpec.ofChange fnUnmappedWrong)

/-- 'laws.FnExactMapped': WHATEVER THE INPUT: true; the input reads as it did. -/
def fnExactMappedSpec : ChangeSpec := { name := "fnExactMapped", fn := fun _ => fun
  | [d1, d2] => { results := [.lit (.bool true)], args := [d1, d2] }
  | _ => none }
def fnExactMappedRow : OpenClaim := { program := "ythiglohhocelfaa", sum := "53217298033c4f3f8688d5d50bab6ec53fcc18d0c402a612d29a86276fed620e", func := "loop.example/g00460/laws.FnExactMapped", spec := "fnExactMapped", inPlace := ["internal/abi.NoEscape"], apart := false }
def FnExactMappedSaid : Prop := fnExactMappedRow.holds Try.pinned (OpenSpec.ofChange fnExactMappedSpec)

/-- ITS FALSE NEIGHBOUR: 'it returns false'. Refute it at one input. -/
def fnExactMappedWrong : ChangeSpec := { name := "fnExactMapped", fn := fun _ => fun
  | [d1, d2] => { results := [.lit (.bool false)], args := [d1, d2] }
  | _ => none }
def FnExactMappedWrongFalsely : Prop := fnExactMappedRow.holds Try.pinned (OpenSpec.ofChange fnExactMappedWrong)

/-- 'laws.FnMapped': WHATEVER THE INPUT: true; the input reads as it did. -/
def fnMappedSpec : ChangeSpec := { name := "fnMapped", fn := fun _ => fun
  | [d] => { results := [.lit (.bool true)], args := [d] }
  | _ => none }
def fnMappedRow : OpenClaim := { program := "ythiglohhocelfaa", sum := "53217298033c4f3f8688d5d50bab6ec53fcc18d0c402a612d29a86276fed620e", func := "loop.example/g00460/laws.FnMapped", spec := "fnMapped", inPlace := ["internal/abi.NoEscape"], apart := false }
def FnMappedSaid : Prop := fnMappedRow.holds Try.pinned (OpenSpec.ofChange fnMappedSpec)

/-- ITS FALSE NEIGHBOUR: 'it returns false'. Refute it at one input. -/
def fnMappedWrong : ChangeSpec := { name := "fnMapped", fn := fun _ => fun
  | [d] => { results := [.lit (.bool false)], args := [d] }
  | _ => none }
def FnMappedWrongFalsely : Prop := fnMappedRow.holds Try.pinned (OpenSpec.ofChange fnMappedWrong)

/-- 'laws.FnExactUnpacked': WHATEVER THE INPUT: true; the input reads as it did. -/
def fnExactUnpackedSpec : ChangeSpec := { name := "fnExactUnpacked", fn := fun _ => fun
  | [d] => { results := [.lit (.bool true)], args := [d] }
  | _ => none }
def fnExactUnpackedRow : OpenClaim := { program := "ythiglohhocelfaa", sum := "53217298033c4f3f8688d5d50bab6ec53fcc18d0c402a612d29a86276fed620e", func := "loop.example/g00460/laws.FnExactUnpacked", spec := "fnExactUnpacked", inPlace := ["internal/abi.NoEscape", "internal/bytealg.MakeNoZero"], apart := false }
def FnExactUnpackedSaid : Prop := fnExactUnpackedRow.holds Try.pinned (OpenSpec.ofChange fnExactUnpackedSpec)

/-- ITS FALSE NEIGHBOUR: 'it returns false'. Refute it at one input. -/
def fnExactUnpackedWrong : ChangeSpec := { name := "fnExactUnpacked", fn := fun _ => fun
  | [d] => { results := [.lit (.bool false)], args := [d] }
  | _ => none }
def FnExactUnpackedWrongFalsely : Prop := fnExactUnpackedRow.holds Try.pinned (OpenSpec.ofChange fnExactUnpackedWrong)

/-- 'laws.FnPacked': WHATEVER THE INPUT: true; the input reads as it did. -/
def fnPackedSpec : ChangeSpec := { name := "fnPacked", fn := fun _ => fun
  | [d] => { results := [.lit (.bool true)], args := [d] }
  | _ => none }
def fnPackedRow : OpenClaim := { program := "ythiglohhocelfaa", sum := "53217298033c4f3f8688d5d50bab6ec53fcc18d0c402a612d29a86276fed620e", func := "loop.example/g00460/laws.FnPacked", spec := "fnPacked", inPlace := ["internal/abi.NoEscape", "internal/bytealg.MakeNoZero"], apart := false }
def FnPackedSaid : Prop := fnPackedRow.holds Try.pinned (OpenSpec.ofChange fnPackedSpec)

/-- ITS FALSE NEIGHBOUR: 'it returns false'. Refute it at one input. -/
def fnPackedWrong : ChangeSpec := { name := "fnPacked", fn := fun _ => fun
  | [d] => { results := [.lit (.bool false)], args := [d] }
  | _ => none }
def FnPackedWrongFalsely : Prop := fnPackedRow.holds Try.pinned (OpenSpec.ofChange fnPackedWrong)

/-- 'laws.FnExactAt': WHATEVER THE INPUT: true; the input reads as it did. -/
def fnExactAtSpec : ChangeSpec := { name := "fnExactAt", fn := fun _ => fun
  | [d] => { results := [.lit (.bool true)], args := [d] }
  | _ => none }
def fnExactAtRow : OpenClaim := { program := "ythiglohhocelfaa", sum := "53217298033c4f3f8688d5d50bab6ec53fcc18d0c402a612d29a86276fed620e", func := "loop.example/g00460/laws.FnExactAt", spec := "fnExactAt", unfollowed := true, recurses := true, apart := false }
def FnExactAtSaid : Prop := fnExactAtRow.holds Try.pinned (OpenSpec.ofChange fnExactAtSpec)

/-- ITS FALSE NEIGHBOUR: 'it returns false'. Refute it at one input. -/
def fnExactAtWrong : ChangeSpec := { name := "fnExactAt", fn := fun _ => fun
  | [d] => { results := [.lit (.bool false)], args := [d] }
  | _ => none }
def FnExactAtWrongFalsely : Prop := fnExactAtRow.holds Try.pinned (OpenSpec.ofChange fnExactAtWrong)

/-- 'laws.FnUnpacked': WHATEVER THE INPUT: true; the input reads as it did. -/
def fnUnpackedSpec : ChangeSpec := { name := "fnUnpacked", fn := fun _ => fun
  | [d] => { results := [.lit (.bool true)], args := [d] }
  | _ => none }
def fnUnpackedRow : OpenClaim := { program := "ythiglohhocelfaa", sum := "53217298033c4f3f8688d5d50bab6ec53fcc18d0c402a612d29a86276fed620e", func := "loop.example/g00460/laws.FnUnpacked", spec := "fnUnpacked", inPlace := ["internal/abi.NoEscape", "internal/bytealg.MakeNoZero"], apart := false }
def FnUnpackedSaid : Prop := fnUnpackedRow.holds Try.pinned (OpenSpec.ofChange fnUnpackedSpec)

/-- ITS FALSE NEIGHBOUR: 'it returns false'. Refute it at one input. -/
def fnUnpackedWrong : ChangeSpec := { name := "fnUnpacked", fn := fun _ => fun
  | [d] => { results := [.lit (.bool false)], args := [d] }
  | _ => none }
def FnUnpackedWrongFalsely : Prop := fnUnpackedRow.holds Try.pinned (OpenSpec.ofChange fnUnpackedWrong)

/- THE SECOND FORM. 'bulk': how many values and letters a reading holds, each counted each time it is reached (what is shared counts as often as it is met; a slice's spare places count too). A statement '..UptoSaid' is the law's where the arguments, and the package variables that the reading takes, are together of bulk at most 1048576: NARROWER than '..Said'. Prove '..Said' where nothing that the law and all that it calls make is longer than what came in: it says more and counts as full. Else prove '..UptoSaid'. A law counts once. -/
mutual
def uptoBulk {H : Type} : DataW H → Nat
  | .lit (.string bytes) => bytes.length + 1
  | .lit _ => 1
  | .nil => 1
  | .ptr d => uptoBulk d + 1
  | .slice elems spare => uptoBulkAll elems + uptoBulkAll spare + 1
  | .agg parts => uptoBulkAll parts + 1
  | .iface _ d => uptoBulk d + 1
  | .map entries => uptoBulkEntries entries + 1
  | .held _ => 1
def uptoBulkAll {H : Type} : List (DataW H) → Nat
  | [] => 0
  | d :: r => uptoBulk d + uptoBulkAll r
def uptoBulkEntries {H : Type} : List (Lit × DataW H) → Nat
  | [] => 0
  | x :: r => uptoBulkEntry x + uptoBulkEntries r
def uptoBulkEntry {H : Type} : Lit × DataW H → Nat
  | (.string bytes, d) => bytes.length + uptoBulk d + 1
  | (_, d) => uptoBulk d + 1
 end
def uptoSmall : (H : Type) → List (DataW H) → Bool := fun _ ds => decide (uptoBulkAll ds ≤ 1048576)
def OpenSpec.upto (s : _root_.Go.ChangeSpec) : _root_.Go.OpenSpec := { _root_.Go.OpenSpec.ofChange s with cond := some uptoSmall }

/-- 'laws.FnExactCharsOk', WHERE WHAT IT READS IS OF BULK AT MOST 1048576: true; the input reads as it did. -/
def fnExactCharsOkUptoRow : OpenClaim := { program := "ythiglohhocelfaa", sum := "53217298033c4f3f8688d5d50bab6ec53fcc18d0c402a612d29a86276fed620e", func := "loop.example/g00460/laws.FnExactCharsOk", spec := "fnExactCharsOk", apart := false, narrowed := true }
def FnExactCharsOkUptoSaid : Prop := fnExactCharsOkUptoRow.holds Try.pinned (OpenSpec.upto fnExactCharsOkSpec)

/-- 'laws.FnExactPackedOf', WHERE WHAT IT READS IS OF BULK AT MOST 1048576: true; the input reads as it did. -/
def fnExactPackedOfUptoRow : OpenClaim := { program := "ythiglohhocelfaa", sum := "53217298033c4f3f8688d5d50bab6ec53fcc18d0c402a612d29a86276fed620e", func := "loop.example/g00460/laws.FnExactPackedOf", spec := "fnExactPackedOf", inPlace := ["internal/abi.NoEscape"], apart := false, narrowed := true }
def FnExactPackedOfUptoSaid : Prop := fnExactPackedOfUptoRow.holds Try.pinned (OpenSpec.upto fnExactPackedOfSpec)

/-- 'laws.FnExactUnmapped', WHERE WHAT IT READS IS OF BULK AT MOST 1048576: true; the input reads as it did. -/
def fnExactUnmappedUptoRow : OpenClaim := { program := "ythiglohhocelfaa", sum := "53217298033c4f3f8688d5d50bab6ec53fcc18d0c402a612d29a86276fed620e", func := "loop.example/g00460/laws.FnExactUnmapped", spec := "fnExactUnmapped", inPlace := ["internal/abi.NoEscape"], unfollowed := true, recurses := true, apart := false, narrowed := true }
def FnExactUnmappedUptoSaid : Prop := fnExactUnmappedUptoRow.holds Try.pinned (OpenSpec.upto fnExactUnmappedSpec)

/-- 'laws.FnUnmapped', WHERE WHAT IT READS IS OF BULK AT MOST 1048576: true; the input reads as it did. -/
def fnUnmappedUptoRow : OpenClaim := { program := "ythiglohhocelfaa", sum := "53217298033c4f3f8688d5d50bab6ec53fcc18d0c402a612d29a86276fed620e", func := "loop.example/g00460/laws.FnUnmapped", spec := "fnUnmapped", inPlace := ["internal/abi.NoEscape"], unfollowed := true, recurses := true, apart := false, narrowed := true }
def FnUnmappedUptoSaid : Prop := fnUnmappedUptoRow.holds Try.pinned (OpenSpec.upto fnUnmappedSpec)

/-- 'laws.FnExactMapped', WHERE WHAT IT READS IS OF BULK AT MOST 1048576: true; the input reads as it did. -/
def fnExactMappedUptoRow : OpenClaim := { program := "ythiglohhocelfaa", sum := "53217298033c4f3f8688d5d50bab6ec53fcc18d0c402a612d29a86276fed620e", func := "loop.example/g00460/laws.FnExactMapped", spec := "fnExactMapped", inPlace := ["internal/abi.NoEscape"], apart := false, narrowed := true }
def FnExactMappedUptoSaid : Prop := fnExactMappedUptoRow.holds Try.pinned (OpenSpec.upto fnExactMappedSpec)

/-- 'laws.FnMapped', WHERE WHAT IT READS IS OF BULK AT MOST 1048576: true; the input reads as it did. -/
def fnMappedUptoRow : OpenClaim := { program := "ythiglohhocelfaa", sum := "53217298033c4f3f8688d5d50bab6ec53fcc18d0c402a612d29a86276fed620e", func := "loop.example/g00460/laws.FnMapped", spec := "fnMapped", inPlace := ["internal/abi.NoEscape"], apart := false, narrowed := true }
def FnMappedUptoSaid : Prop := fnMappedUptoRow.holds Try.pinned (OpenSpec.upto fnMappedSpec)

/-- 'laws.FnExactUnpacked', WHERE WHAT IT READS IS OF BULK AT MOST 1048576: true; the input reads as it did. -/
def fnExactUnpackedUptoRow : OpenClaim := { program := "ythiglohhocelfaa", sum := "53217298033c4f3f8688d5d50bab6ec53fcc18d0c402a612d29a86276fed620e", func := "loop.example/g00460/laws.FnExactUnpacked", spec := "fnExactUnpacked", inPlace := ["internal/abi.NoEscape", "internal/bytealg.MakeNoZero"], apart := false, narrowed := true }
def FnExactUnpackedUptoSaid : Prop := fnExactUnpackedUptoRow.holds Try.pinned (OpenSpec.upto fnExactUnpackedSpec)

/-- 'laws.FnPacked', WHERE WHAT IT READS IS OF BULK AT MOST 1048576: true; the input reads as it did. -/
def fnPackedUptoRow : OpenClaim := { program := "ythiglohhocelfaa", sum := "53217298033c4f3f8688d5d50bab6ec53fcc18d0c402a612d29a86276fed620e", func := "loop.example/g00460/laws.FnPacked", spec := "fnPacked", inPlace := ["internal/abi.NoEscape", "internal/bytealg.MakeNoZero"], apart := false, narrowed := true }
def FnPackedUptoSaid : Prop := fnPackedUptoRow.holds Try.pinned (OpenSpec.upto fnPackedSpec)

/-- 'laws.FnExactAt', WHERE WHAT IT READS IS OF BULK AT MOST 1048576: true; the input reads as it did. -/
def fnExactAtUptoRow : OpenClaim := { program := "ythiglohhocelfaa", sum := "53217298033c4f3f8688d5d50bab6ec53fcc18d0c402a612d29a86276fed620e", func := "loop.example/g00460/laws.FnExactAt", spec := "fnExactAt", unfollowed := true, recurses := true, apart := false, narrowed := true }
def FnExactAtUptoSaid : Prop := fnExactAtUptoRow.holds Try.pinned (OpenSpec.upto fnExactAtSpec)

/-- 'laws.FnUnpacked', WHERE WHAT IT READS IS OF BULK AT MOST 1048576: true; the input reads as it did. -/
def fnUnpackedUptoRow : OpenClaim := { program := "ythiglohhocelfaa", sum := "53217298033c4f3f8688d5d50bab6ec53fcc18d0c402a612d29a86276fed620e", func := "loop.example/g00460/laws.FnUnpacked", spec := "fnUnpacked", inPlace := ["internal/abi.NoEscape", "internal/bytealg.MakeNoZero"], apart := false, narrowed := true }
def FnUnpackedUptoSaid : Prop := fnUnpackedUptoRow.holds Try.pinned (OpenSpec.upto fnUnpackedSpec)

end Rows
end Go.Proofs.Ythiglohhocelfaa
