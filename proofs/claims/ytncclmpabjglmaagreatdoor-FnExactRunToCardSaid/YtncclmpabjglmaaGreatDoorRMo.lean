/- A part of the proof. No condition. -/
import Derived.Test.YtncclmpabjglmaaGreatDoorP4
import Derived.Test.YtncclmpabjglmaaGreatDoorRMg
import Derived.Test.YtncclmpabjglmaaGreatDoorRMh
import Derived.LaidByTextLater
import Derived.LaidSub
import Derived.LaidOnce
import Derived.Test.YtncclmpabjglmaaGreatDoorCards
import Derived.ShutString
import Derived.ChangeOld
import Derived.Below
import Derived.Carry
import Derived.Deep.Slices
import Derived.ChangeSame
import Derived.SevenTiedAt
import Derived.Stop.Joined
set_option linter.unusedVariables false
set_option linter.unusedSimpArgs false
set_option linter.unusedSectionVars false
namespace Go.Proofs.YtncclmpabjglmaaGreatDoor.fnExactRunTo
open Go Go.U Go.U.Tryz Go.Proofs Go.Proofs.YtncclmpabjglmaaGreatDoor Go.Proofs.YtncclmpabjglmaaGreatDoor.shared Go.ChangeShapes Go.WideShapes Go.ChangeAt Go.RowKit
set_option linter.unusedVariables false
section
set_option maxRecDepth 100000
theorem fnExactRunTo_row_tie : Rows.fnExactRunToRow.laidByTextAt .later Tryz.pinned [.data, .data, .data, .data, .pinned, .pinned] true :=
  OpenClaim.laidByTextAt_pinned rfl rfl tie rfl rfl rfl rfl (fun y hy _e => by
    simp only [Rows.fnExactRunToRow, List.zip_cons_cons, List.zip_nil_right, List.mem_cons, List.mem_nil_iff, or_false] at hy
    rcases hy with rfl | rfl | rfl | rfl | rfl | rfl
    · cases _e
    · cases _e
    · cases _e
    · cases _e
    · exact ⟨pin_laid_unicode_CaseRanges, by kernel_rfl⟩
    · exact ⟨pin_laid_unicode_utf8_first, by kernel_rfl⟩) fits1
end
set_option maxRecDepth 100000 in
theorem lifted (os : Os) (started : os.Started) (H : Type) (enc : TypeId × Value → H) :
    ReturnsInHanded {} Tryz.checked os 12 .any (fun w args => (Rows.fnExactRunToSpec.pre enc Tryz.prog Tryz.f12 Rows.fnExactRunToRow.domain false w args ∧ laidMetH Tryz.prog laidL w) ∧ sizedMet enc Tryz.prog Tryz.f12 (OpenSpec.ofChange Rows.fnExactRunToSpec) false w args)
      (Rows.fnExactRunToSpec.post enc Tryz.prog Tryz.f12 false true false false) := by
  refine wrap (C := Tryz.checked) (X := fun w _ => laidMetH Tryz.prog laidL w) (fun _ _ _ hh h => h.of_heap hh) ownK started (by kernel_rfl) Tryz.func12
    (ChangeSpec.witness_shaped (enc := enc) (C := Tryz.checked) (os := os) (X := fun w _ => laidMetH Tryz.prog laidL w) false (World.laidAll Tryz.prog os laidL) #[.agg #[.int .i64 0, .int .i64 0, .int .i64 0, .int .i64 0, .int .i64 0, .int .i64 0, .int .i64 0, .int .i64 0, .int .i64 0, .int .i64 0, .bool false, .bool false, .string ⟨#[]⟩, .int .i64 0, .int .i64 0, .string ⟨#[]⟩, .int .i64 0, .bool false, .int .i64 0, .string ⟨#[]⟩, .string ⟨#[]⟩, .slice none 0 0, .int .i64 0], .slice none 0 0, .int .i64 0] 8 (World.laidAll_os _ _ _)
      (World.shaped_of_ZipB (by kernel_rfl) (by kernel_rfl)) (by kernel_rfl) (by kernel_rfl) (by kernel_rfl)
      (by rw [MakeChecks.laidMetH_plain _ _ _ (by kernel_rfl)]; exact laidMet_laidAll _ (by kernel_rfl) (by kernel_rfl))) ?_
  intro W base args ds gs before hval0 hW hL hsh
  have hval : ∀ (j : Nat) t v, Tryz.f12.params[j]? = some t → args[j]? = some v → Value.okWide Tryz.prog W .any base t v := hval0
  have hW' := hW
  obtain ⟨p, q, hA0, hV, rfl, hfz, hnd⟩ := hW
  have hA : DataW.TrodAll enc Tryz.prog W 0 (fun _ => true) true Tryz.f12.params.toList args.toList ds p := hA0
  rw [Tryz.params12] at hA hval
  obtain ⟨v0, vs0, d0, ds0, p0, q0, hargs, rfl, rfl, h0, r0⟩ := trodAll_cons hA
  obtain ⟨v1, vs1', d1, ds1, p1, q1, hargs1, rfl, rfl, h1, r1⟩ := trodAll_cons r0
  obtain ⟨v2, vs2', d2, ds2, p2, q2, hargs2, rfl, rfl, h2, r2⟩ := trodAll_cons r1
  obtain ⟨rfl, rfl, rfl⟩ := trodAll_nil r2
  obtain rfl : args = #[v0, v1, v2] := by cases args; simp_all
  obtain ⟨rfl, rfl⟩ := trodVars_none hV
  have k0 := h0
  have k1 := h1
  have k2 := h2
  have lt0 : ∀ x ∈ p0, x.block < W.heap.size := by obtain ⟨m, hm⟩ := k0; exact DataW.trod_lt m _ _ _ hm
  have lt1 : ∀ x ∈ p1, x.block < W.heap.size := by obtain ⟨m, hm⟩ := k1; exact DataW.trod_lt m _ _ _ hm
  have lt2 : ∀ x ∈ p2, x.block < W.heap.size := by obtain ⟨m, hm⟩ := k2; exact DataW.trod_lt m _ _ _ hm
  obtain ⟨c0, rfl, hc0⟩ := okWide_struct Tryz.underlying49 (hval 0 49 v0 rfl rfl)
  obtain ⟨A1, l1, cp1, rfl⟩ := okWide_slice Tryz.underlying64 (hval 1 64 v1 rfl rfl)
  obtain ⟨n2, rfl⟩ := okWide_int Tryz.underlying2 (hval 2 2 v2 rfl rfl)
  obtain ⟨fuel0, hf0⟩ := h0
  obtain ⟨fuel1, hf1⟩ := h1
  obtain ⟨fuel2, hf2⟩ := h2
  obtain ⟨a0, hop0⟩ := open_ty tl49 hf0
  obtain ⟨a1, hop1⟩ := open_ty tl64 hf1
  obtain ⟨a2, hop2⟩ := open_ty tl2 hf2
  obtain ⟨K, hK⟩ := to_law a0 a1 a2 hop0.ok hop1.ok hop2.ok
  have hF : funOf (ct12 K) [.agg ((Ty.enc T49 a0).map SV.d), .d (.rov (.c (.i .i64) (.i .i64)) a1), .d (.i .i64 a2)] [] = some ([.d (.b true)], []) := by rw [fun12, hK]; rfl
  refine (calls_true (c12 K) Tryz.call12 (glok hL hsh) hF rfl (vs3 (Opn.agg hop0) (Opn.one hop1 rfl) (Opn.one hop2 rfl))).mono fun e W' ⟨he, bel⟩ => ?_
  subst he
  exact ⟨_, rfl, _, _, _, [], _, [], hW', trodAll_mk1 (shut_bool Tryz.underlying4 _), (trodAll_cons_mk (Below.trod laidOutP (by kernel_rfl) (of_decide_eq_true (by kernel_rfl)) k0 bel lt0) (trodAll_cons_mk (Below.trod laidOutP (by kernel_rfl) (of_decide_eq_true (by kernel_rfl)) k1 bel lt1) (trodAll_cons_mk (Below.trod laidOutP (by kernel_rfl) (of_decide_eq_true (by kernel_rfl)) k2 bel lt2) trodAll_mk0))), rfl, bel.frame _, fun h => by cases h⟩
theorem named : Tryz.prog.funcNamed "loop.example/g00460/laws.FnExactRunTo" = some 12 := by kernel_rfl
theorem c1 : Rows.fnExactRunToRow.wf (OpenSpec.ofChange Rows.fnExactRunToSpec) = true := by kernel_rfl
theorem c4 : namedTie Tryz.prog Rows.fnExactRunToRow.named Rows.fnExactRunToSpec.vars = true := by kernel_rfl
theorem c5 : (Rows.fnExactRunToRow.inPlace == Tryz.prog.inPlace 12) = true := by kernel_rfl
theorem c6 : (Rows.fnExactRunToRow.unfollowed == Tryz.prog.unfollowed 12) = true := by kernel_rfl
theorem c7 : (Rows.fnExactRunToRow.recurses == Tryz.prog.recurses 12) = true := by kernel_rfl
theorem c8 : (Rows.fnExactRunToRow.named == Tryz.prog.varsNamed 12) = true := by kernel_rfl
theorem c9 : (Rows.fnExactRunToRow.lifted == Tryz.prog.liftsFinal) = true := k9
theorem c10 : Tryz.prog.stopsHeard = true := k10
theorem c11 : Tryz.prog.mayEnter = true := k11
theorem c12 : (Rows.fnExactRunToRow.plainKeys == Tryz.prog.plainKeys) = true := k12
theorem c13 : (Tryz.prog.make == some Rows.fnExactRunToRow.make) = true := k13
theorem rowed : mapsRowed Tryz.prog = true := krowed
theorem facts : joinedFacts Tryz.prog 12 Tryz.f12 Rows.fnExactRunToSpec Rows.fnExactRunToRow = true := by
  unfold joinedFacts
  rw [c1, laidOutP, rowed, c4, c5, c6, c7, c8, c9, c10, c11, c12, c13]
  kernel_rfl
theorem inst : Tryz.f12.isInstance Tryz.pinned.checked.prog Rows.fnExactRunToRow.origin Rows.fnExactRunToRow.targs := of_decide_eq_true (by kernel_rfl)
theorem wrapper : Tryz.f12.isWrapper Tryz.pinned.checked.prog Rows.fnExactRunToRow.wrapper Rows.fnExactRunToRow.mainSum := by
  unfold Func.isWrapper; first | (rw [if_pos (by decide +kernel)]; kernel_rfl) | (rw [if_neg (by decide +kernel)]; exact ⟨rfl, rfl⟩)
theorem over : Rows.fnExactRunToRow.holds Tryz.pinned (OpenSpec.ofChange Rows.fnExactRunToSpec) :=
  OpenClaim.holds_of_wide 12 Tryz.f12 rfl rfl rfl rfl rfl rfl rfl ⟨rfl, rfl, rfl, rfl, rfl⟩ rfl rfl rfl rfl rfl named Tryz.func12 facts
    inst wrapper (fun os started H enc _ => lifted os started H enc)
theorem wft : Rows.fnExactRunToRow.wfByText (OpenSpec.ofChange Rows.fnExactRunToSpec) = true := by kernel_rfl
theorem goes : false = Rows.fnExactRunToRow.goesBy Tryz.pinned.checked.prog := by kernel_rfl
theorem mains : Tryz.pinned.checked.prog.mainIs = some (true, "9e289ab50bdc895d2fd7df68951a9def0204cd4910b64d4c0b3d38009ba86fe8".toList) := kmains
theorem looks : false = Tryz.pinned.checked.prog.looks [] := klooks
theorem stands : ([49, 64, 2].all fun u => !Tryz.prog.wantsStandIn u) = true := by kernel_rfl
theorem card : Rows.FnExactRunToCardSaid :=
  Claim7.holds_tied_plain_at .later [] [.data, .data, .data, .data, .pinned, .pinned] true (true, "9e289ab50bdc895d2fd7df68951a9def0204cd4910b64d4c0b3d38009ba86fe8") false
    over (fun _ h => by cases h) wft (fun _ h => by cases h) fnExactRunTo_row_tie rfl ⟨rfl, rfl⟩ mains rfl
    (fun f fn hf hfn => by
      obtain rfl : f = 12 := Option.some.inj (named.symm.trans hf) |>.symm
      obtain rfl : fn = Tryz.f12 := (Option.some.inj (Tryz.func12.symm.trans hfn)).symm
      exact ⟨looks, fun j t ht => by
        rw [Tryz.params12] at ht
        have hm : t ∈ [49, 64, 2] := by simpa using Array.mem_of_getElem? ht
        exact (show Tryz.prog.wantsStandIn t = false by simpa using List.all_eq_true.1 stands t hm)⟩)
    goes
end Go.Proofs.YtncclmpabjglmaaGreatDoor.fnExactRunTo
namespace Go.Proofs.YtncclmpabjglmaaGreatDoor
theorem fnExactRunTo_holds : Rows.FnExactRunToCardSaid := fnExactRunTo.card
#print axioms fnExactRunTo_holds
end Go.Proofs.YtncclmpabjglmaaGreatDoor
