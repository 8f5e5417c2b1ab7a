/- A part of the proof. No condition. -/
import Derived.Test.YtncclmpabjglmaaGreatDoorP4
import Derived.Test.YtncclmpabjglmaaGreatDoorRMg
import Derived.Test.YtncclmpabjglmaaGreatDoorRMh
import Derived.LaidByTextLater
import Derived.LaidSub
import Derived.LaidOnce
import Derived.Test.YtncclmpabjglmaaGreatDoorCards
import Derived.ShutString
import Derived.ChangeOld
import Derived.Below
import Derived.Carry
import Derived.Deep.Slices
import Derived.ChangeSame
import Derived.SevenTiedAt
import Derived.Stop.Joined
set_option linter.unusedVariables false
set_option linter.unusedSimpArgs false
set_option linter.unusedSectionVars false
namespace Go.Proofs.YtncclmpabjglmaaGreatDoor.fnExactTraceOf
open Go Go.U Go.U.Tryz Go.Proofs Go.Proofs.YtncclmpabjglmaaGreatDoor Go.Proofs.YtncclmpabjglmaaGreatDoor.shared Go.ChangeShapes Go.WideShapes Go.ChangeAt Go.RowKit
section
set_option maxRecDepth 100000
theorem fnExactTraceOf_row_tie : Rows.fnExactTraceOfRow.laidByTextAt .later Tryz.pinned [.data, .data, .data, .data, .pinned, .pinned] true :=
  OpenClaim.laidByTextAt_pinned rfl rfl tie rfl rfl rfl rfl (fun y hy _e => by
    simp only [Rows.fnExactTraceOfRow, List.zip_cons_cons, List.zip_nil_right, List.mem_cons, List.mem_nil_iff, or_false] at hy
    rcases hy with rfl | rfl | rfl | rfl | rfl | rfl
    · cases _e
    · cases _e
    · cases _e
    · cases _e
    · exact ⟨pin_laid_unicode_CaseRanges, by kernel_rfl⟩
    · exact ⟨pin_laid_unicode_utf8_first, by kernel_rfl⟩) fits1
end
set_option maxRecDepth 100000 in
theorem lifted (os : Os) (started : os.Started) (H : Type) (enc : TypeId × Value → H) :
    ReturnsInHanded {} Tryz.checked os 14 .any (fun w args => (Rows.fnExactTraceOfSpec.pre enc Tryz.prog Tryz.f14 Rows.fnExactTraceOfRow.domain false w args ∧ laidMetH Tryz.prog laidL w) ∧ sizedMet enc Tryz.prog Tryz.f14 (OpenSpec.ofChange Rows.fnExactTraceOfSpec) false w args)
      (Rows.fnExactTraceOfSpec.post enc Tryz.prog Tryz.f14 false true false false) := by
  refine wrap (C := Tryz.checked) (X := fun w _ => laidMetH Tryz.prog laidL w) (fun _ _ _ hh h => h.of_heap hh) ownK started (by kernel_rfl) Tryz.func14
    (ChangeSpec.witness_shaped (enc := enc) (C := Tryz.checked) (os := os) (X := fun w _ => laidMetH Tryz.prog laidL w) false (World.laidAll Tryz.prog os laidL) #[.agg #[.int .i64 0, .int .i64 0, .int .i64 0, .int .i64 0, .int .i64 0, .int .i64 0, .int .i64 0, .int .i64 0, .int .i64 0, .int .i64 0, .bool false, .bool false, .string ⟨#[]⟩, .int .i64 0, .int .i64 0, .string ⟨#[]⟩, .int .i64 0, .bool false, .int .i64 0, .string ⟨#[]⟩, .string ⟨#[]⟩, .slice none 0 0, .int .i64 0], .int .i64 0] 8 (World.laidAll_os _ _ _)
      (World.shaped_of_ZipB (by kernel_rfl) (by kernel_rfl)) (by kernel_rfl) (by kernel_rfl) (by kernel_rfl)
      (by rw [MakeChecks.laidMetH_plain _ _ _ (by kernel_rfl)]; exact laidMet_laidAll _ (by kernel_rfl) (by kernel_rfl))) ?_
  intro W base args ds gs before hval0 hW hL hsh
  have hval : ∀ (j : Nat) t v, Tryz.f14.params[j]? = some t → args[j]? = some v → Value.okWide Tryz.prog W .any base t v := hval0
  have hW' := hW
  obtain ⟨p, q, hA0, hV, rfl, hfz, hnd⟩ := hW
  have hA : DataW.TrodAll enc Tryz.prog W 0 (fun _ => true) true Tryz.f14.params.toList args.toList ds p := hA0
  rw [Tryz.params14] at hA hval
  obtain ⟨v0, vs0, d0, ds0, p0, q0, hargs, rfl, rfl, h0, r0⟩ := trodAll_cons hA
  obtain ⟨v1, vs1', d1, ds1, p1, q1, hargs1, rfl, rfl, h1, r1⟩ := trodAll_cons r0
  obtain ⟨rfl, rfl, rfl⟩ := trodAll_nil r1
  obtain rfl : args = #[v0, v1] := by cases args; simp_all
  obtain ⟨rfl, rfl⟩ := trodVars_none hV
  have k0 := h0
  have k1 := h1
  have lt0 : ∀ x ∈ p0, x.block < W.heap.size := by obtain ⟨m, hm⟩ := k0; exact DataW.trod_lt m _ _ _ hm
  have lt1 : ∀ x ∈ p1, x.block < W.heap.size := by obtain ⟨m, hm⟩ := k1; exact DataW.trod_lt m _ _ _ hm
  obtain ⟨c0, rfl, hc0⟩ := okWide_struct Tryz.underlying49 (hval 0 49 v0 rfl rfl)
  obtain ⟨n1, rfl⟩ := okWide_int Tryz.underlying2 (hval 1 2 v1 rfl rfl)
  obtain ⟨fuel0, hf0⟩ := h0
  obtain ⟨fuel1, hf1⟩ := h1
  obtain ⟨a0, hop0⟩ := open_ty tl49 hf0
  obtain ⟨a1, hop1⟩ := open_ty tl2 hf1
  obtain ⟨K, hK⟩ := fnExactTraceOf_law a0 a1 hop0.ok hop1.ok
  have hF : funOf (ct14 K) [.agg ((Ty.enc T49 a0).map SV.d), .d (.i .i64 a1)] [] = some ([.d (.b true)], []) := by rw [fun14, hK]; rfl
  refine (calls_true (c14 K) Tryz.call14 (glok hL hsh) hF rfl (vs2 (Opn.agg hop0) (Opn.one hop1 rfl))).mono fun e W' ⟨he, bel⟩ => ?_
  subst he
  exact ⟨_, rfl, _, _, _, [], _, [], hW', trodAll_mk1 (shut_bool Tryz.underlying4 _), (trodAll_cons_mk (Below.trod laidOutP (by kernel_rfl) (of_decide_eq_true (by kernel_rfl)) k0 bel lt0) (trodAll_cons_mk (Below.trod laidOutP (by kernel_rfl) (of_decide_eq_true (by kernel_rfl)) k1 bel lt1) trodAll_mk0)), rfl, bel.frame _, fun h => by cases h⟩
theorem named : Tryz.prog.funcNamed "loop.example/g00460/laws.FnExactTraceOf" = some 14 := by kernel_rfl
theorem c1 : Rows.fnExactTraceOfRow.wf (OpenSpec.ofChange Rows.fnExactTraceOfSpec) = true := by kernel_rfl
theorem c4 : namedTie Tryz.prog Rows.fnExactTraceOfRow.named Rows.fnExactTraceOfSpec.vars = true := by kernel_rfl
theorem c5 : (Rows.fnExactTraceOfRow.inPlace == Tryz.prog.inPlace 14) = true := by kernel_rfl
theorem c6 : (Rows.fnExactTraceOfRow.unfollowed == Tryz.prog.unfollowed 14) = true := by kernel_rfl
theorem c7 : (Rows.fnExactTraceOfRow.recurses == Tryz.prog.recurses 14) = true := by kernel_rfl
theorem c8 : (Rows.fnExactTraceOfRow.named == Tryz.prog.varsNamed 14) = true := by kernel_rfl
theorem c9 : (Rows.fnExactTraceOfRow.lifted == Tryz.prog.liftsFinal) = true := k9
theorem c10 : Tryz.prog.stopsHeard = true := k10
theorem c11 : Tryz.prog.mayEnter = true := k11
theorem c12 : (Rows.fnExactTraceOfRow.plainKeys == Tryz.prog.plainKeys) = true := k12
theorem c13 : (Tryz.prog.make == some Rows.fnExactTraceOfRow.make) = true := k13
theorem rowed : mapsRowed Tryz.prog = true := krowed
theorem facts : joinedFacts Tryz.prog 14 Tryz.f14 Rows.fnExactTraceOfSpec Rows.fnExactTraceOfRow = true := by
  unfold joinedFacts
  rw [c1, laidOutP, rowed, c4, c5, c6, c7, c8, c9, c10, c11, c12, c13]
  kernel_rfl
theorem inst : Tryz.f14.isInstance Tryz.pinned.checked.prog Rows.fnExactTraceOfRow.origin Rows.fnExactTraceOfRow.targs := of_decide_eq_true (by kernel_rfl)
theorem wrapper : Tryz.f14.isWrapper Tryz.pinned.checked.prog Rows.fnExactTraceOfRow.wrapper Rows.fnExactTraceOfRow.mainSum := by
  unfold Func.isWrapper; first | (rw [if_pos (by decide +kernel)]; kernel_rfl) | (rw [if_neg (by decide +kernel)]; exact ⟨rfl, rfl⟩)
theorem over : Rows.fnExactTraceOfRow.holds Tryz.pinned (OpenSpec.ofChange Rows.fnExactTraceOfSpec) :=
  OpenClaim.holds_of_wide 14 Tryz.f14 rfl rfl rfl rfl rfl rfl rfl ⟨rfl, rfl, rfl, rfl, rfl⟩ rfl rfl rfl rfl rfl named Tryz.func14 facts
    inst wrapper (fun os started H enc _ => lifted os started H enc)
theorem wft : Rows.fnExactTraceOfRow.wfByText (OpenSpec.ofChange Rows.fnExactTraceOfSpec) = true := by kernel_rfl
theorem goes : false = Rows.fnExactTraceOfRow.goesBy Tryz.pinned.checked.prog := by kernel_rfl
theorem mains : Tryz.pinned.checked.prog.mainIs = some (true, "9e289ab50bdc895d2fd7df68951a9def0204cd4910b64d4c0b3d38009ba86fe8".toList) := kmains
theorem looks : false = Tryz.pinned.checked.prog.looks [] := klooks
theorem stands : ([49, 2].all fun u => !Tryz.prog.wantsStandIn u) = true := by kernel_rfl
theorem card : Rows.FnExactTraceOfCardSaid :=
  Claim7.holds_tied_plain_at .later [] [.data, .data, .data, .data, .pinned, .pinned] true (true, "9e289ab50bdc895d2fd7df68951a9def0204cd4910b64d4c0b3d38009ba86fe8") false
    over (fun _ h => by cases h) wft (fun _ h => by cases h) fnExactTraceOf_row_tie rfl ⟨rfl, rfl⟩ mains rfl
    (fun f fn hf hfn => by
      obtain rfl : f = 14 := Option.some.inj (named.symm.trans hf) |>.symm
      obtain rfl : fn = Tryz.f14 := (Option.some.inj (Tryz.func14.symm.trans hfn)).symm
      exact ⟨looks, fun j t ht => by
        rw [Tryz.params14] at ht
        have hm : t ∈ [49, 2] := by simpa using Array.mem_of_getElem? ht
        exact (show Tryz.prog.wantsStandIn t = false by simpa using List.all_eq_true.1 stands t hm)⟩)
    goes
end Go.Proofs.YtncclmpabjglmaaGreatDoor.fnExactTraceOf
namespace Go.Proofs.YtncclmpabjglmaaGreatDoor
theorem fnExactTraceOf_holds : Rows.FnExactTraceOfCardSaid := fnExactTraceOf.card
#print axioms fnExactTraceOf_holds
end Go.Proofs.YtncclmpabjglmaaGreatDoor
