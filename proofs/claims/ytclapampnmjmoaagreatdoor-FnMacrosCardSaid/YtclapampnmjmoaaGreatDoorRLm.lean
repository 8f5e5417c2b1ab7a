/- A part of the proof. No condition. -/
import Derived.Test.YtclapampnmjmoaaGreatDoorPM7
import Derived.Test.YtclapampnmjmoaaGreatDoorRLg
import Derived.Test.YtclapampnmjmoaaGreatDoorRLh
import Derived.LaidByTextLater
import Derived.LaidSub
import Derived.LaidOnce
import Derived.Test.YtclapampnmjmoaaGreatDoorCards
import Derived.ShutString
import Derived.ChangeOld
import Derived.Below
import Derived.Carry
import Derived.Deep.Slices
import Derived.ChangeSame
import Derived.SevenTiedAt
import Derived.Stop.Joined
set_option linter.unusedVariables false
set_option linter.unusedSimpArgs false
set_option linter.unusedSectionVars false
namespace Go.Proofs.YtclapampnmjmoaaGreatDoor.fnMacros
open Go Go.U Go.U.Tryz Go.Proofs Go.Proofs.YtclapampnmjmoaaGreatDoor Go.Proofs.YtclapampnmjmoaaGreatDoor.shared Go.ChangeShapes Go.WideShapes Go.ChangeAt Go.RowKit
section
set_option maxRecDepth 100000
theorem fnMacros_row_tie : Rows.fnMacrosRow.laidByTextAt .later Tryz.pinned [.data, .pinned] true :=
  OpenClaim.laidByTextAt_pinned rfl rfl tie rfl rfl rfl rfl (fun y hy _e => by
    simp only [Rows.fnMacrosRow, List.zip_cons_cons, List.zip_nil_right, List.mem_cons, List.mem_nil_iff, or_false] at hy
    rcases hy with rfl | rfl
    · cases _e
    · exact ⟨pin_laid_unicode_utf8_first, by kernel_rfl⟩) fits1
end
set_option maxRecDepth 100000 in
theorem lifted (os : Os) (started : os.Started) (H : Type) (enc : TypeId × Value → H) :
    ReturnsInHanded {} Tryz.checked os 4 .any (fun w args => (Rows.fnMacrosSpec.pre enc Tryz.prog Tryz.f4 Rows.fnMacrosRow.domain false w args ∧ laidMetH Tryz.prog laidL w) ∧ sizedMet enc Tryz.prog Tryz.f4 (OpenSpec.ofChange Rows.fnMacrosSpec) false w args)
      (Rows.fnMacrosSpec.post enc Tryz.prog Tryz.f4 false true false false) := by
  refine wrap (C := Tryz.checked) (X := fun w _ => laidMetH Tryz.prog laidL w) (fun _ _ _ hh h => h.of_heap hh) ownK started (by kernel_rfl) Tryz.func4
    (ChangeSpec.witness_shaped (enc := enc) (C := Tryz.checked) (os := os) (X := fun w _ => laidMetH Tryz.prog laidL w) false (World.laidAll Tryz.prog os laidL) #[.slice none 0 0] 8 (World.laidAll_os _ _ _)
      (World.shaped_of_ZipB (by kernel_rfl) (by kernel_rfl)) (by kernel_rfl) (by kernel_rfl) (by kernel_rfl)
      (by rw [MakeChecks.laidMetH_plain _ _ _ (by kernel_rfl)]; exact laidMet_laidAll _ (by kernel_rfl) (by kernel_rfl))) ?_
  intro W base args ds gs before hval0 hW hL hsh
  have hval : ∀ (j : Nat) t v, Tryz.f4.params[j]? = some t → args[j]? = some v → Value.okWide Tryz.prog W .any base t v := hval0
  have hW' := hW
  obtain ⟨p, q, hA0, hV, rfl, hfz, hnd⟩ := hW
  have hA : DataW.TrodAll enc Tryz.prog W 0 (fun _ => true) true Tryz.f4.params.toList args.toList ds p := hA0
  rw [Tryz.params4] at hA hval
  obtain ⟨v0, vs0, d0, ds0, p0, q0, hargs, rfl, rfl, h0, r0⟩ := trodAll_cons hA
  obtain ⟨rfl, rfl, rfl⟩ := trodAll_nil r0
  obtain rfl : args = #[v0] := by cases args; simp_all
  obtain ⟨rfl, rfl⟩ := trodVars_none hV
  have k0 := h0
  have lt0 : ∀ x ∈ p0, x.block < W.heap.size := by obtain ⟨m, hm⟩ := k0; exact DataW.trod_lt m _ _ _ hm
  obtain ⟨c0, n0, m0, rfl⟩ := okWide_slice Tryz.underlying29 (hval 0 29 v0 rfl rfl)
  obtain ⟨fuel0, hf0⟩ := h0
  obtain ⟨a0, hop0⟩ := open_ty tl29 hf0
  obtain ⟨K, hK⟩ := macros_law a0 hop0.ok
  have hF : funOf (ct4 K) [.d (.rov (.i .u8) a0)] [] = some ([.d (.b true)], []) := by rw [fun4, hK]; rfl
  refine (calls_true (c4 K) Tryz.call4 (glok hsh) hF rfl (vs1 (Opn.one hop0 rfl))).mono fun e W' ⟨he, bel⟩ => ?_
  subst he
  exact ⟨_, rfl, _, _, _, [], _, [], hW', trodAll_mk1 (shut_bool Tryz.underlying4 _), (trodAll_cons_mk (Below.trod laidOutP (by kernel_rfl) (of_decide_eq_true (by kernel_rfl)) k0 bel lt0) trodAll_mk0), rfl, bel.frame _, fun h => by cases h⟩
theorem named : Tryz.prog.funcNamed "loop.example/g00460/laws.FnMacros" = some 4 := by kernel_rfl
theorem c1 : Rows.fnMacrosRow.wf (OpenSpec.ofChange Rows.fnMacrosSpec) = true := by kernel_rfl
theorem c4 : namedTie Tryz.prog Rows.fnMacrosRow.named Rows.fnMacrosSpec.vars = true := by kernel_rfl
theorem c5 : (Rows.fnMacrosRow.inPlace == Tryz.prog.inPlace 4) = true := by kernel_rfl
theorem c6 : (Rows.fnMacrosRow.unfollowed == Tryz.prog.unfollowed 4) = true := by kernel_rfl
theorem c7 : (Rows.fnMacrosRow.recurses == Tryz.prog.recurses 4) = true := by kernel_rfl
theorem c8 : (Rows.fnMacrosRow.named == Tryz.prog.varsNamed 4) = true := by kernel_rfl
theorem c9 : (Rows.fnMacrosRow.lifted == Tryz.prog.liftsFinal) = true := k9
theorem c10 : Tryz.prog.stopsHeard = true := k10
theorem c11 : Tryz.prog.mayEnter = true := k11
theorem c12 : (Rows.fnMacrosRow.plainKeys == Tryz.prog.plainKeys) = true := k12
theorem c13 : (Tryz.prog.make == some Rows.fnMacrosRow.make) = true := k13
theorem rowed : mapsRowed Tryz.prog = true := krowed
theorem facts : joinedFacts Tryz.prog 4 Tryz.f4 Rows.fnMacrosSpec Rows.fnMacrosRow = true := by
  unfold joinedFacts
  rw [c1, laidOutP, rowed, c4, c5, c6, c7, c8, c9, c10, c11, c12, c13]
  kernel_rfl
theorem inst : Tryz.f4.isInstance Tryz.pinned.checked.prog Rows.fnMacrosRow.origin Rows.fnMacrosRow.targs := of_decide_eq_true (by kernel_rfl)
theorem wrapper : Tryz.f4.isWrapper Tryz.pinned.checked.prog Rows.fnMacrosRow.wrapper Rows.fnMacrosRow.mainSum := by
  unfold Func.isWrapper; first | (rw [if_pos (by decide +kernel)]; kernel_rfl) | (rw [if_neg (by decide +kernel)]; exact ⟨rfl, rfl⟩)
theorem over : Rows.fnMacrosRow.holds Tryz.pinned (OpenSpec.ofChange Rows.fnMacrosSpec) :=
  OpenClaim.holds_of_wide 4 Tryz.f4 rfl rfl rfl rfl rfl rfl rfl ⟨rfl, rfl, rfl, rfl, rfl⟩ rfl rfl rfl rfl rfl named Tryz.func4 facts
    inst wrapper (fun os started H enc _ => lifted os started H enc)
theorem wft : Rows.fnMacrosRow.wfByText (OpenSpec.ofChange Rows.fnMacrosSpec) = true := by kernel_rfl
theorem goes : false = Rows.fnMacrosRow.goesBy Tryz.pinned.checked.prog := by kernel_rfl
theorem mains : Tryz.pinned.checked.prog.mainIs = some (true, "374006e07154c41ae322a43831771d20a0ebed477fc4d90510b33cdb6319ebf7".toList) := kmains
theorem looks : false = Tryz.pinned.checked.prog.looks [] := klooks
theorem stands : ([29].all fun u => !Tryz.prog.wantsStandIn u) = true := by kernel_rfl
theorem card : Rows.FnMacrosCardSaid :=
  Claim7.holds_tied_plain_at .later [] [.data, .pinned] true (true, "374006e07154c41ae322a43831771d20a0ebed477fc4d90510b33cdb6319ebf7") false
    over (fun _ h => by cases h) wft (fun _ h => by cases h) fnMacros_row_tie rfl ⟨rfl, rfl⟩ mains rfl
    (fun f fn hf hfn => by
      obtain rfl : f = 4 := Option.some.inj (named.symm.trans hf) |>.symm
      obtain rfl : fn = Tryz.f4 := (Option.some.inj (Tryz.func4.symm.trans hfn)).symm
      exact ⟨looks, fun j t ht => by
        rw [Tryz.params4] at ht
        have hm : t ∈ [29] := by simpa using Array.mem_of_getElem? ht
        exact (show Tryz.prog.wantsStandIn t = false by simpa using List.all_eq_true.1 stands t hm)⟩)
    goes
end Go.Proofs.YtclapampnmjmoaaGreatDoor.fnMacros
namespace Go.Proofs.YtclapampnmjmoaaGreatDoor
theorem fnMacros_holds : Rows.FnMacrosCardSaid := fnMacros.card
#print axioms fnMacros_holds
end Go.Proofs.YtclapampnmjmoaaGreatDoor
