/- A part of the proof. No condition. -/
import Derived.Test.YtncclmpabjglmaaGreatDoorP4
import Derived.Test.YtncclmpabjglmaaGreatDoorRMg
import Derived.Test.YtncclmpabjglmaaGreatDoorRMh
import Derived.LaidByTextLater
import Derived.LaidSub
import Derived.LaidOnce
import Derived.Test.YtncclmpabjglmaaGreatDoorCards
import Derived.ShutString
import Derived.ChangeOld
import Derived.Below
import Derived.Carry
import Derived.Deep.Slices
import Derived.ChangeSame
import Derived.SevenTiedAt
import Derived.Stop.Joined
set_option linter.unusedVariables false
set_option linter.unusedSimpArgs false
set_option linter.unusedSectionVars false
namespace Go.Proofs.YtncclmpabjglmaaGreatDoor.fnHere
open Go Go.U Go.U.Tryz Go.Proofs Go.Proofs.YtncclmpabjglmaaGreatDoor Go.Proofs.YtncclmpabjglmaaGreatDoor.shared Go.ChangeShapes Go.WideShapes Go.ChangeAt Go.RowKit
set_option linter.unusedVariables false
section
set_option maxRecDepth 100000
theorem fnHere_row_tie : Rows.fnHereRow.laidByTextAt .later Tryz.pinned [.data, .data, .data, .data, .pinned, .pinned] true :=
  OpenClaim.laidByTextAt_pinned rfl rfl tie rfl rfl rfl rfl (fun y hy _e => by
    simp only [Rows.fnHereRow, List.zip_cons_cons, List.zip_nil_right, List.mem_cons, List.mem_nil_iff, or_false] at hy
    rcases hy with rfl | rfl | rfl | rfl | rfl | rfl
    · cases _e
    · cases _e
    · cases _e
    · cases _e
    · exact ⟨pin_laid_unicode_CaseRanges, by kernel_rfl⟩
    · exact ⟨pin_laid_unicode_utf8_first, by kernel_rfl⟩) fits1
end
set_option maxRecDepth 100000 in
theorem lifted (os : Os) (started : os.Started) (H : Type) (enc : TypeId × Value → H) :
    ReturnsInHanded {} Tryz.checked os 6 .any (fun w args => (Rows.fnHereSpec.pre enc Tryz.prog Tryz.f6 Rows.fnHereRow.domain false w args ∧ laidMetH Tryz.prog laidL w) ∧ sizedMet enc Tryz.prog Tryz.f6 (OpenSpec.ofChange Rows.fnHereSpec) false w args)
      (Rows.fnHereSpec.post enc Tryz.prog Tryz.f6 false true false false) := by
  refine wrap (C := Tryz.checked) (X := fun w _ => laidMetH Tryz.prog laidL w) (fun _ _ _ hh h => h.of_heap hh) ownK started (by kernel_rfl) Tryz.func6
    (ChangeSpec.witness_shaped (enc := enc) (C := Tryz.checked) (os := os) (X := fun w _ => laidMetH Tryz.prog laidL w) false (World.laidAll Tryz.prog os laidL) #[.slice none 0 0] 8 (World.laidAll_os _ _ _)
      (World.shaped_of_ZipB (by kernel_rfl) (by kernel_rfl)) (by kernel_rfl) (by kernel_rfl) (by kernel_rfl)
      (by rw [MakeChecks.laidMetH_plain _ _ _ (by kernel_rfl)]; exact laidMet_laidAll _ (by kernel_rfl) (by kernel_rfl))) ?_
  intro W base args ds gs before hval0 hW hL hsh
  have hval : ∀ (j : Nat) t v, Tryz.f6.params[j]? = some t → args[j]? = some v → Value.okWide Tryz.prog W .any base t v := hval0
  have hW' := hW
  obtain ⟨p, q, hA0, hV, rfl, hfz, hnd⟩ := hW
  have hA : DataW.TrodAll enc Tryz.prog W 0 (fun _ => true) true Tryz.f6.params.toList args.toList ds p := hA0
  rw [Tryz.params6] at hA hval
  obtain ⟨v0, vs0, d0, ds0, p0, q0, hargs, rfl, rfl, h0, r0⟩ := trodAll_cons hA
  obtain ⟨rfl, rfl, rfl⟩ := trodAll_nil r0
  obtain rfl : args = #[v0] := by cases args; simp_all
  obtain ⟨rfl, rfl⟩ := trodVars_none hV
  have k0 := h0
  have lt0 : ∀ x ∈ p0, x.block < W.heap.size := by obtain ⟨m, hm⟩ := k0; exact DataW.trod_lt m _ _ _ hm
  obtain ⟨c0, n0, m0, rfl⟩ := okWide_slice Tryz.underlying22 (hval 0 22 v0 rfl rfl)
  obtain ⟨fuel0, hf0⟩ := h0
  obtain ⟨a0, hop0⟩ := open_ty tl22 hf0
  obtain ⟨K, hK⟩ := fnHere_law a0 hop0.ok
  have hF : funOf (ct6 K) [.d (.rov (.i .u8) a0)] [] = some ([.d (.b true)], []) := by rw [fun6, hK]; rfl
  refine (calls_true (c6 K) Tryz.call6 (glok hL hsh) hF rfl (vs1 (Opn.one hop0 rfl))).mono fun e W' ⟨he, bel⟩ => ?_
  subst he
  exact ⟨_, rfl, _, _, _, [], _, [], hW', trodAll_mk1 (shut_bool Tryz.underlying4 _), (trodAll_cons_mk (Below.trod laidOutP (by kernel_rfl) (of_decide_eq_true (by kernel_rfl)) k0 bel lt0) trodAll_mk0), rfl, bel.frame _, fun h => by cases h⟩
theorem named : Tryz.prog.funcNamed "loop.example/g00460/laws.FnHere" = some 6 := by kernel_rfl
theorem c1 : Rows.fnHereRow.wf (OpenSpec.ofChange Rows.fnHereSpec) = true := by kernel_rfl
theorem c4 : namedTie Tryz.prog Rows.fnHereRow.named Rows.fnHereSpec.vars = true := by kernel_rfl
theorem c5 : (Rows.fnHereRow.inPlace == Tryz.prog.inPlace 6) = true := by kernel_rfl
theorem c6 : (Rows.fnHereRow.unfollowed == Tryz.prog.unfollowed 6) = true := by kernel_rfl
theorem c7 : (Rows.fnHereRow.recurses == Tryz.prog.recurses 6) = true := by kernel_rfl
theorem c8 : (Rows.fnHereRow.named == Tryz.prog.varsNamed 6) = true := by kernel_rfl
theorem c9 : (Rows.fnHereRow.lifted == Tryz.prog.liftsFinal) = true := k9
theorem c10 : Tryz.prog.stopsHeard = true := k10
theorem c11 : Tryz.prog.mayEnter = true := k11
theorem c12 : (Rows.fnHereRow.plainKeys == Tryz.prog.plainKeys) = true := k12
theorem c13 : (Tryz.prog.make == some Rows.fnHereRow.make) = true := k13
theorem rowed : mapsRowed Tryz.prog = true := krowed
theorem facts : joinedFacts Tryz.prog 6 Tryz.f6 Rows.fnHereSpec Rows.fnHereRow = true := by
  unfold joinedFacts
  rw [c1, laidOutP, rowed, c4, c5, c6, c7, c8, c9, c10, c11, c12, c13]
  kernel_rfl
theorem inst : Tryz.f6.isInstance Tryz.pinned.checked.prog Rows.fnHereRow.origin Rows.fnHereRow.targs := of_decide_eq_true (by kernel_rfl)
theorem wrapper : Tryz.f6.isWrapper Tryz.pinned.checked.prog Rows.fnHereRow.wrapper Rows.fnHereRow.mainSum := by
  unfold Func.isWrapper; first | (rw [if_pos (by decide +kernel)]; kernel_rfl) | (rw [if_neg (by decide +kernel)]; exact ⟨rfl, rfl⟩)
theorem over : Rows.fnHereRow.holds Tryz.pinned (OpenSpec.ofChange Rows.fnHereSpec) :=
  OpenClaim.holds_of_wide 6 Tryz.f6 rfl rfl rfl rfl rfl rfl rfl ⟨rfl, rfl, rfl, rfl, rfl⟩ rfl rfl rfl rfl rfl named Tryz.func6 facts
    inst wrapper (fun os started H enc _ => lifted os started H enc)
theorem wft : Rows.fnHereRow.wfByText (OpenSpec.ofChange Rows.fnHereSpec) = true := by kernel_rfl
theorem goes : false = Rows.fnHereRow.goesBy Tryz.pinned.checked.prog := by kernel_rfl
theorem mains : Tryz.pinned.checked.prog.mainIs = some (true, "9e289ab50bdc895d2fd7df68951a9def0204cd4910b64d4c0b3d38009ba86fe8".toList) := kmains
theorem looks : false = Tryz.pinned.checked.prog.looks [] := klooks
theorem stands : ([22].all fun u => !Tryz.prog.wantsStandIn u) = true := by kernel_rfl
theorem card : Rows.FnHereCardSaid :=
  Claim7.holds_tied_plain_at .later [] [.data, .data, .data, .data, .pinned, .pinned] true (true, "9e289ab50bdc895d2fd7df68951a9def0204cd4910b64d4c0b3d38009ba86fe8") false
    over (fun _ h => by cases h) wft (fun _ h => by cases h) fnHere_row_tie rfl ⟨rfl, rfl⟩ mains rfl
    (fun f fn hf hfn => by
      obtain rfl : f = 6 := Option.some.inj (named.symm.trans hf) |>.symm
      obtain rfl : fn = Tryz.f6 := (Option.some.inj (Tryz.func6.symm.trans hfn)).symm
      exact ⟨looks, fun j t ht => by
        rw [Tryz.params6] at ht
        have hm : t ∈ [22] := by simpa using Array.mem_of_getElem? ht
        exact (show Tryz.prog.wantsStandIn t = false by simpa using List.all_eq_true.1 stands t hm)⟩)
    goes
end Go.Proofs.YtncclmpabjglmaaGreatDoor.fnHere
namespace Go.Proofs.YtncclmpabjglmaaGreatDoor
theorem fnHere_holds : Rows.FnHereCardSaid := fnHere.card
#print axioms fnHere_holds
end Go.Proofs.YtncclmpabjglmaaGreatDoor
