/- A part of the proof. No condition. -/
import Derived.Test.YtllgcnjhlhkhjaaDoorP3
import Derived.Test.YtllgcnjhlhkhjaaDoorREg
import Derived.Test.YtllgcnjhlhkhjaaDoorREh
import Derived.LaidByTextLater
import Derived.LaidSub
import Derived.LaidOnce
import Derived.Test.YtllgcnjhlhkhjaaDoorCards
import Derived.ShutString
import Derived.ChangeOld
import Derived.Below
import Derived.Carry
import Derived.Deep.Slices
import Derived.ChangeSame
import Derived.SevenTiedAt
import Derived.Stop.Joined
set_option linter.unusedVariables false
set_option linter.unusedSimpArgs false
set_option linter.unusedSectionVars false
namespace Go.Proofs.YtllgcnjhlhkhjaaDoor.fnPrecedence
open Go Go.U Go.U.Tryd Go.Proofs Go.Proofs.YtllgcnjhlhkhjaaDoor Go.Proofs.YtllgcnjhlhkhjaaDoor.shared Go.ChangeShapes Go.WideShapes Go.ChangeAt Go.RowKit
section
set_option maxRecDepth 100000
theorem fnPrecedence_row_tie : Rows.fnPrecedenceRow.laidByTextAt .later Tryd.pinned [.data, .pinned] true :=
  OpenClaim.laidByTextAt_pinned rfl rfl tie rfl rfl rfl rfl (fun y hy _e => by
    simp only [Rows.fnPrecedenceRow, List.zip_cons_cons, List.zip_nil_right, List.mem_cons, List.mem_nil_iff, or_false] at hy
    rcases hy with rfl | rfl
    · cases _e
    · exact ⟨pin_laid_unicode_utf8_first, by kernel_rfl⟩) fits1
end
set_option maxRecDepth 100000 in
theorem lifted (os : Os) (started : os.Started) (H : Type) (enc : TypeId × Value → H) :
    ReturnsInHanded {} Tryd.checked os 5 .any (fun w args => (Rows.fnPrecedenceSpec.pre enc Tryd.prog Tryd.f5 Rows.fnPrecedenceRow.domain false w args ∧ laidMetH Tryd.prog laidL w) ∧ sizedMet enc Tryd.prog Tryd.f5 (OpenSpec.ofChange Rows.fnPrecedenceSpec) false w args)
      (Rows.fnPrecedenceSpec.post enc Tryd.prog Tryd.f5 false true false false) := by
  refine wrap (C := Tryd.checked) (X := fun w _ => laidMetH Tryd.prog laidL w) (fun _ _ _ hh h => h.of_heap hh) ownK started (by kernel_rfl) Tryd.func5
    (ChangeSpec.witness_shaped (enc := enc) (C := Tryd.checked) (os := os) (X := fun w _ => laidMetH Tryd.prog laidL w) false (World.laidAll Tryd.prog os laidL) #[.slice none 0 0] 8 (World.laidAll_os _ _ _)
      (World.shaped_of_ZipB (by kernel_rfl) (by kernel_rfl)) (by kernel_rfl) (by kernel_rfl) (by kernel_rfl)
      (by rw [MakeChecks.laidMetH_plain _ _ _ (by kernel_rfl)]; exact laidMet_laidAll _ (by kernel_rfl) (by kernel_rfl))) ?_
  intro W base args ds gs before hval0 hW hL hsh
  have hval : ∀ (j : Nat) t v, Tryd.f5.params[j]? = some t → args[j]? = some v → Value.okWide Tryd.prog W .any base t v := hval0
  have hW' := hW
  obtain ⟨p, q, hA0, hV, rfl, hfz, hnd⟩ := hW
  have hA : DataW.TrodAll enc Tryd.prog W 0 (fun _ => true) true Tryd.f5.params.toList args.toList ds p := hA0
  rw [Tryd.params5] at hA hval
  obtain ⟨v0, vs0, d0, ds0, p0, q0, hargs, rfl, rfl, h0, r0⟩ := trodAll_cons hA
  obtain ⟨rfl, rfl, rfl⟩ := trodAll_nil r0
  obtain rfl : args = #[v0] := by cases args; simp_all
  obtain ⟨rfl, rfl⟩ := trodVars_none hV
  have k0 := h0
  have lt0 : ∀ x ∈ p0, x.block < W.heap.size := by obtain ⟨m, hm⟩ := k0; exact DataW.trod_lt m _ _ _ hm
  obtain ⟨c0, n0, m0, rfl⟩ := okWide_slice Tryd.underlying28 (hval 0 28 v0 rfl rfl)
  obtain ⟨fuel0, hf0⟩ := h0
  obtain ⟨a0, hop0⟩ := open_ty tl28 hf0
  obtain ⟨K, hK⟩ := precedence_law a0 hop0.ok
  have hF : funOf (ct5 K) [.d (.rov (.i .u8) a0)] [] = some ([.d (.b true)], []) := by rw [fun5, hK]; rfl
  refine (calls_true (c5 K) Tryd.call5 (glok hsh) hF rfl (vs1 (Opn.one hop0 rfl))).mono fun e W' ⟨he, bel⟩ => ?_
  subst he
  exact ⟨_, rfl, _, _, _, [], _, [], hW', trodAll_mk1 (shut_bool Tryd.underlying4 _), (trodAll_cons_mk (Below.trod laidOutP (by kernel_rfl) (of_decide_eq_true (by kernel_rfl)) k0 bel lt0) trodAll_mk0), rfl, bel.frame _, fun h => by cases h⟩
theorem named : Tryd.prog.funcNamed "loop.example/g00460/laws.FnPrecedence" = some 5 := by kernel_rfl
theorem c1 : Rows.fnPrecedenceRow.wf (OpenSpec.ofChange Rows.fnPrecedenceSpec) = true := by kernel_rfl
theorem c4 : namedTie Tryd.prog Rows.fnPrecedenceRow.named Rows.fnPrecedenceSpec.vars = true := by kernel_rfl
theorem c5 : (Rows.fnPrecedenceRow.inPlace == Tryd.prog.inPlace 5) = true := by kernel_rfl
theorem c6 : (Rows.fnPrecedenceRow.unfollowed == Tryd.prog.unfollowed 5) = true := by kernel_rfl
theorem c7 : (Rows.fnPrecedenceRow.recurses == Tryd.prog.recurses 5) = true := by kernel_rfl
theorem c8 : (Rows.fnPrecedenceRow.named == Tryd.prog.varsNamed 5) = true := by kernel_rfl
theorem c9 : (Rows.fnPrecedenceRow.lifted == Tryd.prog.liftsFinal) = true := k9
theorem c10 : Tryd.prog.stopsHeard = true := k10
theorem c11 : Tryd.prog.mayEnter = true := k11
theorem c12 : (Rows.fnPrecedenceRow.plainKeys == Tryd.prog.plainKeys) = true := k12
theorem c13 : (Tryd.prog.make == some Rows.fnPrecedenceRow.make) = true := k13
theorem rowed : mapsRowed Tryd.prog = true := krowed
theorem facts : joinedFacts Tryd.prog 5 Tryd.f5 Rows.fnPrecedenceSpec Rows.fnPrecedenceRow = true := by
  unfold joinedFacts
  rw [c1, laidOutP, rowed, c4, c5, c6, c7, c8, c9, c10, c11, c12, c13]
  kernel_rfl
theorem inst : Tryd.f5.isInstance Tryd.pinned.checked.prog Rows.fnPrecedenceRow.origin Rows.fnPrecedenceRow.targs := of_decide_eq_true (by kernel_rfl)
theorem wrapper : Tryd.f5.isWrapper Tryd.pinned.checked.prog Rows.fnPrecedenceRow.wrapper Rows.fnPrecedenceRow.mainSum := by
  unfold Func.isWrapper; first | (rw [if_pos (by decide +kernel)]; kernel_rfl) | (rw [if_neg (by decide +kernel)]; exact ⟨rfl, rfl⟩)
theorem over : Rows.fnPrecedenceRow.holds Tryd.pinned (OpenSpec.ofChange Rows.fnPrecedenceSpec) :=
  OpenClaim.holds_of_wide 5 Tryd.f5 rfl rfl rfl rfl rfl rfl rfl ⟨rfl, rfl, rfl, rfl, rfl⟩ rfl rfl rfl rfl rfl named Tryd.func5 facts
    inst wrapper (fun os started H enc _ => lifted os started H enc)
theorem wft : Rows.fnPrecedenceRow.wfByText (OpenSpec.ofChange Rows.fnPrecedenceSpec) = true := by kernel_rfl
theorem goes : false = Rows.fnPrecedenceRow.goesBy Tryd.pinned.checked.prog := by kernel_rfl
theorem mains : Tryd.pinned.checked.prog.mainIs = some (true, "ec01e8d38d0289a10cc945b8458847afb4b09cedfe56573f66de0e6550dc9251".toList) := kmains
theorem looks : false = Tryd.pinned.checked.prog.looks [] := klooks
theorem stands : ([28].all fun u => !Tryd.prog.wantsStandIn u) = true := by kernel_rfl
theorem card : Rows.FnPrecedenceCardSaid :=
  Claim7.holds_tied_plain_at .later [] [.data, .pinned] true (true, "ec01e8d38d0289a10cc945b8458847afb4b09cedfe56573f66de0e6550dc9251") false
    over (fun _ h => by cases h) wft (fun _ h => by cases h) fnPrecedence_row_tie rfl ⟨rfl, rfl⟩ mains rfl
    (fun f fn hf hfn => by
      obtain rfl : f = 5 := Option.some.inj (named.symm.trans hf) |>.symm
      obtain rfl : fn = Tryd.f5 := (Option.some.inj (Tryd.func5.symm.trans hfn)).symm
      exact ⟨looks, fun j t ht => by
        rw [Tryd.params5] at ht
        have hm : t ∈ [28] := by simpa using Array.mem_of_getElem? ht
        exact (show Tryd.prog.wantsStandIn t = false by simpa using List.all_eq_true.1 stands t hm)⟩)
    goes
end Go.Proofs.YtllgcnjhlhkhjaaDoor.fnPrecedence
namespace Go.Proofs.YtllgcnjhlhkhjaaDoor
theorem fnPrecedence_holds : Rows.FnPrecedenceCardSaid := fnPrecedence.card
#print axioms fnPrecedence_holds
end Go.Proofs.YtllgcnjhlhkhjaaDoor
