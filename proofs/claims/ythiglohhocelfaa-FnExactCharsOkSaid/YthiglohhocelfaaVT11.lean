/- The row of the law FnExactCharsOk holds. No condition. -/
import Derived.Test.YthiglohhocelfaaVT10
set_option linter.unusedVariables false
set_option linter.unusedSimpArgs false
namespace Go.Proofs.Ythiglohhocelfaa.fnExactCharsOk
open Go Go.V Go.V.Try Go.Proofs Go.Proofs.Ythiglohhocelfaa Go.ChangeShapes Go.WideShapes Go.ChangeAt Go.RowKit
set_option linter.unusedVariables false
theorem own : ownKnob Try.prog.godebug = none := by kernel_rfl
theorem laidOut : laidOutB Try.prog = true := by kernel_rfl
set_option maxRecDepth 100000 in
theorem lifted (os : Os) (started : os.Started) (H : Type) (enc : TypeId × Value → H) :
    ReturnsInHanded {} Try.checked os 3 .any (Rows.fnExactCharsOkSpec.pre6 enc Try.prog Try.f3 Rows.fnExactCharsOkRow.domain false) (Rows.fnExactCharsOkSpec.post enc Try.prog Try.f3 false true false false) := by
  refine returnsInHanded_of_change_sized (C := Try.checked) own started (by kernel_rfl) Try.func3
    (ChangeSpec.witness6 (enc := enc) (C := Try.checked) false ⟨#[], #[.slice none 0 0], []⟩ 8 (by kernel_rfl) (by kernel_rfl) (by kernel_rfl) (by kernel_rfl)) ?_
  intro W base args ds gs before hval0 hW hcnd hsz0 _
  have hsz : (DataW.weightsEach Try.prog (Try.f3.params.toList ++ Rows.fnExactCharsOkSpec.plain.varTypes Try.prog) (ds ++ gs)).all (· ≤ reachBytes) = true := hsz0
  have hval : ∀ (j : Nat) t v, Try.f3.params[j]? = some t → args[j]? = some v → Value.okWide Try.prog W .any base t v := hval0
  have hW' := hW
  obtain ⟨p, q, hA0, hV, rfl, hfz, hnd⟩ := hW
  have hA : DataW.TrodAll enc Try.prog W 0 (fun _ => true) true Try.f3.params.toList args.toList ds p := hA0
  rw [Try.params3] at hA hval hsz
  obtain ⟨v0, vs0, d0, ds0, p0, q0, hargs, rfl, rfl, h0, r0⟩ := trodAll_cons hA
  obtain ⟨rfl, rfl, rfl⟩ := trodAll_nil r0
  obtain rfl : args = #[v0] := by cases args; simp_all
  obtain ⟨rfl, rfl⟩ := trodVars_none hV
  have k0 := h0
  have lt0 : ∀ x ∈ p0, x.block < W.heap.size := by obtain ⟨m, hm⟩ := k0; exact DataW.trod_lt m _ _ _ hm
  obtain ⟨a0, len0, cap0, rfl⟩ := okWide_slice Try.underlying22 (hval 0 22 v0 rfl rfl)
  obtain ⟨fuel, hf⟩ := h0
  obtain ⟨A, len, cap, ps, els, sp, hcs, hx, hn0, hn1, hpl, hrd⟩ := open_pairs Try.underlying22 Try.underlying61 Try.underlying9 Try.underlying2 (by kernel_rfl) (by kernel_rfl) (by kernel_rfl) hf
  have hcs' : [Value.slice a0 len0 cap0] = [.slice A len cap] := hcs
  simp only [List.cons.injEq, Value.slice.injEq, and_true] at hcs'
  obtain ⟨rfl, rfl, rfl⟩ := hcs'
  have hlim : ps.length < lim := by
    by_cases hA1 : a0 = none
    · rw [hpl, hn0 hA1]; decide
    · rw [if_neg hA1] at hx
      have z := sized_slice hsz (j := 0) (t := 22) rfl (by rw [← hx]; rfl) Try.underlying22
      have hb : Try.prog.bytesOf 61 = 24 := by kernel_rfl
      rw [hb, hn1 hA1] at z
      rw [hpl]
      have := reachBytes_lt
      unfold lim
      omega
  refine (law3 W a0 len0 cap0 ps hlim hrd).mono fun e W' ⟨he, bel⟩ => ?_
  subst he
  exact ⟨_, rfl, _, _, _, [], _, [], hW', trodAll_mk1 (shut_bool Try.underlying4 _), (trodAll_cons_mk (Below.trod laidOut (by kernel_rfl) (of_decide_eq_true (by kernel_rfl)) k0 bel lt0) trodAll_mk0), rfl, bel.frame _, fun h => by cases h⟩
theorem over : Rows.fnExactCharsOkRow.holds Try.pinned (OpenSpec.ofChange Rows.fnExactCharsOkSpec) :=
  OpenClaim.holds_of_wide 3 Try.f3 rfl rfl rfl rfl rfl rfl rfl ⟨rfl, rfl, rfl, rfl, rfl⟩ rfl rfl rfl rfl rfl (by kernel_rfl) Try.func3 (by kernel_rfl)
    (of_decide_eq_true (by kernel_rfl)) (by unfold Func.isWrapper; first | (rw [if_pos (by decide +kernel)]; kernel_rfl) | (rw [if_neg (by decide +kernel)]; exact ⟨rfl, rfl⟩))
    (fun os started H enc _ => lifted os started H enc)
theorem proved : Rows.FnExactCharsOkSaid := over
#print axioms proved
end Go.Proofs.Ythiglohhocelfaa.fnExactCharsOk
namespace Go.Proofs.Ythiglohhocelfaa
theorem fnExactCharsOk_holds : Rows.FnExactCharsOkSaid := fnExactCharsOk.proved
end Go.Proofs.Ythiglohhocelfaa
