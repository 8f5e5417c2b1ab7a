/- A pointer handed through, as the library's NoEscape does. No condition. -/
import Derived.Test.YtaplcmgnmkfgjaaUYd
set_option linter.unusedVariables false
set_option linter.unusedSimpArgs false
set_option linter.unusedSectionVars false
namespace Go.U
open Go

theorem post_same {P : Program} [Gl P] {w : World} {β : Nat → Option BA} {S : Nat → Prop} {vs : Array Value} {args res : List SV} {hs hs' : List Blk} {v : Value} (hp : Pre P w β S vs args hs) (hsub : BSubs hs hs') (hv : RS w β S v (retSV res)) : Post w w β β S S hs hs' v res := by
  have hl := hsub.len
  refine ⟨hv, by omega, fun j k hk => ?_, fun j j' ba ba' h1 h2 => hp.inj j j' ba ba' (by omega) (by omega), fun j ba h1 => hp.excl j ba (by omega), fun j ba h1 h2 => .inl ⟨j, ba, by omega, h2, rfl⟩, fun _ _ _ _ _ => rfl, fun _ h => h, fun k hk => ⟨hp.sbd k hk, .inl hk⟩, rfl, rfl, rfl, Nat.le_refl _, fun _ _ _ => rfl⟩
  obtain ⟨k0, h1, h2⟩ := hsub.get j k hk
  exact (hp.hp j k0 h1).1.sub h2

def ctNoEscape (T e : Nat) : Ct := ⟨[.l (.ptr 0 0 0)], bldH T e .nilp, [.l (.ptr 0 0 0)], bldH T e .nilp, [], fun x => some x⟩

theorem ct_noEscape {P : Program} [Gl P] {f T e : Nat} (hrun : ∀ v w, (callFunc f #[v]).run P w = .ok (.value v) w) : CtOk P f (ctNoEscape T e) := by
  intro w β S vs args hs res hs' hF hp
  unfold funOf at hF
  split at hF
  case h_2 => cases hF
  rename_i a b ha hb
  obtain ⟨x, hx, hds⟩ := unDs_spec _ _ _ hF
  have hargs : args = [.ptr 0 0 0] ∧ a = [] := by
    match args, ha with
    | [p], ha =>
      simp only [ctNoEscape, grabShs, grabSh] at ha
      obtain ⟨a1, b1, h1, h2, h3⟩ := apO_some ha
      cases h2
      cases p with
      | ptr b e c =>
        simp only [grabL] at h1
        split at h1
        · rename_i q; obtain ⟨rfl, rfl, rfl⟩ := q; cases h1; exact ⟨rfl, h3⟩
        · cases h1
      | d x => cases x <;> cases h1
      | _ => cases h1
    | [], ha => cases ha
    | p :: q :: l, ha =>
      simp only [ctNoEscape, grabShs, grabSh] at ha
      obtain ⟨a1, b1, h1, h2, h3⟩ := apO_some ha
      cases h2
  obtain ⟨rfl, rfl⟩ := hargs
  have hx' : some (fillShs [Sh.l (.ptr 0 0 0)] (toDs _ x) fun vs ds => fillBs (bldH T e .nilp) ds fun ks _ => (vs, ks)) = some (res, hs') := hx
  simp only [fillShs, fillSh, fillL, Option.some.injEq] at hx'
  obtain ⟨ks, g1, g2⟩ := fillBs_grab hb (es := toDs _ x) hds [] fun ks _ => ([SV.ptr 0 0 0], ks)
  rw [List.append_nil] at g1
  have g3 : ([SV.ptr 0 0 0], ks) = (res, hs') := g1.symm.trans hx'
  cases g3
  have hsz := hp.sz
  obtain ⟨v, rfl⟩ : ∃ v, vs = #[v] := by
    refine ⟨vs[0]'(by simp at hsz; omega), ?_⟩
    apply Array.ext
    · simpa using hsz
    · intro i h1 h2
      simp at h2; subst h2; rfl
  exact .inr ⟨v, w, hrun v w, v, β, S, rfl, post_same hp g2 (hp.args 0 v _ rfl rfl)⟩

end Go.U
