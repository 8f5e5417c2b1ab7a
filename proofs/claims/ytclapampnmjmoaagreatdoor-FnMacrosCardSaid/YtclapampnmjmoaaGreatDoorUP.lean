/- A part of the proof. No condition. -/
import Derived.Test.YtclapampnmjmoaaGreatDoorUO
import Derived.LoopN
import Derived.Conc.MuLone
set_option linter.unusedVariables false
set_option linter.unusedSimpArgs false
set_option linter.unusedSectionVars false
namespace Go.U
open Go
structure Qs where
  n : St → Prop
  x : Nat → St → Prop
  r : St → Prop
def Qs.seq (Q : Qs) (k : St → Prop) : Qs := ⟨k, Q.x, Q.r⟩
def Qs.blk (Q : Qs) (id : Nat) : Qs := ⟨Q.n, fun i st => if i = id then Q.n st else Q.x i st, Q.r⟩
def condW (c : SV) (f g : St → Prop) (st : St) : Prop :=
  match c with
  | .d (.b b) => (b = true → f st) ∧ (b = false → g st)
  | _ => False
def Ctx.ok {P : Program} [Gl P] (X : Ctx P) : Prop := ∀ k, X.own0 k → ∃ (j : Nat) (ba : BA), j < X.n0 ∧ X.β0 j = some ba ∧ ba.b = k
def Weak (n0 : Nat) (st st' : St) : Prop := ∀ (P : Program) (_ : Gl P) (X : Ctx P) (a : Act) (w : World), X.n0 = n0 → X.ok → Good X st a w → Good X st' a w
theorem Weak.refl (n0 : Nat) (st : St) : Weak n0 st st := fun _ _ _ _ _ _ _ h => h
theorem Weak.trans {n0 : Nat} {s t u : St} (h : Weak n0 s t) (h' : Weak n0 t u) : Weak n0 s u := fun P gP X a w e hx hg => h' P gP X a w e hx (h P gP X a w e hx hg)
def iterW (n0 : Nat) (g : (St → Prop) → St → Prop) : Nat → St → Prop
  | 0, _ => False
  | n + 1, st => ∃ st', Weak n0 st st' ∧ g (iterW n0 g n) st'
def W {P : Program} (Y : TT P) (T : Tab) (n0 : Nat) : Code → Qs → St → Prop
  | .skip, Q, st => Q.n st
  | .label _, Q, st => Q.n st
  | .seq a b, Q, st => W Y T n0 a (Q.seq (W Y T n0 b Q)) st
  | .cond c a b, Q, st => condW (ev st c) (W Y T n0 a Q) (W Y T n0 b Q) st
  | .block id b, Q, st => W Y T n0 b (Q.blk id) st
  | .exit id, Q, st => Q.x id st
  | .ret, Q, st => Q.r st
  | .loop b, Q, st => ∃ n, iterW n0 (fun k => W Y T n0 b (Q.seq k)) n st
  | .region _ ops false, Q, st => walkW Y T ops ops.toList Q.n st
  | .region _ ops true, Q, st => P.follows .mixedOrders = true ∧ Region.noSelect ops = true ∧ ∃ p, okP Y ops p ops.size (Array.replicate ops.size false) none = true ∧ planW Y T ops Q.n p st
  | _, _, _ => False
def Qs.post {P : Program} [Gl P] (X : Ctx P) (Q : Qs) : Exit → Act → World → Prop
  | .normal, a, w => ∃ st, Q.n st ∧ Good X st a w
  | .exit id, a, w => ∃ st, Q.x id st ∧ Good X st a w
  | .ret, a, w => ∃ st, Q.r st ∧ Good X st a w
  | _, _, _ => False
section
variable {P : Program} [Gl P] {Y : TT P} {T : Tab} {X : Ctx P} {n0 : Nat}
end
def resS {P : Program} (Y : TT P) (st : St) : List ResultVar → Option (List SV)
  | [] => some []
  | .tmp t :: rs => (resS Y st rs).map (ev st (.tmp t) :: ·)
  | .cell a t :: rs => match loadS Y st.hp t (ev st (.tmp a)), resS Y st rs with | some x, some xs => some (x :: xs) | _, _ => none
def packB (hp : Nat → Option Blk) (ids : List Nat) : List Nat → List Blk
  | [] => []
  | b :: l => match hp b with
    | some k => ⟨k.s, k.mv, k.c.ren (idx ids)⟩ :: packB hp ids l
    | none => packB hp ids l
def packS {P : Program} (Y : TT P) (rs : List ResultVar) (n0 : Nat) (st : St) : Option (List SV × List Blk) :=
  match resS Y st rs with
  | some vs => match reach st.hp 200 [] (List.range n0 ++ SV.idsL vs) with
    | some ids => if ids.take n0 = List.range n0 then some (SV.renL (idx ids) vs, packB st.hp ids ids) else none
    | none => none
  | none => none
def retQ {P : Program} (Y : TT P) (rs : List ResultVar) (n0 : Nat) (res : List SV) (hs' : List Blk) : Qs :=
  ⟨fun st => ∃ st', Weak n0 st st' ∧ packS Y rs n0 st' = some (res, hs'), fun _ _ => False, fun st => ∃ st', Weak n0 st st' ∧ packS Y rs n0 st' = some (res, hs')⟩
def st0 (args : List SV) (hs : List Blk) (nt : Nat) : St := ⟨args ++ List.replicate (nt - args.length) .undef, fun b => hs[b]?⟩
section
variable {P : Program} [Gl P] {Y : TT P} {T : Tab} {X : Ctx P} {st : St} {tmps : Array Value} {w : World} {β : Nat → Option BA} {S : Nat → Prop}
theorem packB_get {hp : Nat → Option Blk} {ids : List Nat} : ∀ (l : List Nat), (∀ b ∈ l, ∃ k, hp b = some k) →
    (packB hp ids l).length = l.length ∧ ∀ (j : Nat) k', (packB hp ids l)[j]? = some k' → ∃ b k, l[j]? = some b ∧ hp b = some k ∧ k' = ⟨k.s, k.mv, k.c.ren (idx ids)⟩
  | [], _ => by simp [packB]
  | b :: l, h => by
    obtain ⟨k, hk⟩ := h b (List.mem_cons_self ..)
    obtain ⟨h1, h2⟩ := packB_get (ids := ids) l fun b hb => h b (List.mem_cons_of_mem _ hb)
    simp only [packB, hk]
    refine ⟨by simp [h1], fun j k' hj => ?_⟩
    cases j with
    | zero => simp at hj; subst hj; exact ⟨b, k, rfl, hk, rfl⟩
    | succ j => simp at hj; simpa using h2 j k' hj
theorem run_resS (hr : Rel X st tmps w β S) : ∀ (rs : List ResultVar) (vs : List SV), resS Y st rs = some vs →
    ∃ us : List Value, (rs.mapM fun (r : ResultVar) => match r with
      | .tmp t => (pure (tmps.getD t undef) : Sem Value)
      | .cell a t => do loadVar t (← asAddr (tmps.getD a undef))).run P w = .ok us w ∧ us.length = vs.length ∧ ∀ (i : Nat) u c, us[i]? = some u → vs[i]? = some c → RS w β S u c
  | [], vs, h => by simp [resS] at h; subst h; exact ⟨[], by simp, rfl, by simp⟩
  | .tmp t :: rs, vs, h => by
    simp only [resS] at h
    cases h1 : resS Y st rs with
    | none => rw [h1] at h; cases h
    | some xs =>
      rw [h1] at h; cases h
      obtain ⟨us, e1, e2, e3⟩ := run_resS hr rs xs h1
      refine ⟨tmps.getD t undef :: us, by simp only [List.mapM_cons, Sem.run_bind, e1, Result.andThen_ok, Sem.run_pure], by simp [e2], fun i u c hu hc => ?_⟩
      cases i with
      | zero =>
        simp only [List.getElem?_cons_zero, Option.some.injEq] at hu hc
        subst hu; subst hc
        exact ev_sound (a := ⟨tmps, []⟩) hr (.tmp t)
      | succ i => simp at hu hc; exact e3 i u c hu hc
  | .cell b t :: rs, vs, h => by
    simp only [resS] at h
    split at h
    · rename_i x xs hx h1
      cases h
      obtain ⟨us, e1, e2, e3⟩ := run_resS hr rs xs h1
      obtain ⟨v, e4, e5⟩ := loadS_sound (P := P) (a := ⟨tmps, []⟩) hr (ev_sound (a := ⟨tmps, []⟩) hr (.tmp b)) hx
      have e6 : (do loadVar t (← asAddr (tmps.getD b undef)) : Sem Value).run P w = .ok v w := by
        have e7 : Act.eval ⟨tmps, []⟩ (.tmp b) = tmps.getD b undef := rfl
        rw [e7] at e4
        simp only [Instr.loadAt] at e4
        cases hb : tmps.getD b undef with
        | pointer A =>
          rw [hb] at e4
          cases A with
          | none => simp [Instr.sureAddr, runtimePanic] at e4
          | some A => simpa [Instr.sureAddr, asAddr] using e4
        | _ => rw [hb] at e4; simp [Instr.sureAddr, stuck] at e4
      refine ⟨v :: us, by simp only [List.mapM_cons, Sem.run_bind, e6, e1, Result.andThen_ok, Sem.run_pure], by simp [e2], fun i u c hu hc => ?_⟩
      cases i with
      | zero => simp at hu hc; subst hu; subst hc; exact e5
      | succ i => simp at hu hc; exact e3 i u c hu hc
    · cases h
theorem run_results (hr : Rel X st tmps w β S) {fn : Func} {vs : List SV} (h : resS Y st fn.results.toList = some vs) :
    ∃ v, (results fn tmps).run P w = .ok v w ∧ RS w β S v (retSV vs) := by
  obtain ⟨us, e1, e2, e3⟩ := run_resS hr _ vs h
  have e4 : fn.results = fn.results.toList.toArray := by simp
  have e5 : (results fn tmps).run P w = .ok (if h : us.toArray.size = 1 then us.toArray[0] else .tuple us.toArray) w := by
    unfold results
    rw [e4, List.mapM_toArray]
    simp only [map_eq_pure_bind, Sem.run_bind, Sem.run_pure]
    erw [e1]
    rfl
  refine ⟨_, e5, ?_⟩
  clear e5 e1
  match us, vs, e2, e3 with
  | [], [], _, _ => exact .tup _ _ rfl (fun i v c h1 => by simp at h1)
  | [u], [c], _, e3 => simpa [retSV] using e3 0 u c rfl rfl
  | u :: u' :: us, c :: c' :: cs, e2, e3 =>
    simp only [List.size_toArray, List.length_cons, Nat.add_eq_right, Nat.add_eq_zero_iff, Nat.one_ne_zero, and_false, dif_neg, not_false_eq_true, retSV]
    exact .tup _ _ (by simpa using e2) fun i v c h1 h2 => e3 i v c (by simpa using h1) h2
@[reducible] def Pre.ctx {w : World} {β : Nat → Option BA} {S : Nat → Prop} {vs : Array Value} {args : List SV} {hs : List Blk} (hp : Pre P w β S vs args hs) : Ctx P :=
  ⟨w, fun k => ∃ (j : Nat) (ba : BA), j < hs.length ∧ β j = some ba ∧ ba.b = k, β, hs.length, S, fun g hg => by
    obtain ⟨h1, h2⟩ := hp.gl g hg
    exact ⟨h1, hp.sbd g h1, fun ⟨j, ba, q1, q2, q3⟩ => hp.excl j ba q1 q2 (q3 ▸ h1), h2⟩⟩
theorem start {vs : Array Value} {args : List SV} {hs : List Blk} (hp : Pre P w β S vs args hs) (nt : Nat) :
    Good hp.ctx (st0 args hs nt) { tmps := vs ++ Array.replicate (nt - vs.size) undef, defers := [] } w := by
  refine ⟨rfl, β, S, by simp [st0, hp.sz], fun t v sv h1 h2 => ?_, fun b k h => (hp.hp b k h).1, fun b b' ba ba' k k' h1 h2 h3 h4 e => ?_, fun b k ba h1 h2 => ?_, hp.sbd, fun _ _ _ => rfl, rfl, rfl, rfl, Nat.le_refl _, fun _ h _ => h, fun _ h => h, fun _ _ _ _ _ => rfl⟩
  · simp only [st0] at h2
    rw [List.getElem?_append] at h2
    rw [Array.getElem?_append] at h1
    rw [hp.sz] at h1
    split at h2
    · rename_i hlt
      rw [if_pos hlt] at h1
      exact hp.args t v sv h1 h2
    · have := List.mem_of_getElem? h2
      rw [List.mem_replicate] at this
      rw [this.2]; exact .undef v
  · exact hp.inj b b' ba ba' (List.getElem?_eq_some_iff.1 h1).1 (List.getElem?_eq_some_iff.1 h2).1 h3 h4 e
  · have hb := (List.getElem?_eq_some_iff.1 h1).1
    exact ⟨hp.excl b ba hb h2, .inr ⟨b, ba, hb, h2, rfl⟩⟩
theorem leave {vs : Array Value} {args : List SV} {hs : List Blk} {w0 : World} {β0 : Nat → Option BA} {S0 : Nat → Prop} (hp : Pre P w0 β0 S0 vs args hs) {fn : Func} {res : List SV} {hs' : List Blk}
    (hr : Rel hp.ctx st tmps w β S) (h : packS Y fn.results.toList hs.length st = some (res, hs')) :
    ∃ v, (results fn tmps).run P w = .ok v w ∧ ∃ β' S', Post w0 w β0 β' S0 S' hs hs' v res := by
  unfold packS at h
  split at h
  · rename_i xs hx
    split at h
    · rename_i ids hre
      split at h
      · rename_i htake
        cases h
        obtain ⟨v, e1, e2⟩ := run_results (P := P) hr hx
        refine ⟨v, e1, fun j => (ids[j]?).bind β, S, ?_⟩
        obtain ⟨hnd, _, htodo, hclosed⟩ := reach_spec st.hp 200 [] _ ids hre List.nodup_nil (by simp)
        have hhp : ∀ b ∈ ids, ∃ k, st.hp b = some k := fun b hb => let ⟨k, hk, _⟩ := hclosed b hb; ⟨k, hk⟩
        obtain ⟨b1, b2⟩ := packB_get (ids := ids) ids hhp
        have hβ2 : ∀ b ∈ ids, (fun j => (ids[j]?).bind β) (idx ids b) = β b := fun b hb => by simp only [(idx_lt hb).2]; rfl
        have hβ2' : ∀ {j b : Nat}, ids[j]? = some b → (fun j => (ids[j]?).bind β) j = β b := fun {j b} hj => by simp only [hj]; rfl
        have hlow : ∀ j, j < hs.length → ids[j]? = some j := fun j hj => by
          have h1 : (ids.take hs.length)[j]? = some j := by rw [htake]; simp [hj]
          rw [List.getElem?_take, if_pos hj] at h1
          exact h1
        have hget : ∀ (j : Nat) ba, j < (packB st.hp ids ids).length → ((ids[j]?).bind β) = some ba → ∃ b k, ids[j]? = some b ∧ st.hp b = some k ∧ β b = some ba := fun j ba hj hba => by
          rw [b1] at hj
          have q1 := List.getElem?_eq_getElem hj
          rw [q1] at hba
          obtain ⟨k, hk⟩ := hhp _ (List.mem_of_getElem? q1)
          exact ⟨_, k, q1, hk, hba⟩
        constructor
        · have h3 := e2.ren (β' := fun j => (ids[j]?).bind β) (ρ := idx ids) fun b hb => hβ2 b (htodo b (by
            rw [List.mem_append]; right
            cases xs with
            | nil => have := SV.mem_ids hb; simp [retSV, SV.ids, SV.idsL] at this
            | cons r rest => cases rest with
              | nil => simpa [retSV, SV.idsL] using SV.mem_ids hb
              | cons r2 rest => simpa [retSV, SV.ids] using SV.mem_ids hb))
          have h5 : (retSV xs).ren (idx ids) = retSV (SV.renL (idx ids) xs) := by
            cases xs with
            | nil => rfl
            | cons r rest => cases rest <;> rfl
          rw [h5] at h3; exact h3
        · rw [b1]
          rcases Nat.eq_zero_or_pos hs.length with h0 | h0
          · omega
          · have := hlow (hs.length - 1) (by omega)
            have := (List.getElem?_eq_some_iff.1 this).1
            omega
        · intro j k hj
          obtain ⟨b, k0, q1, q2, q3⟩ := b2 j k hj
          subst q3
          obtain ⟨k1, q4, q5⟩ := hclosed b (List.mem_of_getElem? q1)
          rw [q2] at q4; cases q4
          exact (hr.hp b k0 q2).ren (hβ2' q1) (fun x hx => hβ2 x (q5 x hx)) _
        · intro j j' ba ba' hj hj' hba hba' e
          obtain ⟨b, k, q1, q2, q3⟩ := hget j ba hj hba
          obtain ⟨b', k', q1', q2', q3'⟩ := hget j' ba' hj' hba'
          have := hr.inj _ _ _ _ _ _ q2 q2' q3 q3' e
          subst this
          rw [b1] at hj hj'
          have r1 := (List.getElem?_eq_some_iff.1 q1).2
          have r2 := (List.getElem?_eq_some_iff.1 q1').2
          exact (List.getElem_inj hnd).1 (r1.trans r2.symm)
        · intro j ba hj hba
          obtain ⟨b, k, q1, q2, q3⟩ := hget j ba hj hba
          exact (hr.excl _ _ _ q2 q3).1
        · intro j ba hj hba
          obtain ⟨b, k, q1, q2, q3⟩ := hget j ba hj hba
          rcases (hr.excl _ _ _ q2 q3).2 with h3 | ⟨i, ba0, r1, r2, r3⟩
          · exact .inr h3
          · exact .inl ⟨i, ba0, r1, r2, r3⟩
        · intro j k hj hk hmv
          have q1 := hlow j hj
          obtain ⟨b, k0, r1, r2, r3⟩ := b2 j k hk
          rw [q1] at r1; cases r1
          subst r3
          show (ids[j]?).bind β = β0 j
          rw [q1]
          exact hr.fix j k0 hj r2 hmv
        · exact hr.s1
        · intro k hk
          refine ⟨hr.sbd k hk, ?_⟩
          rcases Nat.lt_or_ge k w0.heap.size with h3 | h3
          · exact .inl (hr.s0 k hk h3)
          · exact .inr h3
        · exact hr.os
        · exact hr.tape
        · exact hr.out
        · exact hr.grow
        · intro k hk hne
          exact hr.old k hk fun ⟨j, ba, r1, r2, r3⟩ => hne j ba r1 r2 r3.symm
      · cases h
    · cases h
  · cases h
end
end Go.U
