/- A part of the proof. No condition. -/
import Derived.Test.YtclapampnmjmoaaGreatDoorUN
import Derived.Orders
import Derived.Deep.Quiet
set_option linter.unusedVariables false
set_option linter.unusedSimpArgs false
set_option linter.unusedSectionVars false
namespace Go.U
open Go
abbrev Tab := Nat → List SV → Option (Fun × List Bool)
def keptR (r : List Bool) : Bool := r.getD 50 false
def TabKeep (T : Tab) : Prop := ∀ f xs F r, T f xs = some (F, r) → keptR r = true → ∀ args hs res hs', F args hs = some (res, hs') → hs' = hs
def TabOk (P : Program) [Gl P] (T : Tab) : Prop := (∀ f xs F r, T f xs = some (F, r) → Con P f F) ∧ TabKeep T
def callS (T : Tab) (st : St) (dst : Option Nat) (fo : Operand) (args : List Operand) : Option St :=
  match ev st fo with
  | .clo f caps => match T f (args.map (ev st) ++ caps) with
    | some (F, refs) => if dst.getD 0 < 999999 ∧ f < 1000000 then opCall F refs st dst (args.map (ev st) ++ caps) else none
    | none => none
  | _ => none
def kindOf {P : Program} (Y : TT P) : Op → Nat
  | .call c => match c.callee with
    | .value _ => 3
    | .builtin .append => 2
    | .builtin .copy => 2
    | _ => 0
  | .alloc _ | .box _ _ | .build _ _ | .buildSlice _ _ _ | .makeSlice _ _ _ | .makeMap _ _ => 1
  | .convert src dst _ => match tdAt Y src, tdAt Y dst with | some .str, some (.sl _) => 1 | _, _ => 0
  | .store _ _ _ => 2
  | .mapUpdate _ _ _ _ => 2
  | .insert _ _ _ _ => 2
  | _ => 0
def putO (st : St) (dst : Option Nat) : Option SV → Option St
  | some r => some (st.put dst r)
  | none => none
def opStep {P : Program} (Y : TT P) (T : Tab) (st : St) (o : Oper) : Option St :=
  match kindOf Y o.op with
  | 0 => putO st o.dst (opVal Y st o.op)
  | 1 => match o.dst with | some d => opNew Y st d o.op | none => none
  | 2 => opPut Y st o.dst o.op
  | _ => match o.op with
    | .call c => match c.callee with
      | .value f => callS T st o.dst f c.args.toList
      | _ => none
    | _ => none
def need {α : Type} : Option α → (α → Prop) → Prop
  | some x, k => k x
  | none, _ => False
def wantS (st : St) (ops : Array Oper) (o : Oper) : Option Bool :=
  match o.guard with
  | none => some true
  | some (j, want) => match (ops[j]?).bind (·.dst) with
    | some t => match st.fr.getD t .undef with
      | .d (.b x) => some (x == want)
      | .tup [] => some false
      | _ => none
    | none => some false
def stepG {P : Program} (Y : TT P) (T : Tab) (o : Oper) (k : St → Prop) (st : St) : Option Bool → Prop
  | some true => need (opStep Y T st o) k
  | some false => k (st.put o.dst (.tup []))
  | none => False
def stepW {P : Program} (Y : TT P) (T : Tab) (ops : Array Oper) (o : Oper) (k : St → Prop) (st : St) : Prop := stepG Y T o k st (wantS st ops o)
def walkW {P : Program} (Y : TT P) (T : Tab) (ops : Array Oper) : List Oper → (St → Prop) → St → Prop
  | [], k, st => k st
  | o :: rest, k, st => stepW Y T ops o (walkW Y T ops rest k) st
inductive Plan where
  | done
  | take (i : Nat) (p : Plan)
  | alt (i : Nat) (p rest : Plan)
  | stop
  | tail (l : List Nat)
def okTail {P : Program} (Y : TT P) (ops : Array Oper) : List Nat → Nat → Array Bool → Bool
  | [], _, listed => (Region.ready .any ops listed).isEmpty
  | i :: l, n + 1, listed => (Region.ready .any ops listed).contains i && Region.free .any ops listed i && (match ops[i]? with | some o => kindOf Y o.op == 0 | none => false) && okTail Y ops l n (listed.setIfInBounds i true)
  | _ :: _, 0, _ => false
def tailW {P : Program} (Y : TT P) (T : Tab) (ops : Array Oper) (k : St → Prop) : List Nat → St → Prop
  | [], st => k st
  | i :: l, st => match ops[i]? with | some o => stepW Y T ops o (tailW Y T ops k l) st | none => False
def okTake {P : Program} (Y : TT P) (ops : Array Oper) (listed : Array Bool) (i : Nat) : Bool :=
  (Region.ready .any ops listed).contains i && Region.free .any ops listed i && (match ops[i]? with | some o => kindOf Y o.op == 0 && blind Y o.op | none => false)
def okP {P : Program} (Y : TT P) (ops : Array Oper) : Plan → Nat → Array Bool → Option (List Nat) → Bool
  | .done, _, listed, none => (Region.ready .any ops listed).isEmpty
  | .take i p, n + 1, listed, none => okTake Y ops listed i && okP Y ops p n (listed.setIfInBounds i true) none
  | .alt i p rest, n + 1, listed, none => match Region.ready .any ops listed with
    | j :: l => j == i && okP Y ops p n (listed.setIfInBounds i true) none && okP Y ops rest (n + 1) listed (some l)
    | [] => false
  | .alt i p rest, n + 1, listed, some (j :: l) => j == i && okP Y ops p n (listed.setIfInBounds i true) none && okP Y ops rest (n + 1) listed (some l)
  | .stop, _, _, some [] => true
  | .tail l, n, listed, none => okTail Y ops l n listed
  | _, _, _, _ => false
def planW {P : Program} (Y : TT P) (T : Tab) (ops : Array Oper) (k : St → Prop) : Plan → St → Prop
  | .done, st => k st
  | .take i p, st => match ops[i]? with | some o => stepW Y T ops o (planW Y T ops k p) st | none => False
  | .alt i p rest, st => (match ops[i]? with | some o => stepW Y T ops o (planW Y T ops k p) st | none => False) ∧ planW Y T ops k rest st
  | .stop, _ => True
  | .tail l, st => tailW Y T ops k l st
section
variable {P : Program} [Gl P] {Y : TT P} {T : Tab} {X : Ctx P} {st : St} {a : Act} {w : World}
theorem Good.putV (h : Good X st a w) (dst : Option Nat) {v : Value} {r : SV} (hv : ∀ β S, Rel X st a.tmps w β S → RS w β S v r) : Good X (st.put dst r) (a.put dst v) w := by
  obtain ⟨hd, β, S, hr⟩ := h
  cases dst with
  | none => exact ⟨hd, β, S, hr⟩
  | some d => exact ⟨hd, β, S, hr.put d (hv β S hr)⟩
theorem Good.skipped (h : Good X st a w) (dst : Option Nat) : Good X (st.put dst (.tup [])) (a.put dst undef) w :=
  h.putV dst fun _ _ _ => .tup #[] [] rfl (fun i v c h1 => by simp at h1)
theorem opVal_good {o : Oper} {r : SV} (hg : Good X st a w) (h : opVal Y st o.op = some r) :
    ∃ v, (∀ w', w' = w ∨ blind Y o.op = true → (execOp a.eval o).run P w' = .ok (.value v) w') ∧ Good X (st.put o.dst r) (a.put o.dst v) w := by
  obtain ⟨hd, β, S, hr⟩ := hg
  obtain ⟨v, h1, h2⟩ := opVal_sound' (P := P) hr h
  refine ⟨v, h1, ?_⟩
  cases ho : o.dst with
  | none => exact ⟨hd, β, S, hr⟩
  | some d => exact ⟨hd, β, S, hr.put d h2⟩
theorem opStep_sound {o : Oper} {st' : St} (hT : TabOk P T) (hn : X.n0 ≤ 1000) (hg : Good X st a w) (h : opStep Y T st o = some st') {K : Act → World → Prop} {Q : Exit → Act → World → Prop}
    (hK : ∀ a' w', Good X st' a' w' → K a' w') : o.wp P a w K Q := by
  unfold opStep at h
  split at h
  · cases hv : opVal Y st o.op with
    | none => rw [hv] at h; cases h
    | some r =>
      rw [hv] at h; cases h
      obtain ⟨v, h1, h2⟩ := opVal_good hg hv
      unfold Oper.wp
      rw [h1 w (.inl rfl)]
      exact hK _ _ h2
  · split at h
    · rename_i d hd
      obtain ⟨nx, w', h1, h2⟩ := opNew_sound (P := P) hd hn hg h
      unfold Oper.wp
      rw [h1]
      rcases h2 with ⟨v, rfl, h2⟩ | ⟨rfl, h2⟩
      · exact hK _ _ h2
      · exact hK _ _ h2
    · cases h
  · obtain ⟨nx, w', h1, h2⟩ := opPut_sound (P := P) hn hg h
    unfold Oper.wp
    rw [h1]
    rcases h2 with ⟨v, rfl, h2⟩ | ⟨rfl, h2⟩
    · exact hK _ _ h2
    · exact hK _ _ h2
  · split at h
    · rename_i c hop
      split at h
      · rename_i fo hcal
        unfold callS at h
        split at h
        · rename_i f caps hev
          split at h
          · rename_i F refs hTf
            split at h
            · rename_i hdst
              obtain ⟨hdf, β, S, hr⟩ := hg
              have hfo := ev_sound hr fo
              rw [hev] at hfo
              generalize hfv : a.eval fo = fv at hfo
              have hf6 := hdst.2
              cases hfo with
              | mp r x h => omega
              | fsl b o n c cs us h1 h2 h3 h4 h5 h6 => omega
              | fpt b o u x h1 h2 h3 h4 => omega
              | clo f vs caps hf hsz hcap =>
                have hrun : (execOp a.eval o).run P w = (callFunc f ((c.args.map a.eval) ++ vs)).run P w := by
                  simp [execOp, hop, resolve, hcal, hfv, Deferred.ofValue, invoke]
                have := opCall_sound (X := X) (a := a) (F := F) (refs := refs) (f := f) (dst := o.dst) (vs := (c.args.map a.eval) ++ vs) (args := c.args.toList.map (ev st) ++ caps) (st' := st') hn (fun d hd => by have hdst := hdst.1; rw [hd] at hdst; simpa using hdst) hdf hr (hT.1 f _ F refs hTf)
                  (by simp [hsz]) (fun i v x hv hx => by
                    rw [Array.getElem?_append] at hv
                    rw [List.getElem?_append] at hx
                    simp only [Array.size_map, List.length_map, Array.length_toList] at hv hx
                    split at hv
                    · rename_i hlt
                      rw [if_pos hlt] at hx
                      rw [Array.getElem?_map] at hv
                      rw [List.getElem?_map] at hx
                      have e : c.args.toList[i]? = c.args[i]? := by simp
                      rw [e] at hx
                      cases hi : c.args[i]? with
                      | none => rw [hi] at hv; cases hv
                      | some y => rw [hi] at hv hx; cases hv; cases hx; exact ev_sound hr y
                    · rename_i hlt
                      rw [if_neg hlt] at hx
                      exact hcap _ _ _ hv hx) h
                unfold Oper.wp
                rw [hrun]
                rcases this with ⟨h1, h2⟩ | ⟨v, w', h1, v', e, h2⟩
                · rw [h1]
                  refine Calls.mono h2 ?_
                  rintro e w' ⟨v, rfl, h3⟩
                  exact hK _ _ h3
                · rw [h1]
                  cases e
                  exact hK _ _ h2
            · cases h
          · cases h
        · cases h
      · cases h
    · cases h
theorem wantS_sound {ops : Array Oper} {o : Oper} {b : Bool} (hg : Good X st a w) (h : wantS st ops o = some b) : Region.wanted o (yielded ops a.tmps) = b := by
  obtain ⟨_, β, S, hr⟩ := hg
  unfold wantS at h
  unfold Region.wanted
  split at h
  · rename_i hgd
    simp only [hgd]
    exact Option.some.inj h
  · rename_i j want hgd
    simp only [hgd]
    split at h
    · rename_i t ht
      have hev := ev_sound hr (.tmp t)
      simp only [ev] at hev
      have hy : yielded ops a.tmps j = match a.tmps[t]? with | some (.bool b) => some b | _ => none := by
        unfold yielded; rw [ht]; rfl
      have hev' : ∀ v, a.eval (.tmp t) = v → v ≠ undef → a.tmps[t]? = some v := fun v hv hne => by
        simp only [Act.eval, Array.getD_eq_getD_getElem?] at hv
        cases hx : a.tmps[t]? with
        | none => rw [hx] at hv; exact absurd hv.symm hne
        | some u => rw [hx] at hv; rw [← hv]; rfl
      split at h
      · rename_i x hx
        rw [hx] at hev
        have := hev.inv_b
        rw [hy, hev' _ this (by intro e; cases e)]
        cases h
        cases x <;> cases want <;> rfl
      · rename_i hx
        rw [hx] at hev
        obtain ⟨vs, hv, hsz, _⟩ := hev.tup_inv
        cases h
        have : yielded ops a.tmps j = none := by
          rw [hy]
          simp only [Act.eval, Array.getD_eq_getD_getElem?] at hv
          cases hx : a.tmps[t]? with
          | none => rfl
          | some u => rw [hx] at hv; simp only [Option.getD_some] at hv; rw [hv]
        rw [this]; rfl
      · cases h
    · rename_i ht
      have : yielded ops a.tmps j = none := by unfold yielded; rw [ht]; rfl
      rw [this]
      cases h; rfl
end
end Go.U
