/- A part of the proof. No condition. -/
import Derived.Test.YtclapampnmjmoaaGreatDoorUXc
set_option linter.unusedVariables false
set_option linter.unusedSimpArgs false
set_option linter.unusedSectionVars false
namespace Go.U
open Go
def refineK {α : Type} (s : XSt) (t : Nat) (b : Bool) (k : XSt → α) : α := setL s.fr t (.d (.b b)) fun fr => k ⟨fr, s.hp⟩
def frzK {ρ : Type} (C : Cmb) {P : Program} (Y : TT P) (s : XSt) (d : Nat) (rty : TypeId) (op : Op) (k : XSt → Option ρ) : Option ρ :=
  match op with
  | .call { callee := .builtin .unsafeSliceData, args, .. } =>
    match args.toList, tdAt Y rty with
    | [x], some (.ptr _) => match ev s.st x with
      | .bb b => match s.st.hp b with
        | some ⟨_, _, .row (.y _) xs⟩ => C.branch (decide (0 < List.length (α := Int) xs)) (putK s (some d) (.ptr b 0 0) k) (putK s (some d) (.d .anyp) k)
        | _ => none
      | _ => none
    | _, _ => none
  | .call { callee := .builtin .unsafeString, args, argTypes } =>
    match args.toList, argTypes.toList with
    | [p, n], [pt, _] => match tdAt Y pt, ev s.st p, ev s.st n with
      | some (.ptr e), .ptr b 0 0, .d (.i .i64 m) => match s.st.hp b, szOf Y e with
        | some ⟨1, _, .row (.y T) xs⟩, some 1 => if T = e then C.guard (decide (m = (List.length (α := Int) xs : Int) ∧ 0 < List.length (α := Int) xs ∧ List.length (α := Int) xs ≤ maxSum)) (putK s (some d) (.d (.str (toB xs))) k) else none
        | _, _ => none
      | some (.ptr _), .d .anyp, .d (.i .i64 m) => C.guard (decide (m = 0)) (putK s (some d) (.d (.str [])) k)
      | _, _, _ => none
    | _, _ => none
  | op => optK (opFrz Y s.st d rty op) fun st' => doneK [] s st' k
def actK {ρ : Type} (C : Cmb) {P : Program} (Y : TT P) (L : CTab) (zs : List Nat) (i : Nat) (o : Oper) (s : XSt) (k : XSt → Option ρ) : Option ρ :=
  if zs.contains i then (match o.dst with | some d => frzK C Y s d o.type o.op k | none => none)
  else match kindOf Y o.op with
    | 0 => opValK C Y s.st o.op fun v => putK s o.dst v k
    | 1 => match o.dst with | some d => opNewK C Y s d o.op k | none => none
    | 2 => opPutK C Y s o.dst o.op k
    | _ => match o.op with
      | .call c => match c.callee with
        | .value f => callK C L s o.dst f c.args.toList k
        | _ => none
      | _ => none
def stepK {ρ : Type} (C : Cmb) {P : Program} (Y : TT P) (L : CTab) (ops : Array Oper) (zs : List Nat) (i : Nat) (o : Oper) (s : XSt) (k : Bool → XSt → Option ρ) : Option ρ :=
  match o.guard with
  | none => actK C Y L zs i o s (k true)
  | some (j, want) => match (ops[j]?).bind (·.dst) with
    | none => putK s o.dst (.tup []) (k false)
    | some t => match s.fr.getD t .undef with
      | .d (.b x) => C.branch x
          (refineK s t true fun s => match want with | true => actK C Y L zs i o s (k true) | false => putK s o.dst (.tup []) (k false))
          (refineK s t false fun s => match want with | true => putK s o.dst (.tup []) (k false) | false => actK C Y L zs i o s (k true))
      | .tup [] => putK s o.dst (.tup []) (k false)
      | _ => none
section
variable {P : Program} [Gl P] {Y : TT P} {L : CTab} {ops : Array Oper} {zs : List Nat} {ρ : Type} {r : ρ}
theorem refine_same {s : XSt} {t : Nat} {b : Bool} (h : s.fr.getD t .undef = .d (.b b)) : (⟨s.fr.set t (.d (.b b)), s.hp⟩ : XSt) = s := by
  have : s.fr.set t (.d (.b b)) = s.fr := by
    rw [List.getD_eq_getElem?_getD] at h
    cases hx : s.fr[t]? with
    | none => rw [hx] at h; cases h
    | some x =>
      rw [hx] at h
      simp only [Option.getD_some] at h
      subst h
      apply List.ext_getElem?
      intro i
      rw [List.getElem?_set]
      split
      · rename_i e
        subst e
        split
        · exact hx.symm
        · rename_i hl; rw [List.getElem?_eq_none (by omega)] at hx; cases hx
      · rfl
  rw [this]
theorem opFrz_hp {st st' : St} {d : Nat} {rty : TypeId} {op : Op} (h : opFrz Y st d rty op = some st') : st'.hp = st.hp := by
  unfold opFrz at h
  repeat' (split at h)
  all_goals first | (cases h; done) | (cases h; rfl)
theorem frzK_some {s : XSt} {d : Nat} {rty : TypeId} {op : Op} {k : XSt → Option ρ} (h : frzK std Y s d rty op k = some r) : ∃ s', opFrz Y s.st d rty op = some s'.st ∧ k s' = some r := by
  have fin : ∀ {v : SV} {o : Option St}, putK s (some d) v k = some r → o = some (s.st.put (some d) v) → ∃ s', o = some s'.st ∧ k s' = some r := fun h1 h2 => by
    obtain ⟨s', q1, q2⟩ := putK_eq s (some d) _ k
    rw [q1] at h1
    exact ⟨s', by rw [h2, q2], h1⟩
  unfold frzK at h
  split at h
  · rename_i args argTypes
    split at h
    case h_2 => cases h
    rename_i x e hargs hty
    split at h
    case h_2 => cases h
    rename_i b hev
    split at h
    case h_2 => cases h
    rename_i sz mv T' xs hk
    have h' : branch (decide (0 < List.length (α := Int) xs)) (putK s (some d) (.ptr b 0 0) k) (putK s (some d) (.d .anyp) k) = some r := h
    by_cases hp : 0 < List.length (α := Int) xs
    · rw [decide_eq_true hp] at h'
      exact fin (v := .ptr b 0 0) h' (by simp only [opFrz, hargs, hty, hev, hk, if_pos hp])
    · rw [decide_eq_false hp] at h'
      exact fin (v := .d .anyp) h' (by simp only [opFrz, hargs, hty, hev, hk, if_neg hp])
  · rename_i args argTypes
    split at h
    case h_2 => cases h
    rename_i p n pt it hargs hats
    split at h
    · rename_i e b m hpt hep hen
      split at h
      · rename_i mv T' xs hk hsz
        split at h
        · rename_i hT
          obtain ⟨h1, h2⟩ := guard_some h
          have hc := of_decide_eq_true h1
          exact fin h2 (by simp only [opFrz, hargs, hats, hpt, hep, hen, hk, hsz, if_pos (And.intro hT hc)])
        · cases h
      · cases h
    · rename_i e m hpt hep hen
      obtain ⟨h1, h2⟩ := guard_some h
      exact fin h2 (by simp only [opFrz, hargs, hats, hpt, hep, hen, if_pos (of_decide_eq_true h1)])
    · cases h
  · obtain ⟨st', h1, h2⟩ := optK_some h
    obtain ⟨s', q1, q2⟩ := doneK_eq (bs := []) (s := s) (k := k) (st' := st') (fun b hb => .inr (by rw [opFrz_hp h1] at hb; exact hb))
    rw [q1] at h2
    exact ⟨s', by rw [q2]; exact h1, h2⟩
theorem actK_some {i : Nat} {o : Oper} {s : XSt} {k : XSt → Option ρ} (h : actK std Y L zs i o s k = some r) :
    ∃ s', (if zs.contains i then (match o.dst with | some d => opFrz Y s.st d o.type o.op | none => none) else opStep Y (tabL L) s.st o) = some s'.st ∧ k s' = some r := by
  unfold actK at h
  split at h
  · rename_i hz
    rw [if_pos hz]
    split at h
    · rename_i d hd
      exact frzK_some h
    · cases h
  · rename_i hz
    rw [if_neg hz]
    unfold opStep
    split at h
    · rename_i hk
      rw [hk]
      obtain ⟨v, h1, h2⟩ := opValK_some h
      obtain ⟨s', q1, q2⟩ := putK_eq s o.dst v k
      rw [q1] at h2
      exact ⟨s', by simp only [h1, putO, q2], h2⟩
    · rename_i hk
      rw [hk]
      split at h
      · rename_i d hd
        obtain ⟨s', h1, h2⟩ := opNewK_some h
        exact ⟨s', by simp only [hd]; exact h1, h2⟩
      · cases h
    · rename_i hk
      rw [hk]
      exact opPutK_some h
    · rename_i h0 h1 h2
      split at h
      case h_2 => cases h
      rename_i c hop
      split at h
      case h_2 => cases h
      rename_i fo hcal
      have hk : kindOf Y o.op = 3 := by rw [hop]; simp only [kindOf, hcal]
      rw [hk]
      obtain ⟨s', q1, q2⟩ := callK_some h
      exact ⟨s', by simp only [hop, hcal]; exact q1, q2⟩
theorem stepK_some {i : Nat} {o : Oper} (hi : ops[i]? = some o) {s : XSt} {k : Bool → XSt → Option ρ} (h : stepK std Y L ops zs i o s k = some r) :
    ∃ b s', wantS s.st ops o = some b ∧ stepF Y (tabL L) ops zs i s.st = some s'.st ∧ k b s' = some r := by
  unfold stepF
  simp only [hi]
  have act : wantS s.st ops o = some true → actK std Y L zs i o s (k true) = some r → ∃ b s', wantS s.st ops o = some b ∧ (match wantS s.st ops o with
      | some true => if zs.contains i = true then (match o.dst with | some d => opFrz Y s.st d o.type o.op | none => none) else opStep Y (tabL L) s.st o
      | some false => some (s.st.put o.dst (.tup []))
      | none => none) = some s'.st ∧ k b s' = some r := fun hw h => by
    obtain ⟨s', h1, h2⟩ := actK_some h
    exact ⟨true, s', hw, by rw [hw]; exact h1, h2⟩
  have skip : wantS s.st ops o = some false → putK s o.dst (.tup []) (k false) = some r → ∃ b s', wantS s.st ops o = some b ∧ (match wantS s.st ops o with
      | some true => if zs.contains i = true then (match o.dst with | some d => opFrz Y s.st d o.type o.op | none => none) else opStep Y (tabL L) s.st o
      | some false => some (s.st.put o.dst (.tup []))
      | none => none) = some s'.st ∧ k b s' = some r := fun hw h => by
    obtain ⟨s', q1, q2⟩ := putK_eq s o.dst (.tup []) (k false)
    rw [q1] at h
    exact ⟨false, s', hw, by rw [hw]; simp only [q2], h⟩
  unfold stepK at h
  split at h
  · rename_i hg
    exact act (by unfold wantS; rw [hg]) h
  · rename_i j want hg
    split at h
    · rename_i hj
      exact skip (by unfold wantS; simp only [hg, hj]) h
    · rename_i t hj
      split at h
      · rename_i x hx
        have hw : wantS s.st ops o = some (x == want) := by unfold wantS; simp only [hg, hj]; show (match s.fr.getD t .undef with | .d (.b x) => _ | .tup [] => _ | _ => _) = _; rw [hx]
        rcases branch_some h with ⟨rfl, h1⟩ | ⟨rfl, h1⟩
        · unfold refineK at h1
          rw [setL_eq, refine_same hx] at h1
          cases want with
          | true => exact act hw h1
          | false => exact skip hw h1
        · unfold refineK at h1
          rw [setL_eq, refine_same hx] at h1
          cases want with
          | true => exact skip hw h1
          | false => exact act hw h1
      · rename_i hx
        exact skip (by unfold wantS; simp only [hg, hj]; show (match s.fr.getD t .undef with | .d (.b x) => _ | .tup [] => _ | _ => _) = _; rw [hx]) h
      · cases h
end
inductive Wk where
  | frz (b : Nat)
  | vslot (t b s : Nat) (ty : Ty)
  | vcell (b0 c b s : Nat) (ty : Ty)
  | split (t : Nat) (ns : List Int)
  deriving Inhabited
def splitK {ρ : Type} (C : Cmb) (s : XSt) (t : Nat) (q : IntKind) (m : Int) (k : XSt → Option ρ) : List Int → Option ρ
  | [] => none
  | n :: ns => C.branch (decide (m = n)) (setL s.fr t (.d (.i q n)) fun fr => k ⟨fr, s.hp⟩) (splitK C s t q m k ns)
def virtC (g : Bool) (c b : Nat) (k : Blk) : Option Blk := match k.c with
  | .mix ty [cs] => match cs[c]? with
    | some (.d .emp) => some { k with c := .mix ty [cs.set c (refS g b)] }
    | _ => none
  | _ => none
def wkK {ρ : Type} (C : Cmb) (n0 : Nat) (x : Wk) (s : XSt) (k : XSt → Option ρ) : Option ρ :=
  match x with
  | .frz b => match hpL s.hp b with
    | some ⟨_, _, .row t xs⟩ => if decide (n0 ≤ b) && (List.range n0).all (fun j => match hpL s.hp j with | some k => !k.mv | none => false) then doneK [] s (s.st.frz b t xs) k else none
    | _ => none
  | .split t ns => match s.fr.getD t .undef with
    | .d (.i q m) => splitK C s t q m k ns
    | _ => none
  | .vslot t b sz ty => if n0 ≤ b then (match s.fr.getD t .undef with
    | .d .emp => doneK [b] s ⟨(s.st.newB b ⟨sz, false, .row ty []⟩).fr.set t (.all b), (s.st.newB b ⟨sz, false, .row ty []⟩).hp⟩ k
    | _ => none) else none
  | .vcell b0 c b sz ty => if n0 ≤ b ∧ b0 ≠ b then (match (s.st.newB b ⟨sz, false, .row ty []⟩).hp b0 with
    | some kb => match virtC ty.isY c b kb with
      | some kb' => doneK [b] s ⟨(s.st.newB b ⟨sz, false, .row ty []⟩).fr, hset (s.st.newB b ⟨sz, false, .row ty []⟩).hp b0 kb'⟩ k
      | none => none
    | none => none) else none
def wksK {ρ : Type} (C : Cmb) (n0 : Nat) : List Wk → XSt → (XSt → Option ρ) → Option ρ
  | [], s, k => k s
  | x :: xs, s, k => wkK C n0 x s fun s => wksK C n0 xs s k
section
variable {ρ : Type} {r : ρ} {k : XSt → Option ρ}
theorem set_same {s : XSt} {t : Nat} {v : SV} (h : s.fr.getD t .undef = v) (hv : v ≠ .undef) : (⟨s.fr.set t v, s.hp⟩ : XSt) = s := by
  have : s.fr.set t v = s.fr := by
    rw [List.getD_eq_getElem?_getD] at h
    cases hx : s.fr[t]? with
    | none => rw [hx] at h; exact absurd h.symm hv
    | some x =>
      rw [hx] at h
      simp only [Option.getD_some] at h
      subst h
      apply List.ext_getElem?
      intro i
      rw [List.getElem?_set]
      split
      · rename_i e
        subst e
        split
        · exact hx.symm
        · rename_i hl; rw [List.getElem?_eq_none (by omega)] at hx; cases hx
      · rfl
  rw [this]
theorem splitK_some {s : XSt} {t : Nat} {q : IntKind} {m : Int} (hs : s.fr.getD t .undef = .d (.i q m)) : ∀ (ns : List Int), splitK std s t q m k ns = some r → k s = some r
  | [], h => by cases h
  | n :: ns, h => by
    simp only [splitK] at h
    rcases branch_some h with ⟨h1, h2⟩ | ⟨h1, h2⟩
    · have e := of_decide_eq_true h1
      subst e
      rw [setL_eq, set_same hs (by intro h; cases h)] at h2
      exact h2
    · exact splitK_some hs ns h2
theorem wkK_some {n0 : Nat} {x : Wk} {s : XSt} (h : wkK std n0 x s k = some r) : ∃ s', Weak n0 s.st s'.st ∧ k s' = some r := by
  unfold wkK at h
  split at h
  · rename_i b
    split at h
    case h_2 => cases h
    rename_i sz mv t xs hk
    split at h
    case isFalse => cases h
    rename_i hc
    rw [Bool.and_eq_true] at hc
    obtain ⟨s', q1, q2⟩ := doneK_eq (bs := []) (s := s) (k := k) (st' := s.st.frz b t xs) (fun x hx => by
      refine .inr fun e => ?_
      simp only [St.frz] at hx
      split at hx
      · exact hx rfl
      · rw [e] at hx; exact hx rfl)
    rw [q1] at h
    refine ⟨s', ?_, h⟩
    rw [q2]
    exact Weak.frz hk (of_decide_eq_true hc.1) fun j hj => by
      have := List.all_eq_true.1 hc.2 j (List.mem_range.2 hj)
      split at this
      · rename_i kb hkb; exact ⟨kb, hkb, by simpa using this⟩
      · cases this
  · rename_i t ns
    split at h
    case h_2 => cases h
    rename_i q m hs
    exact ⟨s, .refl _ _, splitK_some hs ns h⟩
  · rename_i t b sz ty
    split at h
    case isFalse => cases h
    rename_i hn
    split at h
    case h_2 => cases h
    rename_i he
    obtain ⟨s', q1, q2⟩ := doneK_eq (bs := [b]) (s := s) (k := k) (st' := ⟨(s.st.newB b ⟨sz, false, .row ty []⟩).fr.set t (.all b), (s.st.newB b ⟨sz, false, .row ty []⟩).hp⟩) (fun x hx => by simpa using newB_keys hx)
    rw [q1] at h
    refine ⟨s', ?_, h⟩
    rw [q2]
    rintro P gP X a w h0 hok ⟨hd, β, S, hr⟩
    have hv := hr.virt b ⟨sz, false, .row ty []⟩ (.inl (by omega)) rfl
    refine ⟨hd, _, S, by simpa using hv.size, fun t' v sv h1 h2 => ?_, hv.hp, hv.inj, hv.excl, hv.sbd, hv.old, hv.os, hv.tape, hv.out, hv.grow, hv.s0, hv.s1, hv.fix⟩
    simp only [List.getElem?_set] at h2
    split at h2
    · rename_i e
      subst e
      split at h2
      · cases h2
        have he' : s.st.fr[t]? = some (.d .emp) := by
          have he2 : s.st.fr.getD t .undef = .d .emp := he
          rw [List.getD_eq_getElem?_getD] at he2
          cases hx : s.st.fr[t]? with
          | none => rw [hx] at he2; cases he2
          | some x => rw [hx] at he2; simp only [Option.getD_some] at he2; rw [he2]
        have := hr.fr t v _ h1 he'
        cases this.inv_d with
        | emp => exact .all0 none b (if_pos rfl)
      · cases h2
    · exact hv.fr t' v sv h1 h2
  · rename_i b0 c b sz ty
    split at h
    case isFalse => cases h
    rename_i hn
    split at h
    case h_2 => cases h
    rename_i kb hkb
    split at h
    case h_2 => cases h
    rename_i kb' hkb'
    obtain ⟨s', q1, q2⟩ := doneK_eq (bs := [b]) (s := s) (k := k) (st' := ⟨(s.st.newB b ⟨sz, false, .row ty []⟩).fr, hset (s.st.newB b ⟨sz, false, .row ty []⟩).hp b0 kb'⟩) (fun x hx => by
      have := hset_keys hkb hx
      simpa using newB_keys this)
    rw [q1] at h
    refine ⟨s', ?_, h⟩
    rw [q2]
    rintro P gP X a w h0 hok ⟨hd, β, S, hr⟩
    have hv := hr.virt b ⟨sz, false, .row ty []⟩ (.inl (by omega)) rfl
    unfold virtC at hkb'
    split at hkb'
    case h_2 => cases hkb'
    rename_i mty cs hc
    split at hkb'
    case h_2 => cases hkb'
    rename_i hcell
    cases hkb'
    have hmv : ∀ (x : Nat) k, hset (s.st.newB b ⟨sz, false, .row ty []⟩).hp b0 { kb with c := .mix mty [cs.set c (refS ty.isY b)] } x = some k → ∃ k0, (s.st.newB b ⟨sz, false, .row ty []⟩).hp x = some k0 ∧ k0.mv = k.mv := fun x k hx => by
      by_cases hxb : x = b0
      · subst hxb; rw [hset_same] at hx; cases hx; exact ⟨kb, hkb, rfl⟩
      · rw [hset_ne hxb] at hx; exact ⟨k, hx, rfl⟩
    refine ⟨hd, _, S, hv.size, hv.fr, fun x k hx => ?_, fun x x' ba ba' k k' h1 h2 => ?_, fun x k ba h1 => ?_, hv.sbd, hv.old, hv.os, hv.tape, hv.out, hv.grow, hv.s0, hv.s1, fun x k hx h1 hm => ?_⟩
    · dsimp only at hx
      by_cases hxb : x = b0
      · subst hxb
        rw [hset_same] at hx; cases hx
        rcases hv.hp x kb hkb with (⟨h1, h2⟩ | ⟨_, _, _, _, _, hm, _⟩) | ⟨ba, arr, ty', fz, h1, h2, h3, h4, h5, h6, h7, h8, h9⟩
        · rw [hc] at h1; cases h1
        · rw [hc] at hm; cases hm
        · rw [hc] at h2 h7 h8 h9
          refine .inr ⟨ba, arr, ty', fz, h1, by simpa [BC.len, BC.ty?] using h2, h3, h4, h5.to (by rw [hc]; rfl) (by rw [hc]; rfl) rfl rfl, h6, by simpa [BC.len] using h7, fun e l hl => h8 e l ?_, fun e j sv hcc => ?_⟩
          · cases e with
            | zero => simpa [BC.lens?] using hl
            | succ e => simp [BC.lens?] at hl
          · cases e with
            | zero =>
              simp only [BC.cell?, List.getElem?_cons_zero, Option.bind_some, List.getElem?_set] at hcc
              split at hcc
              · rename_i e
                subst e
                split at hcc
                · cases hcc
                  obtain ⟨u, u1, u2, u3⟩ := h9 0 c (.d .emp) (by simp [BC.cell?, hcell])
                  refine ⟨u, u1, u2, ?_⟩
                  cases u3.inv_d with
                  | emp =>
                    cases ty.isY
                    · exact .all0 none b (if_pos rfl)
                    · exact .bb0 b (if_pos rfl)
                · cases hcc
              · exact h9 0 j sv (by simpa [BC.cell?] using hcc)
            | succ e => simp [BC.cell?] at hcc
      · rw [hset_ne hxb] at hx; exact hv.hp x k hx
    · obtain ⟨k0, g1, _⟩ := hmv x k h1
      obtain ⟨k0', g1', _⟩ := hmv x' k' h2
      exact hv.inj x x' ba ba' k0 k0' g1 g1'
    · obtain ⟨k0, g1, _⟩ := hmv x k h1
      exact hv.excl x k0 ba g1
    · obtain ⟨k0, g1, g2⟩ := hmv x k h1
      exact hv.fix x k0 hx g1 (g2.trans hm)
theorem wksK_some {n0 : Nat} : ∀ {xs : List Wk} {s : XSt}, wksK std n0 xs s k = some r → ∃ s', Weak n0 s.st s'.st ∧ k s' = some r
  | [], s, h => ⟨s, .refl _ _, h⟩
  | x :: xs, s, h => by
    obtain ⟨s1, h1, h2⟩ := wkK_some h
    obtain ⟨s2, h3, h4⟩ := wksK_some h2
    exact ⟨s2, h1.trans h3, h4⟩
end
end Go.U
