/- A part of the proof. No condition. -/
import Derived.Test.YtclapampnmjmoaaGreatDoorUV
set_option linter.unusedVariables false
set_option linter.unusedSimpArgs false
set_option linter.unusedSectionVars false
namespace Go.U
open Go
def stepF {P : Program} (Y : TT P) (T : Tab) (ops : Array Oper) (zs : List Nat) (i : Nat) (st : St) : Option St :=
  match ops[i]? with
  | none => some st
  | some o => match wantS st ops o with
    | some true => if zs.contains i then (match o.dst with | some d => opFrz Y st d o.type o.op | none => none) else opStep Y T st o
    | some false => some (st.put o.dst (.tup []))
    | none => none
def noMv (hp : Nat → Option Blk) (ids : List Nat) : Bool := ids.all fun b => match hp b with | some k => !k.mv | none => false
theorem landB_self {hp : Nat → Option Blk} {ids : List Nat} {ρ : Nat → Nat} (hρ : ∀ b ∈ ids, ρ (idx ids b) = b) : ∀ (U : List Nat) (j : Nat), (∀ b ∈ U, ∃ k, hp b = some k ∧ k.mv = false ∧ ∀ x ∈ k.c.ids, x ∈ ids) →
    hsets hp (landB hp ρ U (blocksOf hp ids j U)) = hp
  | [], _, _ => rfl
  | b :: U, j, h => by
    obtain ⟨k, h1, h2, h3⟩ := h b (List.mem_cons_self ..)
    have ih := landB_self hρ U (j + 1) fun x hx => h x (List.mem_cons_of_mem _ hx)
    simp only [blocksOf, h1, landB, hsets, ih, h2, Bool.false_or, BC.ren_ren k.c fun x hx => hρ x (h3 x hx)]
    refine hset_id ?_
    rw [h1]
    cases k; simp only at h2; subst h2; rfl
theorem movedOf_blocks {hp : Nat → Option Blk} {ids : List Nat} : ∀ (l : List Nat) (j : Nat) (U : List Nat), movedOf U (blocksOf hp ids j l) = []
  | [], _, U => by cases U <;> rfl
  | b :: l, j, U => by
    simp only [blocksOf]
    split
    · cases U with
      | nil => rfl
      | cons u U => simp only [movedOf]; exact movedOf_blocks l (j + 1) U
    · exact movedOf_blocks l (j + 1) U
mutual
theorem SV.kill_none {b : Nat} : ∀ (x : SV), b ∉ x.ids → x.kill b = x
  | .sl b' _ _, h => if_neg fun e => h (by simp [SV.ids, e])
  | .all b', h => if_neg fun e => h (by simp [SV.ids, e])
  | .bb b', h => if_neg fun e => h (by simp [SV.ids, e])
  | .ptr b' _ _, h => if_neg fun e => h (by simp [SV.ids, e])
  | .pon b' _ _, h => if_neg fun e => h (by simp [SV.ids, e])
  | .agg cs, h => by simp only [SV.kill, SV.killL_none cs (by simpa only [SV.ids] using h)]
  | .tup cs, h => by simp only [SV.kill, SV.killL_none cs (by simpa only [SV.ids] using h)]
  | .clo _ cs, h => by simp only [SV.kill, SV.killL_none cs (by simpa only [SV.ids] using h)]
  | .undef, _ => rfl
  | .d _, _ => rfl
  | .rptr _, _ => rfl
theorem SV.killL_none {b : Nat} : ∀ (cs : List SV), b ∉ SV.idsL cs → SV.killL b cs = cs
  | [], _ => rfl
  | c :: cs, h => by
    simp only [SV.idsL, List.mem_append, not_or] at h
    simp only [SV.killL, SV.kill_none c h.1, SV.killL_none cs h.2]
end
theorem BC.kill_none {b : Nat} : ∀ (c : BC), b ∉ c.ids → c.kill b = c
  | .row _ _, _ => rfl
  | .map _ _, _ => rfl
  | .mix ty els, h => by
    simp only [BC.ids, List.mem_flatMap, not_exists, not_and] at h
    simp only [BC.kill]
    congr 1
    exact (List.map_congr_left fun l hl => SV.killL_none l (h l hl)).trans (List.map_id _)
def onlyW (A : List Nat) (d : Nat) (st : St) : Prop := (∀ t, t ≠ d → t ∉ A → newId d ∉ (st.fr.getD t .undef).ids) ∧ ∀ x k, st.hp x = some k → newId d ∉ k.c.ids
def onlyD (d : Nat) (st : St) : Prop := (∀ t, t ≠ d → newId d ∉ (st.fr.getD t .undef).ids) ∧ ∀ x k, st.hp x = some k → newId d ∉ k.c.ids
theorem onlyD_W {d : Nat} {st : St} (h : onlyD d st) (A : List Nat) : onlyW A d st := ⟨fun t h1 _ => h.1 t h1, h.2⟩
theorem onlyW_D {d : Nat} {st : St} (h : onlyW [] d st) : onlyD d st := ⟨fun t h1 => h.1 t h1 (by simp), h.2⟩
def isNewOp : Op → Bool
  | .alloc _ => true
  | .makeMap _ _ => true
  | _ => false
def newsOf (ops : List Oper) : List Nat := ops.filterMap fun o => match isNewOp o.op with | true => o.dst | false => none
def aliasOf (ops : List Oper) (d : Nat) : List Nat := ops.filterMap fun o => match o.op, o.dst with | .move (.tmp s), some t => (match Nat.beq s d with | true => some t | false => none) | _, _ => none
def okN (o : Oper) (st : St) : Prop := ∀ d, isNewOp o.op = true → o.dst = some d → onlyD d st
def QF (ops : Array Oper) (R : List Nat) (st : St) : Prop := (∀ d ∈ newsOf ops.toList, onlyW (aliasOf ops.toList d) d st) ∧ ∀ i ∈ R, ∀ o, ops[i]? = some o → okN o st
theorem okN_of {ops : Array Oper} {R : List Nat} {i : Nat} {o : Oper} (hi : ops[i]? = some o) {st : St} (h : QF ops R st) (hm : i ∈ R) : okN o st := h.2 i hm o hi
theorem QF.mono {ops : Array Oper} {R R' : List Nat} {st : St} (h : QF ops R st) (hs : ∀ i ∈ R', i ∈ R) : QF ops R' st := ⟨h.1, fun i hi => h.2 i (hs i hi)⟩
theorem newsOf_mem {ops : Array Oper} {i d : Nat} {o : Oper} (hi : ops[i]? = some o) (h1 : isNewOp o.op = true) (h2 : o.dst = some d) : d ∈ newsOf ops.toList :=
  List.mem_filterMap.2 ⟨o, Array.mem_toList_iff.2 (Array.mem_of_getElem? hi), by simp only [h1, h2]⟩
theorem newB_eff {d : Nat} {st : St} (h : onlyD d st) {k : Blk} (hk : newId d ∉ k.c.ids) (v : SV) : (st.newB (newId d) k).put (some d) v = Eff.app ⟨v, [(newId d, k)]⟩ (some d) st := by
  unfold Eff.app St.newB St.put
  simp only [hsets]
  congr 1
  · refine List.ext_getElem? fun t => ?_
    by_cases ht : d = t
    · subst ht; simp [List.getElem?_set]
    · rw [List.getElem?_set_ne ht, List.getElem?_set_ne ht, List.getElem?_map]
      cases hx : st.fr[t]? with
      | none => rfl
      | some x =>
        have := h.1 t fun e => ht e.symm
        rw [List.getD_eq_getElem?_getD, hx] at this
        exact congrArg some (SV.kill_none x this)
  · have e : k.kill (newId d) = k := by
      cases k; simp only [Blk.kill]; congr 1; exact BC.kill_none _ hk
    rw [e]
    have e2 : (st.kill (newId d)).hp = st.hp := by
      funext x
      simp only [St.kill]
      cases hx : st.hp x with
      | none => rfl
      | some k =>
        refine congrArg some ?_
        have := h.2 x k hx
        cases k; simp only [Blk.kill]; congr 1; exact BC.kill_none _ this
    rw [e2]
theorem allocB_ids {i : TI} {t : TypeId} {b : Nat} : b ∉ (allocB i t).c.ids := by
  unfold allocB
  split
  · simp [BC.ids]
  · simp only [BC.ids, List.flatMap_cons, List.flatMap_nil, List.append_nil]
    intro h
    have : ∀ (l : List D), b ∉ SV.idsL (l.map SV.d) := by
      intro l
      induction l with
      | nil => simp [SV.idsL]
      | cons x l ih => simpa [SV.idsL, SV.ids] using ih
    exact this _ h
theorem only_swap {A B : List Nat} {d : Nat} {st s2 : St} {e k : Eff} {x y : Option Nat} (h : onlyW A d st) (h2 : onlyW B d s2) (he : s2 = k.app y (e.app x st)) (hy : ∀ q, y = some q → q ∉ A → q ∉ B) : onlyW A d (k.app y st) := by
  subst he
  obtain ⟨a1, a2⟩ := h
  obtain ⟨b1, b2⟩ := h2
  refine ⟨fun t ht hA => ?_, fun b kb hb => ?_⟩
  · cases y with
    | none => exact a1 t ht hA
    | some q =>
      have c2 := a1 t ht hA
      by_cases hq : q = t
      · subst hq
        have c1 := b1 q ht (hy q rfl hA)
        simp only [Eff.app, St.put, List.getD_eq_getElem?_getD, List.getElem?_set] at c1 c2 ⊢
        clear b1 b2
        cases x <;> simpa using c1
      · simp only [Eff.app, St.put, List.getD_eq_getElem?_getD, List.getElem?_set] at c2 ⊢
        simp only [if_neg hq]; exact c2
  · have c1 := b2 b kb
    simp only [Eff.app] at c1 hb
    by_cases hx : ∃ p ∈ k.ups, p.1 = b
    · rw [hsets_on (h' := hsets st.hp e.ups) k.ups hx] at hb
      exact c1 hb
    · rw [hsets_off k.ups fun p hp hpb => hx ⟨p, hp, hpb⟩] at hb
      exact a2 b kb hb
def callFoot (T : Tab) (st : St) (fo : Operand) (args : List Operand) : Option (List Nat × List Nat) :=
  match ev st fo with
  | .clo f caps => match T f (args.map (ev st) ++ caps) with
    | some (F, refs) => match prep st.hp refs (args.map (ev st) ++ caps) with
      | some (args1, _) => match reach st.hp 200 [] (SV.idsL args1) with
        | some ids => match F (SV.renL (idx ids) args1) (blocksOf st.hp ids 0 ids) with
          | some (_, hs') => if hs'.length = ids.length ∧ movedOf ids hs' = [] then some (SV.idsL (args.map (ev st) ++ caps) ++ ids, if (keptR refs && noMv st.hp ids) = true then [] else ids) else none
          | none => none
        | none => none
      | none => none
    | none => none
  | _ => none
def footF {P : Program} (Y : TT P) (T : Tab) (ops : Array Oper) (zs : List Nat) (i : Nat) (st : St) : Option (List Nat × List Nat) :=
  match ops[i]? with
  | none => some ([], [])
  | some o => match wantS st ops o with
    | some true => if zs.contains i then some (idsOf st o.op, []) else match kindOf Y o.op with
      | 0 => some (idsOf st o.op, [])
      | 1 => match o.op with | .build _ _ => some ([], []) | .alloc _ => (match o.dst with | some d => some ([], [newId d]) | none => none) | .makeMap _ _ => (match o.dst with | some d => some ([], [newId d]) | none => none) | _ => none
      | 2 => match o.op with
        | .store _ p _ => (match ev st p with
          | .ptr b _ _ => some (idsOf st o.op, [b])
          | _ => none)
        | .mapUpdate _ m _ _ => (match ev st m with
          | .clo _ [.ptr b 0 0] => some (idsOf st o.op, [b])
          | _ => none)
        | .insert _ m _ _ => (match ev st m with
          | .clo _ [.ptr b 0 0] => some (idsOf st o.op, [b])
          | _ => none)
        | _ => none
      | _ => match o.op with
        | .call c => match c.callee with
          | .value f => callFoot T st f c.args.toList
          | _ => none
        | _ => none
    | some false => some ([], [])
    | none => none
section
variable {P : Program} [Gl P] {Y : TT P} {T : Tab} {ops : Array Oper} {zs : List Nat}
def sameAt (l : List Nat) (st st2 : St) : Prop := ∀ t ∈ l, st2.fr.getD t .undef = st.fr.getD t .undef
theorem ev_same {o : Oper} {st st2 : St} (h : sameAt (o.looksAt ops) st st2) {x : Operand} (hx : x ∈ o.op.operands.toList) : ev st2 x = ev st x := by
  cases x with
  | tmp t => exact h t (by simp only [Oper.looksAt, List.mem_append, List.mem_filterMap]; exact .inl ⟨.tmp t, hx, rfl⟩)
  | _ => rfl
theorem wantS_same {o : Oper} {st st2 : St} (h : sameAt (o.looksAt ops) st st2) : wantS st2 ops o = wantS st ops o := by
  unfold wantS
  cases hg : o.guard with
  | none => rfl
  | some g =>
    obtain ⟨j, want⟩ := g
    simp only
    cases hj : (ops[j]?).bind (·.dst) with
    | none => rfl
    | some t =>
      simp only
      rw [h t (by simp only [Oper.looksAt, hg, hj, List.mem_append]; exact .inr (by simp))]
theorem put_app (st : St) (dst : Option Nat) (v : SV) : st.put dst v = Eff.app ⟨v, []⟩ dst st := by
  unfold Eff.app
  cases dst <;> rfl
theorem idsOf_same {o : Oper} {st st2 : St} (h : sameAt (o.looksAt ops) st st2) (_hh : ∀ b ∈ idsOf st o.op, st2.hp b = st.hp b) : idsOf st2 o.op = idsOf st o.op := by
  unfold idsOf
  rw [evL_congr fun x hx => ev_same h hx]
theorem loc (hTK : TabKeep T) {i : Nat} {o : Oper} (hi : ops[i]? = some o) {st st' : St} {f : List Nat × List Nat} (hs : stepF Y T ops zs i st = some st') (hf : footF Y T ops zs i st = some f) (hN : okN o st) :
    ∃ e : Eff, (∀ p ∈ e.ups, p.1 ∈ f.2) ∧ st' = e.app o.dst st ∧ ∀ st2, sameAt (o.looksAt ops) st st2 → (∀ b ∈ f.1, st2.hp b = st.hp b) → okN o st2 →
      stepF Y T ops zs i st2 = some (e.app o.dst st2) ∧ footF Y T ops zs i st2 = some f := by
  have hw : ∀ st2, sameAt (o.looksAt ops) st st2 → wantS st2 ops o = wantS st ops o := fun st2 h => wantS_same h
  unfold stepF at hs ⊢
  unfold footF at hf ⊢
  simp only [hi] at hs hf ⊢
  cases hwant : wantS st ops o with
  | none => rw [hwant] at hs; cases hs
  | some wb =>
    rw [hwant] at hs hf
    cases wb with
    | false =>
      simp only at hs hf
      cases hs; cases hf
      refine ⟨⟨.tup [], []⟩, by simp, put_app .., fun st2 h _ _ => ?_⟩
      rw [hw st2 h, hwant]
      exact ⟨by rw [put_app], rfl⟩
    | true =>
      simp only at hs hf
      by_cases hz : zs.contains i = true
      · rw [if_pos hz] at hs hf
        cases hf
        cases hd : o.dst with
        | none => rw [hd] at hs; cases hs
        | some d =>
          rw [hd] at hs
          simp only at hs
          have key : ∃ v, st' = st.put (some d) v ∧ ∀ st2, sameAt (o.looksAt ops) st st2 → (∀ b ∈ idsOf st o.op, st2.hp b = st.hp b) → opFrz Y st2 d o.type o.op = some (st2.put (some d) v) := by
            obtain ⟨dst, op, type, pos, after, guard⟩ := o
            simp only at hs hd
            unfold opFrz at hs
            split at hs
            case h_5 => cases hs
            case h_4 =>
              rename_i t l c
              split at hs
              case h_2 => cases hs
              rename_i e ht
              split at hs
              case h_2 => cases hs
              rename_i ii k n k' m hii hl hc
              split at hs
              case h_2 => cases hs
              rename_i ty hty
              split at hs
              case h_2 => cases hs
              rename_i zd hzd
              split at hs
              · cases hs
              rename_i hcond
              cases hs
              refine ⟨_, rfl, fun st2 h _ => ?_⟩
              have hl2 := ev_same h (x := l) (by simp [Op.operands])
              have hc2 := ev_same h (x := c) (by simp [Op.operands])
              simp only [opFrz, ht, hii, hl2, hl, hc2, hc, hty, hzd, if_neg hcond]
            case h_2 =>
              rename_i args argTypes
              split at hs
              case h_2 => cases hs
              rename_i x e hargs hty
              split at hs
              case h_2 => cases hs
              rename_i b hev
              split at hs
              case h_2 => cases hs
              rename_i s mv T' xs hk
              cases hs
              have hmem : x ∈ (Op.call { callee := .builtin .unsafeSliceData, args := args, argTypes := argTypes }).operands.toList := by simp only [Op.operands, Call.operands]; simp [hargs]
              refine ⟨_, rfl, fun st2 h hh => ?_⟩
              have he2 := ev_same h (x := x) hmem
              have hb := hh b (idsL_mem (List.mem_map.2 ⟨x, hmem, rfl⟩) (by rw [hev]; simp [SV.ids]))
              simp only [opFrz, hargs, hty, he2, hev, hb, hk]
            case h_3 =>
              rename_i args argTypes
              split at hs
              case h_2 => cases hs
              rename_i p n pt it hargs hats
              have hmp : p ∈ (Op.call { callee := .builtin .unsafeString, args := args, argTypes := argTypes }).operands.toList := by simp only [Op.operands, Call.operands]; simp [hargs]
              have hmn : n ∈ (Op.call { callee := .builtin .unsafeString, args := args, argTypes := argTypes }).operands.toList := by simp only [Op.operands, Call.operands]; simp [hargs]
              split at hs
              · rename_i e b m hpt hep hen
                split at hs
                · rename_i mv T' xs hk hsz
                  split at hs
                  · rename_i hc
                    cases hs
                    refine ⟨_, rfl, fun st2 h hh => ?_⟩
                    have hep2 := ev_same h (x := p) hmp
                    have hen2 := ev_same h (x := n) hmn
                    have hb := hh b (idsL_mem (List.mem_map.2 ⟨p, hmp, rfl⟩) (by rw [hep]; simp [SV.ids]))
                    simp only [opFrz, hargs, hats, hpt, hep2, hep, hen2, hen, hb, hk, hsz, if_pos hc]
                  · cases hs
                · cases hs
              · rename_i e m hpt hep hen
                split at hs
                · rename_i hm
                  cases hs
                  refine ⟨_, rfl, fun st2 h hh => ?_⟩
                  have hep2 := ev_same h (x := p) hmp
                  have hen2 := ev_same h (x := n) hmn
                  simp only [opFrz, hargs, hats, hpt, hep2, hep, hen2, hen, if_pos hm]
                · cases hs
              · cases hs
            rename_i t n parts
            split at hs
            case h_2 => cases hs
            rename_i e ht
            split at hs
            case h_2 => cases hs
            rename_i ii hii
            split at hs
            case h_2 =>
              rename_i hty
              split at hs
              · cases hs
              rename_i hcond
              split at hs
              case h_2 => cases hs
              rename_i els hfe
              cases hs
              refine ⟨_, rfl, fun st2 h _ => ?_⟩
              have hp : (parts.toList.map fun p => (p.1, ev st2 p.2)) = parts.toList.map fun p => (p.1, ev st p.2) := List.map_congr_left fun p hp => by
                rw [ev_same h (x := p.2) (by simp only [Op.operands]; simpa using ⟨p.1, by simpa using hp⟩)]
              simp only [opFrz, ht, hii, hty, if_neg hcond, hp, hfe]
            rename_i ty hty
            split at hs
            · cases hs
            rename_i hcond
            split at hs
            case h_2 => cases hs
            rename_i els hfe
            split at hs
            case h_2 => cases hs
            rename_i xs hdec
            cases hs
            refine ⟨_, rfl, fun st2 h _ => ?_⟩
            have hp : (parts.toList.map fun p => (p.1, ev st2 p.2)) = parts.toList.map fun p => (p.1, ev st p.2) := List.map_congr_left fun p hp => by
              rw [ev_same h (x := p.2) (by simp only [Op.operands]; simpa using ⟨p.1, by simpa using hp⟩)]
            simp only [opFrz, ht, hii, hty, if_neg hcond, hp, hfe, hdec]
          obtain ⟨v, rfl, hv⟩ := key
          refine ⟨⟨v, []⟩, by simp, put_app .., fun st2 h hh _ => ?_⟩
          rw [hw st2 h, hwant]
          simp only [if_pos hz]
          exact ⟨by rw [hv st2 h hh, put_app], by rw [idsOf_same h hh]⟩
      · rw [if_neg hz] at hs hf
        have hstep : ∀ st2, sameAt (o.looksAt ops) st st2 → (match wantS st2 ops o with
            | some true => if zs.contains i = true then (match o.dst with | some d => opFrz Y st2 d o.type o.op | none => none) else opStep Y T st2 o
            | some false => some (st2.put o.dst (.tup []))
            | none => none) = opStep Y T st2 o := fun st2 h => by rw [hw st2 h, hwant]; simp only [if_neg hz]
        split at hf
        · -- a value
          rename_i hk
          cases hf
          unfold opStep at hs
          rw [hk] at hs
          simp only at hs
          cases hv : opVal Y st o.op with
          | none => rw [hv] at hs; cases hs
          | some v =>
            rw [hv] at hs; cases hs
            refine ⟨⟨v, []⟩, by simp, put_app .., fun st2 h hh _ => ?_⟩
            have hops : ∀ x ∈ o.op.operands.toList, ev st2 x = ev st x := fun x hx => ev_same h hx
            have hids : idsOf st2 o.op = idsOf st o.op := by unfold idsOf; rw [evL_congr hops]
            have hval := opVal_congr (Y := Y) hops hh
            refine ⟨?_, ?_⟩
            · rw [hstep st2 h]; unfold opStep; rw [hk]; simp only; rw [hval, hv, ← put_app]; rfl
            · rw [hw st2 h, hwant]; simp only [if_neg hz, hk, hids]
        · -- a struct's value
          rename_i hk
          split at hf
          case h_4 => cases hf
          case h_3 =>
            rename_i t hint hop
            cases hd : o.dst with
            | none => rw [hd] at hf; cases hf
            | some d =>
              rw [hd] at hf
              cases hf
              unfold opStep at hs
              rw [hk] at hs
              simp only [hd, hop, opNew] at hs
              split at hs
              case isFalse => cases hs
              rename_i hh
              split at hs
              case h_2 => cases hs
              rename_i kt e ht
              split at hs
              case h_2 => cases hs
              rename_i ii hii
              split at hs
              case h_2 => cases hs
              rename_i T hT
              split at hs
              case isFalse => cases hs
              rename_i hsz
              cases hs
              have hno : newId d ∉ (BC.map T []).ids := by simp [BC.ids]
              refine ⟨⟨.clo 1000000009 [.ptr (newId d) 0 0], [(newId d, ⟨1, false, .map T []⟩)]⟩, by simp, newB_eff (hN d (by rw [hop]; rfl) hd) hno _, fun st2 h hh2 hN2 => ⟨?_, ?_⟩⟩
              · have := hstep st2 h
                rw [hd] at this
                rw [this]; unfold opStep; rw [hk]; simp only [hd, hop, opNew, if_pos hh, ht, hii, hT, if_pos hsz]
                rw [newB_eff (hN2 d (by rw [hop]; rfl) hd) hno]
              · rw [hw st2 h, hwant]; simp only [if_neg hz, hk, hop]
          case h_2 =>
            rename_i t hop
            cases hd : o.dst with
            | none => rw [hd] at hf; cases hf
            | some d =>
              rw [hd] at hf
              cases hf
              unfold opStep at hs
              rw [hk] at hs
              simp only [hd, hop, opNew] at hs
              split at hs
              case h_2 => cases hs
              rename_i ii hii
              split at hs
              · cases hs
              rename_i hsz
              cases hs
              refine ⟨⟨.ptr (newId d) 0 0, [(newId d, allocB ii t)]⟩, by simp, newB_eff (hN d (by rw [hop]; rfl) hd) allocB_ids _, fun st2 h hh hN2 => ⟨?_, ?_⟩⟩
              · have := hstep st2 h
                rw [hd] at this
                rw [this]; unfold opStep; rw [hk]; simp only [hd, hop, opNew, hii, if_neg hsz]
                rw [newB_eff (hN2 d (by rw [hop]; rfl) hd) allocB_ids]
              · rw [hw st2 h, hwant]; simp only [if_neg hz, hk, hop]
          rename_i t parts hop
          cases hf
          unfold opStep at hs
          rw [hk] at hs
          simp only at hs
          cases hd : o.dst with
          | none => rw [hd] at hs; cases hs
          | some d =>
            rw [hd] at hs
            simp only [hop, opNew] at hs
            cases hb : buildS Y st t parts.toList with
            | none => rw [hb] at hs; cases hs
            | some v =>
              rw [hb] at hs; cases hs
              refine ⟨⟨v, []⟩, by simp, put_app .., fun st2 h hh _ => ?_⟩
              have hbc : buildS Y st2 t parts.toList = some v := by
                rw [← hb]
                exact buildS_congr fun p hp => ev_same h (x := p.2) (by rw [hop]; simp only [Op.operands]; simpa using ⟨p.1, by simpa using hp⟩)
              refine ⟨?_, ?_⟩
              · have := hstep st2 h
                rw [hd] at this
                rw [this]; unfold opStep; rw [hk]; simp only [hd, hop, opNew, hbc, Option.map_some]
                rw [← put_app]
              · rw [hw st2 h, hwant]; simp only [if_neg hz, hk, hop]
        · -- a store
          rename_i hk
          split at hf
          case h_4 => cases hf
          case h_3 =>
            rename_i t m x v hop
            split at hf
            case h_2 => cases hf
            rename_i g b hev
            cases hf
            have hmm : m ∈ o.op.operands.toList := by rw [hop]; simp [Op.operands]
            have hmx : x ∈ o.op.operands.toList := by rw [hop]; simp [Op.operands]
            have hmv : v ∈ o.op.operands.toList := by rw [hop]; simp [Op.operands]
            have hbi : b ∈ idsOf st o.op := by
              have hq : quietOp o.op = false := by rw [hop]; rfl
              unfold idsOf
              rw [hq]
              exact idsL_mem (List.mem_map.2 ⟨m, hmm, rfl⟩) (by rw [hev]; simp [SV.ids, SV.idsL])
            unfold opStep at hs
            rw [hk] at hs
            simp only [hop, opPut, hev, Option.map_eq_some_iff] at hs
            obtain ⟨s1, hst, rfl⟩ := hs
            have key : ∃ k, s1 = { st with hp := hset st.hp b k } ∧ ∀ st2 : St, st2.hp b = st.hp b → updS Y st2 t (.clo g [.ptr b 0 0]) (ev st x) (ev st v) = some { st2 with hp := hset st2.hp b k } := by
              unfold updS at hst ⊢
              split at hst
              case h_2 => cases hst
              rename_i kt e g' b' s ht heq hxs
              cases heq
              split at hst
              case isFalse => cases hst
              rename_i hg
              split at hst
              case h_2 => cases hst
              rename_i n mv T es hkt hkb
              split at hst
              case isFalse => cases hst
              rename_i hT
              split at hst
              case h_2 => cases hst
              rename_i y hy
              cases hst
              refine ⟨_, rfl, fun st2 h2 => ?_⟩
              rw [if_pos hg, h2]
              simp only [hkt, hkb, if_pos hT, hy]
            obtain ⟨k, rfl, hk2⟩ := key
            refine ⟨⟨.undef, [(b, k)]⟩, by simp, ?_, fun st2 h hh _ => ?_⟩
            · unfold Eff.app; cases o.dst <;> rfl
            · have hm2 : ev st2 m = .clo g [.ptr b 0 0] := (ev_same h hmm).trans hev
              have hx2 := ev_same h hmx
              have hv2 := ev_same h hmv
              refine ⟨?_, ?_⟩
              · rw [hstep st2 h]
                unfold opStep
                rw [hk]
                simp only [hop, opPut, hm2, hx2, hv2, hk2 st2 (hh b hbi), Option.map_some]
                unfold Eff.app; cases o.dst <;> rfl
              · rw [hw st2 h, hwant]
                simp only [if_neg hz, hk]
                rw [idsOf_same h hh]
                simp only [hop, hm2]
          case h_2 =>
            rename_i t m x v hop
            split at hf
            case h_2 => cases hf
            rename_i g b hev
            cases hf
            have hmm : m ∈ o.op.operands.toList := by rw [hop]; simp [Op.operands]
            have hmx : x ∈ o.op.operands.toList := by rw [hop]; simp [Op.operands]
            have hmv : v ∈ o.op.operands.toList := by rw [hop]; simp [Op.operands]
            have hbi : b ∈ idsOf st o.op := by
              have hq : quietOp o.op = false := by rw [hop]; rfl
              unfold idsOf
              rw [hq]
              exact idsL_mem (List.mem_map.2 ⟨m, hmm, rfl⟩) (by rw [hev]; simp [SV.ids, SV.idsL])
            unfold opStep at hs
            rw [hk] at hs
            simp only [hop, opPut, hev, Option.map_eq_some_iff] at hs
            obtain ⟨s1, hst, rfl⟩ := hs
            have key : ∃ k, s1 = { st with hp := hset st.hp b k } ∧ ∀ st2 : St, st2.hp b = st.hp b → updS Y st2 t (.clo g [.ptr b 0 0]) (ev st x) (ev st v) = some { st2 with hp := hset st2.hp b k } := by
              unfold updS at hst ⊢
              split at hst
              case h_2 => cases hst
              rename_i kt e g' b' s ht heq hxs
              cases heq
              split at hst
              case isFalse => cases hst
              rename_i hg
              split at hst
              case h_2 => cases hst
              rename_i n mv T es hkt hkb
              split at hst
              case isFalse => cases hst
              rename_i hT
              split at hst
              case h_2 => cases hst
              rename_i y hy
              cases hst
              refine ⟨_, rfl, fun st2 h2 => ?_⟩
              rw [if_pos hg, h2]
              simp only [hkt, hkb, if_pos hT, hy]
            obtain ⟨k, rfl, hk2⟩ := key
            refine ⟨⟨.undef, [(b, k)]⟩, by simp, ?_, fun st2 h hh _ => ?_⟩
            · unfold Eff.app; cases o.dst <;> rfl
            · have hm2 : ev st2 m = .clo g [.ptr b 0 0] := (ev_same h hmm).trans hev
              have hx2 := ev_same h hmx
              have hv2 := ev_same h hmv
              refine ⟨?_, ?_⟩
              · rw [hstep st2 h]
                unfold opStep
                rw [hk]
                simp only [hop, opPut, hm2, hx2, hv2, hk2 st2 (hh b hbi), Option.map_some]
                unfold Eff.app; cases o.dst <;> rfl
              · rw [hw st2 h, hwant]
                simp only [if_neg hz, hk]
                rw [idsOf_same h hh]
                simp only [hop, hm2]
          rename_i t p v hop
          split at hf
          case h_2 => cases hf
          rename_i b e c hev
          cases hf
          have hmp : p ∈ o.op.operands.toList := by rw [hop]; simp [Op.operands]
          have hmv : v ∈ o.op.operands.toList := by rw [hop]; simp [Op.operands]
          have hbi : b ∈ idsOf st o.op := by
            have hq : quietOp o.op = false := by rw [hop]; rfl
            unfold idsOf
            rw [hq]
            exact idsL_mem (List.mem_map.2 ⟨p, hmp, rfl⟩) (by rw [hev]; simp [SV.ids])
          unfold opStep at hs
          rw [hk] at hs
          simp only [hop, opPut, hev, Option.map_eq_some_iff] at hs
          obtain ⟨s1, hst, rfl⟩ := hs
          have key : ∃ k, s1 = { st with hp := hset st.hp b k } ∧ ∀ st2 : St, st2.hp b = st.hp b → storeSt Y st2 t (.ptr b e c) (ev st v) = some { st2 with hp := hset st2.hp b k } := by
            unfold storeSt at hst ⊢
            split at hst
            case h_2 => cases hst
            rename_i n _ b' e' c' xs hsz heq hcl
            cases heq
            split at hst
            · cases hst
            rename_i hln
            split at hst
            case h_2 => cases hst
            rename_i k hkb
            split at hst
            case h_2 => cases hst
            rename_i cs hel
            split at hst
            case isFalse => cases hst
            rename_i hlc
            obtain ⟨bc, hbc, rfl⟩ := Option.map_eq_some_iff.1 hst
            refine ⟨_, rfl, fun st2 h2 => ?_⟩
            rw [if_neg hln, h2, hkb]
            simp only [hel, if_pos hlc, hbc, Option.map_some]
          obtain ⟨k, rfl, hk2⟩ := key
          refine ⟨⟨.undef, [(b, k)]⟩, by simp, ?_, fun st2 h hh _ => ?_⟩
          · unfold Eff.app; cases o.dst <;> rfl
          · have hp2 : ev st2 p = .ptr b e c := (ev_same h hmp).trans hev
            have hv2 := ev_same h hmv
            refine ⟨?_, ?_⟩
            · rw [hstep st2 h]
              unfold opStep
              rw [hk]
              simp only [hop, opPut, hp2, hv2, hk2 st2 (hh b hbi), Option.map_some]
              unfold Eff.app; cases o.dst <;> rfl
            · rw [hw st2 h, hwant]
              simp only [if_neg hz, hk]
              rw [idsOf_same h hh]
              simp only [hop, hp2]
        · -- a call
          rename_i hk0 hk1 hk2
          split at hf
          case h_2 => cases hf
          rename_i c hop
          split at hf
          case h_2 => cases hf
          rename_i fo hcal
          have hk : kindOf Y o.op = 3 := by rw [hop]; simp only [kindOf, hcal]
          unfold opStep at hs
          rw [hk] at hs
          simp only [hop, hcal] at hs
          unfold callFoot at hf
          unfold callS at hs
          split at hf
          case h_2 => cases hf
          rename_i g caps hev
          rw [hev] at hs
          simp only at hs
          split at hf
          case h_2 => cases hf
          rename_i F refs hT
          rw [hT] at hs
          simp only at hs
          split at hs
          case isFalse => cases hs
          rename_i hdst
          split at hf
          case h_2 => cases hf
          rename_i args1 V hprep
          split at hf
          case h_2 => cases hf
          rename_i ids hreach
          split at hf
          case h_2 => cases hf
          rename_i res hs' hF
          split at hf
          case isFalse => cases hf
          rename_i hcond
          cases hf
          unfold opCall at hs
          rw [hprep] at hs
          simp only [hreach] at hs
          split at hs
          · cases hs
          rename_i hV
          rw [hF] at hs
          simp only at hs
          have hnews : news (o.dst.getD 999999) (hs'.length - ids.length) = [] := by rw [hcond.1, Nat.sub_self]; rfl
          unfold land at hs
          simp only at hs
          split at hs
          case isFalse => cases hs
          rename_i hok
          rw [hnews, hcond.2, List.append_nil, List.append_nil] at hs
          simp only at hs
          cases hs
          by_cases hkp : (keptR refs && noMv st.hp ids) = true
          · rw [if_pos hkp]
            simp only [Bool.and_eq_true] at hkp
            have hself := hTK g _ F refs hT hkp.1 _ _ _ _ hF
            subst hself
            obtain ⟨hnd, _, _, hclosed⟩ := reach_spec st.hp 200 [] _ ids hreach List.nodup_nil (by simp)
            have hρ : ∀ b ∈ ids, (fun j => ids.getD j 0) (idx ids b) = b := fun b hb => by
              show ids.getD (idx ids b) 0 = b
              rw [List.getD_eq_getElem?_getD, (idx_lt hb).2]; rfl
            have hmv : ∀ b ∈ ids, ∃ k, st.hp b = some k ∧ k.mv = false ∧ ∀ x ∈ k.c.ids, x ∈ ids := fun b hb => by
              obtain ⟨k, q1, q2⟩ := hclosed b hb
              have := List.all_eq_true.1 hkp.2 b hb
              rw [q1] at this
              exact ⟨k, q1, by simpa using this, q2⟩
            have hsf := landB_self (ρ := fun j => ids.getD j 0) hρ ids 0 hmv
            rw [hsf]
            refine ⟨⟨retSV (SV.renL (fun j => ids.getD j 0) res), []⟩, by simp, ?_, fun st2 h hh _ => ?_⟩
            · unfold Eff.app; cases o.dst <;> rfl
            · have hfo : ev st2 fo = ev st fo := ev_same h (by rw [hop]; simp [Op.operands, Call.operands, hcal])
              have hargs : c.args.toList.map (ev st2) = c.args.toList.map (ev st) := evL_congr fun x hx => ev_same h (by rw [hop]; simp [Op.operands, Call.operands, hcal]; exact .inr (by simpa using hx))
              have hprep2 : prep st2.hp refs (c.args.toList.map (ev st) ++ caps) = some (args1, V) := by
                rw [← hprep]; exact prep_congr _ _ fun b hb => hh b (List.mem_append_left _ hb)
              have hids : ∀ b ∈ ids, st2.hp b = st.hp b := fun b hb => hh b (List.mem_append_right _ hb)
              have hreach2 := reach_congr (hp' := st2.hp) _ _ _ _ hreach hids
              have hblk : blocksOf st2.hp ids 0 ids = blocksOf st.hp ids 0 ids := blocksOf_congr _ _ _ hids
              have hsf2 := landB_self (hp := st2.hp) (ρ := fun j => ids.getD j 0) hρ ids 0 fun b hb => by
                obtain ⟨k, q1, q2, q3⟩ := hmv b hb
                exact ⟨k, (hids b hb).trans q1, q2, q3⟩
              rw [hblk] at hsf2
              have hmv2 : (keptR refs && noMv st2.hp ids) = true := by
                simp only [Bool.and_eq_true]
                refine ⟨hkp.1, List.all_eq_true.2 fun b hb => ?_⟩
                rw [hids b hb]
                exact List.all_eq_true.1 hkp.2 b hb
              refine ⟨?_, ?_⟩
              · rw [hstep st2 h]
                unfold opStep
                rw [hk]
                simp only [hop, hcal]
                unfold callS
                rw [hfo, hev]
                simp only [hargs, hT, if_pos hdst]
                unfold opCall
                rw [hprep2]
                simp only [hreach2, if_neg hV, hblk, hF]
                unfold land
                simp only [if_pos hok, hnews, hcond.2, List.append_nil, hsf2]
                unfold Eff.app
                cases o.dst <;> rfl
              · rw [hw st2 h, hwant]
                simp only [if_neg hz]
                unfold callFoot
                rw [hfo, hev]
                simp only [hargs, hT, hprep2, hreach2, hblk, hF, if_pos hcond, if_pos hmv2]
          rw [if_neg hkp]
          refine ⟨⟨retSV (SV.renL (fun j => ids.getD j 0) res), landB st.hp (fun j => ids.getD j 0) ids hs'⟩, fun p hp => landB_keys _ _ _ p hp, ?_, fun st2 h hh _ => ?_⟩
          · unfold Eff.app; cases o.dst <;> rfl
          · have hfo : ev st2 fo = ev st fo := ev_same h (by rw [hop]; simp [Op.operands, Call.operands, hcal])
            have hargs : c.args.toList.map (ev st2) = c.args.toList.map (ev st) := evL_congr fun x hx => ev_same h (by rw [hop]; simp [Op.operands, Call.operands, hcal]; exact .inr (by simpa using hx))
            have hprep2 : prep st2.hp refs (c.args.toList.map (ev st) ++ caps) = some (args1, V) := by
              rw [← hprep]; exact prep_congr _ _ fun b hb => hh b (List.mem_append_left _ hb)
            have hids : ∀ b ∈ ids, st2.hp b = st.hp b := fun b hb => hh b (List.mem_append_right _ hb)
            have hreach2 := reach_congr (hp' := st2.hp) _ _ _ _ hreach hids
            have hblk : blocksOf st2.hp ids 0 ids = blocksOf st.hp ids 0 ids := blocksOf_congr _ _ _ hids
            have hland : landB st2.hp (fun j => ids.getD j 0) ids hs' = landB st.hp (fun j => ids.getD j 0) ids hs' := landB_congr _ _ _ hids
            refine ⟨?_, ?_⟩
            · rw [hstep st2 h]
              unfold opStep
              rw [hk]
              simp only [hop, hcal]
              unfold callS
              rw [hfo, hev]
              simp only [hargs, hT, if_pos hdst]
              unfold opCall
              rw [hprep2]
              simp only [hreach2, if_neg hV, hblk, hF]
              unfold land
              simp only [if_pos hok, hnews, hcond.2, List.append_nil, hland]
              unfold Eff.app
              cases o.dst <;> rfl
            · rw [hw st2 h, hwant]
              simp only [if_neg hz]
              unfold callFoot
              rw [hfo, hev]
              have hmv2 : ¬ (keptR refs && noMv st2.hp ids) = true := by
                intro hc
                apply hkp
                simp only [Bool.and_eq_true] at hc ⊢
                refine ⟨hc.1, List.all_eq_true.2 fun b hb => ?_⟩
                rw [← hids b hb]
                exact List.all_eq_true.1 hc.2 b hb
              simp only [hargs, hT, hprep2, hreach2, hblk, hF, if_pos hcond, if_neg hmv2]
def disj (a b : List Nat) : Bool := a.all fun x => !b.contains x
theorem disj_spec {a b : List Nat} (h : disj a b = true) : ∀ x ∈ a, x ∉ b := fun x hx hb => by
  have := (List.all_eq_true.1 h) x hx
  simp at this
  exact this hb
def isApp (o : Oper) : Bool := match o.op with | .call { callee := .builtin .append, args := _, argTypes := _ } => true | _ => false
def isMv (o : Oper) : Bool := match o.op with | .move _ => true | _ => false
def isPt (o : Oper) : Bool := match o.op with | .move _ | .nilCheck _ | .fieldAddr _ _ _ => true | _ => false
def apartP (ops : Array Oper) (x y : Oper) : Bool :=
  x.apart ops y && (newsOf ops.toList).isEmpty && x.guard.isNone && y.guard.isNone && x.dst.isSome && y.dst.isSome && ((isApp x && isPt y) || (isMv x && isApp y))
def apartI (x y : Oper) : Bool :=
  match x.op, y.op with
  | .insert t (.tmp m) (.const (.string a)) _, .insert u (.tmp n) (.const (.string b)) _ => decide (t = u) && decide (m = n) && !decide (a = b) && x.dst.isNone && y.dst.isNone
  | _, _ => false
theorem apartI_spec {x y : Oper} (h : apartI x y = true) : ∃ t m a b v v', x.op = .insert t (.tmp m) (.const (.string a)) v ∧ y.op = .insert t (.tmp m) (.const (.string b)) v' ∧ a ≠ b ∧ x.dst = none ∧ y.dst = none := by
  unfold apartI at h
  split at h
  case h_2 => cases h
  rename_i t m a v u n b v' hx hy
  simp only [Bool.and_eq_true, decide_eq_true_eq, Bool.not_eq_true', decide_eq_false_iff_not, Option.isNone_iff_eq_none] at h
  obtain ⟨⟨⟨⟨rfl, rfl⟩, hab⟩, h1⟩, h2⟩ := h
  exact ⟨t, m, a, b, v, v', hx, hy, hab, h1, h2⟩
def apartA (ops : Array Oper) (x y : Oper) : Bool :=
  match isNewOp x.op, x.dst, y.dst with
  | true, some d, some q => !(aliasOf ops.toList d).contains q
  | _, _, _ => true
theorem apartA_spec {x y : Oper} {ops : Array Oper} (h : apartA ops x y = true) {d q : Nat} (h1 : isNewOp x.op = true) (h2 : x.dst = some d) (h3 : y.dst = some q) : q ∉ aliasOf ops.toList d := by
  unfold apartA at h
  rw [h1, h2, h3] at h
  simpa using h
def apartF (ops : Array Oper) (i j : Nat) (f g : Option (List Nat × List Nat)) : Bool :=
  match ops[i]?, ops[j]? with
  | some x, some y => (apartP ops x y || apartI x y) || (match f, g with
    | some f, some g => x.apart ops y && apartA ops x y && disj f.1 g.2 && disj g.1 f.2 && disj f.2 g.2
    | _, _ => false)
  | _, _ => false
theorem appendSt_any {d : Nat} {t u : TypeId} {a x : SV} {st st' : St} (h : appendSt Y st d t u a x = some st') :
    ∃ B k v, st' = (st.newB B k).put (some d) v ∧ ∀ st2 : St, st2.hp = st.hp → appendSt Y st2 d t u a x = some ((st2.newB B k).put (some d) v) := by
  unfold appendSt at h
  split at h
  case h_2 => cases h
  rename_i e h1
  split at h
  case h_2 => cases h
  rename_i i h2
  split at h
  case h_2 => cases h
  rename_i t0 h3
  split at h
  · cases h
  rename_i h4
  split at h
  case h_2 => cases h
  rename_i news h5
  have red : ∀ st2 : St, st2.hp = st.hp → appTy st2.hp i.ty a = some t0 ∧ srcEls Y st2.hp t0 u x = some news := fun st2 e => by rw [e]; exact ⟨h3, h5⟩
  split at h
  · split at h
    · rename_i hc; cases h
      refine ⟨_, _, _, rfl, fun st2 e => ?_⟩
      obtain ⟨r1, r2⟩ := red st2 e
      unfold appendSt; simp only [h1, h2, r1, if_neg h4, r2, if_pos hc]
    · cases h
  · split at h
    · rename_i hc; cases h
      refine ⟨_, _, _, rfl, fun st2 e => ?_⟩
      obtain ⟨r1, r2⟩ := red st2 e
      unfold appendSt; simp only [h1, h2, r1, if_neg h4, r2, if_pos hc]
    · cases h
  · split at h
    case h_2 => cases h
    rename_i hb
    split at h
    case isFalse => cases h
    rename_i ht
    split at h
    case isFalse => cases h
    rename_i hc
    cases h
    refine ⟨_, _, _, rfl, fun st2 e => ?_⟩
    obtain ⟨r1, r2⟩ := red st2 e
    have hb2 := hb; rw [← e] at hb2
    unfold appendSt; simp only [h1, h2, r1, if_neg h4, r2, hb2, dif_pos ht, if_pos hc]
  · split at h
    case h_2 => cases h
    rename_i hb
    split at h
    case isFalse => cases h
    rename_i ht
    split at h
    case isFalse => cases h
    rename_i hc
    cases h
    refine ⟨_, _, _, rfl, fun st2 e => ?_⟩
    obtain ⟨r1, r2⟩ := red st2 e
    have hb2 := hb; rw [← e] at hb2
    unfold appendSt; simp only [h1, h2, r1, if_neg h4, r2, hb2, dif_pos ht, if_pos hc]
  · split at h
    case h_2 => cases h
    rename_i hb
    split at h
    case isFalse => cases h
    rename_i ht
    split at h
    case isFalse => cases h
    rename_i hc
    cases h
    refine ⟨_, _, _, rfl, fun st2 e => ?_⟩
    obtain ⟨r1, r2⟩ := red st2 e
    have hb2 := hb; rw [← e] at hb2
    unfold appendSt; simp only [h1, h2, r1, if_neg h4, r2, hb2, dif_pos ht, if_pos hc]
  · cases h
theorem ev_newB {st : St} {B : Nat} {k : Blk} (x : Operand) : ev (st.newB B k) x = (ev st x).kill B := by
  cases x with
  | tmp t =>
    show (st.fr.map (SV.kill B)).getD t .undef = (st.fr.getD t .undef).kill B
    rw [List.getD_eq_getElem?_getD, List.getD_eq_getElem?_getD, List.getElem?_map]
    cases st.fr[t]? <;> rfl
  | const v => simp only [ev]; split <;> rfl
  | func f => simp only [ev]; split <;> rfl
  | global g => rfl
theorem ev_put {st : St} {d : Nat} {v : SV} {x : Operand} (h : x ≠ .tmp d) : ev (st.put (some d) v) x = ev st x := by
  cases x with
  | tmp t =>
    have hne : d ≠ t := fun e => h (e ▸ rfl)
    simp only [ev, St.put, List.getD_eq_getElem?_getD, List.getElem?_set_ne hne]
  | _ => rfl
theorem newB_put {st : St} {B d : Nat} {k : Blk} {v : SV} : (st.put (some d) v).newB B k = (st.newB B k).put (some d) (v.kill B) := by
  unfold St.newB St.put St.kill
  simp only [List.map_set]
theorem put_put {st : St} {d d' : Nat} {v v' : SV} (h : d ≠ d') : (st.put (some d) v).put (some d') v' = (st.put (some d') v').put (some d) v := by
  unfold St.put; simp only; rw [List.set_comm _ _ h]
theorem kill_ptr {B b e c : Nat} {v : SV} (h : v.kill B = .ptr b e c) : v = .ptr b e c ∧ b ≠ B := by
  cases v <;> simp only [SV.kill] at h
  all_goals first
    | (split at h <;> first | (cases h; exact ⟨rfl, by assumption⟩) | cases h)
    | cases h
theorem kill_rptr {B : Nat} {cs : List D} {v : SV} (h : v.kill B = .rptr cs) : v = .rptr cs := by
  cases v <;> simp only [SV.kill] at h
  all_goals first
    | (split at h <;> cases h)
    | (cases h; rfl)
    | cases h
theorem fieldAddr_at {t : TypeId} {x v : SV} {f : Nat} (h : fieldAddrS Y t x f = some v) : (∃ b e c c', x = .ptr b e c ∧ v = .ptr b e c') ∨ ∃ cs cs', x = .rptr cs ∧ v = .rptr cs' := by
  unfold fieldAddrS at h
  split at h
  case h_2 => cases h
  split at h
  case h_2 => cases h
  split at h
  · cases h
  split at h
  · cases h; exact .inl ⟨_, _, _, _, rfl, rfl⟩
  · cases h; exact .inr ⟨_, _, rfl, rfl⟩
  · cases h
theorem pt_kill {o : Op} (ho : (match o with | .move _ | .nilCheck _ | .fieldAddr _ _ _ => true | _ => false) = true) {st st2 : St} {B : Nat} (he : ∀ x ∈ o.operands.toList, ev st2 x = (ev st x).kill B) {v : SV} (h : opVal Y st2 o = some v) :
    ∃ v0, opVal Y st o = some v0 ∧ v0.kill B = v := by
  cases o <;> try cases ho
  · rename_i x
    have := he x (by simp [Op.operands])
    simp only [opVal] at h ⊢
    cases h
    exact ⟨_, rfl, this.symm⟩
  · rename_i x
    have := he x (by simp [Op.operands])
    simp only [opVal, this] at h ⊢
    split at h
    · rename_i b e c hk
      obtain ⟨h1, h2⟩ := kill_ptr hk
      cases h
      rw [h1]
      exact ⟨_, rfl, by simp only [SV.kill, if_neg h2]⟩
    · rename_i cs hk
      have h1 := kill_rptr hk
      cases h
      rw [h1]
      exact ⟨_, rfl, rfl⟩
    · cases h
  · rename_i t x f
    have := he x (by simp [Op.operands])
    have h' : fieldAddrS Y t (ev st2 x) f = some v := h
    show ∃ v0, fieldAddrS Y t (ev st x) f = some v0 ∧ v0.kill B = v
    rcases fieldAddr_at h' with ⟨b, e, c, c', e1, e2⟩ | ⟨cs, cs', e1, e2⟩
    · obtain ⟨h3, h4⟩ := kill_ptr (this.symm.trans e1)
      rw [h3, ← e1]
      exact ⟨_, h', by rw [e2]; simp only [SV.kill, if_neg h4]⟩
    · have h3 := kill_rptr (this.symm.trans e1)
      rw [h3, ← e1]
      exact ⟨_, h', by rw [e2]; rfl⟩
theorem mem_looks {o : Oper} {t : Nat} (h : .tmp t ∈ o.op.operands.toList) : t ∈ o.looksAt ops := by
  simp only [Oper.looksAt, List.mem_append, List.mem_filterMap]; exact .inl ⟨.tmp t, h, rfl⟩
theorem app_step {i : Nat} {x : Oper} (hi : ops[i]? = some x) (ha : isApp x = true) (hg : x.guard = none) {st st' : St} (h : stepF Y T ops zs i st = some st') {d : Nat} (hd : x.dst = some d) :
    ∃ B k v, st' = (st.newB B k).put (some d) v ∧ ∀ st2 : St, st2.hp = st.hp → (∀ a ∈ x.op.operands.toList, ev st2 a = ev st a) → stepF Y T ops zs i st2 = some ((st2.newB B k).put (some d) v) := by
  obtain ⟨dst, op, type, pos, after, guard⟩ := x
  simp only at hg hd
  subst hg hd
  unfold isApp at ha
  split at ha
  case h_2 => cases ha
  rename_i args argTypes hop
  simp only at hop
  subst hop
  unfold stepF at h ⊢
  simp only [hi, wantS] at h ⊢
  by_cases hz : zs.contains i = true
  · rw [if_pos hz] at h
    unfold opFrz at h
    cases h
  · rw [if_neg hz] at h
    simp only [if_neg hz]
    have hk : kindOf Y (.call { callee := .builtin .append, args := args, argTypes := argTypes }) = 2 := rfl
    unfold opStep at h ⊢
    simp only [hk] at h ⊢
    unfold opPut at h ⊢
    simp only at h ⊢
    split at h
    case h_2 => cases h
    rename_i a b t u d' h1 h2 h3
    cases h3
    obtain ⟨B, k, v, e, hh⟩ := appendSt_any h
    refine ⟨B, k, v, e, fun st2 hp hev => ?_⟩
    have ea := hev a (by simp [Op.operands, Call.operands, h1])
    have eb := hev b (by simp [Op.operands, Call.operands, h1])
    simp only [h1, h2, ea, eb]
    exact hh st2 hp
theorem pt_step {j : Nat} {y : Oper} (hj : ops[j]? = some y) (hp : isPt y = true) (hg : y.guard = none) {d : Nat} (hd : y.dst = some d) {st st' : St} (h : stepF Y T ops zs j st = some st') :
    zs.contains j = false ∧ ∃ v, opVal Y st y.op = some v ∧ st' = st.put (some d) v := by
  obtain ⟨dst, op, type, pos, after, guard⟩ := y
  simp only at hg hd
  subst hg hd
  unfold stepF at h
  simp only [hj, wantS] at h
  have hk : kindOf Y op = 0 := by unfold isPt at hp; cases op <;> first | rfl | cases hp
  by_cases hz : zs.contains j = true
  · rw [if_pos hz] at h
    unfold isPt at hp
    cases op <;> first | cases h | cases hp
  · rw [if_neg hz] at h
    unfold opStep at h
    simp only [hk] at h
    refine ⟨by simpa using hz, ?_⟩
    cases ho : opVal Y st op with
    | none => rw [ho] at h; cases h
    | some v => rw [ho] at h; exact ⟨v, rfl, (Option.some.inj h).symm⟩
theorem pt_go {j : Nat} {y : Oper} (hj : ops[j]? = some y) (hp : isPt y = true) (hg : y.guard = none) (hz : zs.contains j = false) {d : Nat} (hd : y.dst = some d) {st : St} {v : SV} (h : opVal Y st y.op = some v) : stepF Y T ops zs j st = some (st.put (some d) v) := by
  obtain ⟨dst, op, type, pos, after, guard⟩ := y
  simp only at hg hd h
  subst hg hd
  have hk : kindOf Y op = 0 := by unfold isPt at hp; cases op <;> first | rfl | cases hp
  unfold stepF
  simp only [hj, wantS, hz, Bool.false_eq_true, if_false]
  unfold opStep
  simp only [hk, h]
  rfl
theorem pt_foot {j : Nat} {y : Oper} (hj : ops[j]? = some y) (hp : isPt y = true) (hg : y.guard = none) (hz : zs.contains j = false) (st : St) : footF Y T ops zs j st = some ([], []) := by
  obtain ⟨dst, op, type, pos, after, guard⟩ := y
  simp only at hg
  subst hg
  have hk : kindOf Y op = 0 := by unfold isPt at hp; cases op <;> first | rfl | cases hp
  have hq : quietOp op = true := by unfold isPt at hp; cases op <;> first | rfl | cases hp
  unfold footF
  simp only [hj, wantS, hz, Bool.false_eq_true, if_false, hk, idsOf, hq]
theorem app_foot {i : Nat} {x : Oper} (hi : ops[i]? = some x) (ha : isApp x = true) (hg : x.guard = none) (st st2 : St) : footF Y T ops zs i st = footF Y T ops zs i st2 ∨ zs.contains i = true := by
  obtain ⟨dst, op, type, pos, after, guard⟩ := x
  simp only at hg
  subst hg
  unfold isApp at ha
  split at ha
  case h_2 => cases ha
  rename_i args argTypes hop
  simp only at hop
  subst hop
  by_cases hz : zs.contains i = true
  · exact .inr hz
  · refine .inl ?_
    unfold footF
    have hk : kindOf Y (.call { callee := .builtin .append, args := args, argTypes := argTypes }) = 2 := rfl
    simp only [hi, wantS, if_neg hz, hk]
theorem app_nz {i : Nat} {x : Oper} (hi : ops[i]? = some x) (ha : isApp x = true) (hg : x.guard = none) {st st' : St} (h : stepF Y T ops zs i st = some st') : ¬ zs.contains i = true := by
  obtain ⟨dst, op, type, pos, after, guard⟩ := x
  simp only at hg
  subst hg
  unfold isApp at ha
  split at ha
  case h_2 => cases ha
  rename_i args argTypes hop
  simp only at hop
  subst hop
  intro hz
  unfold stepF at h
  simp only [hi, wantS, if_pos hz] at h
  split at h
  · unfold opFrz at h; cases h
  · cases h
theorem app_fr {e : Eff} {dst : Option Nat} {st : St} {l : List Nat} (h : ∀ d, dst = some d → d ∉ l) : sameAt l st (e.app dst st) := by
  intro t ht
  cases dst with
  | none => rfl
  | some d =>
    have hne : d ≠ t := fun e => h d rfl (e ▸ ht)
    simp only [Eff.app, St.put, List.getD_eq_getElem?_getD, List.getElem?_set_ne hne]
theorem sameAt.symm {l : List Nat} {st st2 : St} (h : sameAt l st st2) : sameAt l st2 st := fun t ht => (h t ht).symm
theorem updS_inv {st s1 : St} {t : TypeId} {x key v : SV} (h : updS Y st t x key v = some s1) : ∃ (kt e : TypeId) (b : Nat) (s : List UInt8) (n : Nat) (mv : Bool) (T : Ty) (es : List (List UInt8 × T.den)) (z : T.den),
    tdAt Y t = some (.map kt e) ∧ x = .clo 1000000009 [.ptr b 0 0] ∧ key = .d (.str s) ∧ tdAt Y kt = some .str ∧ st.hp b = some ⟨n, mv, .map T es⟩ ∧ T.size = 1 ∧ dec T [v] = some (z, []) ∧ s1 = { st with hp := hset st.hp b ⟨n, mv, .map T (upM es s z)⟩ } := by
  unfold updS at h
  split at h
  case h_2 => cases h
  rename_i kt e g b s ht
  split at h
  case isFalse => cases h
  rename_i hg
  split at h
  case h_2 => cases h
  rename_i n mv T es hkt hkb
  split at h
  case isFalse => cases h
  rename_i hT
  split at h
  case h_2 => cases h
  rename_i y hy
  cases h
  exact ⟨kt, e, b, s, n, mv, T, es, y, ht, by rw [hg], rfl, hkt, hkb, hT, hy, rfl⟩
theorem updS_go {st : St} {t kt e : TypeId} {b n : Nat} {s : List UInt8} {mv : Bool} {T : Ty} {es : List (List UInt8 × T.den)} {z : T.den} {v : SV}
    (h1 : tdAt Y t = some (.map kt e)) (h2 : tdAt Y kt = some .str) (h3 : st.hp b = some ⟨n, mv, .map T es⟩) (h4 : T.size = 1) (h5 : dec T [v] = some (z, [])) :
    updS Y st t (.clo 1000000009 [.ptr b 0 0]) (.d (.str s)) v = some { st with hp := hset st.hp b ⟨n, mv, .map T (upM es s z)⟩ } := by
  unfold updS
  simp only [h1, if_true, h2, h3, if_pos h4, h5]
theorem ev_fr {st st2 : St} (h : st2.fr = st.fr) (x : Operand) : ev st2 x = ev st x := by
  cases x with
  | tmp t => show st2.fr.getD t .undef = st.fr.getD t .undef; rw [h]
  | _ => rfl
theorem ins_kind {t : TypeId} {m k v : Operand} : kindOf Y (.insert t m k v) = 2 := rfl
theorem ins_step {i : Nat} {o : Oper} (hi : ops[i]? = some o) {t : TypeId} {m k v : Operand} (hop : o.op = .insert t m k v) (hd : o.dst = none) {st s1 : St} (h : stepF Y T ops zs i st = some s1) :
    (wantS st ops o = some false ∧ s1 = st) ∨ (wantS st ops o = some true ∧ zs.contains i = false ∧ updS Y st t (ev st m) (ev st k) (ev st v) = some s1) := by
  unfold stepF at h
  simp only [hi] at h
  cases hw : wantS st ops o with
  | none => rw [hw] at h; cases h
  | some wb =>
    rw [hw] at h
    cases wb with
    | false =>
      simp only [hd] at h
      cases h
      exact .inl ⟨rfl, rfl⟩
    | true =>
      simp only [hd] at h
      split at h
      · cases h
      · rename_i hz
        unfold opStep at h
        rw [hop, ins_kind] at h
        simp only [opPut, hd, Option.map_eq_some_iff] at h
        obtain ⟨s2, h2, rfl⟩ := h
        exact .inr ⟨rfl, by simpa using hz, h2⟩
theorem ins_off {i : Nat} {o : Oper} (hi : ops[i]? = some o) (hd : o.dst = none) {st : St} (hw : wantS st ops o = some false) : stepF Y T ops zs i st = some st := by
  unfold stepF
  simp only [hi, hw, hd]
  rfl
theorem ins_on {i : Nat} {o : Oper} (hi : ops[i]? = some o) {t : TypeId} {m k v : Operand} (hop : o.op = .insert t m k v) (hd : o.dst = none) {st s1 : St} (hw : wantS st ops o = some true) (hz : zs.contains i = false)
    (h : updS Y st t (ev st m) (ev st k) (ev st v) = some s1) : stepF Y T ops zs i st = some s1 := by
  unfold stepF
  simp only [hi, hw, hz, Bool.false_eq_true, if_false]
  unfold opStep
  rw [hop, ins_kind]
  simp only [opPut, hd, h]
  rfl
theorem ins_foot {i : Nat} {o : Oper} (hi : ops[i]? = some o) {t : TypeId} {m k v : Operand} (hop : o.op = .insert t m k v) {st st2 : St} (h : st2.fr = st.fr) : footF Y T ops zs i st2 = footF Y T ops zs i st := by
  have hw : wantS st2 ops o = wantS st ops o := wantS_same fun t _ => by rw [h]
  have hids : idsOf st2 o.op = idsOf st o.op := by unfold idsOf; rw [evL_congr fun x _ => ev_fr h x]
  unfold footF
  simp only [hi, hw, hids]
  cases wantS st ops o with
  | none => rfl
  | some wb =>
    cases wb with
    | false => rfl
    | true =>
      simp only
      split
      · rfl
      · rw [hop, ins_kind]
        simp only [ev_fr h]
theorem QF_map {R R' : List Nat} {st : St} {b n : Nat} {mv : Bool} {T' : Ty} {es : List (List UInt8 × T'.den)} (h : QF ops R st) (hs : ∀ i ∈ R', i ∈ R) : QF ops R' { st with hp := hset st.hp b ⟨n, mv, .map T' es⟩ } := by
  have key : ∀ x' k, hset st.hp b ⟨n, mv, .map T' es⟩ x' = some k → (∀ x k, st.hp x = some k → ∀ d, newId d ∉ k.c.ids → True) → ∀ d, (∀ x k, st.hp x = some k → newId d ∉ k.c.ids) → newId d ∉ k.c.ids := fun x' k hk _ d hd => by
    by_cases hxb : x' = b
    · subst hxb; rw [hset_same] at hk; cases hk; simp [BC.ids]
    · exact hd x' k ((hset_ne hxb).symm.trans hk)
  exact ⟨fun d hd => ⟨(h.1 d hd).1, fun x' k hk => key x' k hk (fun _ _ _ _ _ => trivial) d (h.1 d hd).2⟩,
    fun i hi o ho d h1 h2 => ⟨(h.2 i (hs i hi) o ho d h1 h2).1, fun x' k hk => key x' k hk (fun _ _ _ _ _ => trivial) d (h.2 i (hs i hi) o ho d h1 h2).2⟩⟩
theorem swapI {i j : Nat} {st s1 s2 : St} {x y : Oper} (hi : ops[i]? = some x) (hj : ops[j]? = some y) (ha : apartI x y = true) (h1 : stepF Y T ops zs i st = some s1) (h2 : stepF Y T ops zs j s1 = some s2) {L : List Nat} (n0 : QF ops (i :: j :: L) st) :
    ∃ t1, stepF Y T ops zs j st = some t1 ∧ stepF Y T ops zs i t1 = some s2 ∧ t1.fr = st.fr ∧ s1.fr = st.fr ∧ QF ops (i :: L) t1 := by
  obtain ⟨t, m, a, b, v, v', hx, hy, hab, hdx, hdy⟩ := apartI_spec ha
  have wsame : ∀ {o : Oper} {p q : St}, q.fr = p.fr → wantS q ops o = wantS p ops o := fun h => wantS_same fun t _ => by rw [h]
  rcases ins_step hi hx hdx h1 with ⟨w1, rfl⟩ | ⟨w1, z1, u1⟩
  · rcases ins_step hj hy hdy h2 with ⟨w2, rfl⟩ | ⟨w2, z2, u2⟩
    · exact ⟨_, h2, h1, rfl, rfl, n0.mono fun q hq => by rcases List.mem_cons.1 hq with rfl | hq; (· exact List.mem_cons_self ..); exact List.mem_cons_of_mem _ (List.mem_cons_of_mem _ hq)⟩
    · obtain ⟨kt, e, bb, s, n, mv, T', es, z, q1, q2, q3, q4, q5, q6, q7, rfl⟩ := updS_inv u2
      refine ⟨_, h2, ins_off hi hdx ((wsame rfl).trans w1), rfl, rfl, QF_map n0 fun q hq => by rcases List.mem_cons.1 hq with rfl | hq; (· exact List.mem_cons_self ..); exact List.mem_cons_of_mem _ (List.mem_cons_of_mem _ hq)⟩
  · obtain ⟨kt, e, bb, s, n, mv, T', es, z, q1, q2, q3, q4, q5, q6, q7, rfl⟩ := updS_inv u1
    rcases ins_step hj hy hdy h2 with ⟨w2, rfl⟩ | ⟨w2, z2, u2⟩
    · exact ⟨st, ins_off hj hdy ((wsame rfl).symm.trans w2), h1, rfl, rfl, n0.mono fun q hq => by rcases List.mem_cons.1 hq with rfl | hq; (· exact List.mem_cons_self ..); exact List.mem_cons_of_mem _ (List.mem_cons_of_mem _ hq)⟩
    · obtain ⟨kt2, e2, bb2, s', n2, mv2, T2, es2, z', r1, r2, r3, r4, r5, r6, r7, rfl⟩ := updS_inv u2
      rw [q1] at r1; cases r1
      have hm : ev { st with hp := hset st.hp bb ⟨n, mv, .map T' (upM es s z)⟩ } (.tmp m) = ev st (.tmp m) := ev_fr rfl _
      rw [hm, q2] at r2
      cases r2
      rw [show ({ st with hp := hset st.hp bb ⟨n, mv, .map T' (upM es s z)⟩ } : St).hp bb = _ from hset_same _ _ _] at r5
      cases r5
      rw [show ev { st with hp := hset st.hp bb ⟨n, mv, .map T' (upM es s z)⟩ } v' = ev st v' from ev_fr rfl _] at r7
      have hs : s ≠ s' := by
        intro e
        subst e
        have e1 : ev st (.const (.string a)) = .d (.str a.data.toList) := rfl
        have e2 : ev { st with hp := hset st.hp bb ⟨n, mv, .map T' (upM es s z)⟩ } (.const (.string b)) = .d (.str b.data.toList) := rfl
        rw [e1] at q3; rw [e2] at r3
        simp only [SV.d.injEq, D.str.injEq] at q3 r3
        exact hab (ByteArray.ext (Array.toList_inj.1 (q3.trans r3.symm)))
      have k1 : updS Y st t (ev st (.tmp m)) (ev st (.const (.string b))) (ev st v') = some { st with hp := hset st.hp bb ⟨n, mv, .map T' (upM es s' z')⟩ } := by
        rw [q2, show ev st (.const (.string b)) = .d (.str s') from r3]
        exact updS_go q1 q4 q5 q6 r7
      refine ⟨_, ins_on hj hy hdy ((wsame rfl).symm.trans w2) z2 k1, ?_, rfl, rfl, QF_map n0 fun q hq => by rcases List.mem_cons.1 hq with rfl | hq; (· exact List.mem_cons_self ..); exact List.mem_cons_of_mem _ (List.mem_cons_of_mem _ hq)⟩
      · refine ins_on hi hx hdx ((wsame rfl).trans w1) z1 ?_
        rw [show ev { st with hp := hset st.hp bb ⟨n, mv, .map T' (upM es s' z')⟩ } (.tmp m) = ev st (.tmp m) from ev_fr rfl _, q2,
          show ev { st with hp := hset st.hp bb ⟨n, mv, .map T' (upM es s' z')⟩ } (.const (.string a)) = .d (.str s) from q3,
          show ev { st with hp := hset st.hp bb ⟨n, mv, .map T' (upM es s' z')⟩ } v = ev st v from ev_fr rfl _]
        rw [updS_go (st := { st with hp := hset st.hp bb ⟨n, mv, .map T' (upM es s' z')⟩ }) q1 q4 (hset_same _ _ _) q6 q7]
        congr 2
        funext x'
        by_cases hxb : x' = bb
        · subst hxb; simp only [hset_same]; rw [upM_comm es s s' z z' hs]
        · simp only [hset_ne hxb]
theorem swapF (hTK : TabKeep T) {i j : Nat} {st s1 s2 : St} {f g : Option (List Nat × List Nat)} (h1 : stepF Y T ops zs i st = some s1) (hf : footF Y T ops zs i st = f) (h2 : stepF Y T ops zs j s1 = some s2) (hg : footF Y T ops zs j s1 = g) (ha : apartF ops i j f g = true)
    {L : List Nat} (n0 : QF ops (i :: j :: L) st) (n1 : QF ops (j :: L) s1) (n2 : QF ops L s2) :
    ∃ t1, stepF Y T ops zs j st = some t1 ∧ footF Y T ops zs j st = g ∧ stepF Y T ops zs i t1 = some s2 ∧ footF Y T ops zs i t1 = f ∧ QF ops (i :: L) t1 := by
  unfold apartF at ha
  split at ha
  case h_2 => cases ha
  rename_i x y hi hj
  rw [Bool.or_eq_true, Bool.or_eq_true] at ha
  rcases ha with (ha | ha) | ha
  rotate_left
  · obtain ⟨t1, r1, r2, r3, r4, r5⟩ := swapI hi hj ha h1 h2 n0
    obtain ⟨t, m, a, b, v, v', hx, hy, _⟩ := apartI_spec ha
    exact ⟨t1, r1, (ins_foot hj hy r4).symm.trans hg, r2, (ins_foot hi hx r3).trans hf, r5⟩
  rotate_left
  · unfold apartP at ha
    simp only [Bool.and_eq_true, Bool.or_eq_true, Option.isNone_iff_eq_none, List.isEmpty_iff] at ha
    obtain ⟨⟨⟨⟨⟨⟨ha, hnw⟩, hgx⟩, hgy⟩, hdx⟩, hdy⟩, hor⟩ := ha
    obtain ⟨p1, p2, p3⟩ := Oper.apart_spec ha
    obtain ⟨dx, hdx⟩ := Option.isSome_iff_exists.1 hdx
    obtain ⟨dy, hdy⟩ := Option.isSome_iff_exists.1 hdy
    have hne : dx ≠ dy := fun e => p2 dx hdx (e ▸ hdy)
    have qt : ∀ (R : List Nat) (t : St), QF ops R t := fun R t => ⟨(fun d hd => by rw [hnw] at hd; cases hd), fun i' _ o' ho' d h1 h2 => by have := newsOf_mem ho' h1 h2; rw [hnw] at this; cases this⟩
    have look : ∀ {o : Oper} {d : Nat}, d ∉ o.looksAt ops → ∀ a ∈ o.op.operands.toList, a ≠ .tmp d := fun h a ha e => h (mem_looks (e ▸ ha))
    rcases hor with ⟨ax, py⟩ | ⟨mx, ay⟩
    · obtain ⟨B, k, v, rfl, happ⟩ := app_step hi ax hgx h1 hdx
      obtain ⟨hz, vy, hvy, rfl⟩ := pt_step hj py hgy hdy h2
      obtain ⟨v0, hv0, hk0⟩ := pt_kill (B := B) (o := y.op) (by unfold isPt at py; exact py) (st := st) (fun a ha => by
        rw [ev_put (look (p1 dx hdx) a ha), ev_newB]) hvy
      refine ⟨_, pt_go hj py hgy hz hdy hv0, ?_, ?_, ?_, qt _ _⟩
      · rw [pt_foot hj py hgy hz, ← hg, pt_foot hj py hgy hz]
      · rw [happ (st.put (some dy) v0) rfl fun a ha => ev_put (look (p3 dy hdy) a ha)]
        rw [newB_put, hk0, put_put hne]
      · rcases app_foot (Y := Y) (T := T) (zs := zs) hi ax hgx (st.put (some dy) v0) st with h | h
        · rw [h, hf]
        · exact absurd h (app_nz hi ax hgx h1)
    · have px : isPt x = true := by unfold isMv at mx; unfold isPt; cases hop : x.op <;> rw [hop] at mx <;> first | rfl | cases mx
      obtain ⟨hz, vx, hvx, rfl⟩ := pt_step hi px hgx hdx h1
      obtain ⟨B, k, v, rfl, happ⟩ := app_step hj ay hgy h2 hdy
      have e1 := happ st rfl fun a ha => (ev_put (look (p1 dx hdx) a ha)).symm
      have e2 : opVal Y ((st.newB B k).put (some dy) v) x.op = some (vx.kill B) := by
        unfold isMv at mx
        split at mx
        case h_2 => cases mx
        rename_i a hop
        rw [hop] at hvx ⊢
        simp only [opVal] at hvx ⊢
        cases hvx
        rw [ev_put (look (p3 dy hdy) a (by rw [hop]; simp [Op.operands])), ev_newB]
      refine ⟨_, e1, ?_, ?_, ?_, qt _ _⟩
      · rcases app_foot (Y := Y) (T := T) (zs := zs) hj ay hgy st (st.put (some dx) vx) with h | h
        · rw [h, hg]
        · exact absurd h (app_nz hj ay hgy h2)
      · rw [pt_go hi px hgx hz hdx e2, newB_put, put_put (fun e => hne e.symm)]
      · rw [pt_foot hi px hgx hz, ← hf, pt_foot hi px hgx hz]
  split at ha
  case h_2 => cases ha
  rename_i f g
  simp only [Bool.and_eq_true] at ha
  obtain ⟨⟨⟨⟨ha, haa⟩, hd1⟩, hd2⟩, hd3⟩ := ha
  obtain ⟨p1, p2, p3⟩ := Oper.apart_spec ha
  obtain ⟨e, e1, rfl, e3⟩ := loc hTK hi h1 hf (okN_of hi n0 (List.mem_cons_self ..))
  obtain ⟨k, k1, rfl, k3⟩ := loc hTK hj h2 hg (okN_of hj n1 (List.mem_cons_self ..))
  have ei : ∀ b ∈ g.1, st.hp b = (e.app x.dst st).hp b := fun b hb => by
    refine (hsets_off (h := st.hp) e.ups fun p hp hpb => ?_).symm
    exact disj_spec hd2 b hb (hpb ▸ e1 p hp)
  obtain ⟨q1, q2⟩ := k3 st (app_fr p1).symm ei (okN_of hj n0 (List.mem_cons_of_mem _ (List.mem_cons_self ..)))
  have nt : QF ops (i :: L) (k.app y.dst st) := by
    refine ⟨fun d hd => only_swap (n0.1 d hd) (n2.1 d hd) rfl fun _ _ h => h, fun i' hi' o' ho' d h1 h2 => ?_⟩
    rcases List.mem_cons.1 hi' with rfl | hi'
    · rw [hi] at ho'; cases ho'
      exact onlyW_D (only_swap (onlyD_W (n0.2 _ (List.mem_cons_self ..) _ hi d h1 h2) []) (n2.1 d (newsOf_mem hi h1 h2)) rfl fun q hq _ => apartA_spec haa h1 h2 hq)
    · exact onlyW_D (only_swap (onlyD_W (n0.2 i' (List.mem_cons_of_mem _ (List.mem_cons_of_mem _ hi')) o' ho' d h1 h2) []) (onlyD_W (n2.2 i' hi' o' ho' d h1 h2) []) rfl fun q _ h => h)
  have ej : ∀ b ∈ f.1, (k.app y.dst st).hp b = st.hp b := fun b hb => by
    refine hsets_off (h := st.hp) k.ups fun p hp hpb => ?_
    exact disj_spec hd1 b hb (hpb ▸ k1 p hp)
  obtain ⟨r1, r2⟩ := e3 (k.app y.dst st) (app_fr p3) ej (okN_of hi nt (List.mem_cons_self ..))
  refine ⟨_, q1, q2, ?_, r2, nt⟩
  rw [r1]
  congr 1
  exact app_comm st p2 fun p hp q hq hpq => disj_spec hd3 p.1 (e1 p hp) (hpq ▸ k1 q hq)
abbrev Mark := Nat × Option (List Nat × List Nat)
def Tr (Y : TT P) (T : Tab) (ops : Array Oper) (zs : List Nat) : St → List Mark → St → Prop
  | st, [], st' => st = st' ∧ QF ops [] st
  | st, (i, f) :: l, st' => QF ops (i :: l.map (·.1)) st ∧ ∃ s, stepF Y T ops zs i st = some s ∧ footF Y T ops zs i st = f ∧ Tr Y T ops zs s l st'
theorem Tr.q {st st' : St} : ∀ {l : List Mark}, Tr Y T ops zs st l st' → QF ops (l.map (·.1)) st
  | [], h => h.2
  | _ :: _, h => h.1
theorem Tr.front (hTK : TabKeep T) {i : Nat} {f : Option (List Nat × List Nat)} {L2 : List Mark} {st' : St} : ∀ (L1 : List Mark) (st : St), Tr Y T ops zs st (L1 ++ (i, f) :: L2) st' → (∀ m ∈ L1, apartF ops m.1 i m.2 f = true) →
    ∃ s, stepF Y T ops zs i st = some s ∧ footF Y T ops zs i st = f ∧ Tr Y T ops zs s (L1 ++ L2) st'
  | [], st, h, _ => h.2
  | (j, g) :: L1, st, h, ha => by
    obtain ⟨n0, s, h1, h2, h3⟩ := h
    obtain ⟨s', g1, g2, g3⟩ := Tr.front hTK L1 s h3 fun m hm => ha m (List.mem_cons_of_mem _ hm)
    obtain ⟨t1, q1, q2, q3, q4, q5⟩ := swapF hTK h1 h2 g1 g2 (ha (j, g) (List.mem_cons_self ..)) (L := (L1 ++ L2).map (·.1))
      (n0.mono fun q hq => by simp only [List.map_append, List.map_cons, List.mem_cons, List.mem_append] at hq ⊢; rcases hq with h | h | h | h <;> simp [h])
      (h3.q.mono fun q hq => by simp only [List.map_append, List.map_cons, List.mem_cons, List.mem_append] at hq ⊢; rcases hq with h | h | h <;> simp [h]) g3.q
    exact ⟨t1, q1, q2, q5, s', q3, q4, g3⟩
def maskOf (tab : List Nat) (o : Oper) : Nat := o.after.toList.foldl (fun m e => if Region.binds .any e then m ||| (1 <<< e.on) ||| tab.getD e.on 0 else m) 0
def masks : List Oper → List Nat → List Nat
  | [], tab => tab
  | o :: l, tab => masks l (tab ++ [maskOf tab o])
theorem maskOf_bit {tab : List Nat} {o : Oper} {j : Nat} (h : (maskOf tab o).testBit j = true) : ∃ e ∈ o.after.toList, Region.binds .any e = true ∧ (j = e.on ∨ (tab.getD e.on 0).testBit j = true) := by
  have key : ∀ (l : List Edge) (m : Nat), (l.foldl (fun m e => if Region.binds .any e then m ||| (1 <<< e.on) ||| tab.getD e.on 0 else m) m).testBit j = true →
      m.testBit j = true ∨ ∃ e ∈ l, Region.binds .any e = true ∧ (j = e.on ∨ (tab.getD e.on 0).testBit j = true) := by
    intro l
    induction l with
    | nil => intro m h; exact .inl h
    | cons e l ih =>
      intro m h
      rw [List.foldl_cons] at h
      rcases ih _ h with h1 | ⟨e', he, h1⟩
      · split at h1
        · rename_i hb
          rw [Nat.testBit_or, Nat.testBit_or, Bool.or_eq_true, Bool.or_eq_true] at h1
          rcases h1 with (h1 | h1) | h1
          · exact .inl h1
          · rw [Nat.one_shiftLeft, Nat.testBit_two_pow] at h1
            exact .inr ⟨e, List.mem_cons_self .., hb, .inl (of_decide_eq_true h1).symm⟩
          · exact .inr ⟨e, List.mem_cons_self .., hb, .inr h1⟩
        · exact .inl h1
      · exact .inr ⟨e', List.mem_cons_of_mem _ he, h1⟩
  rcases key _ _ h with h1 | h1
  · simp at h1
  · exact h1
theorem masks_spec : ∀ (l : List Oper) (tab : List Nat), (∀ i, i < tab.length → (masks l tab)[i]? = tab[i]?) ∧ ∀ i o, l[i]? = some o → ∃ tab', tab'.length = tab.length + i ∧ (masks l tab)[tab.length + i]? = some (maskOf tab' o) ∧ ∀ k, k < tab'.length → tab'[k]? = (masks l tab)[k]?
  | [], tab => ⟨fun _ _ => rfl, fun i o h => by simp at h⟩
  | o :: l, tab => by
    obtain ⟨h1, h2⟩ := masks_spec l (tab ++ [maskOf tab o])
    have h1' : ∀ i, i < tab.length → (masks l (tab ++ [maskOf tab o]))[i]? = tab[i]? := fun i hi => by
      rw [h1 i (by simp; omega), List.getElem?_append_left hi]
    refine ⟨h1', fun i o' hi => ?_⟩
    cases i with
    | zero =>
      simp at hi; subst hi
      refine ⟨tab, rfl, ?_, fun k hk => (h1' k hk).symm⟩
      show (masks l (tab ++ [maskOf tab o]))[tab.length]? = _
      rw [h1 tab.length (by simp), List.getElem?_append_right (Nat.le_refl _)]
      simp
    | succ i =>
      simp at hi
      obtain ⟨tab', q1, q2, q3⟩ := h2 i o' hi
      simp only [List.length_append, List.length_cons, List.length_nil] at q1 q2
      refine ⟨tab', by omega, ?_, q3⟩
      show (masks l (tab ++ [maskOf tab o]))[tab.length + (i + 1)]? = _
      rw [← q2]; congr 1; omega
def behind (M : List Nat) (i j : Nat) : Bool := (M.getD j 0).testBit i
def closed (ops : Array Oper) (listed : Array Bool) : Prop := ∀ (i : Nat) (o : Oper), ops[i]? = some o → listed.getD i false = true → ∀ e ∈ o.after.toList, Region.binds .any e = true → listed.getD e.on false = true
theorem behind_listed {listed : Array Bool} (hc : closed ops listed) : ∀ (n j : Nat) (o : Oper), j < n → ops[j]? = some o → (∀ e ∈ o.after.toList, Region.binds .any e = true → listed.getD e.on false = true ∧ e.on < j) →
    (∀ (i : Nat) (o : Oper), ops[i]? = some o → ∀ e ∈ o.after.toList, Region.binds .any e = true → e.on < i) → ∀ i, behind (masks ops.toList []) i j = true → listed.getD i false = true
  | 0, j, o, hn, _, _, _, i, _ => by omega
  | n + 1, j, o, hn, hj, he, hb, i, h => by
    obtain ⟨_, h2⟩ := masks_spec ops.toList []
    obtain ⟨tab', q1, q2, q3⟩ := h2 j o (by simpa using hj)
    simp only [List.length_nil, Nat.zero_add] at q1 q2
    unfold behind at h
    rw [List.getD_eq_getElem?_getD, q2] at h
    obtain ⟨e, e1, e2, e3⟩ := maskOf_bit (by simpa using h)
    obtain ⟨k1, k2⟩ := he e e1 e2
    rcases e3 with rfl | e3
    · exact k1
    · rw [List.getD_eq_getElem?_getD, q3 _ (by omega)] at e3
      have hsz : j < ops.size := (Array.getElem?_eq_some_iff.1 hj).1
      have hon : ops[e.on]? = some ops[e.on] := Array.getElem?_eq_getElem (by omega)
      exact behind_listed hc n e.on _ (by omega) hon (fun e' h1 h2 => ⟨hc _ _ hon k1 e' h1 h2, hb _ _ hon e' h1 h2⟩) hb i (by unfold behind; rw [List.getD_eq_getElem?_getD]; exact e3)
def backs : Nat → List Oper → Bool
  | _, [] => true
  | i, o :: l => o.after.toList.all (fun e => decide (e.on < i) || !Region.binds .any e) && backs (i + 1) l
theorem backs_spec : ∀ (l : List Oper) (n : Nat), backs n l = true → ∀ i o, l[i]? = some o → ∀ e ∈ o.after.toList, Region.binds .any e = true → e.on < n + i
  | [], _, _, i, o, h, _, _, _ => by simp at h
  | o :: l, n, hb, i, o', h, e, he, hbe => by
    simp only [backs, Bool.and_eq_true] at hb
    cases i with
    | zero =>
      simp at h; subst h
      have := List.all_eq_true.1 hb.1 e he
      rw [hbe] at this
      simpa using this
    | succ i =>
      simp at h
      have := backs_spec l (n + 1) hb.2 i o' h e he hbe
      omega
def okPair (ops : Array Oper) (M : List Nat) (x y : Mark) : Prop := behind M x.1 y.1 = true ∨ apartF ops x.1 y.1 x.2 y.2 = true
variable {X : Ctx P}
theorem stepF_sound {i : Nat} {st st' : St} {a : Act} {w : World} {K : Act → World → Prop} {Q : Exit → Act → World → Prop} (hT : TabOk P T) (hn : X.n0 ≤ 1000) (hg : Good X st a w) (h : stepF Y T ops zs i st = some st')
    (hK : ∀ a' w', Good X st' a' w' → K a' w') : wpOp P ops Q i K a w := by
  unfold stepF at h
  unfold wpOp
  cases hi : ops[i]? with
  | none => rw [hi] at h; cases h; exact hK _ _ hg
  | some o =>
    rw [hi] at h
    simp only at h ⊢
    cases hw : wantS st ops o with
    | none => rw [hw] at h; cases h
    | some b =>
      rw [hw] at h
      rw [wantS_sound hg hw]
      cases b with
      | false => simp only at h ⊢; cases h; exact hK _ _ (hg.skipped o.dst)
      | true =>
        simp only at h ⊢
        rw [if_pos trivial]
        refine .inl ?_
        split at h
        · split at h
          · rename_i d hd
            obtain ⟨nx, w', h1, h2⟩ := opFrz_sound (P := P) hd hg h
            unfold Oper.wp
            rw [h1]
            rcases h2 with ⟨v, rfl, h2⟩ | ⟨rfl, h2⟩
            · exact hK _ _ h2
            · exact hK _ _ h2
          · cases h
        · exact opStep_sound hT hn hg h hK
theorem mem_ready {listed : Array Bool} {i : Nat} (h : i ∈ Region.ready .any ops listed) : i < ops.size ∧ listed.getD i true = false ∧ ∀ o, ops[i]? = some o → ∀ e ∈ o.after.toList, Region.binds .any e = true → listed.getD e.on false = true := by
  unfold Region.ready at h
  rw [List.mem_filter, List.mem_range] at h
  obtain ⟨h1, h2⟩ := h
  rw [Bool.and_eq_true] at h2
  refine ⟨h1, by simpa using h2.1, fun o ho e he hb => ?_⟩
  have h3 := h2.2
  rw [ho] at h3
  simp only [Option.map_some, Option.getD_some] at h3
  rw [← Array.all_toList, List.all_eq_true] at h3
  have := h3 e he
  rw [hb] at this
  simpa using this
theorem ready_of {listed : Array Bool} {i : Nat} {o : Oper} (hi : ops[i]? = some o) (h1 : listed.getD i true = false) (h2 : ∀ e ∈ o.after.toList, Region.binds .any e = true → listed.getD e.on false = true) : i ∈ Region.ready .any ops listed := by
  unfold Region.ready
  rw [List.mem_filter, List.mem_range]
  refine ⟨(Array.getElem?_eq_some_iff.1 hi).1, ?_⟩
  rw [Bool.and_eq_true]
  refine ⟨by rw [h1]; rfl, ?_⟩
  rw [hi]
  simp only [Option.map_some, Option.getD_some]
  rw [← Array.all_toList, List.all_eq_true]
  intro e he
  cases hb : Region.binds .any e with
  | false => rfl
  | true => simpa using h2 e he hb
theorem any_sound {k : St → Prop} {Q : Exit → Act → World → Prop} (hT : TabOk P T) (hn : X.n0 ≤ 1000) (hb : backs 0 ops.toList = true) (hQ : ∀ st a w, k st → Good X st a w → Q .normal a w) {st' : St} (hk : k st') :
    ∀ (n : Nat) (L : List Mark) (listed : Array Bool) (st : St) (a : Act) (w : World), L.length = n → listed.size = ops.size → (∀ i, i < ops.size → (listed.getD i false = false ↔ i ∈ L.map (·.1))) → (∀ m ∈ L, m.1 < ops.size) → (L.map (·.1)).Nodup →
      L.Pairwise (okPair ops (masks ops.toList [])) → closed ops listed → Tr Y T ops zs st L st' → Good X st a w → wpAny P .any ops Q n listed a w := by
  have hback : ∀ (i : Nat) (o : Oper), ops[i]? = some o → ∀ e ∈ o.after.toList, Region.binds .any e = true → e.on < i := fun i o hi e he hbe => by
    have := backs_spec _ _ hb i o (by simpa using hi) e he hbe
    omega
  have hgd : ∀ (listed : Array Bool) (i : Nat), listed.size = ops.size → i < ops.size → listed.getD i true = listed.getD i false := fun listed i hs hi => by
    simp [Array.getD, hs, hi]
  intro n
  induction n with
  | zero =>
    intro L listed st a w hl hsz hin hlt hnd hp hc htr hg
    have : L = [] := List.eq_nil_of_length_eq_zero hl
    subst this
    have : st = st' := htr.1
    subst this
    refine wpAny_done ?_ (hQ st a w hk hg) 0
    rw [List.eq_nil_iff_forall_not_mem]
    intro i hi
    obtain ⟨h1, h2, _⟩ := mem_ready hi
    rw [hgd _ _ hsz h1] at h2
    have := (hin i h1).1 h2
    simp at this
  | succ n ih =>
    intro L listed st a w hl hsz hin hlt hnd hp hc htr hg
    refine ⟨fun hr => ?_, fun i hi => ?_⟩
    · exfalso
      have all : ∀ i, i < ops.size → listed.getD i false = true := by
        intro i
        induction i using Nat.strongRecOn with
        | ind i ihi =>
          intro his
          cases hli : listed.getD i false with
          | true => rfl
          | false =>
            exfalso
            have ho : ops[i]? = some ops[i] := Array.getElem?_eq_getElem his
            have := ready_of ho (by rw [hgd _ _ hsz his]; exact hli) fun e he hbe => ihi e.on (hback i _ ho e he hbe) (by have := hback i _ ho e he hbe; omega)
            rw [hr] at this
            cases this
      cases L with
      | nil => simp at hl
      | cons m L =>
        have h1 := hlt m (List.mem_cons_self ..)
        have h2 := (hin m.1 h1).2 (by simp)
        rw [all m.1 h1] at h2
        cases h2
    · obtain ⟨h1, h2, h3⟩ := mem_ready hi
      rw [hgd _ _ hsz h1] at h2
      have hm := (hin i h1).1 h2
      rw [List.mem_map] at hm
      obtain ⟨⟨i', f⟩, hm, rfl⟩ := hm
      obtain ⟨L1, L2, rfl⟩ := List.append_of_mem hm
      have ho : ops[i']? = some ops[i'] := Array.getElem?_eq_getElem h1
      have hap : ∀ m ∈ L1, apartF ops m.1 i' m.2 f = true := fun m hm1 => by
        rw [List.pairwise_append] at hp
        rcases hp.2.2 m hm1 (i', f) (List.mem_cons_self ..) with hbh | hap
        · exfalso
          have := behind_listed hc (i' + 1) i' _ (by omega) ho (fun e he hbe => ⟨h3 _ ho e he hbe, hback _ _ ho e he hbe⟩) hback m.1 hbh
          have hml := hlt m (by simp [hm1])
          have h4 := (hin m.1 hml).2 (by simp only [List.map_append, List.mem_append, List.mem_map]; exact .inl ⟨m, hm1, rfl⟩)
          rw [h4] at this; cases this
        · exact hap
      obtain ⟨s, q1, q2, q3⟩ := Tr.front hT.2 L1 st htr hap
      refine stepF_sound hT hn hg q1 fun a' w' hg' => ?_
      have hsub : (L1 ++ L2).Sublist (L1 ++ (i', f) :: L2) := List.Sublist.append_left (List.sublist_cons_self ..) L1
      have hset : ∀ j, (listed.setIfInBounds i' true).getD j false = if j = i' then true else listed.getD j false := fun j => by
        simp only [Array.getD_eq_getD_getElem?, Array.getElem?_setIfInBounds]
        by_cases hj : i' = j
        · subst hj
          have : i' < listed.size := by rw [hsz]; exact h1
          rw [if_pos rfl, if_pos this, if_pos rfl]; rfl
        · rw [if_neg hj, if_neg (fun e => hj e.symm)]
      have hni : ∀ m ∈ L1 ++ L2, m.1 ≠ i' := fun m hm' e => by
        rw [List.map_append, List.map_cons, List.nodup_append] at hnd
        rw [List.mem_append] at hm'
        rcases hm' with hm' | hm'
        · exact hnd.2.2 m.1 (List.mem_map_of_mem hm') i' (List.mem_cons_self ..) e
        · rw [List.nodup_cons] at hnd
          exact hnd.2.1.1 (by have := List.mem_map_of_mem (f := fun x : Mark => x.1) hm'; rw [e] at this; exact this)
      refine ih (L1 ++ L2) _ s a' w' (by simp at hl ⊢; omega) (by simp [hsz]) (fun j hj => ?_) (fun m hm' => hlt m (hsub.subset hm')) ((hsub.map _).nodup hnd) (hp.sublist hsub) (fun j o hj hlj e he hbe => ?_) q3 hg'
      · rw [hset]
        by_cases hji : j = i'
        · subst hji
          rw [if_pos rfl]
          constructor
          · intro h; cases h
          · intro h
            rw [List.mem_map] at h
            obtain ⟨m, hm', e⟩ := h
            exact absurd e (hni m hm')
        · rw [if_neg hji, hin j hj]
          simp only [List.map_append, List.map_cons, List.mem_append, List.mem_cons]
          constructor
          · rintro (h | h | h)
            · exact .inl h
            · exact absurd h hji
            · exact .inr h
          · rintro (h | h)
            · exact .inl h
            · exact .inr (.inr h)
      · rw [hset] at hlj ⊢
        split
        · rfl
        · by_cases hji : j = i'
          · subst hji
            exact h3 o hj e he hbe
          · rw [if_neg hji] at hlj
            exact hc j o hj hlj e he hbe
end
end Go.U
