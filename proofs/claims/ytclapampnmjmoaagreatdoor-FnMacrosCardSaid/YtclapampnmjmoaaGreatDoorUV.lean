/- A part of the proof. No condition. -/
import Derived.Test.YtclapampnmjmoaaGreatDoorUR
set_option linter.unusedVariables false
set_option linter.unusedSimpArgs false
set_option linter.unusedSectionVars false
namespace Go.U
open Go
section
variable {P : Program} [Gl P] {Y : TT P} {T : Tab} {hp hp' : Nat → Option Blk}
theorem sliceS_congr {x : SV} (h : ∀ b ∈ x.ids, hp' b = hp b) (t : TypeId) (lo hi mx : Option SV) : sliceS Y hp' t x lo hi mx = sliceS Y hp t x lo hi mx := by
  unfold sliceS
  generalize tdAt Y t = q
  cases q with
  | none => rfl
  | some td =>
    cases x with
    | d d => cases td <;> cases d <;> cases mx <;> rfl
    | _ => cases td <;> cases mx <;> first | rfl | (simp only [SV.ids, List.mem_singleton, forall_eq] at h; simp only [h])
theorem indexAddrS_congr {x : SV} (h : ∀ b ∈ x.ids, hp' b = hp b) (t : TypeId) (i : SV) : indexAddrS Y hp' t x i = indexAddrS Y hp t x i := by
  unfold indexAddrS
  generalize tdAt Y t = q
  cases q with
  | none => rfl
  | some td =>
    cases x with
    | d d => cases td <;> cases d <;> cases i <;> first | rfl | (rename_i d; cases d <;> rfl)
    | _ => cases td <;> cases i <;> first | rfl | (simp only [SV.ids, List.mem_singleton, forall_eq] at h; simp only [h]) | (rename_i d; cases d <;> first | rfl | (simp only [SV.ids, List.mem_singleton, forall_eq] at h; simp only [h, arrPtr]))
theorem loadS_congr {x : SV} (h : ∀ b ∈ x.ids, hp' b = hp b) (t : TypeId) : loadS Y hp' t x = loadS Y hp t x := by
  unfold loadS
  cases Y.f t with
  | none => rfl
  | some i => cases x <;> first | rfl | (simp only [SV.ids, List.mem_singleton, forall_eq] at h; simp only [h])
theorem convS_congr {x : SV} (h : ∀ b ∈ x.ids, hp' b = hp b) (s t : TypeId) : convS Y hp' s t x = convS Y hp s t x := by
  unfold convS
  generalize tdAt Y s = q
  generalize tdAt Y t = r
  cases q with
  | none => rfl
  | some td => cases r with
    | none => cases td <;> rfl
    | some tr =>
      cases x with
      | d d => cases td <;> cases tr <;> cases d <;> first | rfl | (rename_i t xs; cases t <;> first | rfl | (rename_i k; cases k <;> rfl))
      | ptr b e c =>
        simp only [SV.ids, List.mem_singleton, forall_eq] at h
        cases e <;> cases c <;> cases td <;> cases tr <;> first | rfl | simp only [h]
      | _ => cases td <;> cases tr <;> first | rfl | (simp only [SV.ids, List.mem_singleton, forall_eq] at h; simp only [h])
theorem lenS_congr {x : SV} (h : ∀ b ∈ x.ids, hp' b = hp b) (t : Option TD) : lenS hp' t x = lenS hp t x := by
  unfold lenS
  cases t with
  | none => rfl
  | some td =>
    cases x with
    | d d => cases td <;> cases d <;> rfl
    | _ => cases td <;> first | rfl | (simp only [SV.ids, List.mem_singleton, forall_eq] at h; simp only [h])
theorem lookupS_congr {x : SV} (h : ∀ b ∈ x.ids, hp' b = hp b) (t : TypeId) (k : SV) (ok : Bool) : lookupS Y hp' t x k ok = lookupS Y hp t x k ok := by
  unfold lookupS
  generalize tdAt Y t = q
  split
  · rename_i kt e g b s
    rw [h b (by simp [SV.ids, SV.idsL])]
  · rfl
def quietOp : Op → Bool
  | .move _ | .assign _ | .nilCheck _ | .fieldAddr _ _ _ | .extract _ _ | .field _ _ _ | .binOp _ _ _ _ _ | .pick _ _ _ | .unOp _ _ _ | .index _ _ _ => true
  | _ => false
def idsOf (st : St) (o : Op) : List Nat := match quietOp o with
  | true => []
  | false => SV.idsL (o.operands.toList.map (ev st))
theorem idsL_mem {cs : List SV} {c : SV} {b : Nat} (hc : c ∈ cs) (hb : b ∈ c.ids) : b ∈ SV.idsL cs := SV.mem_idsL hc hb
theorem evL_congr {st st2 : St} {l : List Operand} (h : ∀ x ∈ l, ev st2 x = ev st x) : l.map (ev st2) = l.map (ev st) := List.map_congr_left h
theorem evO_congr {st st2 : St} {l : Option Operand} (h : ∀ x ∈ l.toList, ev st2 x = ev st x) : l.map (ev st2) = l.map (ev st) := by
  cases l with
  | none => rfl
  | some x => simp [h x (by simp)]
theorem opVal_congr {st st2 : St} {op : Op} (hf : ∀ x ∈ op.operands.toList, ev st2 x = ev st x) (hh : ∀ b ∈ idsOf st op, st2.hp b = st.hp b) : opVal Y st2 op = opVal Y st op := by
  have h1 : quietOp op = false → ∀ x ∈ op.operands.toList, ∀ b ∈ (ev st x).ids, st2.hp b = st.hp b := fun hq x hx b hb => hh b (by unfold idsOf; rw [hq]; exact idsL_mem (List.mem_map_of_mem hx) hb)
  cases op with
  | move x => simp only [opVal, hf x (by simp [Op.operands])]
  | assign x => simp only [opVal, hf x (by simp [Op.operands])]
  | pick c a b => simp only [opVal, hf c (by simp [Op.operands]), hf a (by simp [Op.operands]), hf b (by simp [Op.operands])]
  | binOp op t x y u => simp only [opVal, hf x (by simp [Op.operands]), hf y (by simp [Op.operands])]
  | unOp op t x => simp only [opVal, hf x (by simp [Op.operands])]
  | nilCheck x => simp only [opVal, hf x (by simp [Op.operands])]
  | convert s t x => simp only [opVal, hf x (by simp [Op.operands]), convS_congr (h1 rfl x (by simp [Op.operands]))]
  | slice t x lo hi mx =>
    have hl := evO_congr (l := lo) fun x hx => hf x (by simp [Op.operands] at hx ⊢; simp [hx])
    have hi' := evO_congr (l := hi) fun x hx => hf x (by simp [Op.operands] at hx ⊢; simp [hx])
    have hm := evO_congr (l := mx) fun x hx => hf x (by simp [Op.operands] at hx ⊢; simp [hx])
    simp only [opVal, hf x (by simp [Op.operands]), hl, hi', hm, sliceS_congr (h1 rfl x (by simp [Op.operands]))]
  | indexAddr t x i => simp only [opVal, hf x (by simp [Op.operands]), hf i (by simp [Op.operands]), indexAddrS_congr (h1 rfl x (by simp [Op.operands]))]
  | index t x i => simp only [opVal, hf x (by simp [Op.operands]), hf i (by simp [Op.operands])]
  | fieldAddr t x f => simp only [opVal, hf x (by simp [Op.operands])]
  | field t x f => simp only [opVal, hf x (by simp [Op.operands])]
  | load t x => simp only [opVal, hf x (by simp [Op.operands]), loadS_congr (h1 rfl x (by simp [Op.operands]))]
  | lookup t x k ok => simp only [opVal, hf x (by simp [Op.operands]), hf k (by simp [Op.operands]), lookupS_congr (h1 rfl x (by simp [Op.operands]))]
  | extract x i => simp only [opVal, hf x (by simp [Op.operands])]
  | makeFunc fn first captured =>
    cases fn with
    | func f =>
      have hc := evL_congr (l := captured.toList) fun x hx => hf x (by simp [Op.operands] at hx ⊢; exact .inr hx)
      simp only [opVal, hc]
    | _ => rfl
  | call c =>
    obtain ⟨callee, args, argTypes⟩ := c
    cases callee with
    | builtin b =>
      have hm : ∀ x ∈ args.toList, x ∈ (Op.call ⟨.builtin b, args, argTypes⟩).operands.toList := fun x hx => by simpa [Op.operands, Call.operands] using hx
      have ha := evL_congr (l := args.toList) fun x hx => hf x (hm x hx)
      cases b with
      | len =>
        simp only [opVal]
        split
        · rename_i x t e1 e2
          have hx : x ∈ args.toList := by rw [e1]; simp
          rw [hf x (hm x hx), lenS_congr (h1 rfl x (hm x hx))]
        · rfl
      | min => simp only [opVal, ha]
      | max => simp only [opVal, ha]
      | _ => rfl
    | _ => rfl
  | _ => rfl
theorem buildS_congr {st st2 : St} {t : TypeId} {parts : List (Nat × Operand)} (hf : ∀ p ∈ parts, ev st2 p.2 = ev st p.2) : buildS Y st2 t parts = buildS Y st t parts := by
  have : (parts.map fun p => (p.1, ev st2 p.2)) = parts.map fun p => (p.1, ev st p.2) := List.map_congr_left fun p hp => by rw [hf p hp]
  simp only [buildS, this]
mutual
theorem viewS_congr : ∀ (x : SV), (∀ b ∈ x.ids, hp' b = hp b) → viewS hp' x = viewS hp x
  | .sl b off len, h => by simp only [viewS, h b (by simp [SV.ids])]
  | .all b, h => by simp only [viewS, h b (by simp [SV.ids])]
  | .bb _, _ => rfl
  | .agg cs, h => by simp only [viewS, viewL_congr cs (by simpa [SV.ids] using h)]
  | .undef, _ => rfl
  | .d _, _ => rfl
  | .tup _, _ => rfl
  | .ptr _ _ _, _ => rfl
  | .pon _ _ _, _ => rfl
  | .rptr _, _ => rfl
  | .clo _ _, _ => rfl
theorem viewL_congr : ∀ (cs : List SV), (∀ b ∈ SV.idsL cs, hp' b = hp b) → viewL hp' cs = viewL hp cs
  | [], _ => rfl
  | c :: cs, h => by
    simp only [viewL, viewS_congr c fun b hb => h b (by simp [SV.idsL, hb]), viewL_congr cs fun b hb => h b (by simp [SV.idsL, hb])]
end
theorem prep_congr : ∀ (refs : List Bool) (cs : List SV), (∀ b ∈ SV.idsL cs, hp' b = hp b) → prep hp' refs cs = prep hp refs cs
  | refs, [], _ => by cases refs with
    | nil => rfl
    | cons b l => cases b <;> rfl
  | [], c :: cs, h => by simp only [prep, viewS_congr c fun b hb => h b (by simp [SV.idsL, hb]), prep_congr [] cs fun b hb => h b (by simp [SV.idsL, hb])]
  | true :: refs, c :: cs, h => by simp only [prep, prep_congr refs cs fun b hb => h b (by simp [SV.idsL, hb])]
  | false :: refs, c :: cs, h => by simp only [prep, viewS_congr c fun b hb => h b (by simp [SV.idsL, hb]), prep_congr refs cs fun b hb => h b (by simp [SV.idsL, hb])]
theorem reach_acc : ∀ (n : Nat) (acc todo ids : List Nat), reach hp n acc todo = some ids → ∀ b ∈ acc, b ∈ ids
  | n, acc, [], ids, h => by
    have : acc = ids := by cases n <;> simpa [reach] using h
    subst this
    exact fun _ h => h
  | 0, acc, b :: todo, ids, h => by simp [reach] at h
  | n + 1, acc, b :: todo, ids, h => by
    simp only [reach] at h
    split at h
    · exact reach_acc n acc todo ids h
    · split at h
      · intro x hx
        exact reach_acc n _ _ ids h x (List.mem_append_left _ hx)
      · cases h
theorem reach_congr : ∀ (n : Nat) (acc todo ids : List Nat), reach hp n acc todo = some ids → (∀ b ∈ ids, hp' b = hp b) → reach hp' n acc todo = some ids
  | n, acc, [], ids, h, _ => by
    have : acc = ids := by cases n <;> simpa [reach] using h
    subst this
    cases n <;> rfl
  | 0, acc, b :: todo, ids, h, _ => by simp [reach] at h
  | n + 1, acc, b :: todo, ids, h, hh => by
    simp only [reach] at h ⊢
    split at h
    · rename_i hb
      rw [if_pos hb]
      exact reach_congr n acc todo ids h hh
    · rename_i hb
      rw [if_neg hb]
      split at h
      · rename_i k hk
        have hbi : b ∈ ids := reach_acc n _ _ ids h b (by simp)
        rw [hh b hbi, hk]
        exact reach_congr n _ _ ids h hh
      · cases h
theorem blocksOf_congr (ids : List Nat) : ∀ (l : List Nat) (i : Nat), (∀ b ∈ l, hp' b = hp b) → blocksOf hp' ids i l = blocksOf hp ids i l
  | [], _, _ => rfl
  | b :: l, i, h => by simp only [blocksOf, h b (by simp), blocksOf_congr ids l _ fun b hb => h b (by simp [hb])]
theorem landB_congr (ρ : Nat → Nat) : ∀ (U : List Nat) (hs : List Blk), (∀ b ∈ U, hp' b = hp b) → landB hp' ρ U hs = landB hp ρ U hs
  | [], _, _ => rfl
  | b :: U, [], _ => rfl
  | b :: U, k :: hs, h => by simp only [landB, h b (by simp), landB_congr ρ U hs fun b hb => h b (by simp [hb])]
theorem landB_keys (ρ : Nat → Nat) : ∀ (U : List Nat) (hs : List Blk), ∀ p ∈ landB hp ρ U hs, p.1 ∈ U
  | [], hs, p, h => by cases hs <;> simp [landB] at h
  | b :: U, [], p, h => by simp [landB] at h
  | b :: U, k :: hs, p, h => by
    simp only [landB, List.mem_cons] at h
    rcases h with rfl | h
    · simp
    · exact List.mem_cons_of_mem _ (landB_keys ρ U hs p h)
structure Eff where
  v : SV
  ups : List (Nat × Blk)
def Eff.app (e : Eff) (dst : Option Nat) (st : St) : St := ⟨(st.put dst e.v).fr, hsets st.hp e.ups⟩
theorem hsets_at {h h' : Nat → Option Blk} {b : Nat} (hb : h' b = h b) : ∀ (l : List (Nat × Blk)), hsets h' l b = hsets h l b
  | [] => hb
  | (x, k) :: l => by
    simp only [hsets, hset]
    split
    · rfl
    · exact hsets_at hb l
theorem hsets_off {h : Nat → Option Blk} {b : Nat} : ∀ (l : List (Nat × Blk)), (∀ p ∈ l, p.1 ≠ b) → hsets h l b = h b
  | [], _ => rfl
  | (x, k) :: l, hl => by
    simp only [hsets]
    rw [hset_ne (fun e => hl (x, k) (by simp) e.symm)]
    exact hsets_off l fun p hp => hl p (by simp [hp])
theorem hsets_on {h h' : Nat → Option Blk} {b : Nat} : ∀ (l : List (Nat × Blk)), (∃ p ∈ l, p.1 = b) → hsets h l b = hsets h' l b
  | [], hl => by obtain ⟨p, hp, _⟩ := hl; cases hp
  | (x, k) :: l, hl => by
    simp only [hsets]
    by_cases hx : b = x
    · subst hx; rw [hset_same, hset_same]
    · rw [hset_ne hx, hset_ne hx]
      refine hsets_on l ?_
      obtain ⟨p, hp, e⟩ := hl
      rw [List.mem_cons] at hp
      rcases hp with rfl | hp
      · exact absurd e.symm hx
      · exact ⟨p, hp, e⟩
theorem app_comm {e f : Eff} {x y : Option Nat} (st : St) (hd : ∀ d, x = some d → y ≠ some d) (hk : ∀ p ∈ e.ups, ∀ q ∈ f.ups, p.1 ≠ q.1) : e.app x (f.app y st) = f.app y (e.app x st) := by
  unfold Eff.app
  congr 1
  · cases x with
    | none => cases y <;> rfl
    | some d => cases y with
      | none => rfl
      | some d' =>
        have : d' ≠ d := fun h => hd d rfl (h ▸ rfl)
        simp only [St.put]
        rw [List.set_comm _ _ this]
  · funext b
    by_cases h1 : ∃ p ∈ e.ups, p.1 = b
    · have h2 : ∀ q ∈ f.ups, q.1 ≠ b := fun q hq hb => by obtain ⟨p, hp, hpb⟩ := h1; exact hk p hp q hq (hpb.trans hb.symm)
      rw [hsets_off f.ups h2]
      exact hsets_on _ h1
    · have h2 : ∀ p ∈ e.ups, p.1 ≠ b := fun p hp hb => h1 ⟨p, hp, hb⟩
      rw [hsets_off e.ups h2]
      exact (hsets_at (hsets_off e.ups h2) f.ups).symm
end
end Go.U
