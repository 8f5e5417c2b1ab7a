/- A part of the proof. No condition. -/
import Derived.Test.YtclapampnmjmoaaGreatDoorUXd
import Derived.LoopN
set_option linter.unusedVariables false
set_option linter.unusedSimpArgs false
set_option linter.unusedSectionVars false
namespace Go.U
open Go
def walkN {ρ : Type} (C : Cmb) {P : Program} (Y : TT P) (L : CTab) (n0 : Nat) (ops : Array Oper) (zs : List Nat) (ws : Nat → List Wk) : List Oper → Nat → XSt → (XSt → Option ρ) → Option ρ
  | [], i, s, k => wksK C n0 (ws i) s k
  | o :: rest, i, s, k => wksK C n0 (ws i) s fun s => stepK C Y L ops zs i o s fun _ s => walkN C Y L n0 ops zs ws rest (i + 1) s k
def wsAt : List (Nat × Wk) → Nat → List Wk
  | [], _ => []
  | (j, x) :: l, i => if j = i then x :: wsAt l i else wsAt l i
def footX {P : Program} (Y : TT P) (L : CTab) (zs : List Nat) (i : Nat) (o : Oper) (s : XSt) : Option (List Nat × List Nat) :=
  if zs.contains i then some (idsOf s.st o.op, []) else match kindOf Y o.op with
    | 0 => some (idsOf s.st o.op, [])
    | 1 => match o.op with | .build _ _ => some ([], []) | .alloc _ => (match o.dst with | some d => some ([], [newId d]) | none => none) | .makeMap _ _ => (match o.dst with | some d => some ([], [newId d]) | none => none) | _ => none
    | 2 => match o.op with
      | .store _ p _ => (match ev s.st p with
        | .ptr b _ _ => some (idsOf s.st o.op, [b])
        | _ => none)
      | .mapUpdate _ m _ _ => (match ev s.st m with
        | .clo _ [.ptr b 0 0] => some (idsOf s.st o.op, [b])
        | _ => none)
      | .insert _ m _ _ => (match ev s.st m with
        | .clo _ [.ptr b 0 0] => some (idsOf s.st o.op, [b])
        | _ => none)
      | _ => none
    | _ => match o.op with
      | .call c => match c.callee with
        | .value fo => match ev s.st fo with
          | .clo f caps => match pick L f (c.args.toList.map (ev s.st) ++ caps) with
            | some ct => if ct.hr.length = ct.hs.length ∧ ct.hr.all (fun k => !k.mv) = true then
                match prep s.st.hp ct.refs (c.args.toList.map (ev s.st) ++ caps) with
                | some (args1, _) => match reach s.st.hp 200 [] (SV.idsL args1) with
                  | some ids => some (SV.idsL (c.args.toList.map (ev s.st) ++ caps) ++ ids, if (keptR ct.refs && noMv s.st.hp ids) = true then [] else ids)
                  | none => none
                | none => none
              else none
            | none => none
          | _ => none
        | _ => none
      | _ => none
def footB {P : Program} (Y : TT P) (L : CTab) (zs : List Nat) (i : Nat) (o : Oper) (s : XSt) : Bool → Option (List Nat × List Nat)
  | true => footX Y L zs i o s
  | false => some ([], [])
def chkD (ops : Array Oper) (M : List Nat) (i : Nat) (f : Option (List Nat × List Nat)) : List Mark → Bool
  | [] => true
  | m :: H => (behind M m.1 i || apartF ops m.1 i m.2 f) && chkD ops M i f H
def frX (d : Nat) (A : List Nat) : Nat → List SV → Bool
  | _, [] => true
  | i, x :: l => (Nat.beq i d || A.contains i || !(x.ids.contains (newId d))) && frX d A (i + 1) l
def hpX (d : Nat) : List (Nat × Blk) → Bool
  | [] => true
  | p :: l => !(p.2.c.ids.contains (newId d)) && hpX d l
def onlyX : List (Nat × List Nat) → XSt → Bool
  | [], _ => true
  | (d, A) :: l, s => frX d A 0 s.fr && hpX d s.hp && onlyX l s
def pendX (ops : Array Oper) (N rest : List Nat) : List (Nat × List Nat) := N.map fun d => (d, match rest.contains d with | true => [] | false => aliasOf ops.toList d)
theorem frX_spec {d : Nat} {A : List Nat} : ∀ (l : List SV) (i : Nat), frX d A i l = true → ∀ t x, l[t]? = some x → i + t ≠ d → i + t ∉ A → newId d ∉ x.ids
  | [], _, _, t, x, h, _, _ => by simp at h
  | y :: l, i, hf, t, x, h, hn, hA => by
    simp only [frX, Bool.and_eq_true, Bool.or_eq_true] at hf
    cases t with
    | zero =>
      simp at h; subst h
      rcases hf.1 with (h1 | h1) | h1
      · exact absurd (Nat.eq_of_beq_eq_true h1) hn
      · exact absurd (by simpa using h1) hA
      · simpa using h1
    | succ t => exact frX_spec l (i + 1) hf.2 t x (by simpa using h) (by omega) (by rw [show i + 1 + t = i + (t + 1) by omega]; exact hA)
theorem hpX_spec {d : Nat} : ∀ (l : List (Nat × Blk)), hpX d l = true → ∀ x k, hpL l x = some k → newId d ∉ k.c.ids
  | [], _, x, k, h => by cases h
  | (b, kb) :: l, hf, x, k, h => by
    simp only [hpX, Bool.and_eq_true] at hf
    simp only [hpL] at h
    split at h
    · cases h; simpa using hf.1
    · exact hpX_spec l hf.2 x k h
theorem onlyX_spec : ∀ {N : List (Nat × List Nat)} {s : XSt}, onlyX N s = true → ∀ p ∈ N, onlyW p.2 p.1 s.st
  | [], _, _, p, hp => by cases hp
  | (d0, A) :: N, s, h, p, hp => by
    simp only [onlyX, Bool.and_eq_true] at h
    rw [List.mem_cons] at hp
    rcases hp with rfl | hp
    · refine ⟨fun t ht hA => ?_, fun x k hx => hpX_spec _ h.1.2 x k hx⟩
      rw [List.getD_eq_getElem?_getD]
      show newId d0 ∉ (s.fr[t]?.getD .undef).ids
      cases hx : s.fr[t]? with
      | none => simp [SV.ids]
      | some y => exact frX_spec _ 0 h.1.1 t y hx (by omega) (by rw [Nat.zero_add]; exact hA)
    · exact onlyX_spec h.2 p hp
theorem pend_spec {ops : Array Oper} {s : XSt} {R : List Nat} {rest : List Oper} (h : onlyX (pendX ops (newsOf ops.toList) (newsOf rest)) s = true) (hR : ∀ i ∈ R, ∀ o, ops[i]? = some o → o ∈ rest) : QF ops R s.st := by
  have hm := onlyX_spec h
  have key : ∀ d ∈ newsOf ops.toList, (d ∈ newsOf rest → onlyD d s.st) ∧ onlyW (aliasOf ops.toList d) d s.st := fun d hd => by
    have := hm _ (List.mem_map_of_mem hd)
    dsimp only at this
    cases hc : (newsOf rest).contains d with
    | true =>
      rw [hc] at this
      exact ⟨fun _ => onlyW_D this, onlyD_W (onlyW_D this) _⟩
    | false =>
      rw [hc] at this
      exact ⟨fun hd' => absurd (List.contains_iff_mem.2 hd') (by rw [hc]; exact Bool.false_ne_true), this⟩
  refine ⟨fun d hd => (key d hd).2, fun i hi o ho d h1 h2 => (key d (newsOf_mem ho h1 h2)).1 (List.mem_filterMap.2 ⟨o, hR i hi o ho, by simp only [h1, h2]⟩)⟩
def walkD {ρ : Type} (C : Cmb) {P : Program} (Y : TT P) (L : CTab) (ops : Array Oper) (zs : List Nat) (M N : List Nat) : List Oper → Nat → List Mark → XSt → (XSt → Option ρ) → Option ρ
  | [], _, _, s, k => match onlyX (pendX ops N []) s with
    | true => k s
    | false => none
  | o :: rest, i, H, s, k => match onlyX (pendX ops N (newsOf (o :: rest))) s with
    | true => stepK C Y L ops zs i o s fun b s' =>
      match chkD ops M i (footB Y L zs i o s b) H with
      | true => walkD C Y L ops zs M N rest (i + 1) ((i, footB Y L zs i o s b) :: H) s' k
      | false => none
    | false => none
section
variable {P : Program} [Gl P] {Y : TT P} {L : CTab} {ops : Array Oper} {zs : List Nat} {ρ : Type} {r : ρ}
theorem fillBs_len : ∀ (xs : List BSh) (ds : List D), (fillBs xs ds fun ks _ => ks).length = xs.length ∧ ((xs.all fun k => !k.mv) = true → ∀ k ∈ (fillBs xs ds fun ks _ => ks), k.mv = false)
  | [], _ => ⟨rfl, fun _ k hk => by cases hk⟩
  | x :: xs, ds => by
    have hx : ∀ {α : Type} (q : Blk → List D → α), ∃ k ds', fillB x ds q = q k ds' ∧ k.mv = x.mv ∧ ∀ {β : Type} (q' : Blk → List D → β), fillB x ds q' = q' k ds' := fun q => by
      have h1 := fillB_nat (fun p : Blk × List D => q p.1 p.2) x ds Prod.mk
      refine ⟨(fillB x ds Prod.mk).1, (fillB x ds Prod.mk).2, h1.symm, ?_, fun q' => (fillB_nat (fun p : Blk × List D => q' p.1 p.2) x ds Prod.mk).symm⟩
      obtain ⟨s, mv, c⟩ := x
      cases c with
      | row t =>
        simp only [fillB]
        cases ds with
        | nil => rfl
        | cons d ds => cases d <;> rfl
      | map t =>
        simp only [fillB]
        cases ds with
        | nil => rfl
        | cons d ds => cases d <;> first | rfl | (rename_i t xs; cases t <;> first | rfl | (rename_i a b0; cases a <;> rfl))
      | mix ty els =>
        have h2 := fillB_nat (fun p : Blk × List D => p.1.mv) ⟨s, mv, .mix ty els⟩ ds Prod.mk
        exact h2.trans (fillEs_nat (fun _ : Unit => mv) els ds fun _ _ => ()).symm
    obtain ⟨k, ds', h1, h2, h3⟩ := hx fun k _ => k
    obtain ⟨g1, g2⟩ := fillBs_len xs ds'
    have e : (fillBs (x :: xs) ds fun ks _ => ks) = k :: (fillBs xs ds' fun ks _ => ks) := by
      simp only [fillBs]
      rw [h3]
      exact (fillBs_nat (fun l => k :: l) xs ds' fun ks _ => ks).symm
    rw [e]
    refine ⟨by simp [g1], fun h k' hk' => ?_⟩
    simp only [List.all_cons, Bool.and_eq_true] at h
    rw [List.mem_cons] at hk'
    rcases hk' with rfl | hk'
    · rw [h2]; simpa using h.1
    · exact g2 h.2 k' hk'
theorem grabBs_len : ∀ {xs : List BSh} {ks : List Blk} {ds : List D}, grabBs xs ks = some ds → ks.length = xs.length
  | [], [], _, _ => rfl
  | x :: xs, k :: ks, ds, h => by
    obtain ⟨a, b, _, h2, _⟩ := apO_some h
    simp [grabBs_len h2]
  | [], _ :: _, _, h => by cases h
  | _ :: _, [], _, h => by cases h
theorem movedOf_nil : ∀ (ids : List Nat) (hs : List Blk), (∀ k ∈ hs, k.mv = false) → movedOf ids hs = []
  | [], hs, _ => by cases hs <;> rfl
  | b :: ids, [], _ => rfl
  | b :: ids, k :: hs, h => by
    simp only [movedOf, h k (List.mem_cons_self ..), Bool.false_eq_true, if_false]
    exact movedOf_nil ids hs fun k' hk' => h k' (List.mem_cons_of_mem _ hk')
theorem funOf_some {c : Ct} {args : List SV} {hs : List Blk} {p : List SV × List Blk} (h : funOf c args hs = some p) : ∃ a b, grabShs c.ps args = some a ∧ grabBs c.hs hs = some b ∧
    ∃ x y, c.F x = some y ∧ DSubs (a ++ b) (toDs _ x) ∧ p = fillShs c.rs (toDs _ y) fun vs ds => fillBs c.hr ds fun ks _ => (vs, ks) := by
  unfold funOf at h
  split at h
  · rename_i a b ha hb
    obtain ⟨x, h1, h2⟩ := unDs_spec _ _ _ h
    obtain ⟨y, hy, h3⟩ := bindO_some h1
    cases h3
    exact ⟨a, b, ha, hb, x, y, hy, h2, rfl⟩
  · cases h
theorem fill_ks (c : Ct) (ds : List D) : ∃ ds', (fillShs c.rs ds fun vs ds => fillBs c.hr ds fun ks _ => (vs, ks)).2 = fillBs c.hr ds' fun ks _ => ks := by
  have h1 := fillShs_nat (fun p : List SV × List Blk => p.2) c.rs ds fun vs ds => fillBs c.hr ds fun ks _ => (vs, ks)
  have h2 := fillShs_nat (fun p : List SV × List D => fillBs c.hr p.2 fun ks _ => ks) c.rs ds fun vs ds => (vs, ds)
  refine ⟨(fillShs c.rs ds fun vs ds => (vs, ds)).2, ?_⟩
  rw [h1]
  rw [h2]
  congr 1
  funext vs ds
  exact fillBs_nat (fun p : List SV × List Blk => p.2) c.hr ds fun ks _ => (vs, ks)
theorem footX_spec {i : Nat} {o : Oper} (hi : ops[i]? = some o) {s : XSt} {st' : St} {b : Bool} (hw : wantS s.st ops o = some b) (hs : stepF Y (tabL L) ops zs i s.st = some st') {f : List Nat × List Nat}
    (hf : (footB Y L zs i o s b) = some f) : footF Y (tabL L) ops zs i s.st = some f := by
  unfold footF
  unfold stepF at hs
  simp only [hi, hw] at hs ⊢
  cases b with
  | false => exact hf
  | true =>
    simp only [footB] at hf hs ⊢
    unfold footX at hf
    by_cases hz : zs.contains i = true
    · rw [if_pos hz] at hf ⊢; exact hf
    · rw [if_neg hz] at hf hs ⊢
      split at hf
      · rename_i hk; rw [hk]; exact hf
      · rename_i hk; rw [hk]; exact hf
      · rename_i hk; rw [hk]; exact hf
      · rename_i h0 h1 h2
        split at hf
        case h_2 => cases hf
        rename_i c hop
        split at hf
        case h_2 => cases hf
        rename_i fo hcal
        have hk : kindOf Y o.op = 3 := by rw [hop]; simp only [kindOf, hcal]
        rw [hk]
        simp only [hop, hcal]
        unfold opStep at hs
        rw [hk] at hs
        simp only [hop, hcal] at hs
        unfold callS at hs
        unfold callFoot
        split at hf
        case h_2 => cases hf
        rename_i g caps hev
        rw [hev] at hs ⊢
        simp only at hs ⊢
        split at hf
        case h_2 => cases hf
        rename_i ct hpick
        simp only [tabL, hpick] at hs ⊢
        split at hf
        case isFalse => cases hf
        rename_i hct
        split at hf
        case h_2 => cases hf
        rename_i args1 V hprep
        split at hf
        case h_2 => cases hf
        rename_i ids hreach
        cases hf
        simp only [hprep, hreach]
        split at hs
        case isFalse => cases hs
        unfold opCall at hs
        rw [hprep] at hs
        simp only [hreach] at hs
        split at hs
        · cases hs
        split at hs
        case h_2 => cases hs
        rename_i res hs' hF
        rw [hF]
        simp only
        cases hkp : keptR ct.refs with
        | true =>
          simp only [funT, hkp, funOfK] at hF
          split at hF
          case h_2 => cases hF
          split at hF
          case h_2 => cases hF
          cases hF
          obtain ⟨_, _, _, hclosed⟩ := reach_spec s.st.hp 200 [] _ ids hreach List.nodup_nil (by simp)
          obtain ⟨b1, _⟩ := blocksOf_get (ids := ids) ids 0 fun b hb => let ⟨k, hk, _⟩ := hclosed b hb; ⟨k, hk⟩
          rw [if_pos ⟨b1, movedOf_blocks _ _ _⟩]
        | false =>
        simp only [funT, hkp] at hF
        obtain ⟨a, b, ha, hb, x, y, hy, _, hp⟩ := funOf_some hF
        obtain ⟨ds', hds⟩ := fill_ks ct (toDs _ y)
        have hhs : hs' = fillBs ct.hr ds' fun ks _ => ks := by rw [← hds, ← hp]
        obtain ⟨l1, l2⟩ := fillBs_len ct.hr ds'
        obtain ⟨_, _, _, hclosed⟩ := reach_spec s.st.hp 200 [] _ ids hreach List.nodup_nil (by simp)
        obtain ⟨b1, _⟩ := blocksOf_get (ids := ids) ids 0 fun b hb => let ⟨k, hk, _⟩ := hclosed b hb; ⟨k, hk⟩
        have hlen : hs'.length = ids.length := by
          rw [hhs, l1, hct.1, ← grabBs_len hb, b1]
        rw [if_pos ⟨hlen, movedOf_nil _ _ (by rw [hhs]; exact l2 hct.2)⟩]
def MLe : List Mark → List Mark → Prop
  | [], [] => True
  | m :: H, m' :: H' => (m'.1 = m.1 ∧ (m.2 = none ∨ m'.2 = m.2)) ∧ MLe H H'
  | _, _ => False
theorem apartF_weak {i j : Nat} {f f' g g' : Option (List Nat × List Nat)} (hf : f = none ∨ f' = f) (hg : g = none ∨ g' = g) (h : apartF ops i j f g = true) : apartF ops i j f' g' = true := by
  unfold apartF at h ⊢
  split at h
  case h_2 => cases h
  rename_i x y h1 h2
  rw [Bool.or_eq_true] at h ⊢
  rcases h with h | h
  · exact .inl h
  · refine .inr ?_
    rcases hf with rfl | rfl
    · cases g <;> cases h
    · rcases hg with rfl | rfl
      · cases f' <;> cases h
      · exact h
theorem chkD_spec {M : List Nat} {i : Nat} {f f' : Option (List Nat × List Nat)} (hf : f = none ∨ f' = f) : ∀ {H Hs : List Mark}, MLe H Hs → chkD ops M i f H = true → ∀ m ∈ Hs, okPair ops M m (i, f')
  | [], [], _, _, m, hm => by cases hm
  | x :: H, y :: Hs, hle, h, m, hm => by
    simp only [chkD, Bool.and_eq_true, Bool.or_eq_true] at h
    rw [List.mem_cons] at hm
    rcases hm with rfl | hm
    · obtain ⟨⟨h1, h2⟩, _⟩ := hle
      rcases h.1 with hb | ha
      · exact .inl (by rw [h1]; exact hb)
      · rw [show okPair ops M m (i, f') = (behind M m.1 i = true ∨ apartF ops m.1 i m.2 f' = true) from rfl, h1]
        exact .inr (apartF_weak h2 hf ha)
    · exact chkD_spec hf hle.2 h.2 m hm
  | [], _ :: _, h, _, _, _ => h.elim
  | _ :: _, [], h, _, _, _ => h.elim
theorem walkD_some {M N : List Nat} (hN : N = newsOf ops.toList) {k : XSt → Option ρ} : ∀ (rest : List Oper) (i : Nat) (H Hs : List Mark) (s : XSt), (∀ j, j < rest.length → rest[j]? = ops[i + j]?) → MLe H Hs → walkD std Y L ops zs M N rest i H s k = some r →
    ∃ (Ls : List Mark) (s' : XSt), Tr Y (tabL L) ops zs s.st Ls s'.st ∧ k s' = some r ∧ Ls.map (·.1) = List.range' i rest.length ∧ Ls.Pairwise (okPair ops M) ∧ ∀ m ∈ Hs, ∀ x ∈ Ls, okPair ops M m x
  | [], i, H, Hs, s, _, _, h => by
    simp only [walkD] at h
    split at h
    case h_2 => cases h
    rename_i hx
    subst hN
    exact ⟨[], s, ⟨rfl, pend_spec (rest := []) hx fun _ hi => by cases hi⟩, h, rfl, List.Pairwise.nil, fun _ _ _ hx => by cases hx⟩
  | o :: rest, i, H, Hs, s, hl, hle, h => by
    have hi : ops[i]? = some o := by simpa using (hl 0 (by simp)).symm
    simp only [walkD] at h
    split at h
    case h_2 => cases h
    rename_i hx
    obtain ⟨b, s1, hw, h1, h2⟩ := stepK_some hi h
    split at h2
    case h_2 => cases h2
    rename_i hchk
    have hff : ∀ f, (footB Y L zs i o s b) = f → f = none ∨ footF Y (tabL L) ops zs i s.st = f := fun f hf => by
      cases f with
      | none => exact .inl rfl
      | some f => exact .inr (footX_spec hi hw h1 hf)
    have hok := chkD_spec (f' := footF Y (tabL L) ops zs i s.st) (hff _ rfl) hle hchk
    obtain ⟨Ls, s', g1, g2, g3, g4, g5⟩ := walkD_some hN rest (i + 1) ((i, footB Y L zs i o s b) :: H) ((i, footF Y (tabL L) ops zs i s.st) :: Hs) s1 (fun j hj => by
      have := hl (j + 1) (by simpa using hj)
      simpa [Nat.add_assoc, Nat.add_comm 1 j] using this) ⟨⟨rfl, hff _ rfl⟩, hle⟩ h2
    have hq : QF ops (i :: Ls.map (·.1)) s.st := by
      subst hN
      refine pend_spec hx fun q hq o' ho' => ?_
      rw [g3] at hq
      have hr : q ∈ List.range' i (o :: rest).length := by rw [List.length_cons, List.range'_succ]; exact hq
      rw [List.mem_range'_1] at hr
      have := hl (q - i) (by omega)
      rw [show i + (q - i) = q by omega, ho'] at this
      exact List.mem_of_getElem? this
    refine ⟨(i, footF Y (tabL L) ops zs i s.st) :: Ls, s', ⟨hq, s1.st, h1, rfl, g1⟩, g2, by simp [g3, List.range'_succ], List.Pairwise.cons (fun x hx => g5 _ (List.mem_cons_self ..) x hx) g4, fun m hm x hx => ?_⟩
    rw [List.mem_cons] at hx
    rcases hx with rfl | hx
    · exact hok m hm
    · exact g5 m (List.mem_cons_of_mem _ hm) x hx
variable {X : Ctx P} {n0 : Nat}
theorem walkN_sound (hT : CTabOk P L) (hx : X.ok) (h0 : X.n0 = n0) (hn : X.n0 ≤ 1000) {ws : Nat → List Wk} {k : XSt → Option ρ} {Q : Exit → Act → World → Prop} (hQ : ∀ s a w, k s = some r → Good X s.st a w → Q .normal a w) :
    ∀ (l : List Oper) (n : Nat) (s : XSt) (a : Act) (w : World), (∀ j, j < l.length → l[j]? = ops[n + j]?) → Good X s.st a w → walkN std Y L n0 ops zs ws l n s k = some r → wpOps P ops Q (List.range' n l.length) a w
  | [], n, s, a, w, _, hg, h => by
    simp only [walkN] at h
    obtain ⟨s1, hw, h1⟩ := wksK_some h
    simpa [wpOps] using hQ s1 a w h1 (hw _ _ X a w h0 hx hg)
  | o :: l, n, s, a, w, hl, hg, h => by
    rw [List.length_cons, List.range'_succ, wpOps_cons]
    have hi : ops[n]? = some o := by simpa using (hl 0 (by simp)).symm
    simp only [walkN] at h
    obtain ⟨s1, hw, h1⟩ := wksK_some h
    obtain ⟨b, s2, _, h2, h3⟩ := stepK_some hi h1
    refine stepF_sound (tabL_ok hT) hn (hw _ _ X a w h0 hx hg) h2 fun a' w' hg' => ?_
    exact walkN_sound hT hx h0 hn hQ l (n + 1) s2 a' w' (fun j hj => by
      have := hl (j + 1) (by simpa using hj)
      simpa [Nat.add_assoc, Nat.add_comm 1 j] using this) hg' h3
theorem walkD_sound (hT : CTabOk P L) (hn : X.n0 ≤ 1000) (hb : backs 0 ops.toList = true) {k : XSt → Option ρ} {Q : Exit → Act → World → Prop} (hQ : ∀ s a w, k s = some r → Good X s.st a w → Q .normal a w)
    {s : XSt} {a : Act} {w : World} (hg : Good X s.st a w) (h : walkD std Y L ops zs (masks ops.toList []) (newsOf ops.toList) ops.toList 0 [] s k = some r) : wpAny P .any ops Q ops.size (Array.replicate ops.size false) a w := by
  obtain ⟨Ls, s', g1, g2, g3, g4, _⟩ := walkD_some rfl ops.toList 0 [] [] s (fun j hj => by simp) trivial h
  have hlen : Ls.length = ops.size := by
    have := congrArg List.length g3
    simpa using this
  refine any_sound (k := fun st => ∃ s, s.st = st ∧ k s = some r) (tabL_ok hT) hn hb (fun st a w ⟨s, e, hk⟩ hg => hQ s a w hk (by rw [e]; exact hg)) (st' := s'.st) ⟨s', rfl, g2⟩ ops.size Ls _ s.st a w hlen (by simp) (fun i hi => ?_) (fun m hm => ?_) ?_ g4 (fun i o hi hl => ?_) g1 hg
  · rw [g3]
    simp [Array.getD, hi, List.mem_range'_1]
  · have : m.1 ∈ Ls.map (·.1) := List.mem_map_of_mem hm
    rw [g3, List.mem_range'_1] at this
    simpa using this
  · rw [g3]; exact List.nodup_range'
  · simp only [Array.getD_eq_getD_getElem?, Array.getElem?_replicate] at hl
    split at hl <;> cases hl
end
end Go.U
