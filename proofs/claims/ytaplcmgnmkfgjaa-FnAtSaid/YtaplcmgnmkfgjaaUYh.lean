/- A function that leaves what it was handed as it is: told once, used as such. No condition. -/
import Derived.Test.YtaplcmgnmkfgjaaUYg
set_option linter.unusedVariables false
set_option linter.unusedSimpArgs false
set_option linter.unusedSectionVars false
namespace Go.U
open Go

def okL : Lf → Bool
  | .v _ => true
  | .ptr _ _ _ => true
  | _ => false
def okSh : Sh → Bool
  | .l x => okL x
  | _ => false
def okB (b : BSh) : Bool := !b.mv && (match b.c with
  | .row _ => true
  | .mix (some _) els => els.all fun l => l.all okSh
  | _ => false)

theorem fillL_exact {α : Type} {x : Lf} {v : SV} {ds : List D} (h : grabL x v = some ds) (ho : okL x = true) (hv : exactV v = true) : (∀ (r : List D) (q : SV → List D → α), fillL x (ds ++ r) q = q v r) ∧ ∀ d ∈ ds, d ≠ .emp := by
  cases x with
  | v t =>
    obtain ⟨d, rfl, rfl⟩ := grab_v h
    refine ⟨fun r q => rfl, fun d' hd => ?_⟩
    simp at hd; subst hd
    intro e; subst e; cases hv
  | ptr b e c =>
    cases v with
    | ptr b' e' c' =>
      simp only [grabL] at h
      split at h
      · rename_i hh; obtain ⟨rfl, rfl, rfl⟩ := hh
        cases h
        exact ⟨fun r q => rfl, fun d hd => by simp at hd⟩
      · cases h
    | _ => simp [grabL] at h
  | _ => cases ho

theorem fillShs_exact {α : Type} : ∀ {xs : List Sh} {vs : List SV} {ds : List D}, grabShs xs vs = some ds → xs.all okSh = true → vs.all exactV = true → (∀ (r : List D) (q : List SV → List D → α), fillShs xs (ds ++ r) q = q vs r) ∧ ∀ d ∈ ds, d ≠ .emp
  | [], [], ds, h, _, _ => by cases h; exact ⟨fun r q => rfl, fun d hd => by simp at hd⟩
  | x :: xs, v :: vs, ds, h, ho, hv => by
    simp only [List.all_cons, Bool.and_eq_true] at ho hv
    obtain ⟨a, b, h1, h2, rfl⟩ := apO_some h
    cases x with
    | l x =>
      have g1 := fun (r : List D) (q : SV → List D → α) => (fillL_exact (α := α) h1 ho.1 hv.1).1 r q
      have g2 := (fillL_exact (α := α) h1 ho.1 hv.1).2
      obtain ⟨g3, g4⟩ := fillShs_exact (α := α) h2 ho.2 hv.2
      refine ⟨fun r q => ?_, fun d hd => ?_⟩
      · simp only [fillShs, fillSh, List.append_assoc]
        rw [g1, g3]
      · rw [List.mem_append] at hd
        exact hd.elim (g2 d) (g4 d)
    | _ => simp [okSh] at ho
  | [], _ :: _, _, h, _, _ => by cases h
  | _ :: _, [], _, h, _, _ => by cases h

theorem fillEs_exact {α : Type} : ∀ {xs : List (List Sh)} {vs : List (List SV)} {ds : List D}, grabEs xs vs = some ds → (xs.all fun l => l.all okSh) = true → (vs.all fun l => l.all exactV) = true → (∀ (r : List D) (q : List (List SV) → List D → α), fillEs xs (ds ++ r) q = q vs r) ∧ ∀ d ∈ ds, d ≠ .emp
  | [], [], ds, h, _, _ => by cases h; exact ⟨fun r q => rfl, fun d hd => by simp at hd⟩
  | x :: xs, v :: vs, ds, h, ho, hv => by
    simp only [List.all_cons, Bool.and_eq_true] at ho hv
    obtain ⟨a, b, h1, h2, rfl⟩ := apO_some h
    obtain ⟨g1, g2⟩ := fillShs_exact (α := α) h1 ho.1 hv.1
    obtain ⟨g3, g4⟩ := fillEs_exact (α := α) h2 ho.2 hv.2
    refine ⟨fun r q => ?_, fun d hd => ?_⟩
    · simp only [fillEs, List.append_assoc]
      rw [g1, g3]
    · rw [List.mem_append] at hd
      exact hd.elim (g2 d) (g4 d)
  | [], _ :: _, _, h, _, _ => by cases h
  | _ :: _, [], _, h, _, _ => by cases h

theorem fillB_exact {α : Type} {b : BSh} {k : Blk} {ds : List D} (h : grabB b k = some ds) (ho : okB b = true) (hv : exactB k = true) : (∀ (r : List D) (q : Blk → List D → α), fillB b (ds ++ r) q = q k r) ∧ ∀ d ∈ ds, d ≠ .emp := by
  obtain ⟨s, mv, c⟩ := b
  obtain ⟨s', mv', c'⟩ := k
  simp only [okB, exactB, Bool.and_eq_true, Bool.not_eq_true'] at ho hv
  obtain ⟨hm, ho⟩ := ho
  obtain ⟨hm', hv⟩ := hv
  subst hm hm'
  simp only [grabB] at h
  split at h
  case isFalse => cases h
  rename_i hs
  obtain ⟨rfl, _⟩ := hs
  cases c with
  | row t =>
    cases c' with
    | row t' xs =>
      simp only at h
      split at h
      · rename_i e; subst e; cases h
        exact ⟨fun r q => rfl, fun d hd => by simp at hd; subst hd; intro e; cases e⟩
      · cases h
    | mix => cases h
  | mix ty els =>
    cases c' with
    | row => cases h
    | mix ty' vs =>
      cases ty with
      | none => simp at ho
      | some t =>
        simp only at h ho hv
        split at h
        case isFalse => cases h
        rename_i ht
        have : ty' = some t := by
          cases ty' with
          | none => cases ht
          | some t' => simp only [tyLe, beq_iff_eq] at ht; rw [ht]
        subst this
        obtain ⟨g1, g2⟩ := fillEs_exact (α := α) h ho hv
        refine ⟨fun r q => ?_, g2⟩
        simp only [fillB]
        rw [g1]

theorem fillBs_exact {α : Type} : ∀ {xs : List BSh} {ks : List Blk} {ds : List D}, grabBs xs ks = some ds → xs.all okB = true → ks.all exactB = true → (∀ (r : List D) (q : List Blk → List D → α), fillBs xs (ds ++ r) q = q ks r) ∧ ∀ d ∈ ds, d ≠ .emp
  | [], [], ds, h, _, _ => by cases h; exact ⟨fun r q => rfl, fun d hd => by simp at hd⟩
  | x :: xs, v :: vs, ds, h, ho, hv => by
    simp only [List.all_cons, Bool.and_eq_true] at ho hv
    obtain ⟨a, b, h1, h2, rfl⟩ := apO_some h
    obtain ⟨g1, g2⟩ := fillB_exact (α := α) h1 ho.1 hv.1
    obtain ⟨g3, g4⟩ := fillBs_exact (α := α) h2 ho.2 hv.2
    refine ⟨fun r q => ?_, fun d hd => ?_⟩
    · simp only [fillBs, List.append_assoc]
      rw [g1, g3]
    · rw [List.mem_append] at hd
      exact hd.elim (g2 d) (g4 d)
  | [], _ :: _, _, h, _, _ => by cases h
  | _ :: _, [], _, h, _, _ => by cases h

theorem DSubs.same : ∀ {a b : List D}, DSubs a b → (∀ d ∈ a, d ≠ .emp) → b = a
  | [], [], _, _ => rfl
  | x :: a, y :: b, h, hn => by
    have hx : y = x := by
      rcases h.1 with e | ⟨e, _⟩
      · exact e
      · exact absurd e (hn x (List.mem_cons_self ..))
    rw [hx, DSubs.same h.2 fun d hd => hn d (List.mem_cons_of_mem _ hd)]
  | [], _ :: _, h, _ => h.elim
  | _ :: _, [], h, _ => h.elim
theorem DSubs.leng : ∀ {a b : List D}, DSubs a b → b.length = a.length
  | [], [], _ => rfl
  | x :: a, y :: b, h => by simp [DSubs.leng h.2]
  | [], _ :: _, h => h.elim
  | _ :: _, [], h => h.elim

theorem grabL_len {x : Lf} {v : SV} {ds : List D} (h : grabL x v = some ds) : ds.length = x.tys.length := by
  unfold grabL at h
  split at h <;> first | (cases h; rfl) | (split at h <;> first | (cases h; rfl) | (cases h)) | cases h
theorem grabLs_len : ∀ {xs : List Lf} {vs : List SV} {ds : List D}, grabLs xs vs = some ds → ds.length = (tysLs xs).length
  | [], [], _, h => by cases h; rfl
  | x :: xs, v :: vs, ds, h => by
    obtain ⟨a, b, h1, h2, rfl⟩ := apO_some h
    simp [tysLs, grabL_len h1, grabLs_len h2]
  | [], _ :: _, _, h => by cases h
  | _ :: _, [], _, h => by cases h
theorem grabSh_len {x : Sh} {v : SV} {ds : List D} (h : grabSh x v = some ds) : ds.length = x.tys.length := by
  unfold grabSh at h
  split at h
  · exact grabL_len h
  · exact grabLs_len h
  · split at h
    · exact grabLs_len h
    · cases h
  · cases h
theorem grabShs_len : ∀ {xs : List Sh} {vs : List SV} {ds : List D}, grabShs xs vs = some ds → ds.length = (tysShs xs).length
  | [], [], _, h => by cases h; rfl
  | x :: xs, v :: vs, ds, h => by
    obtain ⟨a, b, h1, h2, rfl⟩ := apO_some h
    simp [tysShs, grabSh_len h1, grabShs_len h2]
  | [], _ :: _, _, h => by cases h
  | _ :: _, [], _, h => by cases h

theorem fillL_drop {α : Type} (x : Lf) (ds : List D) (k : SV → List D → α) : ∃ v, fillL x ds k = k v (ds.drop x.tys.length) := by
  cases x with
  | v t => cases ds with
    | nil => exact ⟨_, rfl⟩
    | cons d ds => exact ⟨_, rfl⟩
  | k q n => cases ds with
    | nil => exact ⟨_, rfl⟩
    | cons d ds => exact ⟨_, rfl⟩
  | _ => exact ⟨_, rfl⟩
theorem fillLs_drop {α : Type} : ∀ (xs : List Lf) (ds : List D) (k : List SV → List D → α), ∃ vs, fillLs xs ds k = k vs (ds.drop (tysLs xs).length)
  | [], ds, k => ⟨[], rfl⟩
  | x :: xs, ds, k => by
    obtain ⟨v, h1⟩ := fillL_drop x ds fun v ds => fillLs xs ds fun vs ds => k (v :: vs) ds
    obtain ⟨vs, h2⟩ := fillLs_drop xs (ds.drop x.tys.length) fun vs ds => k (v :: vs) ds
    refine ⟨v :: vs, ?_⟩
    simp only [fillLs]
    rw [h1, h2, List.drop_drop]
    simp [tysLs]
theorem fillSh_drop {α : Type} (x : Sh) (ds : List D) (k : SV → List D → α) : ∃ v, fillSh x ds k = k v (ds.drop x.tys.length) := by
  cases x with
  | l x => exact fillL_drop x ds k
  | agg xs => obtain ⟨vs, h⟩ := fillLs_drop xs ds fun vs ds => k (.agg vs) ds; exact ⟨_, h⟩
  | clo f xs => obtain ⟨vs, h⟩ := fillLs_drop xs ds fun vs ds => k (.clo f vs) ds; exact ⟨_, h⟩
theorem fillShs_drop {α : Type} : ∀ (xs : List Sh) (ds : List D) (k : List SV → List D → α), ∃ vs, fillShs xs ds k = k vs (ds.drop (tysShs xs).length)
  | [], ds, k => ⟨[], rfl⟩
  | x :: xs, ds, k => by
    obtain ⟨v, h1⟩ := fillSh_drop x ds fun v ds => fillShs xs ds fun vs ds => k (v :: vs) ds
    obtain ⟨vs, h2⟩ := fillShs_drop xs (ds.drop x.tys.length) fun vs ds => k (v :: vs) ds
    refine ⟨v :: vs, ?_⟩
    simp only [fillShs]
    rw [h1, h2, List.drop_drop]
    simp [tysShs]

/-- The mark. -/
def keepRefs : List Bool := [false, false, false, false, false, false, false, false, false, false, false, false, false, false, false, false, false, false, false, false, false, false, false, false, false, false, false, false, false, false, false, false, false, false, false, false, false, false, false, false, false, false, false, false, false, false, false, false, false, false, true]

/-- **What leaves all as it is may be used so.** -/
theorem ct_keep {P : Program} [Gl P] {f : Nat} {c : Ct} (h : CtOk P f c) (hr : c.hr = c.hs) (ok : c.hs.all okB = true)
    (hF : ∀ x y, c.F x = some y → (toDs (tysShs c.rs ++ tysBs c.hr) y).drop (tysShs c.rs).length = (toDs (tysShs c.ps ++ tysBs c.hs) x).drop (tysShs c.ps).length) : CtKeep P f c := by
  intro w β S vs args hs res hs2 hFk hp
  unfold funOfK at hFk
  split at hFk
  case h_2 => cases hFk
  rename_i hex
  split at hFk
  case h_2 => cases hFk
  rename_i p hp0
  cases hFk
  have hp2 : p.2 = hs := by
    obtain ⟨a, b, ha, hb, x, y, hy, hds, hpp⟩ := funOf_some hp0
    obtain ⟨us, e⟩ := fillShs_drop c.rs (toDs (tysShs c.rs ++ tysBs c.hr) y) fun vs ds => fillBs c.hr ds fun ks _ => (vs, ks)
    rw [e, hF x y hy] at hpp
    obtain ⟨e1, e2, he, h3, h4⟩ := DSubs.split hds
    have hl : e1.length = (tysShs c.ps).length := by rw [h3.leng, grabShs_len ha]
    rw [he, ← hl, List.drop_left, hr] at hpp
    obtain ⟨g1, g2⟩ := fillBs_exact (α := List SV × List Blk) hb ok hex
    have hb2 := DSubs.same h4 g2
    subst hb2
    have := g1 [] fun ks _ => (us, ks)
    rw [List.append_nil] at this
    rw [this] at hpp
    rw [hpp]
  exact h w β S vs args hs p.1 hs (by rw [hp0]; cases p; simp only at hp2; subst hp2; rfl) hp

def tupDrop : (ts us : List Ty) → tup (ts ++ us) → tup us
  | [], _, x => x
  | _ :: _, [], _ => ()
  | [_], _ :: _, x => x.2
  | _ :: t :: ts, u :: us, x => tupDrop (t :: ts) (u :: us) x.2
theorem toDs_drop : ∀ (ts us : List Ty) (y : tup (ts ++ us)), (toDs (ts ++ us) y).drop ts.length = toDs us (tupDrop ts us y)
  | [], us, y => rfl
  | t :: ts, [], y => by
    have : ∀ (l : List Ty) (z : tup l), (toDs l z).length = l.length := fun l => by
      induction l with
      | nil => intro z; rfl
      | cons t l ih => cases l with
        | nil => intro z; rfl
        | cons u l => intro z; simp only [toDs, List.length_cons]; rw [ih z.2]; rfl
    rw [List.drop_eq_nil_of_le (by rw [this]; simp)]
    cases ts <;> rfl
  | [t], u :: us, y => rfl
  | t :: t' :: ts, u :: us, y => toDs_drop (t' :: ts) (u :: us) y.2

def KeepsF (ps : List Sh) (hs : List BSh) (rs : List Sh) (F : tup (tysShs ps ++ tysBs hs) → Option (tup (tysShs rs ++ tysBs hs))) : Prop :=
  ∀ x y, F x = some y → tupDrop (tysShs rs) (tysBs hs) y = tupDrop (tysShs ps) (tysBs hs) x

theorem ct_keep3 {P : Program} [Gl P] {f : Nat} {ps : List Sh} {hs : List BSh} {rs : List Sh} {refs : List Bool} {F : tup (tysShs ps ++ tysBs hs) → Option (tup (tysShs rs ++ tysBs hs))}
    (h : CtOk P f ⟨ps, hs, rs, hs, refs, F⟩) (ok : hs.all okB = true) (hF : KeepsF ps hs rs F) : CtKeep P f ⟨ps, hs, rs, hs, refs, F⟩ :=
  ct_keep h rfl ok fun x y hy => by
    show (toDs (tysShs rs ++ tysBs hs) y).drop (tysShs rs).length = (toDs (tysShs ps ++ tysBs hs) x).drop (tysShs ps).length
    rw [toDs_drop, toDs_drop, hF x y hy]

end Go.U
