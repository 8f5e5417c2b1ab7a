/- A part of the proof. No condition. -/
import Derived.Test.YtclapampnmjmoaaGreatDoorUW
set_option linter.unusedVariables false
set_option linter.unusedSimpArgs false
set_option linter.unusedSectionVars false
namespace Go.U
open Go
def tup : List Ty → Type
  | [] => Unit
  | [t] => t.den
  | t :: u :: ts => t.den × tup (u :: ts)
def toDs : (ts : List Ty) → tup ts → List D
  | [], _ => []
  | [t], x => [leafD t x]
  | t :: u :: ts, p => leafD t p.1 :: toDs (u :: ts) p.2
def unD {ρ : Type} : (t : Ty) → D → (t.den → Option ρ) → Option ρ
  | .i q, .i q' n, k => if q' = q then k n else none
  | .b, .b x, k => k x
  | .s, .str x, k => k x
  | .e, .er x, k => k x
  | .l t, .rov t' xs, k => if h : t' = t then k (h ▸ xs) else none
  | .l _, .emp, k => k []
  | _, _, _ => none
def unDs {ρ : Type} : (ts : List Ty) → List D → (tup ts → Option ρ) → Option ρ
  | [], [], k => k ()
  | [t], [d], k => unD t d k
  | t :: u :: ts, d :: ds, k => unD t d fun x => unDs (u :: ts) ds fun y => k (x, y)
  | _, _, _ => none
def DSub (d d' : D) : Prop := d' = d ∨ (d = .emp ∧ ∃ t, d' = .rov t [])
theorem DSub.refl (d : D) : DSub d d := .inl rfl
theorem DSub.sub {d d' : D} (h : DSub d d') : Sub (.d d) (.d d') := by
  rcases h with rfl | ⟨rfl, t, rfl⟩
  · exact .refl _
  · exact Sub.emp t
def DSubs : List D → List D → Prop
  | [], [] => True
  | d :: ds, e :: es => DSub d e ∧ DSubs ds es
  | _, _ => False
theorem unD_spec {ρ : Type} {r : ρ} : ∀ (t : Ty) (d : D) (k : t.den → Option ρ), unD t d k = some r → ∃ x, k x = some r ∧ DSub d (leafD t x)
  | .i q, .i q' n, k, h => by
    simp only [unD] at h
    split at h
    · rename_i e; subst e; exact ⟨n, h, .refl _⟩
    · cases h
  | .b, .b x, k, h => ⟨x, h, .refl _⟩
  | .s, .str x, k, h => ⟨x, h, .refl _⟩
  | .e, .er x, k, h => ⟨x, h, .refl _⟩
  | .l t, .rov t' xs, k, h => by
    simp only [unD] at h
    split at h
    · rename_i e; subst e; exact ⟨xs, h, .refl _⟩
    · cases h
  | .l t, .emp, k, h => ⟨[], h, .inr ⟨rfl, t, rfl⟩⟩
  | .i _, .b _, k, h => by cases h
  | .i _, .str _, k, h => by cases h
  | .i _, .emp, k, h => by cases h
  | .i _, .rov _ _, k, h => by cases h
  | .i _, .nilp, k, h => by cases h
  | .i _, .er _, k, h => by cases h
  | .i _, .val _, k, h => by cases h
  | .b, .i _ _, k, h => by cases h
  | .b, .str _, k, h => by cases h
  | .b, .emp, k, h => by cases h
  | .b, .rov _ _, k, h => by cases h
  | .b, .nilp, k, h => by cases h
  | .b, .er _, k, h => by cases h
  | .b, .val _, k, h => by cases h
  | .s, .i _ _, k, h => by cases h
  | .s, .b _, k, h => by cases h
  | .s, .emp, k, h => by cases h
  | .s, .rov _ _, k, h => by cases h
  | .s, .nilp, k, h => by cases h
  | .s, .er _, k, h => by cases h
  | .s, .val _, k, h => by cases h
  | .e, .i _ _, k, h => by cases h
  | .e, .b _, k, h => by cases h
  | .e, .str _, k, h => by cases h
  | .e, .emp, k, h => by cases h
  | .e, .rov _ _, k, h => by cases h
  | .e, .nilp, k, h => by cases h
  | .e, .val _, k, h => by cases h
  | .c _ _, d, k, h => by cases d <;> cases h
  | .y _, d, k, h => by cases d <;> cases h
  | .l _, .i _ _, k, h => by cases h
  | .l _, .b _, k, h => by cases h
  | .l _, .str _, k, h => by cases h
  | .l _, .nilp, k, h => by cases h
  | .l _, .er _, k, h => by cases h
  | .l _, .val _, k, h => by cases h
theorem unDs_spec {ρ : Type} {r : ρ} : ∀ (ts : List Ty) (ds : List D) (k : tup ts → Option ρ), unDs ts ds k = some r → ∃ x, k x = some r ∧ DSubs ds (toDs ts x)
  | [], [], k, h => ⟨(), h, trivial⟩
  | [], _ :: _, k, h => by cases h
  | [t], [], k, h => by cases h
  | [t], [d], k, h => by
    obtain ⟨x, h1, h2⟩ := unD_spec t d k h
    exact ⟨x, h1, h2, trivial⟩
  | [t], _ :: _ :: _, k, h => by cases h
  | t :: u :: ts, [], k, h => by cases h
  | t :: u :: ts, d :: ds, k, h => by
    simp only [unDs] at h
    obtain ⟨x, h1, h2⟩ := unD_spec t d _ h
    obtain ⟨y, h3, h4⟩ := unDs_spec (u :: ts) ds _ h1
    exact ⟨(x, y), h3, h2, h4⟩
theorem unD_nat {ρ : Type} {r : ρ} {t : Ty} {d : D} {k : t.den → Option ρ} (h : unD t d k = some r) : ∃ x, k x = some r ∧ ∀ {σ : Type} (q : t.den → Option σ), unD t d q = q x := by
  cases t <;> cases d <;> first
    | (cases h; done)
    | exact ⟨_, h, fun _ => rfl⟩
    | (simp only [unD] at h ⊢; split at h; (· rename_i e; subst e; exact ⟨_, h, fun q => by simp⟩); (· cases h))
theorem unDs_spec' {ρ : Type} {r : ρ} : ∀ (ts : List Ty) (ds : List D) (k : tup ts → Option ρ), unDs ts ds k = some r → ∃ x, k x = some r ∧ ∀ {σ : Type} (q : tup ts → Option σ), unDs ts ds q = q x
  | [], [], k, h => ⟨(), h, fun _ => rfl⟩
  | [], _ :: _, k, h => by cases h
  | [t], [], k, h => by cases h
  | [t], [d], k, h => unD_nat h
  | [t], _ :: _ :: _, k, h => by cases h
  | t :: u :: ts, [], k, h => by cases h
  | t :: u :: ts, d :: ds, k, h => by
    simp only [unDs] at h ⊢
    obtain ⟨x, h1, h2⟩ := unD_nat h
    obtain ⟨y, h3, h4⟩ := unDs_spec' (u :: ts) ds _ h1
    exact ⟨(x, y), h3, fun q => by rw [h2, h4]⟩
inductive Lf where
  | u
  | v (t : Ty)
  | all (b : Nat)
  | bb (b : Nat)
  | ptr (b e c : Nat)
  | pon (b e c : Nat)
  | nilp
  /-- the nil slice -/
  | emp
  | k (q : IntKind) (n : Int)
  deriving Inhabited, DecidableEq
inductive Sh where
  | l (x : Lf)
  | agg (xs : List Lf)
  | clo (f : Nat) (xs : List Lf)
  deriving Inhabited, DecidableEq
inductive Bs where
  | row (t : Ty)
  | mix (ty : Option TypeId) (els : List (List Sh))
  | map (t : Ty)
  deriving Inhabited
structure BSh where
  s : Nat
  mv : Bool
  c : Bs
  deriving Inhabited
structure StSh where
  fr : List Sh
  hp : List (Nat × BSh)
  deriving Inhabited
def Lf.tys : Lf → List Ty
  | .v t => [t]
  | .k q _ => [.i q]
  | _ => []
def tysLs : List Lf → List Ty
  | [] => []
  | x :: xs => x.tys ++ tysLs xs
def Sh.tys : Sh → List Ty
  | .l x => x.tys
  | .agg xs => tysLs xs
  | .clo _ xs => tysLs xs
def tysShs : List Sh → List Ty
  | [] => []
  | x :: xs => x.tys ++ tysShs xs
def tysEls : List (List Sh) → List Ty
  | [] => []
  | x :: xs => tysShs x ++ tysEls xs
def BSh.tys (k : BSh) : List Ty := match k.c with
  | .row t => [.l t]
  | .mix _ els => tysEls els
  | .map t => [.l (.c .s t)]
def tysBs : List BSh → List Ty
  | [] => []
  | x :: xs => x.tys ++ tysBs xs
def StSh.tys (s : StSh) : List Ty := tysShs s.fr ++ tysBs (s.hp.map (·.2))
def fillL {α : Type} : Lf → List D → (SV → List D → α) → α
  | .u, ds, k => k .undef ds
  | .v _, d :: ds, k => k (.d d) ds
  | .v _, [], k => k .undef []
  | .all b, ds, k => k (.all b) ds
  | .bb b, ds, k => k (.bb b) ds
  | .ptr b e c, ds, k => k (.ptr b e c) ds
  | .pon b e c, ds, k => k (.pon b e c) ds
  | .nilp, ds, k => k (.d .nilp) ds
  | .emp, ds, k => k (.d .emp) ds
  | .k q n, _ :: ds, k => k (.d (.i q n)) ds
  | .k _ _, [], k => k .undef []
def fillLs {α : Type} : List Lf → List D → (List SV → List D → α) → α
  | [], ds, k => k [] ds
  | x :: xs, ds, k => fillL x ds fun v ds => fillLs xs ds fun vs ds => k (v :: vs) ds
def fillSh {α : Type} : Sh → List D → (SV → List D → α) → α
  | .l x, ds, k => fillL x ds k
  | .agg xs, ds, k => fillLs xs ds fun vs ds => k (.agg vs) ds
  | .clo f xs, ds, k => fillLs xs ds fun vs ds => k (.clo f vs) ds
def fillShs {α : Type} : List Sh → List D → (List SV → List D → α) → α
  | [], ds, k => k [] ds
  | x :: xs, ds, k => fillSh x ds fun v ds => fillShs xs ds fun vs ds => k (v :: vs) ds
def fillEs {α : Type} : List (List Sh) → List D → (List (List SV) → List D → α) → α
  | [], ds, k => k [] ds
  | x :: xs, ds, k => fillShs x ds fun v ds => fillEs xs ds fun vs ds => k (v :: vs) ds
def fillB {α : Type} (b : BSh) (ds : List D) (k : Blk → List D → α) : α :=
  match b.c with
  | .row _ => match ds with
    | .rov t xs :: ds => k ⟨b.s, b.mv, .row t xs⟩ ds
    | ds => k ⟨b.s, b.mv, .mix none []⟩ ds
  | .mix ty els => fillEs els ds fun vs ds => k ⟨b.s, b.mv, .mix ty vs⟩ ds
  | .map _ => match ds with
    | .rov (.c .s t) xs :: ds => k ⟨b.s, b.mv, .map t xs⟩ ds
    | ds => k ⟨b.s, b.mv, .mix none []⟩ ds
def fillBs {α : Type} : List BSh → List D → (List Blk → List D → α) → α
  | [], ds, k => k [] ds
  | x :: xs, ds, k => fillB x ds fun v ds => fillBs xs ds fun vs ds => k (v :: vs) ds
def grabL : Lf → SV → Option (List D)
  | .u, _ => some []
  | .v _, .d d => some [d]
  | .all b, .all b' => if b' = b then some [] else none
  | .bb b, .bb b' => if b' = b then some [] else none
  | .ptr b e c, .ptr b' e' c' => if b' = b ∧ e' = e ∧ c' = c then some [] else none
  | .pon b e c, .ptr b' e' c' => if b' = b ∧ e' = e ∧ c' = c then some [] else none
  | .pon b e c, .pon b' e' c' => if b' = b ∧ e' = e ∧ c' = c then some [] else none
  | .pon _ _ _, .d .nilp => some []
  | .nilp, .d .nilp => some []
  | .emp, .d .emp => some []
  | .k q n, .d (.i q' n') => if q' = q ∧ n' = n then some [.i q n] else none
  | _, _ => none
def apO : Option (List D) → Option (List D) → Option (List D)
  | some x, some y => some (x ++ y)
  | _, _ => none
def grabLs : List Lf → List SV → Option (List D)
  | [], [] => some []
  | x :: xs, v :: vs => apO (grabL x v) (grabLs xs vs)
  | _, _ => none
def grabSh : Sh → SV → Option (List D)
  | .l x, v => grabL x v
  | .agg xs, .agg vs => grabLs xs vs
  | .clo f xs, .clo f' vs => if f' = f then grabLs xs vs else none
  | _, _ => none
def grabShs : List Sh → List SV → Option (List D)
  | [], [] => some []
  | x :: xs, v :: vs => apO (grabSh x v) (grabShs xs vs)
  | _, _ => none
def grabEs : List (List Sh) → List (List SV) → Option (List D)
  | [], [] => some []
  | x :: xs, v :: vs => apO (grabShs x v) (grabEs xs vs)
  | _, _ => none
def tyLe : Option TypeId → Option TypeId → Bool
  | none, _ => true
  | some t, some t' => t == t'
  | some _, none => false
def grabB (b : BSh) (k : Blk) : Option (List D) :=
  if k.s = b.s ∧ (b.mv = true ∨ k.mv = false) then
    match b.c, k.c with
    | .row t, .row t' xs => if t' = t then some [.rov t' xs] else none
    | .mix ty els, .mix ty' vs => if tyLe ty ty' then grabEs els vs else none
    | .map t, .map t' es => if t' = t then some [.rov (.c .s t') es] else none
    | _, _ => none
  else none
def grabBs : List BSh → List Blk → Option (List D)
  | [], [] => some []
  | x :: xs, v :: vs => apO (grabB x v) (grabBs xs vs)
  | _, _ => none
def SSubs : List SV → List SV → Prop
  | [], [] => True
  | d :: ds, e :: es => Sub d e ∧ SSubs ds es
  | _, _ => False
theorem SSubs.len : ∀ {l l' : List SV}, SSubs l l' → l'.length = l.length
  | [], [], _ => rfl
  | _ :: _, _ :: _, h => by simp [SSubs.len h.2]
  | [], _ :: _, h => h.elim
  | _ :: _, [], h => h.elim
theorem SSubs.get : ∀ {l l' : List SV}, SSubs l l' → ∀ (i : Nat) y, l'[i]? = some y → ∃ x, l[i]? = some x ∧ Sub x y
  | [], [], _, i, y, h => by simp at h
  | x :: xs, y :: ys, h, i, z, hz => by
    cases i with
    | zero => simp at hz; subst hz; exact ⟨x, rfl, h.1⟩
    | succ i => simp at hz; simpa using SSubs.get h.2 i z hz
  | [], _ :: _, h, _, _, _ => h.elim
  | _ :: _, [], h, _, _, _ => h.elim
theorem SSubs.refl : ∀ (l : List SV), SSubs l l
  | [] => trivial
  | x :: xs => ⟨.refl x, SSubs.refl xs⟩
theorem Sub.agg {l l' : List SV} (h : SSubs l l') : Sub (.agg l) (.agg l') := fun w β S v hv => by
  cases hv with
  | agg vs cs hsz hc =>
    refine .agg vs l' (by rw [hsz, h.len]) fun i v c h1 h2 => ?_
    obtain ⟨x, hx, hs⟩ := h.get i c h2
    exact hs _ _ _ _ (hc i v x h1 hx)
theorem Sub.clo {f : Nat} {l l' : List SV} (h : SSubs l l') : Sub (.clo f l) (.clo f l') := fun w β S v hv => by
  cases hv with
  | clo f vs cs hf hsz hc =>
    refine .clo f vs l' hf (by rw [hsz, h.len]) fun i v c h1 h2 => ?_
    obtain ⟨x, hx, hs⟩ := h.get i c h2
    exact hs _ _ _ _ (hc i v x h1 hx)
  | fsl b o n c cs us h1 h2 h3 h4 h5 h6 =>
    refine .fsl b o n c l' us h1 h2 (h3.trans h.len.symm) h4 (fun j y g1 => ?_) (fun j y g1 => ?_)
    · obtain ⟨x, hx, hs⟩ := h.get j y g1; exact h5 j x hx
    · obtain ⟨x, hx, hs⟩ := h.get j y g1; exact hs _ _ _ _ (h6 j x hx)
  | mp r x h4 =>
    match l', h with
    | [y], h => exact .mp r y (h.1 _ _ _ _ h4)
    | [], h => exact h.elim
  | fpt b o u x h1 h2 h3 h4 =>
    match l', h with
    | [y], h => exact .fpt b o u y h1 h2 h3 (h.1 _ _ _ _ h4)
    | [], h => exact h.elim
    | _ :: _ :: _, h => exact h.2.elim
theorem Sub.ret : ∀ {l l' : List SV}, SSubs l l' → Sub (retSV l) (retSV l')
  | [], [], _ => .refl _
  | [x], [y], h => h.1
  | [_], [], h => h.elim
  | [], _ :: _, h => h.elim
  | [_], _ :: _ :: _, h => h.2.elim
  | _ :: _ :: _, [], h => h.elim
  | _ :: _ :: _, [_], h => h.2.elim
  | x :: x' :: xs, y :: y' :: ys, h => fun w β S v hv => by
    cases hv with
    | tup vs cs hsz hc =>
      refine .tup vs _ (by rw [hsz, h.len]) fun i v c h1 h2 => ?_
      obtain ⟨z, hz, hs⟩ := h.get i c h2
      exact hs _ _ _ _ (hc i v z h1 hz)
structure BSub (k k' : Blk) : Prop where
  s : k.s = k'.s
  mv : k'.mv = false → k.mv = false
  len : k'.c.len = k.c.len
  lens : ∀ e, k'.c.lens? e = k.c.lens? e
  ty : ∀ t, k'.c.ty? = some t → k.c.ty? = some t
  gr : ∀ T, k.c.ty? = some (T, false) → k'.c.ty? = some (T, false)
  cell : ∀ e c y, k'.c.cell? e c = some y → ∃ x, k.c.cell? e c = some x ∧ Sub x y
  mp : ∀ t es, k.c = .map t es → k'.c = .map t es
theorem BSub.refl (k : Blk) : BSub k k := ⟨rfl, id, rfl, fun _ => rfl, fun _ => id, fun _ => id, fun _ _ y h => ⟨y, h, .refl _⟩, fun _ _ e => e⟩
def BSubs : List Blk → List Blk → Prop
  | [], [] => True
  | d :: ds, e :: es => BSub d e ∧ BSubs ds es
  | _, _ => False
theorem BSubs.len : ∀ {l l' : List Blk}, BSubs l l' → l'.length = l.length
  | [], [], _ => rfl
  | _ :: _, _ :: _, h => by simp [BSubs.len h.2]
  | [], _ :: _, h => h.elim
  | _ :: _, [], h => h.elim
theorem BSubs.get : ∀ {l l' : List Blk}, BSubs l l' → ∀ (i : Nat) y, l'[i]? = some y → ∃ x, l[i]? = some x ∧ BSub x y
  | [], [], _, i, y, h => by simp at h
  | x :: xs, y :: ys, h, i, z, hz => by
    cases i with
    | zero => simp at hz; subst hz; exact ⟨x, rfl, h.1⟩
    | succ i => simp at hz; simpa using BSubs.get h.2 i z hz
  | [], _ :: _, h, _, _, _ => h.elim
  | _ :: _, [], h, _, _, _ => h.elim
section
variable {P : Program} [Gl P] {X : Ctx P} {w : World} {β : Nat → Option BA} {S : Nat → Prop}
theorem HK.sub {b : Nat} {k k' : Blk} (h : HK w β S b k) (hs : BSub k k') : HK w β S b k' := by
  rcases h with (⟨h1, h2⟩ | hm) | ⟨ba, arr, ty, fz, h1, h2, h3, h4, h5, h6, h7, h8, h9⟩
  · exact .inl (.inl ⟨hs.len.trans h1, h2⟩)
  · exact .inl (.inr (hm.to hs.mp hs.s.symm rfl (fun _ _ => rfl) (fun _ hk => ⟨hk, rfl⟩) (Nat.le_refl _)))
  · refine .inr ⟨ba, arr, ty, fz, h1, ⟨h2.1.trans hs.s, h2.2.1.trans hs.len.symm, fun t ht => ?_⟩, by rw [← hs.s]; exact h3, h4, ⟨fun i hi hf => (let ⟨⟨T, hT⟩, hlt⟩ := h5.at_ i hi hf; ⟨⟨T, hs.gr T hT⟩, by rw [hs.len, ← hs.s]; exact hlt⟩), fun ⟨T, hT⟩ => by rw [hs.len, ← hs.s]; exact h5.y ⟨T, hs.ty _ hT⟩⟩, h6, by rw [hs.len, ← hs.s]; exact h7, fun e l hl => by rw [← hs.s]; exact h8 e l (by rw [← hs.lens]; exact hl), fun e c sv hc => ?_⟩
    · obtain ⟨q1, q2, q3⟩ := h2.2.2 t (hs.ty t ht)
      exact ⟨q1, q2, fun hh => (q3 hh).trans hs.s⟩
    · obtain ⟨x, hx, hsub⟩ := hs.cell e c sv hc
      obtain ⟨u, u1, u2, u3⟩ := h9 e c x hx
      rw [← hs.s]
      exact ⟨u, u1, u2, hsub _ _ _ _ u3⟩
theorem Weak.sub {n0 : Nat} {st st' : St} (hf : SSubs st.fr st'.fr) (hh : ∀ b k', st'.hp b = some k' → ∃ k, st.hp b = some k ∧ BSub k k') : Weak n0 st st' := by
  rintro P gP X a w _ _ ⟨hd, β, S, hr⟩
  refine ⟨hd, β, S, by rw [hr.size, hf.len], fun t v sv h1 h2 => ?_, fun b k h1 => ?_, fun b b' ba ba' k k' h1 h2 => ?_, fun b k ba h1 => ?_, hr.sbd, hr.old, hr.os, hr.tape, hr.out, hr.grow, hr.s0, hr.s1, fun b k h0 h1 hm => ?_⟩
  · obtain ⟨x, hx, hs⟩ := hf.get t sv h2
    exact hs _ _ _ _ (hr.fr t v x h1 hx)
  · obtain ⟨k0, hk0, hs⟩ := hh b k h1
    exact (hr.hp b k0 hk0).sub hs
  · obtain ⟨k0, hk0, _⟩ := hh b k h1
    obtain ⟨k0', hk0', _⟩ := hh b' k' h2
    exact hr.inj b b' ba ba' k0 k0' hk0 hk0'
  · obtain ⟨k0, hk0, _⟩ := hh b k h1
    exact hr.excl b k0 ba hk0
  · obtain ⟨k0, hk0, hs⟩ := hh b k h1
    exact hr.fix b k0 h0 hk0 (hs.mv hm)
end
theorem DSubs.split : ∀ {a b c : List D}, DSubs (a ++ b) c → ∃ c1 c2, c = c1 ++ c2 ∧ DSubs a c1 ∧ DSubs b c2
  | [], b, c, h => ⟨[], c, rfl, trivial, h⟩
  | x :: a, b, [], h => by cases b <;> exact h.elim
  | x :: a, b, y :: c, h => by
    obtain ⟨c1, c2, h1, h2, h3⟩ := DSubs.split h.2
    exact ⟨y :: c1, c2, by rw [h1]; rfl, ⟨h.1, h2⟩, h3⟩
theorem apO_some {x y : Option (List D)} {z : List D} (h : apO x y = some z) : ∃ a b, x = some a ∧ y = some b ∧ z = a ++ b := by
  unfold apO at h
  split at h
  · cases h; exact ⟨_, _, rfl, rfl, rfl⟩
  · cases h
theorem fillL_grab {α : Type} {x : Lf} {v : SV} {ds : List D} (h : grabL x v = some ds) {es : List D} (hs : DSubs ds es) (r : List D) (k : SV → List D → α) : ∃ v', fillL x (es ++ r) k = k v' r ∧ Sub v v' := by
  unfold grabL at h
  split at h
  · cases h
    match es, hs with
    | [], _ => exact ⟨.undef, rfl, fun _ _ _ _ _ => .undef _⟩
  · cases h
    match es, hs with
    | [e], hs => exact ⟨.d e, rfl, hs.1.sub⟩
  · split at h
    · rename_i e; subst e; cases h
      match es, hs with
      | [], _ => exact ⟨_, rfl, .refl _⟩
    · cases h
  · split at h
    · rename_i e; subst e; cases h
      match es, hs with
      | [], _ => exact ⟨_, rfl, .refl _⟩
    · cases h
  · split at h
    · rename_i e; obtain ⟨rfl, rfl, rfl⟩ := e; cases h
      match es, hs with
      | [], _ => exact ⟨_, rfl, .refl _⟩
    · cases h
  · split at h
    · rename_i e; obtain ⟨rfl, rfl, rfl⟩ := e; cases h
      match es, hs with
      | [], _ => exact ⟨_, rfl, fun _ _ _ _ hv => by cases hv with | ptr _ _ _ ba hb => exact .pon _ _ _ ba hb⟩
    · cases h
  · split at h
    · rename_i e; obtain ⟨rfl, rfl, rfl⟩ := e; cases h
      match es, hs with
      | [], _ => exact ⟨_, rfl, .refl _⟩
    · cases h
  · cases h
    match es, hs with
    | [], _ => exact ⟨_, rfl, fun _ _ _ _ hv => by rw [hv.inv_nilp]; exact .pon0 _ _ _⟩
  · cases h
    match es, hs with
    | [], _ => exact ⟨_, rfl, .refl _⟩
  · cases h
    match es, hs with
    | [], _ => exact ⟨_, rfl, .refl _⟩
  · split at h
    · rename_i e; obtain ⟨rfl, rfl⟩ := e; cases h
      match es, hs with
      | [e], hs => exact ⟨_, rfl, .refl _⟩
    · cases h
  · cases h
theorem fillLs_grab {α : Type} : ∀ {xs : List Lf} {vs : List SV} {ds : List D}, grabLs xs vs = some ds → ∀ {es : List D}, DSubs ds es → ∀ (r : List D) (k : List SV → List D → α), ∃ vs', fillLs xs (es ++ r) k = k vs' r ∧ SSubs vs vs'
  | [], [], ds, h, es, hs, r, k => by
    cases h
    match es, hs with
    | [], _ => exact ⟨[], rfl, trivial⟩
  | x :: xs, v :: vs, ds, h, es, hs, r, k => by
    obtain ⟨a, b, h1, h2, rfl⟩ := apO_some h
    obtain ⟨e1, e2, rfl, h3, h4⟩ := DSubs.split hs
    obtain ⟨v', g1, g2⟩ := fillL_grab h1 h3 (e2 ++ r) fun v ds => fillLs xs ds fun vs ds => k (v :: vs) ds
    obtain ⟨vs', g3, g4⟩ := fillLs_grab h2 h4 r fun vs ds => k (v' :: vs) ds
    exact ⟨v' :: vs', by rw [List.append_assoc]; exact g1.trans g3, g2, g4⟩
  | [], _ :: _, _, h, _, _, _, _ => by cases h
  | _ :: _, [], _, h, _, _, _, _ => by cases h
theorem fillSh_grab {α : Type} {x : Sh} {v : SV} {ds : List D} (h : grabSh x v = some ds) {es : List D} (hs : DSubs ds es) (r : List D) (k : SV → List D → α) : ∃ v', fillSh x (es ++ r) k = k v' r ∧ Sub v v' := by
  unfold grabSh at h
  split at h
  · exact fillL_grab h hs r k
  · rename_i xs vs
    obtain ⟨vs', h1, h2⟩ := fillLs_grab h hs r fun vs ds => k (.agg vs) ds
    exact ⟨_, h1, .agg h2⟩
  · rename_i f xs f' vs
    split at h
    · rename_i e; subst e
      obtain ⟨vs', h1, h2⟩ := fillLs_grab h hs r fun vs ds => k (.clo f' vs) ds
      exact ⟨_, h1, .clo h2⟩
    · cases h
  · cases h
theorem fillShs_grab {α : Type} : ∀ {xs : List Sh} {vs : List SV} {ds : List D}, grabShs xs vs = some ds → ∀ {es : List D}, DSubs ds es → ∀ (r : List D) (k : List SV → List D → α), ∃ vs', fillShs xs (es ++ r) k = k vs' r ∧ SSubs vs vs'
  | [], [], ds, h, es, hs, r, k => by
    cases h
    match es, hs with
    | [], _ => exact ⟨[], rfl, trivial⟩
  | x :: xs, v :: vs, ds, h, es, hs, r, k => by
    obtain ⟨a, b, h1, h2, rfl⟩ := apO_some h
    obtain ⟨e1, e2, rfl, h3, h4⟩ := DSubs.split hs
    obtain ⟨v', g1, g2⟩ := fillSh_grab h1 h3 (e2 ++ r) fun v ds => fillShs xs ds fun vs ds => k (v :: vs) ds
    obtain ⟨vs', g3, g4⟩ := fillShs_grab h2 h4 r fun vs ds => k (v' :: vs) ds
    exact ⟨v' :: vs', by rw [List.append_assoc]; exact g1.trans g3, g2, g4⟩
  | [], _ :: _, _, h, _, _, _, _ => by cases h
  | _ :: _, [], _, h, _, _, _, _ => by cases h
def ESubs : List (List SV) → List (List SV) → Prop
  | [], [] => True
  | d :: ds, e :: es => SSubs d e ∧ ESubs ds es
  | _, _ => False
theorem fillEs_grab {α : Type} : ∀ {xs : List (List Sh)} {vs : List (List SV)} {ds : List D}, grabEs xs vs = some ds → ∀ {es : List D}, DSubs ds es → ∀ (r : List D) (k : List (List SV) → List D → α), ∃ vs', fillEs xs (es ++ r) k = k vs' r ∧ ESubs vs vs'
  | [], [], ds, h, es, hs, r, k => by
    cases h
    match es, hs with
    | [], _ => exact ⟨[], rfl, trivial⟩
  | x :: xs, v :: vs, ds, h, es, hs, r, k => by
    obtain ⟨a, b, h1, h2, rfl⟩ := apO_some h
    obtain ⟨e1, e2, rfl, h3, h4⟩ := DSubs.split hs
    obtain ⟨v', g1, g2⟩ := fillShs_grab h1 h3 (e2 ++ r) fun v ds => fillEs xs ds fun vs ds => k (v :: vs) ds
    obtain ⟨vs', g3, g4⟩ := fillEs_grab h2 h4 r fun vs ds => k (v' :: vs) ds
    exact ⟨v' :: vs', by rw [List.append_assoc]; exact g1.trans g3, g2, g4⟩
  | [], _ :: _, _, h, _, _, _, _ => by cases h
  | _ :: _, [], _, h, _, _, _, _ => by cases h
theorem ESubs.len : ∀ {l l' : List (List SV)}, ESubs l l' → l'.length = l.length
  | [], [], _ => rfl
  | _ :: _, _ :: _, h => by simp [ESubs.len h.2]
  | [], _ :: _, h => h.elim
  | _ :: _, [], h => h.elim
theorem ESubs.get : ∀ {l l' : List (List SV)}, ESubs l l' → ∀ (i : Nat), (l'[i]? = none ∧ l[i]? = none) ∨ ∃ x y, l'[i]? = some y ∧ l[i]? = some x ∧ SSubs x y
  | [], [], _, i => .inl (by simp)
  | x :: xs, y :: ys, h, i => by
    cases i with
    | zero => exact .inr ⟨x, y, rfl, rfl, h.1⟩
    | succ i => simpa using ESubs.get h.2 i
  | [], _ :: _, h, _ => h.elim
  | _ :: _, [], h, _ => h.elim
theorem fillB_grab {α : Type} {x : BSh} {v : Blk} {ds : List D} (h : grabB x v = some ds) {es : List D} (hs : DSubs ds es) (r : List D) (k : Blk → List D → α) : ∃ v', fillB x (es ++ r) k = k v' r ∧ BSub v v' := by
  unfold grabB at h
  split at h
  case isFalse => cases h
  rename_i hc
  obtain ⟨xs, xmv, xc⟩ := x
  obtain ⟨vs, vmv, vc⟩ := v
  simp only at h hc
  obtain ⟨rfl, hmv⟩ := hc
  have hm : xmv = false → vmv = false := fun h => by rcases hmv with h1 | h1; (· rw [h] at h1; cases h1); (· exact h1)
  split at h
  · split at h
    · rename_i t t' ys e
      subst e
      cases h
      match es, hs with
      | [e], hs =>
      obtain rfl : e = .rov t' ys := by
        rcases hs.1 with h | ⟨h, _⟩
        · exact h
        · cases h
      exact ⟨_, rfl, ⟨rfl, hm, rfl, fun _ => rfl, fun _ h => h, fun _ h => h, fun _ _ y h => ⟨y, h, .refl _⟩, fun _ _ e => e⟩⟩
    · cases h
  · split at h
    · rename_i ty els ty' vls hty
      obtain ⟨vs', h1, h2⟩ := fillEs_grab h hs r fun ws ds => k ⟨vs, xmv, .mix ty ws⟩ ds
      refine ⟨_, h1, ⟨rfl, hm, h2.len, fun e => ?_, fun t ht => ?_, fun T hT => by cases ty' <;> simp [BC.ty?] at hT, fun e c y hy => ?_, fun _ _ e => by cases e⟩⟩
      · simp only [BC.lens?]
        rcases h2.get e with ⟨g1, g2⟩ | ⟨a, b, g1, g2, g3⟩
        · rw [g1, g2]
        · rw [g1, g2]; simp [g3.len]
      · simp only [BC.ty?] at ht ⊢
        unfold tyLe at hty
        cases ty with
        | none => cases ht
        | some t1 =>
          cases ty' with
          | none => cases hty
          | some t2 =>
            have e : t1 = t2 := by simpa using hty
            subst e; exact ht
      · simp only [BC.cell?] at hy ⊢
        rcases h2.get e with ⟨g1, g2⟩ | ⟨a, b, g1, g2, g3⟩
        · rw [g1] at hy; cases hy
        · rw [g1] at hy
          simp only [Option.bind_some] at hy
          obtain ⟨z, z1, z2⟩ := g3.get c y hy
          exact ⟨z, by rw [g2]; exact z1, z2⟩
    · cases h
  · split at h
    · rename_i t t' ys e
      subst e
      cases h
      match es, hs with
      | [e], hs =>
      obtain rfl : e = .rov (.c .s t') ys := by
        rcases hs.1 with h | ⟨h, _⟩
        · exact h
        · cases h
      exact ⟨_, rfl, ⟨rfl, hm, rfl, fun _ => rfl, fun _ h => h, fun _ h => h, fun _ _ y h => ⟨y, h, .refl _⟩, fun _ _ e => e⟩⟩
    · cases h
  · cases h
theorem fillBs_grab {α : Type} : ∀ {xs : List BSh} {vs : List Blk} {ds : List D}, grabBs xs vs = some ds → ∀ {es : List D}, DSubs ds es → ∀ (r : List D) (k : List Blk → List D → α), ∃ vs', fillBs xs (es ++ r) k = k vs' r ∧ BSubs vs vs'
  | [], [], ds, h, es, hs, r, k => by
    cases h
    match es, hs with
    | [], _ => exact ⟨[], rfl, trivial⟩
  | x :: xs, v :: vs, ds, h, es, hs, r, k => by
    obtain ⟨a, b, h1, h2, rfl⟩ := apO_some h
    obtain ⟨e1, e2, rfl, h3, h4⟩ := DSubs.split hs
    obtain ⟨v', g1, g2⟩ := fillB_grab h1 h3 (e2 ++ r) fun v ds => fillBs xs ds fun vs ds => k (v :: vs) ds
    obtain ⟨vs', g3, g4⟩ := fillBs_grab h2 h4 r fun vs ds => k (v' :: vs) ds
    exact ⟨v' :: vs', by rw [List.append_assoc]; exact g1.trans g3, g2, g4⟩
  | [], _ :: _, _, h, _, _, _, _ => by cases h
  | _ :: _, [], _, h, _, _, _, _ => by cases h
theorem fillL_nat {α β : Type} (f : α → β) : ∀ (x : Lf) (ds : List D) (k : SV → List D → α), f (fillL x ds k) = fillL x ds fun v ds => f (k v ds)
  | .u, _, _ => rfl
  | .v _, _ :: _, _ => rfl
  | .v _, [], _ => rfl
  | .all _, _, _ => rfl
  | .bb _, _, _ => rfl
  | .ptr _ _ _, _, _ => rfl
  | .pon _ _ _, _, _ => rfl
  | .nilp, _, _ => rfl
  | .emp, _, _ => rfl
  | .k _ _, _ :: _, _ => rfl
  | .k _ _, [], _ => rfl
theorem fillLs_nat {α β : Type} (f : α → β) : ∀ (xs : List Lf) (ds : List D) (k : List SV → List D → α), f (fillLs xs ds k) = fillLs xs ds fun v ds => f (k v ds)
  | [], _, _ => rfl
  | x :: xs, ds, k => by
    simp only [fillLs]
    rw [fillL_nat f]
    congr 1
    funext v ds
    exact fillLs_nat f xs ds _
theorem fillSh_nat {α β : Type} (f : α → β) (x : Sh) (ds : List D) (k : SV → List D → α) : f (fillSh x ds k) = fillSh x ds fun v ds => f (k v ds) := by
  cases x with
  | l x => exact fillL_nat f x ds k
  | agg xs => exact fillLs_nat f xs ds _
  | clo g xs => exact fillLs_nat f xs ds _
theorem fillShs_nat {α β : Type} (f : α → β) : ∀ (xs : List Sh) (ds : List D) (k : List SV → List D → α), f (fillShs xs ds k) = fillShs xs ds fun v ds => f (k v ds)
  | [], _, _ => rfl
  | x :: xs, ds, k => by
    simp only [fillShs]
    rw [fillSh_nat f]
    congr 1
    funext v ds
    exact fillShs_nat f xs ds _
theorem fillEs_nat {α β : Type} (f : α → β) : ∀ (xs : List (List Sh)) (ds : List D) (k : List (List SV) → List D → α), f (fillEs xs ds k) = fillEs xs ds fun v ds => f (k v ds)
  | [], _, _ => rfl
  | x :: xs, ds, k => by
    simp only [fillEs]
    rw [fillShs_nat f]
    congr 1
    funext v ds
    exact fillEs_nat f xs ds _
theorem fillB_nat {α β : Type} (f : α → β) (x : BSh) (ds : List D) (k : Blk → List D → α) : f (fillB x ds k) = fillB x ds fun v ds => f (k v ds) := by
  obtain ⟨s, mv, c⟩ := x
  cases c with
  | row t =>
    simp only [fillB]
    cases ds with
    | nil => rfl
    | cons d ds => cases d <;> rfl
  | mix ty els => exact fillEs_nat f els ds _
  | map t =>
    simp only [fillB]
    cases ds with
    | nil => rfl
    | cons d ds => cases d <;> first | rfl | (rename_i t xs; cases t <;> first | rfl | (rename_i a b0; cases a <;> rfl))
theorem fillBs_nat {α β : Type} (f : α → β) : ∀ (xs : List BSh) (ds : List D) (k : List Blk → List D → α), f (fillBs xs ds k) = fillBs xs ds fun v ds => f (k v ds)
  | [], _, _ => rfl
  | x :: xs, ds, k => by
    simp only [fillBs]
    rw [fillB_nat f]
    congr 1
    funext v ds
    exact fillBs_nat f xs ds _
end Go.U
