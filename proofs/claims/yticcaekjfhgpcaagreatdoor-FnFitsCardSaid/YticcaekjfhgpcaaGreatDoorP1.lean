/- A part of the proof. No condition. -/
set_option linter.unusedVariables false
set_option linter.unusedSimpArgs false
set_option linter.unusedSectionVars false
namespace Go.U.Exp
set_option maxRecDepth 100000
abbrev Bs := List UInt8
abbrev Nd := Int × Int × List UInt8
abbrev St := Bs × List Nd
abbrev Ps := Bs → List Nd → Option St
def isW (c : UInt8) : Bool := (97 ≤ c && c ≤ 122) || (48 ≤ c && c ≤ 57) || c == 95 || c == 46 || (65 ≤ c && c ≤ 70)
def putN (x : Nd) (t : St) : Option St := if t.2.length < 30 then some (t.1, t.2 ++ [x]) else none
def needP (t : St) : Option St := match t.1 with
  | d :: r => if d = 41 then some (r, t.2) else none
  | [] => none
def opAt : Bs → Option (Int × Nat × Bs)
  | [] => none
  | a :: r =>
    if a = 43 then some (8, 5, r) else if a = 45 then some (9, 5, r) else if a = 42 then some (10, 6, r)
    else if a = 47 then some (11, 6, r) else if a = 37 then some (12, 6, r) else if a = 38 then some (13, 3, r)
    else if a = 94 then some (14, 2, r) else if a = 124 then some (15, 1, r)
    else match r with
      | [] => none
      | b :: r => if a = 60 ∧ b = 60 then some (16, 4, r) else if a = 62 ∧ b = 62 then some (17, 4, r) else none
def wordB (rn : Bs → Option Int) (nm : Bs → Bool) (sg : Bs) (r : Bs) (o : List Nd) : Option St :=
  match rn (sg ++ r.takeWhile isW) with
  | some n => putN (1, n, []) (r.dropWhile isW, o)
  | none => if sg = [] ∧ nm (r.takeWhile isW) = true then putN (2, 0, r.takeWhile isW) (r.dropWhile isW, o) else none
def high_ : Bs := [104, 105, 103, 104, 40]
def low_ : Bs := [108, 111, 119, 40]
def bank_ : Bs := [98, 97, 110, 107, 40]
def valB (rn : Bs → Option Int) (nm : Bs → Bool) (L V : Ps) (r : Bs) (o : List Nd) : Option St :=
  if [45].isPrefixOf r then (V (r.drop 1) o).bind (putN (4, 0, []))
  else if [126].isPrefixOf r then (V (r.drop 1) o).bind (putN (5, 0, []))
  else if [40].isPrefixOf r then (L (r.drop 1) o).bind needP
  else if high_.isPrefixOf r then ((L (r.drop 5) o).bind needP).bind (putN (6, 0, []))
  else if low_.isPrefixOf r then ((L (r.drop 4) o).bind needP).bind (putN (7, 0, []))
  else if bank_.isPrefixOf r then
    if nm ((r.drop 5).takeWhile isW) = true then (needP ((r.drop 5).dropWhile isW, o)).bind (putN (3, 0, (r.drop 5).takeWhile isW)) else none
  else if [36].isPrefixOf r then wordB rn nm [36] (r.drop 1) o
  else if [37].isPrefixOf r then wordB rn nm [37] (r.drop 1) o
  else wordB rn nm [] r o
def loop2 (S : Nat → Ps) (least : Nat) : Nat → Bs → List Nd → Option St
  | 0, _, _ => none
  | n + 1, r, o => match opAt r with
    | none => some (r, o)
    | some (k, l, r1) => if l < least then some (r, o) else ((S (l + 1) r1 o).bind (putN (k, 0, []))).bind fun t => loop2 S least n t.1 t.2
def loop1 (L : Ps) (lv : Nat) : Nat → Bs → List Nd → Option St
  | 0, _, _ => none
  | n + 1, r, o => match opAt r with
    | none => some (r, o)
    | some (k, l, r1) => if l = lv then ((L r1 o).bind (putN (k, 0, []))).bind fun t => loop1 L lv n t.1 t.2 else some (r, o)
section
variable (rn : Bs → Option Int) (nm : Bs → Bool)
def S : Nat → Nat → Ps
  | 0 => fun _ _ _ => none
  | d + 1 => fun least r o => (valB rn nm (S d 1) (S d 7) r o).bind fun t => loop2 (S d) least (t.1.length + 1) t.1 t.2
def Good (P : Ps) : Prop := ∀ r o r' o', P r o = some (r', o') → (∃ p, r = p ++ r') ∧ (∃ e, o' = o ++ e)
theorem putN_some {x : Nd} {t t' : St} (h : putN x t = some t') : t' = (t.1, t.2 ++ [x]) ∧ t.2.length < 30 := by
  unfold putN at h; split at h
  · exact ⟨(Option.some.inj h).symm, by assumption⟩
  · exact nomatch h
theorem needP_some {t t' : St} (h : needP t = some t') : t = (41 :: t'.1, t'.2) := by
  obtain ⟨a, o⟩ := t
  unfold needP at h
  cases a with
  | nil => exact nomatch h
  | cons d r =>
    dsimp only at h; split at h
    · rename_i e; subst e; cases Option.some.inj h; rfl
    · exact nomatch h
theorem opAt_some {r : Bs} {k : Int} {l : Nat} {r1 : Bs} (h : opAt r = some (k, l, r1)) : (∃ p, p ≠ [] ∧ r = p ++ r1) ∧ 1 ≤ l ∧ l ≤ 6 ∧ 8 ≤ k ∧ k ≤ 17 := by
  cases r with
  | nil => exact nomatch h
  | cons a r =>
    unfold opAt at h
    dsimp only at h
    repeat' split at h
    all_goals first
      | (cases Option.some.inj h; exact ⟨⟨[a], List.cons_ne_nil _ _, rfl⟩, by omega, by omega, by omega, by omega⟩)
      | (rename_i b _ _; cases Option.some.inj h; exact ⟨⟨[a, b], List.cons_ne_nil _ _, rfl⟩, by omega, by omega, by omega, by omega⟩)
      | (rename_i b _ _ _; cases Option.some.inj h; exact ⟨⟨[a, b], List.cons_ne_nil _ _, rfl⟩, by omega, by omega, by omega, by omega⟩)
      | cases h
theorem suf_drop (r : Bs) (n : Nat) : ∃ p, r = p ++ r.drop n := ⟨r.take n, (List.take_append_drop n r).symm⟩
theorem suf_dw (r : Bs) : ∃ p, r = p ++ r.dropWhile isW := ⟨r.takeWhile isW, (List.takeWhile_append_dropWhile).symm⟩
theorem suf_trans {a b c : Bs} (h : ∃ p, a = p ++ b) (g : ∃ p, b = p ++ c) : ∃ p, a = p ++ c := by
  obtain ⟨p, rfl⟩ := h; obtain ⟨q, rfl⟩ := g; exact ⟨p ++ q, by rw [List.append_assoc]⟩
theorem ext_trans {a b c : List Nd} (h : ∃ e, b = a ++ e) (g : ∃ e, c = b ++ e) : ∃ e, c = a ++ e := by
  obtain ⟨p, rfl⟩ := h; obtain ⟨q, rfl⟩ := g; exact ⟨p ++ q, by rw [List.append_assoc]⟩
theorem suf_len {a b : Bs} (h : ∃ p, a = p ++ b) : b.length ≤ a.length := by
  obtain ⟨p, rfl⟩ := h; rw [List.length_append]; omega
theorem bind_some' {α β : Type} {x : Option α} {f : α → Option β} {b : β} (h : x.bind f = some b) : ∃ a, x = some a ∧ f a = some b := by
  cases x with
  | none => exact nomatch h
  | some a => exact ⟨a, rfl, h⟩
theorem good_word {sg r o r' o'} (h : wordB rn nm sg r o = some (r', o')) : (∃ p, r = p ++ r') ∧ (∃ e, o' = o ++ e) := by
  unfold wordB at h
  split at h
  · have := (putN_some h).1; cases this; exact ⟨suf_dw r, _, rfl⟩
  · split at h
    · have := (putN_some h).1; cases this; exact ⟨suf_dw r, _, rfl⟩
    · exact nomatch h
theorem good_val {L V : Ps} (hL : Good L) (hV : Good V) : Good (valB rn nm L V) := by
  intro r o r' o' h
  unfold valB at h
  split at h
  · obtain ⟨t, h1, h2⟩ := bind_some' h
    have h3 := (putN_some h2).1; cases h3
    obtain ⟨a, b⟩ := hV _ _ _ _ h1
    exact ⟨suf_trans (suf_drop r 1) a, ext_trans b ⟨_, rfl⟩⟩
  split at h
  · obtain ⟨t, h1, h2⟩ := bind_some' h
    have h3 := (putN_some h2).1; cases h3
    obtain ⟨a, b⟩ := hV _ _ _ _ h1
    exact ⟨suf_trans (suf_drop r 1) a, ext_trans b ⟨_, rfl⟩⟩
  split at h
  · obtain ⟨t, h1, h2⟩ := bind_some' h
    have h3 := needP_some h2; subst h3
    obtain ⟨a, b⟩ := hL _ _ _ _ h1
    exact ⟨suf_trans (suf_drop r 1) (suf_trans a ⟨[41], rfl⟩), b⟩
  split at h
  · obtain ⟨t, h1, h2⟩ := bind_some' h
    obtain ⟨u, h4, h5⟩ := bind_some' h1
    have h3 := needP_some h5; subst h3
    have h3 := (putN_some h2).1; cases h3
    obtain ⟨a, b⟩ := hL _ _ _ _ h4
    exact ⟨suf_trans (suf_drop r 5) (suf_trans a ⟨[41], rfl⟩), ext_trans b ⟨_, rfl⟩⟩
  split at h
  · obtain ⟨t, h1, h2⟩ := bind_some' h
    obtain ⟨u, h4, h5⟩ := bind_some' h1
    have h3 := needP_some h5; subst h3
    have h3 := (putN_some h2).1; cases h3
    obtain ⟨a, b⟩ := hL _ _ _ _ h4
    exact ⟨suf_trans (suf_drop r 4) (suf_trans a ⟨[41], rfl⟩), ext_trans b ⟨_, rfl⟩⟩
  split at h
  · split at h
    · obtain ⟨t, h1, h2⟩ := bind_some' h
      have h3 := needP_some h1
      have h4 := (putN_some h2).1; cases h4
      have h5 := congrArg Prod.fst h3
      have h6 := congrArg Prod.snd h3
      dsimp only at h5 h6
      exact ⟨suf_trans (suf_drop r 5) (suf_trans (suf_dw _) ⟨[41], h5⟩), ⟨_, by rw [h6]⟩⟩
    · exact nomatch h
  split at h
  · obtain ⟨a, b⟩ := good_word rn nm h
    exact ⟨suf_trans (suf_drop r 1) a, b⟩
  split at h
  · obtain ⟨a, b⟩ := good_word rn nm h
    exact ⟨suf_trans (suf_drop r 1) a, b⟩
  exact good_word rn nm h
theorem good_loop2 {S : Nat → Ps} (hS : ∀ l, Good (S l)) (least n : Nat) : Good (loop2 S least n) := by
  induction n with
  | zero => intro r o r' o' h; exact nomatch h
  | succ n ih =>
    intro r o r' o' h
    unfold loop2 at h
    split at h
    · cases Option.some.inj h; exact ⟨⟨[], rfl⟩, [], (List.append_nil o).symm⟩
    · rename_i k l r1 hop
      split at h
      · cases Option.some.inj h; exact ⟨⟨[], rfl⟩, [], (List.append_nil o).symm⟩
      · obtain ⟨t, h1, h2⟩ := bind_some' h
        obtain ⟨u, h3, h4⟩ := bind_some' h1
        have h5 := (putN_some h4).1; subst h5
        obtain ⟨a, b⟩ := hS _ _ _ _ _ h3
        obtain ⟨c, d⟩ := ih _ _ _ _ h2
        obtain ⟨p, _, hp⟩ := (opAt_some hop).1
        exact ⟨suf_trans ⟨p, hp⟩ (suf_trans a c), ext_trans b (ext_trans ⟨_, rfl⟩ d)⟩
theorem good_S (d : Nat) : ∀ l, Good (S rn nm d l) := by
  induction d with
  | zero => intro l r o r' o' h; exact nomatch h
  | succ d ih =>
    intro l r o r' o' h
    unfold S at h
    obtain ⟨t, h1, h2⟩ := bind_some' h
    obtain ⟨a, b⟩ := good_val rn nm (ih 1) (ih 7) _ _ _ _ h1
    obtain ⟨c, e⟩ := good_loop2 ih l _ _ _ _ _ h2
    exact ⟨suf_trans a c, ext_trans b e⟩
theorem ends_loop2 {S : Nat → Ps} (least n : Nat) : ∀ r o r' o', loop2 S least n r o = some (r', o') → ∀ k l r1, opAt r' = some (k, l, r1) → l < least := by
  induction n with
  | zero => intro r o r' o' h; exact nomatch h
  | succ n ih =>
    intro r o r' o' h
    unfold loop2 at h
    split at h
    · rename_i hop; cases Option.some.inj h; intro k l r1 g; rw [hop] at g; exact nomatch g
    · rename_i k l r1 hop
      split at h
      · rename_i hl; cases Option.some.inj h; intro k' l' r1' g; rw [hop] at g; cases Option.some.inj g; exact hl
      · obtain ⟨t, h1, h2⟩ := bind_some' h
        exact ih _ _ _ _ h2
theorem ends_S (d l : Nat) {r o r' o'} (h : S rn nm d l r o = some (r', o')) : ∀ k j r1, opAt r' = some (k, j, r1) → j < l := by
  cases d with
  | zero => exact nomatch h
  | succ d => unfold S at h; obtain ⟨t, h1, h2⟩ := bind_some' h; exact ends_loop2 _ _ _ _ _ _ h2
theorem loop2_stop {S : Nat → Ps} {least n : Nat} {r o} (h : ∀ k l r1, opAt r = some (k, l, r1) → l < least) : loop2 S least (n + 1) r o = some (r, o) := by
  unfold loop2
  split
  · rfl
  · rename_i k l r1 hop; rw [if_pos (h _ _ _ hop)]
theorem loops {S : Nat → Ps} (hS : ∀ l, Good (S l)) (hE : ∀ l r o r' o', S l r o = some (r', o') → ∀ k j r1, opAt r' = some (k, j, r1) → j < l) (k m : Nat) :
    ∀ r o, r.length ≤ m → ∀ n n' n'', m < n → m < n' → m < n'' →
    (loop2 S (k + 2) n r o).bind (fun t => loop1 (S (k + 2)) (k + 1) n' t.1 t.2) = loop2 S (k + 1) n'' r o := by
  induction m with
  | zero =>
    intro r o hr n n' n'' h1 h2 h3
    cases r with
    | cons a r => exact absurd hr (by simp)
    | nil =>
      obtain ⟨n, rfl⟩ : ∃ x, n = x + 1 := ⟨n - 1, by omega⟩
      obtain ⟨n', rfl⟩ : ∃ x, n' = x + 1 := ⟨n' - 1, by omega⟩
      obtain ⟨n'', rfl⟩ : ∃ x, n'' = x + 1 := ⟨n'' - 1, by omega⟩
      rfl
  | succ m ih =>
    intro r o hr n n' n'' h1 h2 h3
    obtain ⟨n, rfl⟩ : ∃ x, n = x + 1 := ⟨n - 1, by omega⟩
    obtain ⟨n', rfl⟩ : ∃ x, n' = x + 1 := ⟨n' - 1, by omega⟩
    obtain ⟨n'', rfl⟩ : ∃ x, n'' = x + 1 := ⟨n'' - 1, by omega⟩
    cases hop : opAt r with
    | none =>
      have e1 : loop2 S (k + 2) (n + 1) r o = some (r, o) := loop2_stop (by intro a b c g; rw [hop] at g; exact nomatch g)
      have e2 : loop2 S (k + 1) (n'' + 1) r o = some (r, o) := loop2_stop (by intro a b c g; rw [hop] at g; exact nomatch g)
      rw [e1, e2]
      show loop1 (S (k + 2)) (k + 1) (n' + 1) r o = _
      unfold loop1; rw [hop]
    | some x =>
      obtain ⟨kd, l, r1⟩ := x
      obtain ⟨⟨p, hp, hpr⟩, _⟩ := opAt_some hop
      have hlen : r1.length ≤ m := by
        rw [hpr, List.length_append] at hr
        have : 0 < p.length := List.length_pos_iff.mpr hp
        omega
      by_cases hl : l < k + 1
      · have e1 : loop2 S (k + 2) (n + 1) r o = some (r, o) := loop2_stop (by intro a b c g; rw [hop] at g; cases Option.some.inj g; omega)
        have e2 : loop2 S (k + 1) (n'' + 1) r o = some (r, o) := loop2_stop (by intro a b c g; rw [hop] at g; cases Option.some.inj g; omega)
        rw [e1, e2]
        show loop1 (S (k + 2)) (k + 1) (n' + 1) r o = _
        unfold loop1; rw [hop]; dsimp only; rw [if_neg (by omega)]
      by_cases hk : l = k + 1
      · subst hk
        have e1 : loop2 S (k + 2) (n + 1) r o = some (r, o) := loop2_stop (by intro a b c g; rw [hop] at g; cases Option.some.inj g; omega)
        rw [e1]
        show loop1 (S (k + 2)) (k + 1) (n' + 1) r o = _
        have e3 : loop1 (S (k + 2)) (k + 1) (n' + 1) r o = ((S (k + 2) r1 o).bind (putN (kd, 0, []))).bind fun t => loop1 (S (k + 2)) (k + 1) n' t.1 t.2 := by
          conv => lhs; unfold loop1
          rw [hop]; dsimp only; rw [if_pos rfl]
        have e4 : loop2 S (k + 1) (n'' + 1) r o = ((S (k + 2) r1 o).bind (putN (kd, 0, []))).bind fun t => loop2 S (k + 1) n'' t.1 t.2 := by
          conv => lhs; unfold loop2
          rw [hop]; dsimp only; rw [if_neg hl]
        rw [e3, e4]
        cases hs : S (k + 2) r1 o with
        | none => rfl
        | some t =>
          show (putN _ t).bind _ = (putN _ t).bind _
          cases hq : putN (kd, 0, []) t with
          | none => rfl
          | some u =>
            show loop1 _ _ n' u.1 u.2 = loop2 _ _ n'' u.1 u.2
            have hu := (putN_some hq).1
            have hul : u.1.length ≤ m := by
              rw [hu]; exact Nat.le_trans (suf_len ((hS _ _ _ _ _ hs).1)) hlen
            rw [← ih u.1 u.2 hul (m + 1) n' n'' (by omega) (by omega) (by omega)]
            rw [loop2_stop (by rw [hu]; exact hE _ _ _ _ _ hs)]
            rfl
      · have e3 : loop2 S (k + 2) (n + 1) r o = ((S (l + 1) r1 o).bind (putN (kd, 0, []))).bind fun t => loop2 S (k + 2) n t.1 t.2 := by
          conv => lhs; unfold loop2
          rw [hop]; dsimp only; rw [if_neg (by omega)]
        have e4 : loop2 S (k + 1) (n'' + 1) r o = ((S (l + 1) r1 o).bind (putN (kd, 0, []))).bind fun t => loop2 S (k + 1) n'' t.1 t.2 := by
          conv => lhs; unfold loop2
          rw [hop]; dsimp only; rw [if_neg (by omega)]
        rw [e3, e4]
        cases hs : S (l + 1) r1 o with
        | none => rfl
        | some t =>
          show ((putN _ t).bind _).bind _ = (putN _ t).bind _
          cases hq : putN (kd, 0, []) t with
          | none => rfl
          | some u =>
            show (loop2 _ _ n u.1 u.2).bind _ = loop2 _ _ n'' u.1 u.2
            have hu := (putN_some hq).1
            have hul : u.1.length ≤ m := by
              rw [hu]; exact Nat.le_trans (suf_len ((hS _ _ _ _ _ hs).1)) hlen
            exact ih u.1 u.2 hul n (n' + 1) n'' (by omega) (by omega) (by omega)
theorem S_seven (d : Nat) (r : Bs) (o : List Nd) : S rn nm (d + 1) 7 r o = valB rn nm (S rn nm d 1) (S rn nm d 7) r o := by
  show (valB rn nm (S rn nm d 1) (S rn nm d 7) r o).bind _ = _
  cases h : valB rn nm (S rn nm d 1) (S rn nm d 7) r o with
  | none => rfl
  | some t =>
    show loop2 _ 7 (t.1.length + 1) t.1 t.2 = _
    rw [loop2_stop (by intro k l r1 g; have := (opAt_some g).2; omega)]
theorem S_level (d k : Nat) (r : Bs) (o : List Nd) (n : Nat) (hn : r.length < n) :
    S rn nm (d + 1) (k + 1) r o = (S rn nm (d + 1) (k + 2) r o).bind fun t => loop1 (S rn nm d (k + 2)) (k + 1) n t.1 t.2 := by
  show (valB rn nm (S rn nm d 1) (S rn nm d 7) r o).bind _ = ((valB rn nm (S rn nm d 1) (S rn nm d 7) r o).bind _).bind _
  cases h : valB rn nm (S rn nm d 1) (S rn nm d 7) r o with
  | none => rfl
  | some t =>
    show loop2 _ _ _ _ _ = (loop2 _ _ _ _ _).bind _
    have hl := suf_len ((good_val rn nm (good_S rn nm d 1) (good_S rn nm d 7) _ _ _ _ h).1)
    exact (loops (good_S rn nm d) (fun l r o r' o' => ends_S rn nm d l) k t.1.length t.1 t.2 (Nat.le_refl _) _ n _ (by omega) (by omega) (by omega)).symm
end
end Go.U.Exp
namespace Go.U.Exp
set_option maxRecDepth 100000
def takesN (k : Int) : Nat := if k ≤ 3 then 0 else if k ≤ 7 then 1 else 2
def nodeR (nm : Bs → Bool) (x : Nd) : Prop := (x.1 = 1 ∧ 0 ≤ x.2.1 ∧ x.2.1 ≤ 65535 ∧ x.2.2 = []) ∨ ((x.1 = 2 ∨ x.1 = 3) ∧ x.2.1 = 0 ∧ nm x.2.2 = true) ∨ (4 ≤ x.1 ∧ x.1 ≤ 17 ∧ x.2.1 = 0 ∧ x.2.2 = [])
def Stk (nm : Bs → Bool) : List Nd → Nat → Nat → Prop
  | [], h, g => g = h
  | x :: e, h, g => nodeR nm x ∧ takesN x.1 ≤ h ∧ Stk nm e (h - takesN x.1 + 1) g
theorem stk_app {nm : Bs → Bool} {a b : List Nd} : ∀ {h g i : Nat}, Stk nm a h g → Stk nm b g i → Stk nm (a ++ b) h i := by
  induction a with
  | nil => intro h g i h1 h2; cases h1; exact h2
  | cons x a ih => intro h g i h1 h2; exact ⟨h1.1, h1.2.1, ih h1.2.2 h2⟩
theorem stk_zero {nm : Bs → Bool} {x : Nd} (hx : nodeR nm x) (ht : takesN x.1 = 0) (h : Nat) : Stk nm [x] h (h + 1) := ⟨hx, by omega, by show h + 1 = h - takesN x.1 + 1; omega⟩
section
variable (rn : Bs → Option Int) (nm : Bs → Bool)
def Right (P : Ps) : Prop := ∀ r o r' o', P r o = some (r', o') → ∃ e, o' = o ++ e ∧ ∀ h, Stk nm e h (h + 1)
def RightL (P : Ps) : Prop := ∀ r o r' o', P r o = some (r', o') → ∃ e, o' = o ++ e ∧ ∀ h, Stk nm e (h + 1) (h + 1)
theorem stk_un {k : Int} (h1 : 4 ≤ k) (h2 : k ≤ 7) (h : Nat) : Stk nm [(k, 0, [])] (h + 1) (h + 1) := by
  have e : takesN k = 1 := by unfold takesN; rw [if_neg (by omega), if_pos h2]
  refine ⟨.inr (.inr ⟨h1, by show k ≤ 17; omega, rfl, rfl⟩), ?_, ?_⟩
  · show takesN k ≤ _; omega
  · show _ = _; show h + 1 = h + 1 - takesN k + 1; omega
theorem stk_two {k : Int} (h1 : 8 ≤ k) (h2 : k ≤ 17) (h : Nat) : Stk nm [(k, 0, [])] (h + 2) (h + 1) := by
  have e : takesN k = 2 := by unfold takesN; rw [if_neg (by omega), if_neg (by omega)]
  refine ⟨.inr (.inr ⟨by show 4 ≤ k; omega, h2, rfl, rfl⟩), ?_, ?_⟩
  · show takesN k ≤ _; omega
  · show h + 1 = h + 2 - takesN k + 1; omega
variable (hr : ∀ w n, rn w = some n → 0 ≤ n ∧ n ≤ 65535)
theorem right_word (hr : ∀ w n, rn w = some n → 0 ≤ n ∧ n ≤ 65535) {sg : Bs} : Right nm (wordB rn nm sg) := by
  intro r o r' o' h
  unfold wordB at h
  split at h
  · rename_i n hn
    have := (putN_some h).1; cases this
    exact ⟨_, rfl, stk_zero (.inl ⟨rfl, (hr _ _ hn).1, (hr _ _ hn).2, rfl⟩) rfl⟩
  · split at h
    · rename_i hc
      have := (putN_some h).1; cases this
      exact ⟨_, rfl, stk_zero (.inr (.inl ⟨.inl rfl, rfl, hc.2⟩)) rfl⟩
    · exact nomatch h
theorem right_val (hr : ∀ w n, rn w = some n → 0 ≤ n ∧ n ≤ 65535) {L V : Ps} (hL : Right nm L) (hV : Right nm V) : Right nm (valB rn nm L V) := by
  intro r o r' o' h
  have un : ∀ {k : Int} {e : List Nd}, 4 ≤ k → k ≤ 7 → (∀ h, Stk nm e h (h + 1)) → ∀ h, Stk nm (e ++ [(k, 0, [])]) h (h + 1) :=
    fun a b he h => stk_app (he h) (stk_un nm a b h)
  unfold valB at h
  split at h
  · obtain ⟨t, h1, h2⟩ := bind_some' h
    have h3 := (putN_some h2).1; cases h3
    obtain ⟨e, h4, h5⟩ := hV _ _ _ _ h1
    exact ⟨_, by rw [h4, List.append_assoc], un (by omega) (by omega) h5⟩
  split at h
  · obtain ⟨t, h1, h2⟩ := bind_some' h
    have h3 := (putN_some h2).1; cases h3
    obtain ⟨e, h4, h5⟩ := hV _ _ _ _ h1
    exact ⟨_, by rw [h4, List.append_assoc], un (by omega) (by omega) h5⟩
  split at h
  · obtain ⟨t, h1, h2⟩ := bind_some' h
    have h3 := needP_some h2; subst h3
    exact hL _ _ _ _ h1
  split at h
  · obtain ⟨t, h1, h2⟩ := bind_some' h
    obtain ⟨u, h6, h7⟩ := bind_some' h1
    have h8 := needP_some h7; subst h8
    have h3 := (putN_some h2).1; cases h3
    obtain ⟨e, h4, h5⟩ := hL _ _ _ _ h6
    exact ⟨_, by rw [h4, List.append_assoc], un (by omega) (by omega) h5⟩
  split at h
  · obtain ⟨t, h1, h2⟩ := bind_some' h
    obtain ⟨u, h6, h7⟩ := bind_some' h1
    have h8 := needP_some h7; subst h8
    have h3 := (putN_some h2).1; cases h3
    obtain ⟨e, h4, h5⟩ := hL _ _ _ _ h6
    exact ⟨_, by rw [h4, List.append_assoc], un (by omega) (by omega) h5⟩
  split at h
  · split at h
    · rename_i hc
      obtain ⟨t, h1, h2⟩ := bind_some' h
      have h3 := needP_some h1
      have h4 := (putN_some h2).1; cases h4
      have h6 := congrArg Prod.snd h3
      dsimp only at h6
      exact ⟨_, by rw [h6], stk_zero (.inr (.inl ⟨.inr rfl, rfl, hc⟩)) rfl⟩
    · exact nomatch h
  split at h
  · exact right_word rn nm hr _ _ _ _ h
  split at h
  · exact right_word rn nm hr _ _ _ _ h
  exact right_word rn nm hr _ _ _ _ h
theorem right_loop2 {S : Nat → Ps} (hS : ∀ l, Right nm (S l)) (least n : Nat) : RightL nm (loop2 S least n) := by
  induction n with
  | zero => intro r o r' o' h; exact nomatch h
  | succ n ih =>
    intro r o r' o' h
    unfold loop2 at h
    split at h
    · cases Option.some.inj h; exact ⟨[], (List.append_nil o).symm, fun h => rfl⟩
    · rename_i k l r1 hop
      split at h
      · cases Option.some.inj h; exact ⟨[], (List.append_nil o).symm, fun h => rfl⟩
      · obtain ⟨t, h1, h2⟩ := bind_some' h
        obtain ⟨u, h3, h4⟩ := bind_some' h1
        have h5 := (putN_some h4).1; subst h5
        obtain ⟨e, a, b⟩ := hS _ _ _ _ _ h3
        obtain ⟨e2, c, d⟩ := ih _ _ _ _ h2
        obtain ⟨_, _, _, k1, k2⟩ := opAt_some hop
        refine ⟨e ++ [(k, 0, [])] ++ e2, ?_, fun h => stk_app (stk_app (b (h + 1)) (stk_two nm k1 k2 h)) (d h)⟩
        rw [c, a]; simp only [List.append_assoc]
theorem right_S (hr : ∀ w n, rn w = some n → 0 ≤ n ∧ n ≤ 65535) (d : Nat) : ∀ l, Right nm (S rn nm d l) := by
  induction d with
  | zero => intro l r o r' o' h; exact nomatch h
  | succ d ih =>
    intro l r o r' o' h
    unfold S at h
    obtain ⟨t, h1, h2⟩ := bind_some' h
    obtain ⟨e, a, b⟩ := right_val rn nm hr (ih 1) (ih 7) _ _ _ _ h1
    obtain ⟨e2, c, g⟩ := right_loop2 nm ih l _ _ _ _ _ h2
    exact ⟨e ++ e2, by rw [c, a, List.append_assoc], fun h => stk_app (b h) (g h)⟩
end
section
variable (rn : Bs → Option Int) (nm : Bs → Bool)
def Short (P : Ps) : Prop := ∀ r o r' o', P r o = some (r', o') → o.length ≤ 30 → o'.length ≤ 30
theorem putN_len {x : Nd} {t t' : St} (h : putN x t = some t') : t'.2.length ≤ 30 := by
  obtain ⟨a, b⟩ := putN_some h; rw [a]; dsimp only; rw [List.length_append, List.length_singleton]; omega
theorem short_val {L V : Ps} (hL : Short L) : Short (valB rn nm L V) := by
  intro r o r' o' h ho
  have hw : ∀ sg r, wordB rn nm sg r o = some (r', o') → o'.length ≤ 30 := by
    intro sg r h
    unfold wordB at h
    split at h
    · exact putN_len h
    · split at h
      · exact putN_len h
      · exact nomatch h
  unfold valB at h
  split at h
  · obtain ⟨t, h1, h2⟩ := bind_some' h; exact putN_len h2
  split at h
  · obtain ⟨t, h1, h2⟩ := bind_some' h; exact putN_len h2
  split at h
  · obtain ⟨t, h1, h2⟩ := bind_some' h
    have h3 := needP_some h2; subst h3
    exact hL _ _ _ _ h1 ho
  split at h
  · obtain ⟨t, h1, h2⟩ := bind_some' h; exact putN_len h2
  split at h
  · obtain ⟨t, h1, h2⟩ := bind_some' h; exact putN_len h2
  split at h
  · split at h
    · obtain ⟨t, h1, h2⟩ := bind_some' h; exact putN_len h2
    · exact nomatch h
  split at h
  · exact hw _ _ h
  split at h
  · exact hw _ _ h
  exact hw _ _ h
theorem short_loop2 {S : Nat → Ps} (least n : Nat) : Short (loop2 S least n) := by
  induction n with
  | zero => intro r o r' o' h; exact nomatch h
  | succ n ih =>
    intro r o r' o' h ho
    unfold loop2 at h
    split at h
    · cases Option.some.inj h; exact ho
    · split at h
      · cases Option.some.inj h; exact ho
      · obtain ⟨t, h1, h2⟩ := bind_some' h
        obtain ⟨u, h3, h4⟩ := bind_some' h1
        exact ih _ _ _ _ h2 (putN_len h4)
theorem short_S (d : Nat) : ∀ l, Short (S rn nm d l) := by
  induction d with
  | zero => intro l r o r' o' h; exact nomatch h
  | succ d ih =>
    intro l r o r' o' h ho
    unfold S at h
    obtain ⟨t, h1, h2⟩ := bind_some' h
    exact short_loop2 l _ _ _ _ _ h2 (short_val rn nm (ih 1) _ _ _ _ h1 ho)
theorem pre_len {w r : Bs} (h : w.isPrefixOf r = true) : w.length ≤ r.length := (List.isPrefixOf_iff_prefix.mp h).length_le
end
end Go.U.Exp
namespace Go.U.Exp
set_option maxRecDepth 100000
def let_ (c : UInt8) : Bool := (97 ≤ c && c ≤ 122) || c == 95 || c == 46
def dgt (c : UInt8) : Bool := 48 ≤ c && c ≤ 57
def hd1 : Bs → Bool
  | [] => false
  | c :: _ => let_ c
def nm (w : Bs) : Bool := decide (1 ≤ w.length ∧ w.length ≤ 16) && hd1 w && w.all fun c => let_ c || dgt c
def dig (c : UInt8) : Int := if 48 ≤ c ∧ c ≤ 57 then (c.toNat : Int) - 48 else if 65 ≤ c ∧ c ≤ 70 then (c.toNat : Int) - 55 else 99
def base (b : Int) : Bs → Int → Option Int
  | [], n => some n
  | c :: r, n => if b ≤ dig c then none else if 65535 < n * b + dig c then none else base b r (n * b + dig c)
def rn (w : Bs) : Option Int := if 18 < w.length then none else match w with
  | [] => none
  | c :: r => if c = 36 then (if r = [] then none else base 16 r 0) else if c = 37 then (if r = [] then none else base 2 r 0) else base 10 (c :: r) 0
theorem dig_nonneg (c : UInt8) : 0 ≤ dig c := by
  unfold dig
  split
  · rename_i h; have : 48 ≤ c.toNat := UInt8.le_iff_toNat_le.mp h.1; omega
  · split
    · rename_i h; have : 65 ≤ c.toNat := UInt8.le_iff_toNat_le.mp h.1; omega
    · omega
theorem base_ok {b : Int} (hb : 0 ≤ b) : ∀ (r : Bs) (n m : Int), 0 ≤ n → n ≤ 65535 → base b r n = some m → 0 ≤ m ∧ m ≤ 65535
  | [], n, m, h1, h2, h => by cases Option.some.inj h; exact ⟨h1, h2⟩
  | c :: r, n, m, h1, h2, h => by
    unfold base at h
    split at h
    · exact nomatch h
    split at h
    · exact nomatch h
    exact base_ok hb r _ m (Int.add_nonneg (Int.mul_nonneg h1 hb) (dig_nonneg c)) (by omega) h
theorem rn_ok (w : Bs) (n : Int) (h : rn w = some n) : 0 ≤ n ∧ n ≤ 65535 := by
  unfold rn at h
  repeat' split at h
  all_goals first
    | exact base_ok (by omega) _ _ _ (by omega) (by omega) h
    | cases h
theorem pre_ne {w : Bs} {a c : UInt8} {r : Bs} (h : c ≠ a) : (c :: w).isPrefixOf (a :: r) = false := by
  show (c == a && _) = false; rw [beq_false_of_ne h]; rfl
theorem loop2_go {S : Nat → Ps} {least n : Nat} {r o} {k : Int} {l : Nat} {r1 : Bs} (h : opAt r = some (k, l, r1)) (hl : ¬ l < least) :
    loop2 S least (n + 1) r o = ((S (l + 1) r1 o).bind (putN (k, 0, []))).bind fun t => loop2 S least n t.1 t.2 := by
  conv => lhs; unfold loop2
  rw [h]; dsimp only; rw [if_neg hl]
end Go.U.Exp
