/- A part of the proof. No condition. -/
import Derived.Test.YticcaekjfhgpcaaGreatDoorVHa
set_option linter.unusedVariables false
set_option linter.unusedSimpArgs false
set_option linter.unusedSectionVars false
namespace Go.U.Tryz
open Go Go.U Go.Proofs Go.Proofs.Tryz
set_option maxRecDepth 100000
def ct104s (F : (Int × List UInt8 × Int × Bool × List (Int × Int × List UInt8)) → Option (List UInt8 × Int × Bool × List (Int × Int × List UInt8))) : Ct := ⟨[.l (.ptr 0 0 0), .l (.v (.i .i64))], [⟨4, false, .mix (some 91) [[.l (.v .s), .l (.v (.i .i64)), .l (.all 1), .l (.v .b)]]⟩, ⟨3, true, .row (.c (.i .i64) (.c (.i .i64) .s))⟩], [], [⟨4, false, .mix (some 91) [[.l (.v .s), .l (.v (.i .i64)), .l (.all 1), .l (.v .b)]]⟩, ⟨3, true, .row (.c (.i .i64) (.c (.i .i64) .s))⟩], [], F⟩
def ct80s (F : (Int × Int × List UInt8 × Int × Bool × List (Int × Int × List UInt8)) → Option (List UInt8 × Int × Bool × List (Int × Int × List UInt8))) : Ct := ⟨[.l (.ptr 0 0 0), .l (.v (.i .i64)), .l (.v (.i .i64))], [⟨4, false, .mix (some 91) [[.l (.v .s), .l (.v (.i .i64)), .l (.all 1), .l (.v .b)]]⟩, ⟨3, true, .row (.c (.i .i64) (.c (.i .i64) .s))⟩], [], [⟨4, false, .mix (some 91) [[.l (.v .s), .l (.v (.i .i64)), .l (.all 1), .l (.v .b)]]⟩, ⟨3, true, .row (.c (.i .i64) (.c (.i .i64) .s))⟩], [], F⟩
-- (*loop.example/g00460/spec.l2P).value
def F104b (F104i : (Int × List UInt8 × Int × Bool × List (Int × Int × List UInt8)) → Option (List UInt8 × Int × Bool × List (Int × Int × List UInt8))) (F80i : (Int × Int × List UInt8 × Int × Bool × List (Int × Int × List UInt8)) → Option (List UInt8 × Int × Bool × List (Int × Int × List UInt8))) (K : Nat) (x : Int × (List UInt8) × Int × Bool × List (Int × Int × List UInt8)) : Option ((List UInt8) × Int × Bool × List (Int × Int × List UInt8)) :=
  branch (decide (30 < x.1))
   (some (x.2.1, x.2.2.1, true, x.2.2.2.2))
   (bindO (α := ((List UInt8) × Int × Bool × List (Int × Int × List UInt8)) ⊕ ((List UInt8) × Int × Bool × List (Int × Int × List UInt8))) (branch x.2.2.2.1
      (some (.inl x.2))
      (bindO (F135 K (([45] : List UInt8), x.2)) fun v0 =>
      branch v0.1
       (bindO (F104i (w64 (x.1 + 1), v0.2)) fun v1 =>
       bindO (F108 K (4, 0, [], v1)) fun v2 =>
       some (.inl v2))
       (bindO (F135 K (([126] : List UInt8), v0.2)) fun v3 =>
       branch v3.1
        (bindO (F104i (w64 (x.1 + 1), v3.2)) fun v4 =>
        bindO (F108 K (5, 0, [], v4)) fun v5 =>
        some (.inl v5))
        (bindO (α := Int × Bool × (List UInt8) × Int × Bool × List (Int × Int × List UInt8)) (bindO (F135 K (([104, 105, 103, 104, 40] : List UInt8), v3.2)) fun v6 =>
          branch v6.1
           (some (x.1, true, v6.2))
           (bindO (F135 K (([108, 111, 119, 40] : List UInt8), v6.2)) fun v7 =>
           some (x.1, v7))) fun v8 =>
        branch v8.2.1
         (bindO (α := Int × Int × (List UInt8) × Int × Bool × List (Int × Int × List UInt8)) (nth v8.2.2.1 (w64 (v8.2.2.2.1 - 2)) fun v9 =>
           branch (decide ((v9.toNat : Int) = 104))
            (some (v8.1, 6, v8.2.2))
            (some (v8.1, 7, v8.2.2))) fun v10 =>
         bindO (F80i (1, w64 (v10.1 + 1), v10.2.2)) fun v11 =>
         branch v11.2.2.1
          (bindO (F108 K (v10.2.1, 0, [], v11.1, v11.2.1, true, v11.2.2.2)) fun v12 =>
          some (.inl v12))
          (bindO (F135 K (([41] : List UInt8), v11)) fun v13 =>
          bindO (F108 K (v10.2.1, 0, [], v13.2.1, v13.2.2.1, !v13.1, v13.2.2.2.2)) fun v14 =>
          some (.inl v14)))
         (bindO (F135 K (([98, 97, 110, 107, 40] : List UInt8), v8.2.2)) fun v15 =>
         branch v15.1
          (bindO (F136 K v15.2) fun v16 =>
          branch v16.2.2.2.1
           (bindO (F108 K (3, 0, v16.1, v16.2.1, v16.2.2.1, true, v16.2.2.2.2)) fun v17 =>
           some (.inl v17))
           (bindO (F137 K v16.1) fun v18 =>
           branch (!v18)
            (bindO (F108 K (3, 0, v16.1, v16.2.1, v16.2.2.1, true, v16.2.2.2.2)) fun v19 =>
            some (.inl v19))
            (bindO (F135 K (([41] : List UInt8), v16.2)) fun v20 =>
            bindO (F108 K (3, 0, v16.1, v20.2.1, v20.2.2.1, !v20.1, v20.2.2.2.2)) fun v21 =>
            some (.inl v21))))
          (bindO (F135 K (([40] : List UInt8), v15.2)) fun v22 =>
          branch v22.1
           (bindO (F80i (1, w64 (v8.1 + 1), v22.2)) fun v23 =>
           branch v23.2.2.1
            (some (.inl (v23.1, v23.2.1, true, v23.2.2.2)))
            (bindO (F135 K (([41] : List UInt8), v23)) fun v24 =>
            some (.inl (v24.2.1, v24.2.2.1, !v24.1, v24.2.2.2.2))))
           (some (.inr v22.2)))))))) fun v25 =>
   csO v25
    (fun v26 => some v26)
    (fun v27 => bindO (α := (List UInt8) × (List UInt8) × Int × Bool × List (Int × Int × List UInt8)) (bindO (F135 K (([36] : List UInt8), v27)) fun v28 =>
      branch v28.1
       (some (([36] : List UInt8), v28.2))
       (bindO (F135 K (([37] : List UInt8), v28.2)) fun v29 =>
       branch v29.1
        (some (([37] : List UInt8), v29.2))
        (some ([], v29.2)))) fun v30 =>
    bindO (F136 K v30.2) fun v31 =>
    guard (decide ((v30.1.length + v31.1.length) ≤ 9223372036854775807)) <|
    bindO (F138 K (v30.1 ++ v31.1)) fun v32 =>
    branch v32.2
     (bindO (F108 K (1, v32.1, [], v31.2)) fun v33 =>
     some v33)
     (bindO (α := (List UInt8) × Bool × (List UInt8) × Int × Bool × List (Int × Int × List UInt8)) (branch (decide (v30.1 = []))
        (bindO (F137 K v31.1) fun v34 =>
        some (v31.1, v34, v31.2))
        (some (v31.1, false, v31.2))) fun v35 =>
     branch v35.2.1
      (bindO (F108 K (2, 0, v35.1, v35.2.2)) fun v36 =>
      some v36)
      (some (v35.2.2.1, v35.2.2.2.1, true, v35.2.2.2.2.2)))))
theorem s104 (F104i : (Int × List UInt8 × Int × Bool × List (Int × Int × List UInt8)) → Option (List UInt8 × Int × Bool × List (Int × Int × List UInt8))) (F80i : (Int × Int × List UInt8 × Int × Bool × List (Int × Int × List UInt8)) → Option (List UInt8 × Int × Bool × List (Int × Int × List UInt8))) (K : Nat) (h104 : CtOk prog 104 (ct104s F104i)) (h80 : CtOk prog 80 (ct80s F80i)) : CtOk prog 104 (ct104s (F104b F104i F80i K)) :=
  con_mk (Y := Y) (L := [(137, ct137 K), (138, ct138 K), (135, ct135 K), (108, ct108 K), (136, ct136 K), (80, ct80s F80i), (104, ct104s F104i)]) (K := K) (an := (.seq (.seq .no (.cond .no .no)) (.seqJ [(1000000, ⟨(.l (.ptr 0 0 0) :: ru 147 []), [(0, ⟨4, false, .mix (some 91) [[.l (.v .s), .l (.v (.i .i64)), .l (.all 1), .l (.v .b)]]⟩), (1, ⟨3, true, .row (.c (.i .i64) (.c (.i .i64) .s))⟩)]⟩)] true (.blk (.seq .no (.cond .no (.seq .no (.cond (.seq .no .no) (.seq .no (.cond (.seq .no .no) (.seqJ [(1000000, ⟨(.l (.ptr 0 0 0) :: .l (.v (.i .i64)) :: ru 36 (.l (.v .b) :: ru 109 [])), [(0, ⟨4, false, .mix (some 91) [[.l (.v .s), .l (.v (.i .i64)), .l (.all 1), .l (.v .b)]]⟩), (1, ⟨3, true, .row (.c (.i .i64) (.c (.i .i64) .s))⟩)]⟩)] false (.seq .no .no) (.cond (.seq .no (.seqJ [(1000000, ⟨(.l (.ptr 0 0 0) :: .l (.v (.i .i64)) :: ru 2 (.l (.v (.i .i64)) :: ru 143 [])), [(0, ⟨4, false, .mix (some 91) [[.l (.v .s), .l (.v (.i .i64)), .l (.all 1), .l (.v .b)]]⟩), (1, ⟨3, true, .row (.c (.i .i64) (.c (.i .i64) .s))⟩)]⟩)] false (.seq .no .no) (.seq .no (.seq .no .no)))) (.seq .no (.cond (.seq .no (.seq .no .no)) (.seq .no (.cond (.seq .no .no) .no))))))))))))) (.seq .no (.seqJ [(1000000, ⟨(.l (.ptr 0 0 0) :: ru 5 (.l (.v .s) :: ru 141 [])), [(0, ⟨4, false, .mix (some 91) [[.l (.v .s), .l (.v (.i .i64)), .l (.all 1), .l (.v .b)]]⟩), (1, ⟨3, true, .row (.c (.i .i64) (.c (.i .i64) .s))⟩)]⟩)] false (.seq .no (.cond .no (.seq .no .no))) (.seq .no (.seq .no (.blk (.seq .no (.cond .no (.seqJ [(1000000, ⟨(.l (.ptr 0 0 0) :: ru 6 (.l (.v .s) :: ru 130 (.l (.v .b) :: ru 9 []))), [(0, ⟨4, false, .mix (some 91) [[.l (.v .s), .l (.v (.i .i64)), .l (.all 1), .l (.v .b)]]⟩), (1, ⟨3, true, .row (.c (.i .i64) (.c (.i .i64) .s))⟩)]⟩)] false .no .no))))))))))) func104 mixed (ctabOk_cons (c137 K) (ctabOk_cons (c138 K) (ctabOk_cons (c135 K) (ctabOk_cons (c108 K) (ctabOk_cons (c136 K) (ctabOk_cons h80 (ctabOk_cons h104 ctabOk_nil))))))) (by kernel_rfl) fun x => by kernel_rfl
-- (*loop.example/g00460/spec.l2P).level
def F80b_b0 (F104i : (Int × List UInt8 × Int × Bool × List (Int × Int × List UInt8)) → Option (List UInt8 × Int × Bool × List (Int × Int × List UInt8))) (F80i : (Int × Int × List UInt8 × Int × Bool × List (Int × Int × List UInt8)) → Option (List UInt8 × Int × Bool × List (Int × Int × List UInt8))) (K : Nat) (x : Int × Int × (List UInt8) × Int × Bool × List (Int × Int × List UInt8)) : Option ((Int × Int × (List UInt8) × Int × Bool × List (Int × Int × List UInt8)) ⊕ (((List UInt8) × Int × Bool × List (Int × Int × List UInt8)) ⊕ ((List UInt8) × Int × Bool × List (Int × Int × List UInt8)))) :=
  branch (!x.2.2.2.2.1)
   (bindO (F105 K x.2.2) fun v0 =>
   bindO (α := ((List UInt8) × Int × Bool × List (Int × Int × List UInt8)) ⊕ (Int × Int × Int × (List UInt8) × Int × Bool × List (Int × Int × List UInt8))) (branch (decide (v0.1 = 0))
      (some (.inl v0.2))
      (bindO (F106 K v0.1) fun v1 =>
      branch (decide (v1 < x.1))
       (some (.inl v0.2))
       (some (.inr (x.1, x.2.1, v0))))) fun v2 =>
   csO v2
    (fun v3 => some (.inr (.inl v3)))
    (fun v4 => bindO (F107 K ()) fun v5 =>
    nth v5 v4.2.2.1 fun v6 =>
    bindO (F106 K v4.2.2.1) fun v7 =>
    bindO (F80i (w64 (v7 + 1), w64 (v4.2.1 + 1), v4.2.2.2.1, w64 (v4.2.2.2.2.1 + (v6.length : Int)), v4.2.2.2.2.2)) fun v8 =>
    bindO (F108 K (v4.2.2.1, 0, [], v8)) fun v9 =>
    some (.inl (v4.1, v4.2.1, v9))))
   (some (.inr (.inr x.2.2)))
def F80b (F104i : (Int × List UInt8 × Int × Bool × List (Int × Int × List UInt8)) → Option (List UInt8 × Int × Bool × List (Int × Int × List UInt8))) (F80i : (Int × Int × List UInt8 × Int × Bool × List (Int × Int × List UInt8)) → Option (List UInt8 × Int × Bool × List (Int × Int × List UInt8))) (K : Nat) (x : Int × Int × (List UInt8) × Int × Bool × List (Int × Int × List UInt8)) : Option ((List UInt8) × Int × Bool × List (Int × Int × List UInt8)) :=
  bindO (F104i x.2) fun v0 =>
  bindO (iter K (F80b_b0 F104i F80i K) (x.1, x.2.1, v0)) fun v1 =>
  csO v1
   (fun v2 => some v2)
   (fun v3 => some v3)
theorem s80 (F104i : (Int × List UInt8 × Int × Bool × List (Int × Int × List UInt8)) → Option (List UInt8 × Int × Bool × List (Int × Int × List UInt8))) (F80i : (Int × Int × List UInt8 × Int × Bool × List (Int × Int × List UInt8)) → Option (List UInt8 × Int × Bool × List (Int × Int × List UInt8))) (K : Nat) (h104 : CtOk prog 104 (ct104s F104i)) (h80 : CtOk prog 80 (ct80s F80i)) : CtOk prog 80 (ct80s (F80b F104i F80i K)) :=
  con_mk (Y := Y) (L := [(107, ct107 K), (106, ct106 K), (105, ct105 K), (108, ct108 K), (80, ct80s F80i), (104, ct104s F104i)]) (K := K) (an := (.seq .no (.blk (.loop [] ⟨(.l (.ptr 0 0 0) :: .l (.v (.i .i64)) :: .l (.v (.i .i64)) :: ru 45 []), [(0, ⟨4, false, .mix (some 91) [[.l (.v .s), .l (.v (.i .i64)), .l (.all 1), .l (.v .b)]]⟩), (1, ⟨3, true, .row (.c (.i .i64) (.c (.i .i64) .s))⟩)]⟩ [(0, ⟨(ru 48 []), [(0, ⟨4, false, .mix (some 91) [[.l (.v .s), .l (.v (.i .i64)), .l (.all 1), .l (.v .b)]]⟩), (1, ⟨3, true, .row (.c (.i .i64) (.c (.i .i64) .s))⟩)]⟩)] true (.seq (.seq .no .no) (.blk (.seq .no (.seqJ [(1000000, ⟨(.l (.ptr 0 0 0) :: .l (.v (.i .i64)) :: .l (.v (.i .i64)) :: ru 3 (.l (.v (.i .i64)) :: ru 41 [])), [(0, ⟨4, false, .mix (some 91) [[.l (.v .s), .l (.v (.i .i64)), .l (.all 1), .l (.v .b)]]⟩), (1, ⟨3, true, .row (.c (.i .i64) (.c (.i .i64) .s))⟩)]⟩)] true (.seq .no .no) (.seq .no .no))))))))) func80 mixed (ctabOk_cons (c107 K) (ctabOk_cons (c106 K) (ctabOk_cons (c105 K) (ctabOk_cons (c108 K) (ctabOk_cons h80 (ctabOk_cons h104 ctabOk_nil)))))) (by kernel_rfl) fun x => by kernel_rfl
def spr (K R : Nat) : ((Int × List UInt8 × Int × Bool × List (Int × Int × List UInt8)) → Option (List UInt8 × Int × Bool × List (Int × Int × List UInt8))) × ((Int × Int × List UInt8 × Int × Bool × List (Int × Int × List UInt8)) → Option (List UInt8 × Int × Bool × List (Int × Int × List UInt8))) := Nat.rec (motive := fun _ => ((Int × List UInt8 × Int × Bool × List (Int × Int × List UInt8)) → Option (List UInt8 × Int × Bool × List (Int × Int × List UInt8))) × ((Int × Int × List UInt8 × Int × Bool × List (Int × Int × List UInt8)) → Option (List UInt8 × Int × Bool × List (Int × Int × List UInt8)))) ((fun _ => none, fun _ => none)) (fun _ ih => (F104b (ih.1) (ih.2) K, F80b (ih.1) (ih.2) K)) R
def R104 (K R : Nat) : (Int × List UInt8 × Int × Bool × List (Int × Int × List UInt8)) → Option (List UInt8 × Int × Bool × List (Int × Int × List UInt8)) := (spr K R).1
def R80 (K R : Nat) : (Int × Int × List UInt8 × Int × Bool × List (Int × Int × List UInt8)) → Option (List UInt8 × Int × Bool × List (Int × Int × List UInt8)) := (spr K R).2
theorem spr_ok (K : Nat) : ∀ R : Nat, CtOk prog 104 (ct104s (R104 K R)) ∧ CtOk prog 80 (ct80s (R80 K R))
  | 0 => ⟨(show CtOk prog 104 (ct104s fun _ => none) from ct_none), (show CtOk prog 80 (ct80s fun _ => none) from ct_none)⟩
  | R + 1 => by
    have ih := spr_ok K R
    exact ⟨s104 (R104 K R) (R80 K R) K ih.1 ih.2, s80 (R104 K R) (R80 K R) K ih.1 ih.2⟩
def F104 (K : Nat) (x : Int × List UInt8 × Int × Bool × List (Int × Int × List UInt8)) : Option (List UInt8 × Int × Bool × List (Int × Int × List UInt8)) := R104 K K x
def ct104 (K : Nat) : Ct := ⟨[.l (.ptr 0 0 0), .l (.v (.i .i64))], [⟨4, false, .mix (some 91) [[.l (.v .s), .l (.v (.i .i64)), .l (.all 1), .l (.v .b)]]⟩, ⟨3, true, .row (.c (.i .i64) (.c (.i .i64) .s))⟩], [], [⟨4, false, .mix (some 91) [[.l (.v .s), .l (.v (.i .i64)), .l (.all 1), .l (.v .b)]]⟩, ⟨3, true, .row (.c (.i .i64) (.c (.i .i64) .s))⟩], [], F104 K⟩
def F80 (K : Nat) (x : Int × Int × List UInt8 × Int × Bool × List (Int × Int × List UInt8)) : Option (List UInt8 × Int × Bool × List (Int × Int × List UInt8)) := R80 K K x
def ct80 (K : Nat) : Ct := ⟨[.l (.ptr 0 0 0), .l (.v (.i .i64)), .l (.v (.i .i64))], [⟨4, false, .mix (some 91) [[.l (.v .s), .l (.v (.i .i64)), .l (.all 1), .l (.v .b)]]⟩, ⟨3, true, .row (.c (.i .i64) (.c (.i .i64) .s))⟩], [], [⟨4, false, .mix (some 91) [[.l (.v .s), .l (.v (.i .i64)), .l (.all 1), .l (.v .b)]]⟩, ⟨3, true, .row (.c (.i .i64) (.c (.i .i64) .s))⟩], [], F80 K⟩
theorem c80 (K : Nat) : CtOk prog 80 (ct80 K) := (spr_ok K K).2
def ct142s (F : (Int × List UInt8 × Int × Bool × List (Int × Int × List UInt8)) → Option (List UInt8 × Int × Bool × List (Int × Int × List UInt8))) : Ct := ⟨[.l (.ptr 0 0 0), .l (.v (.i .i64))], [⟨4, false, .mix (some 99) [[.l (.v .s), .l (.v (.i .i64)), .l (.all 1), .l (.v .b)]]⟩, ⟨3, true, .row (.c (.i .i64) (.c (.i .i64) .s))⟩], [], [⟨4, false, .mix (some 99) [[.l (.v .s), .l (.v (.i .i64)), .l (.all 1), .l (.v .b)]]⟩, ⟨3, true, .row (.c (.i .i64) (.c (.i .i64) .s))⟩], [], F⟩
def ct115s (F : (Int × List UInt8 × Int × Bool × List (Int × Int × List UInt8)) → Option (List UInt8 × Int × Bool × List (Int × Int × List UInt8))) : Ct := ⟨[.l (.ptr 0 0 0), .l (.v (.i .i64))], [⟨4, false, .mix (some 99) [[.l (.v .s), .l (.v (.i .i64)), .l (.all 1), .l (.v .b)]]⟩, ⟨3, true, .row (.c (.i .i64) (.c (.i .i64) .s))⟩], [], [⟨4, false, .mix (some 99) [[.l (.v .s), .l (.v (.i .i64)), .l (.all 1), .l (.v .b)]]⟩, ⟨3, true, .row (.c (.i .i64) (.c (.i .i64) .s))⟩], [], F⟩
def ct86s (F : (Int × Int × List UInt8 × Int × Bool × List (Int × Int × List UInt8)) → Option (List UInt8 × Int × Bool × List (Int × Int × List UInt8))) : Ct := ⟨[.l (.ptr 0 0 0), .l (.v (.i .i64)), .l (.v (.i .i64))], [⟨4, false, .mix (some 99) [[.l (.v .s), .l (.v (.i .i64)), .l (.all 1), .l (.v .b)]]⟩, ⟨3, true, .row (.c (.i .i64) (.c (.i .i64) .s))⟩], [], [⟨4, false, .mix (some 99) [[.l (.v .s), .l (.v (.i .i64)), .l (.all 1), .l (.v .b)]]⟩, ⟨3, true, .row (.c (.i .i64) (.c (.i .i64) .s))⟩], [], F⟩
-- (*loop.example/g00460/impl.formula).word
def F142b (F142i : (Int × List UInt8 × Int × Bool × List (Int × Int × List UInt8)) → Option (List UInt8 × Int × Bool × List (Int × Int × List UInt8))) (F115i : (Int × List UInt8 × Int × Bool × List (Int × Int × List UInt8)) → Option (List UInt8 × Int × Bool × List (Int × Int × List UInt8))) (F86i : (Int × Int × List UInt8 × Int × Bool × List (Int × Int × List UInt8)) → Option (List UInt8 × Int × Bool × List (Int × Int × List UInt8))) (K : Nat) (x : Int × (List UInt8) × Int × Bool × List (Int × Int × List UInt8)) : Option ((List UInt8) × Int × Bool × List (Int × Int × List UInt8)) :=
  bindO (α := Int × (List UInt8) × (List UInt8) × Int × Bool × List (Int × Int × List UInt8)) (bindO (F116 K (([36] : List UInt8), x.2)) fun v0 =>
    branch v0.1
     (some (x.1, ([36] : List UInt8), v0.2))
     (bindO (F116 K (([37] : List UInt8), v0.2)) fun v1 =>
     branch v1.1
      (some (x.1, ([37] : List UInt8), v1.2))
      (some (x.1, [], v1.2)))) fun v2 =>
  bindO (F162 K v2.2.2) fun v3 =>
  guard (decide ((v2.2.1.length + v3.1.length) ≤ 9223372036854775807)) <|
  bindO (F163 K (v2.2.1 ++ v3.1)) fun v4 =>
  branch v4.2
   (bindO (F118 K (1, v4.1, [], v3.2)) fun v5 =>
   some v5)
   (bindO (F164 K (v2.2.1 ++ v3.1)) fun v6 =>
   branch (!v6)
    (some (v3.2.1, v3.2.2.1, true, v3.2.2.2.2))
    (bindO (α := Int × (List UInt8) × Bool × (List UInt8) × Int × Bool × List (Int × Int × List UInt8)) (branch (decide ((v2.2.1 ++ v3.1) = ([104, 105, 103, 104] : List UInt8)))
       (bindO (F116 K (([40] : List UInt8), v3.2)) fun v7 =>
       some (v2.1, v2.2.1 ++ v3.1, v7))
       (branch (decide ((v2.2.1 ++ v3.1) = ([108, 111, 119] : List UInt8)))
        (bindO (F116 K (([40] : List UInt8), v3.2)) fun v8 =>
        some (v2.1, v2.2.1 ++ v3.1, v8))
        (branch (decide ((v2.2.1 ++ v3.1) = ([98, 97, 110, 107] : List UInt8)))
         (bindO (F116 K (([40] : List UInt8), v3.2)) fun v9 =>
         some (v2.1, v2.2.1 ++ v3.1, v9))
         (some (v2.1, v2.2.1 ++ v3.1, false, v3.2))))) fun v10 =>
    branch v10.2.2.1
     (branch (decide (v10.2.1 = ([98, 97, 110, 107] : List UInt8)))
      (bindO (F162 K v10.2.2.2) fun v11 =>
      branch v11.2.2.2.1
       (bindO (F118 K (3, 0, v11.1, v11.2.1, v11.2.2.1, true, v11.2.2.2.2)) fun v12 =>
       bindO (F141 K (([41] : List UInt8), v12)) fun v13 =>
       some v13)
       (bindO (F164 K v11.1) fun v14 =>
       bindO (F118 K (3, 0, v11.1, v11.2.1, v11.2.2.1, !v14, v11.2.2.2.2)) fun v15 =>
       bindO (F141 K (([41] : List UInt8), v15)) fun v16 =>
       some v16))
      (bindO (F86i (0, w64 (v10.1 + 1), v10.2.2.2)) fun v17 =>
      branch (decide (v10.2.1 = ([108, 111, 119] : List UInt8)))
       (bindO (F118 K (7, 0, [], v17)) fun v18 =>
       bindO (F141 K (([41] : List UInt8), v18)) fun v19 =>
       some v19)
       (bindO (F118 K (6, 0, [], v17)) fun v20 =>
       bindO (F141 K (([41] : List UInt8), v20)) fun v21 =>
       some v21)))
     (bindO (F118 K (2, 0, v10.2.1, v10.2.2.2)) fun v22 =>
     some v22)))
theorem s142 (F142i : (Int × List UInt8 × Int × Bool × List (Int × Int × List UInt8)) → Option (List UInt8 × Int × Bool × List (Int × Int × List UInt8))) (F115i : (Int × List UInt8 × Int × Bool × List (Int × Int × List UInt8)) → Option (List UInt8 × Int × Bool × List (Int × Int × List UInt8))) (F86i : (Int × Int × List UInt8 × Int × Bool × List (Int × Int × List UInt8)) → Option (List UInt8 × Int × Bool × List (Int × Int × List UInt8))) (K : Nat) (h142 : CtOk prog 142 (ct142s F142i)) (h115 : CtOk prog 115 (ct115s F115i)) (h86 : CtOk prog 86 (ct86s F86i)) : CtOk prog 142 (ct142s (F142b F142i F115i F86i K)) :=
  con_mk (Y := Y) (L := [(163, ct163 K), (164, ct164 K), (116, ct116 K), (162, ct162 K), (141, ct141 K), (118, ct118 K), (86, ct86s F86i)]) (K := K) (an := (.seq .no (.seqJ [(1000000, ⟨(.l (.ptr 0 0 0) :: .l (.v (.i .i64)) :: ru 2 (.l (.v .s) :: ru 79 [])), [(0, ⟨4, false, .mix (some 99) [[.l (.v .s), .l (.v (.i .i64)), .l (.all 1), .l (.v .b)]]⟩), (1, ⟨3, true, .row (.c (.i .i64) (.c (.i .i64) .s))⟩)]⟩)] false (.seq .no (.cond .no (.seq .no .no))) (.seq .no (.seq (.seq .no (.seq .no (.cond .no .no))) (.seq (.seq .no (.cond .no .no)) (.seq (.seqJ [(1000000, ⟨(.l (.ptr 0 0 0) :: .l (.v (.i .i64)) :: ru 3 (.l (.v .s) :: ru 41 (.l (.v .b) :: ru 36 []))), [(0, ⟨4, false, .mix (some 99) [[.l (.v .s), .l (.v (.i .i64)), .l (.all 1), .l (.v .b)]]⟩), (1, ⟨3, true, .row (.c (.i .i64) (.c (.i .i64) .s))⟩)]⟩)] false .no (.cond (.seq (.seq .no (.cond (.seq .no .no) (.seq .no (.seq .no (.seq (.seq .no .no) .no))))) .no) .no)) .no))))))) func142 mixed (ctabOk_cons (c163 K) (ctabOk_cons (c164 K) (ctabOk_cons (c116 K) (ctabOk_cons (c162 K) (ctabOk_cons (c141 K) (ctabOk_cons (c118 K) (ctabOk_cons h86 ctabOk_nil))))))) (by kernel_rfl) fun x => by kernel_rfl
-- (*loop.example/g00460/impl.formula).value
def F115b (F142i : (Int × List UInt8 × Int × Bool × List (Int × Int × List UInt8)) → Option (List UInt8 × Int × Bool × List (Int × Int × List UInt8))) (F115i : (Int × List UInt8 × Int × Bool × List (Int × Int × List UInt8)) → Option (List UInt8 × Int × Bool × List (Int × Int × List UInt8))) (F86i : (Int × Int × List UInt8 × Int × Bool × List (Int × Int × List UInt8)) → Option (List UInt8 × Int × Bool × List (Int × Int × List UInt8))) (K : Nat) (x : Int × (List UInt8) × Int × Bool × List (Int × Int × List UInt8)) : Option ((List UInt8) × Int × Bool × List (Int × Int × List UInt8)) :=
  bindO (α := ((List UInt8) × Int × Bool × List (Int × Int × List UInt8)) ⊕ (Int × (List UInt8) × Int × Bool × List (Int × Int × List UInt8))) (bindO (α := Int × Bool × (List UInt8) × Int × Bool × List (Int × Int × List UInt8)) (branch x.2.2.2.1
       (some (x.1, true, x.2))
       (some (x.1, decide (30 < x.1), x.2))) fun v0 =>
    branch v0.2.1
     (some (.inl (v0.2.2.1, v0.2.2.2.1, true, v0.2.2.2.2.2)))
     (some (.inr (v0.1, v0.2.2)))) fun v1 =>
  csO v1
   (fun v2 => some v2)
   (fun v3 => bindO (F116 K (([45] : List UInt8), v3.2)) fun v4 =>
   branch v4.1
    (bindO (F115i (w64 (v3.1 + 1), v4.2)) fun v5 =>
    bindO (F118 K (4, 0, [], v5)) fun v6 =>
    some v6)
    (bindO (F116 K (([126] : List UInt8), v4.2)) fun v7 =>
    branch v7.1
     (bindO (F115i (w64 (v3.1 + 1), v7.2)) fun v8 =>
     bindO (F118 K (5, 0, [], v8)) fun v9 =>
     some v9)
     (bindO (F116 K (([40] : List UInt8), v7.2)) fun v10 =>
     branch v10.1
      (bindO (F86i (0, w64 (v3.1 + 1), v10.2)) fun v11 =>
      bindO (F141 K (([41] : List UInt8), v11)) fun v12 =>
      some v12)
      (bindO (F142i (v3.1, v10.2)) fun v13 =>
      some v13))))
theorem s115 (F142i : (Int × List UInt8 × Int × Bool × List (Int × Int × List UInt8)) → Option (List UInt8 × Int × Bool × List (Int × Int × List UInt8))) (F115i : (Int × List UInt8 × Int × Bool × List (Int × Int × List UInt8)) → Option (List UInt8 × Int × Bool × List (Int × Int × List UInt8))) (F86i : (Int × Int × List UInt8 × Int × Bool × List (Int × Int × List UInt8)) → Option (List UInt8 × Int × Bool × List (Int × Int × List UInt8))) (K : Nat) (h142 : CtOk prog 142 (ct142s F142i)) (h115 : CtOk prog 115 (ct115s F115i)) (h86 : CtOk prog 86 (ct86s F86i)) : CtOk prog 115 (ct115s (F115b F142i F115i F86i K)) :=
  con_mk (Y := Y) (L := [(116, ct116 K), (141, ct141 K), (118, ct118 K), (86, ct86s F86i), (115, ct115s F115i), (142, ct142s F142i)]) (K := K) (an := (.seqJ [(1000000, ⟨(.l (.ptr 0 0 0) :: .l (.v (.i .i64)) :: ru 45 []), [(0, ⟨4, false, .mix (some 99) [[.l (.v .s), .l (.v (.i .i64)), .l (.all 1), .l (.v .b)]]⟩), (1, ⟨3, true, .row (.c (.i .i64) (.c (.i .i64) .s))⟩)]⟩)] true (.seqJ [(1000000, ⟨(.l (.ptr 0 0 0) :: .l (.v (.i .i64)) :: ru 9 (.l (.v .b) :: ru 35 [])), [(0, ⟨4, false, .mix (some 99) [[.l (.v .s), .l (.v (.i .i64)), .l (.all 1), .l (.v .b)]]⟩), (1, ⟨3, true, .row (.c (.i .i64) (.c (.i .i64) .s))⟩)]⟩)] false .no (.cond .no .no)) (.seq (.blk (.seq .no (.cond (.seq .no .no) (.seq .no (.cond (.seq .no .no) (.seq .no (.cond (.seq .no .no) .no))))))) .no))) func115 mixed (ctabOk_cons (c116 K) (ctabOk_cons (c141 K) (ctabOk_cons (c118 K) (ctabOk_cons h86 (ctabOk_cons h115 (ctabOk_cons h142 ctabOk_nil)))))) (by kernel_rfl) fun x => by kernel_rfl
-- (*loop.example/g00460/impl.formula).level
def F86b_b1 (F142i : (Int × List UInt8 × Int × Bool × List (Int × Int × List UInt8)) → Option (List UInt8 × Int × Bool × List (Int × Int × List UInt8))) (F115i : (Int × List UInt8 × Int × Bool × List (Int × Int × List UInt8)) → Option (List UInt8 × Int × Bool × List (Int × Int × List UInt8))) (F86i : (Int × Int × List UInt8 × Int × Bool × List (Int × Int × List UInt8)) → Option (List UInt8 × Int × Bool × List (Int × Int × List UInt8))) (K : Nat) (x : Int × Int × Int × (List Int) × Int × Int × (List UInt8) × Int × Bool × List (Int × Int × List UInt8)) : Option ((Int × Int × Int × (List Int) × Int × Int × (List UInt8) × Int × Bool × List (Int × Int × List UInt8)) ⊕ (Int × Int × Int × (List UInt8) × Int × Bool × List (Int × Int × List UInt8))) :=
  branch (decide (x.2.2.2.2.2.1 < x.2.2.2.2.1))
   (nth x.2.2.2.1 x.2.2.2.2.2.1 fun v0 =>
   bindO (F117 K ()) fun v1 =>
   nth v1 (w64 (v0 - 4)) fun v2 =>
   bindO (F116 K (v2, x.2.2.2.2.2.2)) fun v3 =>
   branch v3.1
    (some (.inr (x.1, x.2.1, v0, v3.2)))
    (some (.inl (x.1, x.2.1, x.2.2.1, x.2.2.2.1, x.2.2.2.2.1, w64 (x.2.2.2.2.2.1 + 1), v3.2))))
   (some (.inr (x.1, x.2.1, x.2.2.1, x.2.2.2.2.2.2)))
def F86b_b0 (F142i : (Int × List UInt8 × Int × Bool × List (Int × Int × List UInt8)) → Option (List UInt8 × Int × Bool × List (Int × Int × List UInt8))) (F115i : (Int × List UInt8 × Int × Bool × List (Int × Int × List UInt8)) → Option (List UInt8 × Int × Bool × List (Int × Int × List UInt8))) (F86i : (Int × Int × List UInt8 × Int × Bool × List (Int × Int × List UInt8)) → Option (List UInt8 × Int × Bool × List (Int × Int × List UInt8))) (K : Nat) (x : Int × Int × (List UInt8) × Int × Bool × List (Int × Int × List UInt8)) : Option ((Int × Int × (List UInt8) × Int × Bool × List (Int × Int × List UInt8)) ⊕ (((List UInt8) × Int × Bool × List (Int × Int × List UInt8)) ⊕ ((List UInt8) × Int × Bool × List (Int × Int × List UInt8)))) :=
  branch (!x.2.2.2.2.1)
   (bindO (F114 K ()) fun v0 =>
   nth v0 x.1 fun v1 =>
   bindO (iter K (F86b_b1 F142i F115i F86i K) (x.1, x.2.1, 0, v1, (v1.length : Int), 0, x.2.2)) fun v2 =>
   branch (decide (v2.2.2.1 = 0))
    (some (.inr (.inl v2.2.2.2)))
    (bindO (F86i (w64 (v2.1 + 1), w64 (v2.2.1 + 1), v2.2.2.2)) fun v3 =>
    bindO (F118 K (v2.2.2.1, 0, [], v3)) fun v4 =>
    some (.inl (v2.1, v2.2.1, v4))))
   (some (.inr (.inr x.2.2)))
def F86b (F142i : (Int × List UInt8 × Int × Bool × List (Int × Int × List UInt8)) → Option (List UInt8 × Int × Bool × List (Int × Int × List UInt8))) (F115i : (Int × List UInt8 × Int × Bool × List (Int × Int × List UInt8)) → Option (List UInt8 × Int × Bool × List (Int × Int × List UInt8))) (F86i : (Int × Int × List UInt8 × Int × Bool × List (Int × Int × List UInt8)) → Option (List UInt8 × Int × Bool × List (Int × Int × List UInt8))) (K : Nat) (x : Int × Int × (List UInt8) × Int × Bool × List (Int × Int × List UInt8)) : Option ((List UInt8) × Int × Bool × List (Int × Int × List UInt8)) :=
  bindO (F114 K ()) fun v0 =>
  branch (decide (x.1 = (v0.length : Int)))
   (bindO (F115i x.2) fun v1 =>
   some v1)
   (bindO (F86i (w64 (x.1 + 1), x.2)) fun v2 =>
   bindO (iter K (F86b_b0 F142i F115i F86i K) (x.1, x.2.1, v2)) fun v3 =>
   csO v3
    (fun v4 => some v4)
    (fun v5 => some v5))
theorem s86 (F142i : (Int × List UInt8 × Int × Bool × List (Int × Int × List UInt8)) → Option (List UInt8 × Int × Bool × List (Int × Int × List UInt8))) (F115i : (Int × List UInt8 × Int × Bool × List (Int × Int × List UInt8)) → Option (List UInt8 × Int × Bool × List (Int × Int × List UInt8))) (F86i : (Int × Int × List UInt8 × Int × Bool × List (Int × Int × List UInt8)) → Option (List UInt8 × Int × Bool × List (Int × Int × List UInt8))) (K : Nat) (h142 : CtOk prog 142 (ct142s F142i)) (h115 : CtOk prog 115 (ct115s F115i)) (h86 : CtOk prog 86 (ct86s F86i)) : CtOk prog 86 (ct86s (F86b F142i F115i F86i K)) :=
  con_mk (Y := Y) (L := [(117, ct117 K), (114, ct114 K), (116, ct116 K), (118, ct118 K), (86, ct86s F86i), (115, ct115s F115i)]) (K := K) (an := (.seq (.seq .no (.cond .no .no)) (.seq .no (.blk (.loop [] ⟨(.l (.ptr 0 0 0) :: .l (.v (.i .i64)) :: .l (.v (.i .i64)) :: ru 53 []), [(0, ⟨4, false, .mix (some 99) [[.l (.v .s), .l (.v (.i .i64)), .l (.all 1), .l (.v .b)]]⟩), (1, ⟨3, true, .row (.c (.i .i64) (.c (.i .i64) .s))⟩)]⟩ [(0, ⟨(ru 56 []), [(0, ⟨4, false, .mix (some 99) [[.l (.v .s), .l (.v (.i .i64)), .l (.all 1), .l (.v .b)]]⟩), (1, ⟨3, true, .row (.c (.i .i64) (.c (.i .i64) .s))⟩)]⟩)] true (.seq (.seq .no .no) (.blk (.seq .no (.seq (.seq .no (.blk (.loop [] ⟨(.l (.ptr 0 0 0) :: .l (.v (.i .i64)) :: .l (.v (.i .i64)) :: ru 3 (.l (.v (.i .i64)) :: ru 22 (.l (.v (.l (.i .i64))) :: .l (.v (.i .i64)) :: .l (.v (.i .i64)) :: ru 24 []))), [(0, ⟨4, false, .mix (some 99) [[.l (.v .s), .l (.v (.i .i64)), .l (.all 1), .l (.v .b)]]⟩), (1, ⟨3, true, .row (.c (.i .i64) (.c (.i .i64) .s))⟩)]⟩ [(2, ⟨(.l (.ptr 0 0 0) :: .l (.v (.i .i64)) :: .l (.v (.i .i64)) :: ru 3 (.l (.v (.i .i64)) :: ru 49 [])), [(0, ⟨4, false, .mix (some 99) [[.l (.v .s), .l (.v (.i .i64)), .l (.all 1), .l (.v .b)]]⟩), (1, ⟨3, true, .row (.c (.i .i64) (.c (.i .i64) .s))⟩)]⟩)] false (.seq .no (.seq .no (.seq (.blk (.seq .no (.seq .no (.cond .no .no)))) .no)))))) (.seq (.seq .no .no) .no)))))))))) func86 mixed (ctabOk_cons (c117 K) (ctabOk_cons (c114 K) (ctabOk_cons (c116 K) (ctabOk_cons (c118 K) (ctabOk_cons h86 (ctabOk_cons h115 ctabOk_nil)))))) (by kernel_rfl) fun x => by kernel_rfl
def imr (K R : Nat) : ((Int × List UInt8 × Int × Bool × List (Int × Int × List UInt8)) → Option (List UInt8 × Int × Bool × List (Int × Int × List UInt8))) × ((Int × List UInt8 × Int × Bool × List (Int × Int × List UInt8)) → Option (List UInt8 × Int × Bool × List (Int × Int × List UInt8))) × ((Int × Int × List UInt8 × Int × Bool × List (Int × Int × List UInt8)) → Option (List UInt8 × Int × Bool × List (Int × Int × List UInt8))) := Nat.rec (motive := fun _ => ((Int × List UInt8 × Int × Bool × List (Int × Int × List UInt8)) → Option (List UInt8 × Int × Bool × List (Int × Int × List UInt8))) × ((Int × List UInt8 × Int × Bool × List (Int × Int × List UInt8)) → Option (List UInt8 × Int × Bool × List (Int × Int × List UInt8))) × ((Int × Int × List UInt8 × Int × Bool × List (Int × Int × List UInt8)) → Option (List UInt8 × Int × Bool × List (Int × Int × List UInt8)))) ((fun _ => none, fun _ => none, fun _ => none)) (fun _ ih => (F142b (ih.1) (ih.2.1) (ih.2.2) K, F115b (ih.1) (ih.2.1) (ih.2.2) K, F86b (ih.1) (ih.2.1) (ih.2.2) K)) R
def R142 (K R : Nat) : (Int × List UInt8 × Int × Bool × List (Int × Int × List UInt8)) → Option (List UInt8 × Int × Bool × List (Int × Int × List UInt8)) := (imr K R).1
def R115 (K R : Nat) : (Int × List UInt8 × Int × Bool × List (Int × Int × List UInt8)) → Option (List UInt8 × Int × Bool × List (Int × Int × List UInt8)) := (imr K R).2.1
def R86 (K R : Nat) : (Int × Int × List UInt8 × Int × Bool × List (Int × Int × List UInt8)) → Option (List UInt8 × Int × Bool × List (Int × Int × List UInt8)) := (imr K R).2.2
theorem imr_ok (K : Nat) : ∀ R : Nat, CtOk prog 142 (ct142s (R142 K R)) ∧ CtOk prog 115 (ct115s (R115 K R)) ∧ CtOk prog 86 (ct86s (R86 K R))
  | 0 => ⟨(show CtOk prog 142 (ct142s fun _ => none) from ct_none), (show CtOk prog 115 (ct115s fun _ => none) from ct_none), (show CtOk prog 86 (ct86s fun _ => none) from ct_none)⟩
  | R + 1 => by
    have ih := imr_ok K R
    exact ⟨s142 (R142 K R) (R115 K R) (R86 K R) K ih.1 ih.2.1 ih.2.2, s115 (R142 K R) (R115 K R) (R86 K R) K ih.1 ih.2.1 ih.2.2, s86 (R142 K R) (R115 K R) (R86 K R) K ih.1 ih.2.1 ih.2.2⟩
def F142 (K : Nat) (x : Int × List UInt8 × Int × Bool × List (Int × Int × List UInt8)) : Option (List UInt8 × Int × Bool × List (Int × Int × List UInt8)) := R142 K K x
def ct142 (K : Nat) : Ct := ⟨[.l (.ptr 0 0 0), .l (.v (.i .i64))], [⟨4, false, .mix (some 99) [[.l (.v .s), .l (.v (.i .i64)), .l (.all 1), .l (.v .b)]]⟩, ⟨3, true, .row (.c (.i .i64) (.c (.i .i64) .s))⟩], [], [⟨4, false, .mix (some 99) [[.l (.v .s), .l (.v (.i .i64)), .l (.all 1), .l (.v .b)]]⟩, ⟨3, true, .row (.c (.i .i64) (.c (.i .i64) .s))⟩], [], F142 K⟩
def F115 (K : Nat) (x : Int × List UInt8 × Int × Bool × List (Int × Int × List UInt8)) : Option (List UInt8 × Int × Bool × List (Int × Int × List UInt8)) := R115 K K x
def ct115 (K : Nat) : Ct := ⟨[.l (.ptr 0 0 0), .l (.v (.i .i64))], [⟨4, false, .mix (some 99) [[.l (.v .s), .l (.v (.i .i64)), .l (.all 1), .l (.v .b)]]⟩, ⟨3, true, .row (.c (.i .i64) (.c (.i .i64) .s))⟩], [], [⟨4, false, .mix (some 99) [[.l (.v .s), .l (.v (.i .i64)), .l (.all 1), .l (.v .b)]]⟩, ⟨3, true, .row (.c (.i .i64) (.c (.i .i64) .s))⟩], [], F115 K⟩
def F86 (K : Nat) (x : Int × Int × List UInt8 × Int × Bool × List (Int × Int × List UInt8)) : Option (List UInt8 × Int × Bool × List (Int × Int × List UInt8)) := R86 K K x
def ct86 (K : Nat) : Ct := ⟨[.l (.ptr 0 0 0), .l (.v (.i .i64)), .l (.v (.i .i64))], [⟨4, false, .mix (some 99) [[.l (.v .s), .l (.v (.i .i64)), .l (.all 1), .l (.v .b)]]⟩, ⟨3, true, .row (.c (.i .i64) (.c (.i .i64) .s))⟩], [], [⟨4, false, .mix (some 99) [[.l (.v .s), .l (.v (.i .i64)), .l (.all 1), .l (.v .b)]]⟩, ⟨3, true, .row (.c (.i .i64) (.c (.i .i64) .s))⟩], [], F86 K⟩
theorem c86 (K : Nat) : CtOk prog 86 (ct86 K) := (imr_ok K K).2.2
end Go.U.Tryz
