/-
Digits of both kinds of Arabic fail in one label, of one kind none does; the dot of Katakana fails just where nobody is of its scripts: the law answers true, whatever it is handed. Conditions: none.
-/
import Derived.Test.YtocaeclhmkojiaaCtx4
set_option linter.unusedSimpArgs false
set_option linter.unusedVariables false
set_option linter.unusedSectionVars false
namespace Go.Proofs.Ytocaeclhmkojiaa
open Go Go.Ab Go.ChangeShapes Go.WideShapes Go.ChangeAt Go.RowKit
def a14 : ACode :=
  (.seq (.reg [⟨(.some 2), (.mv (.k (.bool false))), .none⟩]) (.seq (.seq (.reg [⟨(.some 13), (.mv (.t 0)), .none⟩, ⟨(.some 14), (.len (.t 13)), .none⟩, ⟨(.some 15), (.bin .gtr (.t 14) (.k (.int .i64
  100))), .none⟩]) (.cond (.t 15) (.seq (.reg [⟨(.some 16), (.call (.f 36) []), .none⟩, ⟨(.some 2), (.mv (.t 16)), .none⟩]) .ret) .skip)) (.seq (.reg [⟨(.some 3), (.mv (.k (.bool false))), .none⟩,
  ⟨(.some 4), (.mv (.k (.bool false))), .none⟩, ⟨(.some 5), (.mv (.k (.bool false))), .none⟩]) (.seq (.seq (.reg [⟨(.some 17), (.mv (.t 0)), .none⟩, ⟨(.some 18), (.len (.t 17)), .none⟩, ⟨(.some 19),
  (.mv (.k (.int .i64 0))), .none⟩]) (.block 0 (.loop (.seq (.reg [⟨(.some 20), (.bin .lss (.t 19) (.t 18)), .none⟩]) (.seq (.cond (.t 20) .skip (.exit 0)) (.seq (.block 1 (.seq (.reg [⟨(.some 21), (.ia
  21 (.t 17) (.t 19)), .none⟩, ⟨(.some 22), (.ld .none (.t 21)), .none⟩, ⟨(.some 7), (.mv (.t 22)), .none⟩]) (.seq (.reg [⟨(.some 23), (.mv (.t 7)), .none⟩, ⟨(.some 24), (.call (.f 22) [(.t 23)]),
  .none⟩, ⟨(.some 8), (.alc 28 [(.int .u8 0), (.int .u8 0), (.int .u8 0), (.int .u8 0), (.int .u8 0), (.int .u8 0), (.int .u8 0)]), .none⟩, ⟨.none, (.st 7 (.t 8) (.t 24)), .none⟩]) (.seq (.dreg [⟨(.some
  25), (.mv (.t 3)), .none⟩, ⟨(.some 26), (.mv (.t 25)), .none⟩, ⟨(.some 27), (.fa 5 (.t 8)), (.some (26, false))⟩, ⟨(.some 28), (.ld .none (.t 27)), (.some (26, false))⟩, ⟨(.some 29), (.bin .eql (.t
  28) (.k (.int .u8 2))), (.some (26, false))⟩, ⟨(.some 30), (.pick (.t 26) (.k (.bool true)) (.t 29)), .none⟩, ⟨(.some 31), (.mv (.t 4)), .none⟩, ⟨(.some 32), (.mv (.t 31)), .none⟩, ⟨(.some 33), (.fa 5
  (.t 8)), (.some (32, false))⟩, ⟨(.some 34), (.ld .none (.t 33)), (.some (32, false))⟩, ⟨(.some 35), (.bin .eql (.t 34) (.k (.int .u8 3))), (.some (32, false))⟩, ⟨(.some 36), (.pick (.t 32) (.k (.bool
  true)) (.t 35)), .none⟩, ⟨(.some 3), (.mv (.t 30)), .none⟩, ⟨(.some 4), (.mv (.t 36)), .none⟩]) (.reg [⟨(.some 37), (.mv (.t 5)), .none⟩, ⟨(.some 38), (.mv (.t 37)), .none⟩, ⟨(.some 39), (.fa 4 (.t
  8)), (.some (38, false))⟩, ⟨(.some 40), (.ld .none (.t 39)), (.some (38, false))⟩, ⟨(.some 41), (.bin .eql (.t 40) (.k (.int .u8 9))), (.some (38, false))⟩, ⟨(.some 42), (.pick (.t 38) (.k (.bool
  true)) (.t 41)), .none⟩, ⟨(.some 43), (.mv (.t 42)), .none⟩, ⟨(.some 44), (.fa 4 (.t 8)), (.some (43, false))⟩, ⟨(.some 45), (.ld .none (.t 44)), (.some (43, false))⟩, ⟨(.some 46), (.bin .eql (.t 45)
  (.k (.int .u8 10))), (.some (43, false))⟩, ⟨(.some 47), (.pick (.t 43) (.k (.bool true)) (.t 46)), .none⟩, ⟨(.some 48), (.mv (.t 47)), .none⟩, ⟨(.some 49), (.fa 4 (.t 8)), (.some (48, false))⟩,
  ⟨(.some 50), (.ld .none (.t 49)), (.some (48, false))⟩, ⟨(.some 51), (.bin .eql (.t 50) (.k (.int .u8 8))), (.some (48, false))⟩, ⟨(.some 52), (.pick (.t 48) (.k (.bool true)) (.t 51)), .none⟩,
  ⟨(.some 5), (.mv (.t 52)), .none⟩]))))) (.reg [⟨(.some 53), (.bin .add (.t 19) (.k (.int .i64 1))), .none⟩, ⟨(.some 19), (.mv (.t 53)), .none⟩]))))))) (.seq (.seq (.reg [⟨(.some 54), (.mv (.t 0)),
  .none⟩, ⟨(.some 55), (.len (.t 54)), .none⟩, ⟨(.some 56), (.mv (.k (.int .i64 0))), .none⟩]) (.block 2 (.loop (.seq (.reg [⟨(.some 57), (.bin .lss (.t 56) (.t 55)), .none⟩]) (.seq (.cond (.t 57) .skip
  (.exit 2)) (.seq (.block 3 (.seq (.reg [⟨(.some 58), (.mv (.t 56)), .none⟩, ⟨(.some 59), (.ia 21 (.t 54) (.t 56)), .none⟩, ⟨(.some 60), (.ld .none (.t 59)), .none⟩, ⟨(.some 9), (.mv (.t 58)), .none⟩,
  ⟨(.some 10), (.mv (.t 60)), .none⟩]) (.seq (.reg [⟨(.some 61), (.mv (.t 10)), .none⟩, ⟨(.some 62), (.call (.f 22) [(.t 61)]), .none⟩, ⟨(.some 63), (.mv (.t 0)), .none⟩, ⟨(.some 64), (.mv (.t 9)),
  .none⟩, ⟨(.some 65), (.call (.f 37) [(.t 63), (.t 64)]), .none⟩, ⟨(.some 66), (.bin .neq (.t 65) (.k (.int .u8 0))), .none⟩, ⟨(.some 11), (.alc 28 [(.int .u8 0), (.int .u8 0), (.int .u8 0), (.int .u8
  0), (.int .u8 0), (.int .u8 0), (.int .u8 0)]), .none⟩, ⟨.none, (.st 7 (.t 11) (.t 62)), .none⟩, ⟨(.some 12), (.mv (.t 66)), .none⟩]) (.block 4 (.seq (.reg [⟨(.some 68), (.fa 5 (.t 11)), .none⟩,
  ⟨(.some 69), (.ld .none (.t 68)), .none⟩, ⟨(.some 70), (.bin .eql (.t 69) (.k (.int .u8 2))), .none⟩, ⟨(.some 71), (.mv (.t 70)), .none⟩, ⟨(.some 72), (.fa 5 (.t 11)), (.some (71, false))⟩, ⟨(.some
  73), (.ld .none (.t 72)), (.some (71, false))⟩, ⟨(.some 74), (.bin .eql (.t 73) (.k (.int .u8 3))), (.some (71, false))⟩, ⟨(.some 75), (.pick (.t 71) (.k (.bool true)) (.t 74)), .none⟩, ⟨(.some 67),
  (.mv (.t 75)), .none⟩]) (.cond (.t 67) (.seq (.reg [⟨(.some 76), (.mv (.t 12)), .none⟩, ⟨(.some 77), (.mv (.t 3)), .none⟩, ⟨(.some 78), (.mv (.t 77)), .none⟩, ⟨(.some 79), (.mv (.t 4)), (.some (78,
  true))⟩, ⟨(.some 80), (.pick (.t 78) (.t 79) (.k (.bool false))), .none⟩, ⟨(.some 81), (.eqB true (.t 76) (.t 80)), .none⟩]) (.cond (.t 81) (.seq (.reg [⟨(.some 2), (.mv (.k (.bool false))), .none⟩])
  .ret) .skip)) (.seq (.reg [⟨(.some 83), (.mv (.t 10)), .none⟩, ⟨(.some 84), (.bin .eql (.t 83) (.k (.int .i32 12539))), .none⟩, ⟨(.some 82), (.mv (.t 84)), .none⟩]) (.cond (.t 82) (.seq (.reg [⟨(.some
  85), (.mv (.t 12)), .none⟩, ⟨(.some 86), (.mv (.t 5)), .none⟩, ⟨(.some 87), (.eqB false (.t 85) (.t 86)), .none⟩]) (.cond (.t 87) (.seq (.reg [⟨(.some 2), (.mv (.k (.bool false))), .none⟩]) .ret)
  .skip)) .skip)))))))) (.reg [⟨(.some 88), (.bin .add (.t 56) (.k (.int .i64 1))), .none⟩, ⟨(.some 56), (.mv (.t 88)), .none⟩]))))))) (.seq (.reg [⟨(.some 89), (.call (.f 36) []), .none⟩, ⟨(.some 2),
  (.mv (.t 89)), .none⟩]) .ret))))))
theorem c14 : Try.f14.body.bind (cCode Try.prog 90) = some a14 := by kernel_rfl
theorem r14 : Try.f14.results.toList = [(.tmp 2)] := by kernel_rfl
theorem n14 : Try.f14.ntmps = 90 := by kernel_rfl
theorem e14 : Enters Try.prog 14 := enters_of Try.func14 (by kernel_rfl) (by kernel_rfl)

def kanaP (l : List Int) : Bool := l.any fun r => ((rowAt r).script == 9 || ((rowAt r).script == 10 || (rowAt r).script == 8))
theorem kana_scripts (l : List Int) : kanaP l = scriptsP l [9, 10, 8] := by
  unfold kanaP scriptsP
  congr 1
  funext r
  simp
theorem digitsP_take {l : List Int} {i : Nat} (hi : i < l.length) (d : Int) : digitsP (l.take (i + 1)) d = (digitsP (l.take i) d || (rowAt l[i]).digits == d) := by
  rw [List.take_succ_eq_append_getElem hi]
  simp only [digitsP, List.any_append, List.any_cons, List.any_nil, Bool.or_false]
theorem kanaP_take {l : List Int} {i : Nat} (hi : i < l.length) : kanaP (l.take (i + 1)) = (kanaP (l.take i) || ((rowAt l[i]).script == 9 || ((rowAt l[i]).script == 10 || (rowAt l[i]).script == 8))) := by
  rw [List.take_succ_eq_append_getElem hi]
  simp only [kanaP, List.any_append, List.any_cons, List.any_nil, Bool.or_false]
theorem digitsP_has {l : List Int} {k : Nat} (hk : k < l.length) {d : Int} (h : (rowAt l[k]).digits = d) : digitsP l d = true := List.any_eq_true.2 ⟨_, List.getElem_mem hk, by simp [h]⟩
/-- What the law says of a digit of Arabic. -/
theorem at_arab {l : List Int} {k : Nat} (hk : k < l.length) (h : (rowAt l[k]).digits = 2 ∨ (rowAt l[k]).digits = 3) : (atOf l (k : Int) != 0) = (digitsP l 2 && digitsP l 3) := by
  rcases h with h | h
  · have hr := (digits2 _).1 h
    rw [at_by l k hk (key_arab hr.1 hr.2) (b := !digitsP l 3) rfl (c := 8) rfl, digitsP_has hk h]
    cases digitsP l 3 <;> rfl
  · have hr := (digits3 _).1 h
    rw [at_by l k hk (key_east hr.1 hr.2) (b := !digitsP l 2) rfl (c := 8) rfl, digitsP_has hk h]
    cases digitsP l 2 <;> rfl
theorem at_dot {l : List Int} {k : Nat} (hk : k < l.length) (h : l[k] = 12539) : (atOf l (k : Int) != 0) = !kanaP l := by
  rw [at_by l k hk (key := 12539) (by rw [h]; exact key_self (by omega) (by omega)) (b := scriptsP l [9, 10, 8]) rfl (c := 8) rfl, kana_scripts]
  cases scriptsP l [9, 10, 8] <;> rfl

set_option maxRecDepth 10000 in
set_option maxHeartbeats 1000000 in
theorem contextDigits_pure (l : List Int) (h : l.length ≤ 35184372088064 ∧ I32 l) : Pure Try.prog 14 [.sl 21 (runes l) none] [] (.lit (.bool true)) := by
  refine pure0 Try.func14 c14 n14 e14 r14 (by simp) rfl ?_
  simp only [a14, astart, argSlots, go_sem, Nat.reduceAdd, Nat.reduceEqDiff, Nat.reduceLT, reduceIte, reduceCtorEq, Nat.reduceBEq, Int.reduceLT, Int.reduceToNat, Int.reducePow, Nat.reduceLeDiff, Int.reduceLE, Nat.reduceMul, Nat.reduceSub, runes_length]
  by_cases h0 : 100 < l.length
  · have e1 : decide ((l.length : Int) > 100) = true := by simp only [decide_eq_true_eq]; omega
    simp only [e1, go_sem, Nat.reduceAdd, Nat.reduceEqDiff, Nat.reduceLT, reduceIte, reduceCtorEq, Nat.reduceBEq, Int.reduceLT, Int.reduceToNat, Int.reducePow, Nat.reduceLeDiff, Int.reduceLE, Nat.reduceMul, Nat.reduceSub]
    refine callGo_pure awake08_pure (by rfl) ?_
    simp only [go_sem, Nat.reduceAdd, Nat.reduceEqDiff, Nat.reduceLT, reduceIte, reduceCtorEq, Nat.reduceBEq, Int.reduceLT, Int.reduceToNat, Int.reducePow, Nat.reduceLeDiff, Int.reduceLE, Nat.reduceMul, Nat.reduceSub]
    simp only [Done, resAV, resL, resOne, look_nil, look_cons, Nat.reduceEqDiff, if_true, if_false, reduceIte, ite_true, ite_false, Nat.zero_ne_one, Nat.one_ne_zero, reduceCtorEq, true_or, or_true, true_and, Option.some.injEq, AV.lit.injEq, Value.int.injEq, Value.bool.injEq]
  · have e1 : decide ((l.length : Int) > 100) = false := by simp only [decide_eq_false_iff_not]; omega
    have hl : l.length ≤ 1000000 := by omega
    simp only [e1, go_sem, Nat.reduceAdd, Nat.reduceEqDiff, Nat.reduceLT, reduceIte, reduceCtorEq, Nat.reduceBEq, Int.reduceLT, Int.reduceToNat, Int.reducePow, Nat.reduceLeDiff, Int.reduceLE, Nat.reduceMul, Nat.reduceSub, runes_length]
    refine loop_to l.length (fun n => ⟨[(0, some (.sl 21 (runes l) none)), (3, some (.lit (.bool (digitsP (l.take n) 2)))), (4, some (.lit (.bool (digitsP (l.take n) 3)))), (5, some (.lit (.bool (kanaP (l.take n))))), (17, some (.sl 21 (runes l) none)), (18, some (.lit (.int .i64 l.length))), (19, some (.lit (.int .i64 n)))], [], [], 0⟩)
      (fun _ => True) (weak_by [] (by simp) rfl ?_ trivial trivial (by simp)) trivial ?_ ?_
    · simp only [go_sem, Nat.reduceAdd, Nat.reduceEqDiff, Nat.reduceLT, reduceIte, reduceCtorEq, Nat.reduceBEq, Int.reduceLT, Int.reduceToNat, Int.reducePow, Nat.reduceLeDiff, Int.reduceLE, Nat.reduceMul, Nat.reduceSub, slotsBy, boxesBy, tipsBy, rawAt, nm, AV.ren, AV.renL, AV.under, AV.underL, List.all_nil, List.all_cons, bne_self_eq_false, List.getD_cons_zero, List.getD_cons_succ, List.length_nil, List.length_cons, and_true, true_and, Int.natCast_zero]
      simp [digitsP, kanaP]
    · intro n hn _
      have d2 := digitsP_take hn 2
      have d3 := digitsP_take hn 3
      have dk := kanaP_take hn
      simp only [go_sem, Nat.reduceAdd, Nat.reduceEqDiff, Nat.reduceLT, reduceIte, reduceCtorEq, Nat.reduceBEq, Int.reduceLT, Int.reduceToNat, Int.reducePow, Nat.reduceLeDiff, Int.reduceLE, Nat.reduceMul, Nat.reduceSub, hn, runes_get l n hn]
      refine callGo_pure (of_pure _) (by rfl) ?_
      simp only [go_sem, Nat.reduceAdd, Nat.reduceEqDiff, Nat.reduceLT, reduceIte, reduceCtorEq, Nat.reduceBEq, Int.reduceLT, Int.reduceToNat, Int.reducePow, Nat.reduceLeDiff, Int.reduceLE, Nat.reduceMul, Nat.reduceSub, Row.prop]
      cases q2 : digitsP (l.take n) 2 <;> cases q3 : digitsP (l.take n) 3 <;> cases qk : kanaP (l.take n)
      all_goals
        rw [q2] at d2
        rw [q3] at d3
        rw [qk] at dk
        try simp only [Bool.true_or, Bool.false_or] at d2 d3 dk
        cases k9 : (rowAt l[n]).script == 9 <;> cases k10 : (rowAt l[n]).script == 10
        all_goals
          try simp only [k9, k10, Bool.true_or, Bool.false_or] at dk
          simp only [k9, k10, go_sem, Nat.reduceAdd, Nat.reduceEqDiff, Nat.reduceLT, reduceIte, reduceCtorEq, Nat.reduceBEq, Int.reduceLT, Int.reduceToNat, Int.reducePow, Nat.reduceLeDiff, Int.reduceLE, Nat.reduceMul, Nat.reduceSub]
          simp (disch := omega) only [wrap_i64]
          refine weak_by [] (by simp) rfl ?_ trivial trivial (by simp)
          simp only [go_sem, Nat.reduceAdd, Nat.reduceEqDiff, Nat.reduceLT, reduceIte, reduceCtorEq, Nat.reduceBEq, Int.reduceLT, Int.reduceToNat, Int.reducePow, Nat.reduceLeDiff, Int.reduceLE, Nat.reduceMul, Nat.reduceSub, slotsBy, boxesBy, tipsBy, rawAt, nm, AV.ren, AV.renL, AV.under, AV.underL, List.all_nil, List.all_cons, bne_self_eq_false, List.getD_cons_zero, List.getD_cons_succ, List.length_nil, List.length_cons, and_true, true_and, d2, d3, dk, Int.natCast_add, Int.natCast_one]
    · intro _
      rw [List.take_length]
      simp only [go_sem, Nat.reduceAdd, Nat.reduceEqDiff, Nat.reduceLT, reduceIte, reduceCtorEq, Nat.reduceBEq, Int.reduceLT, Int.reduceToNat, Int.reducePow, Nat.reduceLeDiff, Int.reduceLE, Nat.reduceMul, Nat.reduceSub, runes_length]
      refine loop_to l.length (fun n => ⟨[(0, some (.sl 21 (runes l) none)), (3, some (.lit (.bool (digitsP l 2)))), (4, some (.lit (.bool (digitsP l 3)))), (5, some (.lit (.bool (kanaP l)))), (54, some (.sl 21 (runes l) none)), (55, some (.lit (.int .i64 l.length))), (56, some (.lit (.int .i64 n)))], [], [], 0⟩)
        (fun _ => True) (weak_by [] (by simp) rfl ?_ trivial trivial (by simp)) trivial ?_ ?_
      · simp only [go_sem, Nat.reduceAdd, Nat.reduceEqDiff, Nat.reduceLT, reduceIte, reduceCtorEq, Nat.reduceBEq, Int.reduceLT, Int.reduceToNat, Int.reducePow, Nat.reduceLeDiff, Int.reduceLE, Nat.reduceMul, Nat.reduceSub, slotsBy, boxesBy, tipsBy, rawAt, nm, AV.ren, AV.renL, AV.under, AV.underL, List.all_nil, List.all_cons, bne_self_eq_false, List.getD_cons_zero, List.getD_cons_succ, List.length_nil, List.length_cons, and_true, true_and, Int.natCast_zero]
      · intro n hn _
        have ha := fun h => at_arab (l := l) hn h
        have hd := fun h => at_dot (l := l) hn h
        have hxx : ∀ b : Bool, (!(b == b)) = false := fun b => by cases b <;> rfl
        have hnx : ∀ b : Bool, ((!b) == b) = false := fun b => by cases b <;> rfl
        simp only [go_sem, Nat.reduceAdd, Nat.reduceEqDiff, Nat.reduceLT, reduceIte, reduceCtorEq, Nat.reduceBEq, Int.reduceLT, Int.reduceToNat, Int.reducePow, Nat.reduceLeDiff, Int.reduceLE, Nat.reduceMul, Nat.reduceSub, hn, runes_get l n hn]
        refine callGo_pure (of_pure _) (by rfl) ?_
        simp only [go_sem, Nat.reduceAdd, Nat.reduceEqDiff, Nat.reduceLT, reduceIte, reduceCtorEq, Nat.reduceBEq, Int.reduceLT, Int.reduceToNat, Int.reducePow, Nat.reduceLeDiff, Int.reduceLE, Nat.reduceMul, Nat.reduceSub, Row.prop]
        refine callGo_pure (at8_pure l n hl) (by rfl) ?_
        simp only [go_sem, Nat.reduceAdd, Nat.reduceEqDiff, Nat.reduceLT, reduceIte, reduceCtorEq, Nat.reduceBEq, Int.reduceLT, Int.reduceToNat, Int.reducePow, Nat.reduceLeDiff, Int.reduceLE, Nat.reduceMul, Nat.reduceSub]
        cases k2 : (rowAt l[n]).digits == 2
        · cases k3 : (rowAt l[n]).digits == 3
          · cases kd : l[n] == 12539
            · simp only [k2, k3, kd, go_sem, Nat.reduceAdd, Nat.reduceEqDiff, Nat.reduceLT, reduceIte, reduceCtorEq, Nat.reduceBEq, Int.reduceLT, Int.reduceToNat, Int.reducePow, Nat.reduceLeDiff, Int.reduceLE, Nat.reduceMul, Nat.reduceSub]
              simp (disch := omega) only [wrap_i64]
              refine weak_by [] (by simp) rfl ?_ trivial trivial (by simp)
              simp only [go_sem, Nat.reduceAdd, Nat.reduceEqDiff, Nat.reduceLT, reduceIte, reduceCtorEq, Nat.reduceBEq, Int.reduceLT, Int.reduceToNat, Int.reducePow, Nat.reduceLeDiff, Int.reduceLE, Nat.reduceMul, Nat.reduceSub, slotsBy, boxesBy, tipsBy, rawAt, nm, AV.ren, AV.renL, AV.under, AV.underL, List.all_nil, List.all_cons, bne_self_eq_false, List.getD_cons_zero, List.getD_cons_succ, List.length_nil, List.length_cons, and_true, true_and, Int.natCast_add, Int.natCast_one]
            · have hdd := hd (by simpa using kd)
              simp only [k2, k3, kd, go_sem, Nat.reduceAdd, Nat.reduceEqDiff, Nat.reduceLT, reduceIte, reduceCtorEq, Nat.reduceBEq, Int.reduceLT, Int.reduceToNat, Int.reducePow, Nat.reduceLeDiff, Int.reduceLE, Nat.reduceMul, Nat.reduceSub, hdd, hnx]
              simp (disch := omega) only [wrap_i64]
              refine weak_by [] (by simp) rfl ?_ trivial trivial (by simp)
              simp only [go_sem, Nat.reduceAdd, Nat.reduceEqDiff, Nat.reduceLT, reduceIte, reduceCtorEq, Nat.reduceBEq, Int.reduceLT, Int.reduceToNat, Int.reducePow, Nat.reduceLeDiff, Int.reduceLE, Nat.reduceMul, Nat.reduceSub, slotsBy, boxesBy, tipsBy, rawAt, nm, AV.ren, AV.renL, AV.under, AV.underL, List.all_nil, List.all_cons, bne_self_eq_false, List.getD_cons_zero, List.getD_cons_succ, List.length_nil, List.length_cons, and_true, true_and, Int.natCast_add, Int.natCast_one]
          · have haa := ha (.inr (by simpa using k3))
            cases q2 : digitsP l 2
            all_goals
              rw [q2] at haa
              simp only [Bool.true_and, Bool.false_and] at haa
              simp only [k2, k3, go_sem, Nat.reduceAdd, Nat.reduceEqDiff, Nat.reduceLT, reduceIte, reduceCtorEq, Nat.reduceBEq, Int.reduceLT, Int.reduceToNat, Int.reducePow, Nat.reduceLeDiff, Int.reduceLE, Nat.reduceMul, Nat.reduceSub, haa, hxx]
              simp (disch := omega) only [wrap_i64]
              refine weak_by [] (by simp) rfl ?_ trivial trivial (by simp)
              simp only [go_sem, Nat.reduceAdd, Nat.reduceEqDiff, Nat.reduceLT, reduceIte, reduceCtorEq, Nat.reduceBEq, Int.reduceLT, Int.reduceToNat, Int.reducePow, Nat.reduceLeDiff, Int.reduceLE, Nat.reduceMul, Nat.reduceSub, slotsBy, boxesBy, tipsBy, rawAt, nm, AV.ren, AV.renL, AV.under, AV.underL, List.all_nil, List.all_cons, bne_self_eq_false, List.getD_cons_zero, List.getD_cons_succ, List.length_nil, List.length_cons, and_true, true_and, Int.natCast_add, Int.natCast_one]
        · have haa := ha (.inl (by simpa using k2))
          cases q2 : digitsP l 2
          all_goals
            rw [q2] at haa
            simp only [Bool.true_and, Bool.false_and] at haa
            simp only [k2, go_sem, Nat.reduceAdd, Nat.reduceEqDiff, Nat.reduceLT, reduceIte, reduceCtorEq, Nat.reduceBEq, Int.reduceLT, Int.reduceToNat, Int.reducePow, Nat.reduceLeDiff, Int.reduceLE, Nat.reduceMul, Nat.reduceSub, haa, hxx]
            simp (disch := omega) only [wrap_i64]
            refine weak_by [] (by simp) rfl ?_ trivial trivial (by simp)
            simp only [go_sem, Nat.reduceAdd, Nat.reduceEqDiff, Nat.reduceLT, reduceIte, reduceCtorEq, Nat.reduceBEq, Int.reduceLT, Int.reduceToNat, Int.reducePow, Nat.reduceLeDiff, Int.reduceLE, Nat.reduceMul, Nat.reduceSub, slotsBy, boxesBy, tipsBy, rawAt, nm, AV.ren, AV.renL, AV.under, AV.underL, List.all_nil, List.all_cons, bne_self_eq_false, List.getD_cons_zero, List.getD_cons_succ, List.length_nil, List.length_cons, and_true, true_and, Int.natCast_add, Int.natCast_one]
      · intro _
        simp only [go_sem, Nat.reduceAdd, Nat.reduceEqDiff, Nat.reduceLT, reduceIte, reduceCtorEq, Nat.reduceBEq, Int.reduceLT, Int.reduceToNat, Int.reducePow, Nat.reduceLeDiff, Int.reduceLE, Nat.reduceMul, Nat.reduceSub]
        refine callGo_pure awake08_pure (by rfl) ?_
        simp only [go_sem, Nat.reduceAdd, Nat.reduceEqDiff, Nat.reduceLT, reduceIte, reduceCtorEq, Nat.reduceBEq, Int.reduceLT, Int.reduceToNat, Int.reducePow, Nat.reduceLeDiff, Int.reduceLE, Nat.reduceMul, Nat.reduceSub]
        simp only [Done, resAV, resL, resOne, look_nil, look_cons, Nat.reduceEqDiff, if_true, if_false, reduceIte, ite_true, ite_false, Nat.zero_ne_one, Nat.one_ne_zero, reduceCtorEq, true_or, or_true, true_and, Option.some.injEq, AV.lit.injEq, Value.int.injEq, Value.bool.injEq]

theorem contextDigits_any (avs : List AV) (h : Args Try.prog Try.f14.params.toList avs) : Pure Try.prog 14 avs [] (.lit (.bool true)) := by
  have hp : Try.f14.params.toList = [22] := by kernel_rfl
  rw [hp] at h
  obtain ⟨av0, rest0, rfl, a0, rfl⟩ := h
  obtain ⟨z0, rfl, w0, s0⟩ := arg_ints (e := 21) (k := .i32) (by kernel_rfl) (by kernel_rfl) a0
  rw [show Try.prog.bytesOf 21 = 4 from by kernel_rfl] at s0
  exact contextDigits_pure z0 ⟨by omega, fun n hn => by simpa [Lit.wf, IntKind.min, IntKind.max, IntKind.signed, IntKind.bits] using w0 n hn⟩

set_option maxRecDepth 100000 in
theorem contextDigits_lifted (os : Os) (started : os.Started) (H : Type) (enc : TypeId × Value → H) :
    ReturnsInHanded {} Try.checked os 14 .any (Rows.contextDigitsSpec.pre6 enc Try.prog Try.f14 Rows.contextDigitsRow.domain false) (Rows.contextDigitsSpec.post enc Try.prog Try.f14 false true false false) := by
  refine law_returns (C := Try.checked) (tb := 4) (by kernel_rfl) started (by kernel_rfl) Try.func14
    (ChangeSpec.witness6 (enc := enc) (C := Try.checked) false ⟨#[], #[.slice none 0 0], []⟩ 8 (by kernel_rfl) (by kernel_rfl) (by kernel_rfl) (by kernel_rfl))
    (by kernel_rfl) (by kernel_rfl) rfl rfl (by kernel_rfl) (by kernel_rfl) ?_ contextDigits_any
  intro ds hds
  have hp : Try.f14.params.toList = [22] := by kernel_rfl
  rw [hp] at hds
  match ds, hds with
  | [d0], _ => exact ⟨rfl, rfl, rfl⟩

theorem contextDigits_holds : Rows.ContextDigitsSaid :=
  OpenClaim.holds_of_wide 14 Try.f14 rfl rfl rfl rfl rfl rfl rfl ⟨rfl, rfl, rfl, rfl, rfl⟩ rfl rfl rfl rfl rfl (by kernel_rfl) Try.func14 (by kernel_rfl)
    (of_decide_eq_true (by kernel_rfl)) (by unfold Func.isWrapper; first | (rw [if_pos (by decide +kernel)]; kernel_rfl) | (rw [if_neg (by decide +kernel)]; exact ⟨rfl, rfl⟩))
    (fun os started H enc _ => contextDigits_lifted os started H enc)
end Go.Proofs.Ytocaeclhmkojiaa
