/-
Neither the order of code points nor how often each stands says anything of scripts: the law answers true, whatever it is handed. Conditions: none.
-/
import Derived.Test.YtocaeclhmkojiaaMix11
set_option linter.unusedSimpArgs false
set_option linter.unusedVariables false
set_option linter.unusedSectionVars false
namespace Go.Proofs.Ytocaeclhmkojiaa
open Go Go.Ab Go.ChangeShapes Go.WideShapes Go.ChangeAt Go.RowKit
def a8 : ACode :=
  (.seq (.reg [⟨(.some 4), (.mv (.k (.bool false))), .none⟩]) (.seq (.seq (.reg [⟨(.some 15), (.mv (.t 0)), .none⟩, ⟨(.some 16), (.len (.t 15)), .none⟩, ⟨(.some 17), (.bin .gtr (.t 16) (.k (.int .i64
  200))), .none⟩]) (.cond (.t 17) (.seq (.reg [⟨(.some 18), (.call (.f 33) []), .none⟩, ⟨(.some 4), (.mv (.t 18)), .none⟩]) .ret) .skip)) (.seq (.reg [⟨(.some 19), (.mv (.t 1)), .none⟩, ⟨(.some 20),
  (.cvI .i64 (.t 19)), .none⟩, ⟨(.some 21), (.mv (.t 0)), .none⟩, ⟨(.some 22), (.len (.t 21)), .none⟩, ⟨(.some 23), (.bin .add (.t 22) (.k (.int .i64 1))), .none⟩, ⟨(.some 24), (.bin .rem (.t 20) (.t
  23)), .none⟩, ⟨(.some 5), (.mv (.t 24)), .none⟩]) (.seq (.dreg [⟨(.some 25), (.bs 21 1 []), .none⟩, ⟨(.some 26), (.mv (.t 0)), .none⟩, ⟨(.some 27), (.mv (.t 5)), .none⟩, ⟨(.some 28), (.slc 21 (.t 26)
  (.some (.t 27)) .none), .none⟩, ⟨(.some 29), (.app 21 4 (.t 25) (.t 28)), .none⟩, ⟨(.some 30), (.mv (.t 0)), .none⟩, ⟨(.some 31), (.mv (.t 5)), .none⟩, ⟨(.some 32), (.slc 21 (.t 30) .none (.some (.t
  31))), .none⟩, ⟨(.some 33), (.app 21 4 (.t 29) (.t 32)), .none⟩, ⟨(.some 34), (.mv (.t 0)), .none⟩, ⟨(.some 35), (.app 21 4 (.t 33) (.t 34)), .none⟩, ⟨(.some 6), (.mv (.t 35)), .none⟩]) (.seq (.seq
  (.reg [⟨(.some 36), (.mv (.t 6)), .none⟩, ⟨(.some 37), (.call (.f 25) [(.t 36)]), .none⟩, ⟨(.some 38), (.mv (.t 0)), .none⟩, ⟨(.some 39), (.call (.f 25) [(.t 38)]), .none⟩, ⟨(.some 40), (.call (.f 24)
  [(.t 37), (.t 39)]), .none⟩, ⟨(.some 41), (.not (.t 40)), .none⟩, ⟨(.some 42), (.mv (.t 41)), .none⟩, ⟨(.some 43), (.mv (.t 6)), (.some (42, false))⟩, ⟨(.some 44), (.call (.f 27) [(.t 43)]), (.some
  (42, false))⟩, ⟨(.some 45), (.mv (.t 0)), (.some (42, false))⟩, ⟨(.some 46), (.call (.f 27) [(.t 45)]), (.some (42, false))⟩, ⟨(.some 47), (.bin .neq (.t 44) (.t 46)), (.some (42, false))⟩, ⟨(.some
  48), (.pick (.t 42) (.k (.bool true)) (.t 47)), .none⟩, ⟨(.some 49), (.mv (.t 48)), .none⟩, ⟨(.some 50), (.mv (.t 6)), (.some (49, false))⟩, ⟨(.some 51), (.call (.f 29) [(.t 50)]), (.some (49,
  false))⟩, ⟨(.some 52), (.mv (.t 0)), (.some (49, false))⟩, ⟨(.some 53), (.call (.f 29) [(.t 52)]), (.some (49, false))⟩, ⟨(.some 54), (.eqB true (.t 51) (.t 53)), (.some (49, false))⟩, ⟨(.some 55),
  (.pick (.t 49) (.k (.bool true)) (.t 54)), .none⟩, ⟨(.some 56), (.mv (.t 55)), .none⟩, ⟨(.some 57), (.mv (.t 6)), (.some (56, false))⟩, ⟨(.some 58), (.call (.f 31) [(.t 57)]), (.some (56, false))⟩,
  ⟨(.some 59), (.mv (.t 0)), (.some (56, false))⟩, ⟨(.some 60), (.call (.f 31) [(.t 59)]), (.some (56, false))⟩, ⟨(.some 61), (.bin .neq (.t 58) (.t 60)), (.some (56, false))⟩, ⟨(.some 62), (.pick (.t
  56) (.k (.bool true)) (.t 61)), .none⟩]) (.cond (.t 62) (.seq (.reg [⟨(.some 4), (.mv (.k (.bool false))), .none⟩]) .ret) .skip)) (.seq (.reg [⟨(.some 63), (.xe .mkm []), .none⟩, ⟨(.some 7), (.mv (.t
  63)), .none⟩]) (.seq (.seq (.dreg [⟨(.some 64), (.mv (.t 0)), .none⟩, ⟨(.some 65), (.mv (.t 5)), .none⟩, ⟨(.some 66), (.slc 21 (.t 64) .none (.some (.t 65))), .none⟩, ⟨(.some 67), (.mv (.t 0)),
  .none⟩, ⟨(.some 68), (.mv (.t 5)), .none⟩, ⟨(.some 69), (.slc 21 (.t 67) (.some (.t 68)) .none), .none⟩, ⟨(.some 70), (.xe (.bsn 22) [(.t 66), (.t 69)]), .none⟩, ⟨(.some 71), (.len (.t 70)), .none⟩,
  ⟨(.some 72), (.mv (.k (.int .i64 0))), .none⟩]) (.block 0 (.loop (.seq (.reg [⟨(.some 73), (.bin .lss (.t 72) (.t 71)), .none⟩]) (.seq (.cond (.t 73) .skip (.exit 0)) (.seq (.block 1 (.seq (.reg
  [⟨(.some 74), (.ia 22 (.t 70) (.t 72)), .none⟩, ⟨(.some 75), (.ld .none (.t 74)), .none⟩, ⟨(.some 9), (.mv (.t 75)), .none⟩]) (.seq (.seq (.reg [⟨(.some 76), (.mv (.t 9)), .none⟩, ⟨(.some 77), (.call
  (.f 27) [(.t 76)]), .none⟩, ⟨(.some 78), (.mv (.t 0)), .none⟩, ⟨(.some 79), (.call (.f 27) [(.t 78)]), .none⟩, ⟨(.some 80), (.bin .gtr (.t 77) (.t 79)), .none⟩, ⟨(.some 81), (.mv (.t 80)), .none⟩,
  ⟨(.some 82), (.mv (.t 0)), (.some (81, false))⟩, ⟨(.some 83), (.call (.f 29) [(.t 82)]), (.some (81, false))⟩, ⟨(.some 84), (.mv (.t 83)), (.some (81, false))⟩, ⟨(.some 85), (.mv (.t 9)), (.some (84,
  true))⟩, ⟨(.some 86), (.call (.f 29) [(.t 85)]), (.some (84, true))⟩, ⟨(.some 87), (.not (.t 86)), (.some (84, true))⟩, ⟨(.some 88), (.pick (.t 84) (.t 87) (.k (.bool false))), (.some (81, false))⟩,
  ⟨(.some 89), (.pick (.t 81) (.k (.bool true)) (.t 88)), .none⟩]) (.cond (.t 89) (.seq (.reg [⟨(.some 4), (.mv (.k (.bool false))), .none⟩]) .ret) .skip)) (.seq (.reg [⟨(.some 90), (.mv (.t 9)),
  .none⟩, ⟨(.some 91), (.call (.f 25) [(.t 90)]), .none⟩, ⟨(.some 92), (.len (.t 91)), .none⟩, ⟨(.some 93), (.mv (.k (.int .i64 0))), .none⟩]) (.block 2 (.loop (.seq (.reg [⟨(.some 94), (.bin .lss (.t
  93) (.t 92)), .none⟩]) (.seq (.cond (.t 94) .skip (.exit 2)) (.seq (.block 3 (.seq (.reg [⟨(.some 95), (.ia 5 (.t 91) (.t 93)), .none⟩, ⟨(.some 96), (.ld .none (.t 95)), .none⟩, ⟨(.some 11), (.mv (.t
  96)), .none⟩]) (.reg [⟨(.some 97), (.mv (.t 7)), .none⟩, ⟨(.some 98), (.mv (.t 11)), .none⟩, ⟨(.some 99), (.xv (.lkp false (.int .i64 0)) [(.t 97), (.t 98)]), .none⟩, ⟨(.some 100), (.bin .add (.t 99)
  (.k (.int .i64 1))), .none⟩, ⟨.none, (.xe .mup [(.t 97), (.t 98), (.t 100)]), .none⟩]))) (.reg [⟨(.some 101), (.bin .add (.t 93) (.k (.int .i64 1))), .none⟩, ⟨(.some 93), (.mv (.t 101)),
  .none⟩])))))))))) (.reg [⟨(.some 102), (.bin .add (.t 72) (.k (.int .i64 1))), .none⟩, ⟨(.some 72), (.mv (.t 102)), .none⟩]))))))) (.seq (.reg [⟨(.some 103), (.mv (.t 0)), .none⟩, ⟨(.some 104), (.call
  (.f 25) [(.t 103)]), .none⟩, ⟨(.some 12), (.mv (.t 104)), .none⟩]) (.seq (.seq (.reg [⟨(.some 105), (.mv (.t 12)), .none⟩, ⟨(.some 106), (.len (.t 105)), .none⟩, ⟨(.some 107), (.mv (.k (.int .i64
  0))), .none⟩]) (.block 4 (.loop (.seq (.reg [⟨(.some 108), (.bin .lss (.t 107) (.t 106)), .none⟩]) (.seq (.cond (.t 108) .skip (.exit 4)) (.seq (.block 5 (.seq (.reg [⟨(.some 109), (.mv (.t 107)),
  .none⟩, ⟨(.some 110), (.ia 5 (.t 105) (.t 107)), .none⟩, ⟨(.some 111), (.ld .none (.t 110)), .none⟩, ⟨(.some 13), (.mv (.t 109)), .none⟩, ⟨(.some 14), (.mv (.t 111)), .none⟩]) (.seq (.reg [⟨(.some
  112), (.mv (.t 7)), .none⟩, ⟨(.some 113), (.mv (.t 14)), .none⟩, ⟨(.some 114), (.xv (.lkp false (.int .i64 0)) [(.t 112), (.t 113)]), .none⟩, ⟨(.some 115), (.bin .eql (.t 114) (.k (.int .i64 0))),
  .none⟩, ⟨(.some 116), (.mv (.t 115)), .none⟩, ⟨(.some 117), (.mv (.t 13)), (.some (116, false))⟩, ⟨(.some 118), (.bin .gtr (.t 117) (.k (.int .i64 0))), (.some (116, false))⟩, ⟨(.some 119), (.mv (.t
  118)), (.some (116, false))⟩, ⟨(.some 120), (.mv (.t 12)), (.some (119, true))⟩, ⟨(.some 121), (.mv (.t 13)), (.some (119, true))⟩, ⟨(.some 122), (.bin .sub (.t 121) (.k (.int .i64 1))), (.some (119,
  true))⟩, ⟨(.some 123), (.ia 5 (.t 120) (.t 122)), (.some (119, true))⟩, ⟨(.some 124), (.ld .none (.t 123)), (.some (119, true))⟩, ⟨(.some 125), (.mv (.t 14)), (.some (119, true))⟩, ⟨(.some 126), (.bin
  .geq (.t 124) (.t 125)), (.some (119, true))⟩, ⟨(.some 127), (.pick (.t 119) (.t 126) (.k (.bool false))), (.some (116, false))⟩, ⟨(.some 128), (.pick (.t 116) (.k (.bool true)) (.t 127)), .none⟩,
  ⟨(.some 129), (.mv (.t 128)), .none⟩, ⟨(.some 130), (.mv (.t 14)), (.some (129, false))⟩, ⟨(.some 131), (.bin .leq (.t 130) (.k (.int .u8 1))), (.some (129, false))⟩, ⟨(.some 132), (.pick (.t 129) (.k
  (.bool true)) (.t 131)), .none⟩]) (.cond (.t 132) (.seq (.reg [⟨(.some 4), (.mv (.k (.bool false))), .none⟩]) .ret) .skip)))) (.reg [⟨(.some 133), (.bin .add (.t 107) (.k (.int .i64 1))), .none⟩,
  ⟨(.some 107), (.mv (.t 133)), .none⟩]))))))) (.seq (.reg [⟨(.some 134), (.mv (.t 12)), .none⟩, ⟨(.some 135), (.len (.t 134)), .none⟩, ⟨(.some 136), (.mv (.t 7)), .none⟩, ⟨(.some 137), (.xv .lenM [(.t
  136)]), .none⟩, ⟨(.some 138), (.bin .eql (.t 135) (.t 137)), .none⟩, ⟨(.some 139), (.mv (.t 138)), .none⟩, ⟨(.some 140), (.call (.f 33) []), (.some (139, true))⟩, ⟨(.some 141), (.pick (.t 139) (.t
  140) (.k (.bool false))), .none⟩, ⟨(.some 4), (.mv (.t 141)), .none⟩]) .ret))))))))))
theorem c8 : Try.f8.body.bind (cCode Try.prog 142) = some a8 := by kernel_rfl
theorem r8 : Try.f8.results.toList = [(.tmp 4)] := by kernel_rfl
theorem n8 : Try.f8.ntmps = 142 := by kernel_rfl
theorem e8 : Enters Try.prog 8 := enters_of Try.func8 (by kernel_rfl) (by kernel_rfl)

/-- A label that a slice may hold. -/
def LabelIn (l : List Int) : Prop := l.length ≤ 35184372088064 ∧ I32 l
theorem runesTake (l : List Int) (k : Nat) : (runes l).take k = runes (l.take k) := by simp [runes]
theorem runesDrop (l : List Int) (k : Nat) : (runes l).drop k = runes (l.drop k) := by simp [runes]
theorem runesAppend (a b : List Int) : runes a ++ runes b = runes (a ++ b) := by simp [runes]
theorem runesNil : ([] : List (List Value)) = runes [] := rfl

/-- Scripts of the first parts. -/
def upto (l : List Int) (k j : Nat) : List Nat := if j = 0 then [] else if j = 1 then told (counts (l.take k)) 12 else parts l k
set_option maxRecDepth 10000 in
set_option maxHeartbeats 4000000 in
theorem mixedOrder_pure (l : List Int) (h : LabelIn l) (a : Int) (ha : 0 ≤ a ∧ a ≤ 255) : Pure Try.prog 8 [.sl 21 (runes l) none, .lit (.int .u8 a)] [] (.lit (.bool true)) := by
  have hl : l.length ≤ 4611686018427387904 := by have := h.1; omega
  refine pure0 Try.func8 c8 n8 e8 r8 (by simp) rfl ?_
  simp only [a8, astart, argSlots, go_sem, Nat.reduceAdd, Nat.reduceEqDiff, Nat.reduceLT, reduceIte, reduceCtorEq, Nat.reduceBEq, Int.reduceLT, Int.reduceToNat, Int.reducePow, Nat.reduceLeDiff, Int.reduceLE, Nat.reduceMul, Nat.reduceSub]
  by_cases h0 : 200 < l.length
  · have e1 : decide ((l.length : Int) > 200) = true := by simp only [decide_eq_true_eq]; omega
    simp only [runes_length, e1, go_sem, Nat.reduceAdd, Nat.reduceEqDiff, Nat.reduceLT, reduceIte, reduceCtorEq, Nat.reduceBEq, Int.reduceLT, Int.reduceToNat, Int.reducePow, Nat.reduceLeDiff, Int.reduceLE, Nat.reduceMul, Nat.reduceSub]
    refine callGo_pure awake10_pure (by rfl) ?_
    simp only [go_sem, Nat.reduceAdd, Nat.reduceEqDiff, Nat.reduceLT, reduceIte, reduceCtorEq, Nat.reduceBEq, Int.reduceLT, Int.reduceToNat, Int.reducePow, Nat.reduceLeDiff, Int.reduceLE, Nat.reduceMul, Nat.reduceSub]
    simp only [Done, resAV, resL, resOne, look_nil, look_cons, Nat.reduceEqDiff, if_true, if_false, reduceIte, ite_true, ite_false, Nat.zero_ne_one, Nat.one_ne_zero, reduceCtorEq, true_or, or_true, true_and, Option.some.injEq, AV.lit.injEq, Value.int.injEq, Value.bool.injEq]
  · have e1 : decide ((l.length : Int) > 200) = false := by simp only [decide_eq_false_iff_not]; omega
    have w1 : IntKind.i64.wrap a = a := wrap_i64 _ (by omega) (by omega)
    have w2 : IntKind.i64.wrap ((l.length : Int) + 1) = (l.length : Int) + 1 := wrap_i64 _ (by omega) (by omega)
    have z2 : ((l.length : Int) + 1 = 0) = False := by simp only [eq_iff_iff, iff_false]; omega
    obtain ⟨k, hk, hkl⟩ : ∃ k : Nat, a.tmod ((l.length : Int) + 1) = (k : Int) ∧ k ≤ l.length := by
      refine ⟨(a.tmod ((l.length : Int) + 1)).toNat, ?_, ?_⟩
      · have := Int.tmod_nonneg ((l.length : Int) + 1) ha.1; omega
      · have h1 := Int.tmod_nonneg ((l.length : Int) + 1) ha.1
        have h2 := Int.tmod_lt_of_pos a (show (0 : Int) < (l.length : Int) + 1 by omega)
        omega
    have hkT : (k ≤ l.length ∧ l.length ≤ l.length) = True := by simp [hkl]
    have hkT2 : (0 ≤ k ∧ k ≤ l.length) = True := by simp [hkl]
    have hq1 : Sub (l.drop k ++ l.take k ++ l) l := fun r hr => by
      rcases List.mem_append.1 hr with hr | hr
      · rcases List.mem_append.1 hr with hr | hr
        · exact List.mem_of_mem_drop hr
        · exact List.mem_of_mem_take hr
      · exact hr
    have hq2 : Sub l (l.drop k ++ l.take k ++ l) := fun r hr => List.mem_append_right _ hr
    have hql : (l.drop k ++ l.take k ++ l).length ≤ 4611686018427387904 := by simp; omega
    have L1 := told_both hq1 hq2
    have L2 := level_both hq1 hq2
    have L3 := one_both hq1 hq2
    have L4 := check_both hq1 hq2
    have m1 : (runes (l.drop k)).length = l.length - k := by rw [runes_length, List.length_drop]
    have m2 : (runes (l.take k)).length = k := by rw [runes_length, List.length_take]; omega
    have m3 : (runes l).take l.length = runes l := by rw [runesTake, List.take_length]
    simp only [runes_length, e1, w1, w2, z2, hk, hkT, hkT2, go_sem, Nat.reduceAdd, Nat.reduceEqDiff, Nat.reduceLT, reduceIte, reduceCtorEq, Nat.reduceBEq, Int.reduceLT, Int.reduceToNat, Int.reducePow, Nat.reduceLeDiff, Int.reduceLE, Nat.reduceMul, Nat.reduceSub, m3, runesDrop, runesTake]
    refine ⟨by simp only [List.length_drop]; omega, ?_⟩
    refine ⟨by simp only [List.length_drop, List.length_take]; omega, ?_⟩
    refine ⟨by simp only [List.length_append, runes_length, List.length_drop, List.length_take]; omega, ?_⟩
    simp only [runesAppend]
    generalize hq : l.drop k ++ l.take k ++ l = q at hq1 hq2 hql L1 L2 L3 L4 ⊢
    refine callGo_pure (scripts_pure q hql) (by rfl) ?_
    simp only [go_sem, Nat.reduceAdd, Nat.reduceEqDiff, Nat.reduceLT, reduceIte, reduceCtorEq, Nat.reduceBEq, Int.reduceLT, Int.reduceToNat, Int.reducePow, Nat.reduceLeDiff, Int.reduceLE, Nat.reduceMul, Nat.reduceSub]
    refine callGo_pure (scripts_pure l hl) (by rfl) ?_
    simp only [go_sem, Nat.reduceAdd, Nat.reduceEqDiff, Nat.reduceLT, reduceIte, reduceCtorEq, Nat.reduceBEq, Int.reduceLT, Int.reduceToNat, Int.reducePow, Nat.reduceLeDiff, Int.reduceLE, Nat.reduceMul, Nat.reduceSub, L1]
    refine callGo_pure (same_pure _) (by rfl) ?_
    simp only [go_sem, Nat.reduceAdd, Nat.reduceEqDiff, Nat.reduceLT, reduceIte, reduceCtorEq, Nat.reduceBEq, Int.reduceLT, Int.reduceToNat, Int.reducePow, Nat.reduceLeDiff, Int.reduceLE, Nat.reduceMul, Nat.reduceSub]
    refine callGo_pure (level_pure q hql) (by rfl) ?_
    simp only [go_sem, Nat.reduceAdd, Nat.reduceEqDiff, Nat.reduceLT, reduceIte, reduceCtorEq, Nat.reduceBEq, Int.reduceLT, Int.reduceToNat, Int.reducePow, Nat.reduceLeDiff, Int.reduceLE, Nat.reduceMul, Nat.reduceSub]
    refine callGo_pure (level_pure l hl) (by rfl) ?_
    simp only [go_sem, Nat.reduceAdd, Nat.reduceEqDiff, Nat.reduceLT, reduceIte, reduceCtorEq, Nat.reduceBEq, Int.reduceLT, Int.reduceToNat, Int.reducePow, Nat.reduceLeDiff, Int.reduceLE, Nat.reduceMul, Nat.reduceSub, L2, bne_self_eq_false]
    refine callGo_pure (digits_pure q hql) (by rfl) ?_
    simp only [go_sem, Nat.reduceAdd, Nat.reduceEqDiff, Nat.reduceLT, reduceIte, reduceCtorEq, Nat.reduceBEq, Int.reduceLT, Int.reduceToNat, Int.reducePow, Nat.reduceLeDiff, Int.reduceLE, Nat.reduceMul, Nat.reduceSub]
    refine callGo_pure (digits_pure l hl) (by rfl) ?_
    simp only [go_sem, Nat.reduceAdd, Nat.reduceEqDiff, Nat.reduceLT, reduceIte, reduceCtorEq, Nat.reduceBEq, Int.reduceLT, Int.reduceToNat, Int.reducePow, Nat.reduceLeDiff, Int.reduceLE, Nat.reduceMul, Nat.reduceSub, L3, beq_self_eq_true, Bool.not_true]
    refine callGo_pure (check_pure q hql) (by rfl) ?_
    simp only [go_sem, Nat.reduceAdd, Nat.reduceEqDiff, Nat.reduceLT, reduceIte, reduceCtorEq, Nat.reduceBEq, Int.reduceLT, Int.reduceToNat, Int.reducePow, Nat.reduceLeDiff, Int.reduceLE, Nat.reduceMul, Nat.reduceSub]
    refine callGo_pure (check_pure l hl) (by rfl) ?_
    simp only [go_sem, Nat.reduceAdd, Nat.reduceEqDiff, Nat.reduceLT, reduceIte, reduceCtorEq, Nat.reduceBEq, Int.reduceLT, Int.reduceToNat, Int.reducePow, Nat.reduceLeDiff, Int.reduceLE, Nat.reduceMul, Nat.reduceSub, L4, bne_self_eq_false]
    simp only [hkT, hkT2, runes_length, runesTake, runesDrop, m3, List.drop_zero, AV.one, go_sem, Nat.reduceAdd, Nat.reduceEqDiff, Nat.reduceLT, reduceIte, reduceCtorEq, Nat.reduceBEq, Int.reduceLT, Int.reduceToNat, Int.reducePow, Nat.reduceLeDiff, Int.reduceLE, Nat.reduceMul, Nat.reduceSub]
    refine loop_to 2 (fun j => ⟨[(0, some (.sl 21 (runes l) none)), (4, some (.lit (.bool false))), (7, some (.rf .map 0)), (70, some (.sn 22 [.sl 21 (runes (l.take k)) none, .sl 21 (runes (l.drop k)) none])), (71, some (.lit (.int .i64 ((2 : Nat) : Int)))), (72, some (.lit (.int .i64 (j : Int))))],
        [(0, [.ob (.map 0 0 (incs (upto l k j) []).length) (mc (incs (upto l k j) []))])], [], 1⟩)
      (fun _ => True) (weak_by [6] (by simp) rfl ?_ ?_ trivial (by simp)) trivial ?_ ?_
    · simp only [go_sem, Nat.reduceAdd, Nat.reduceEqDiff, Nat.reduceLT, reduceIte, reduceCtorEq, Nat.reduceBEq, Int.reduceLT, Int.reduceToNat, Int.reducePow, Nat.reduceLeDiff, Int.reduceLE, Nat.reduceMul, Nat.reduceSub, slotsBy, boxesBy, tipsBy, rawAt, nm, AV.ren, AV.renL, AV.under, AV.underL, List.all_nil, List.all_cons, bne_self_eq_false, List.getD_cons_zero, List.getD_cons_succ, List.length_nil, List.length_cons, and_true, true_and, Int.natCast_zero]
    · simp only [go_sem, Nat.reduceAdd, Nat.reduceEqDiff, Nat.reduceLT, reduceIte, reduceCtorEq, Nat.reduceBEq, Int.reduceLT, Int.reduceToNat, Int.reducePow, Nat.reduceLeDiff, Int.reduceLE, Nat.reduceMul, Nat.reduceSub, slotsBy, boxesBy, tipsBy, rawAt, nm, AV.ren, AV.renL, AV.under, AV.underL, List.all_nil, List.all_cons, bne_self_eq_false, List.getD_cons_zero, List.getD_cons_succ, List.length_nil, List.length_cons, and_true, true_and, upto, incs, mc_nil]
    · intro j hj _
      -- the part, what was counted before it, and behind it
      obtain ⟨p, hp, hsub, hup⟩ : ∃ p, ([.sl 21 (runes (l.take k)) none, .sl 21 (runes (l.drop k)) none] : List AV)[j]? = some (.sl 21 (runes p) none) ∧ Sub p l ∧ upto l k (j + 1) = upto l k j ++ told (counts p) 12 := by
        have hj2 : j = 0 ∨ j = 1 := by omega
        rcases hj2 with rfl | rfl
        · exact ⟨_, rfl, fun r hr => List.mem_of_mem_take hr, rfl⟩
        · exact ⟨_, rfl, fun r hr => List.mem_of_mem_drop hr, rfl⟩
      have hpl : p.length ≤ 4611686018427387904 := by
        have hj2 : j = 0 ∨ j = 1 := by omega
        rcases hj2 with rfl | rfl
        · simp only [List.getElem?_cons_zero, Option.some.injEq, AV.sl.injEq, true_and, and_true] at hp
          have := congrArg List.length hp
          rw [runes_length, runes_length, List.length_take] at this
          omega
        · simp only [List.getElem?_cons_succ, List.getElem?_cons_zero, Option.some.injEq, AV.sl.injEq, true_and, and_true] at hp
          have := congrArg List.length hp
          rw [runes_length, runes_length, List.length_drop] at this
          omega
      have ltt : decide ((j : Int) < ((2 : Nat) : Int)) = true := by simp only [decide_eq_true_eq]; omega
      have lv : decide (levelOf p > levelOf l) = false := by have := level_sub hsub; simp only [decide_eq_false_iff_not]; omega
      simp only [go_sem, Nat.reduceAdd, Nat.reduceEqDiff, Nat.reduceLT, reduceIte, reduceCtorEq, Nat.reduceBEq, Int.reduceLT, Int.reduceToNat, Int.reducePow, Nat.reduceLeDiff, Int.reduceLE, Nat.reduceMul, Nat.reduceSub, ltt, hp, Int.natCast_nonneg, Int.toNat_natCast]
      refine callGo_pure (level_pure p hpl) (by rfl) ?_
      simp only [go_sem, Nat.reduceAdd, Nat.reduceEqDiff, Nat.reduceLT, reduceIte, reduceCtorEq, Nat.reduceBEq, Int.reduceLT, Int.reduceToNat, Int.reducePow, Nat.reduceLeDiff, Int.reduceLE, Nat.reduceMul, Nat.reduceSub]
      refine callGo_pure (level_pure l hl) (by rfl) ?_
      simp only [go_sem, Nat.reduceAdd, Nat.reduceEqDiff, Nat.reduceLT, reduceIte, reduceCtorEq, Nat.reduceBEq, Int.reduceLT, Int.reduceToNat, Int.reducePow, Nat.reduceLeDiff, Int.reduceLE, Nat.reduceMul, Nat.reduceSub, lv]
      refine callGo_pure (digits_pure l hl) (by rfl) ?_
      simp only [go_sem, Nat.reduceAdd, Nat.reduceEqDiff, Nat.reduceLT, reduceIte, reduceCtorEq, Nat.reduceBEq, Int.reduceLT, Int.reduceToNat, Int.reducePow, Nat.reduceLeDiff, Int.reduceLE, Nat.reduceMul, Nat.reduceSub]
      cases hol : oneSystem l
      case' true => have hop := one_sub hsub hol
      case' true => simp only [go_sem, Nat.reduceAdd, Nat.reduceEqDiff, Nat.reduceLT, reduceIte, reduceCtorEq, Nat.reduceBEq, Int.reduceLT, Int.reduceToNat, Int.reducePow, Nat.reduceLeDiff, Int.reduceLE, Nat.reduceMul, Nat.reduceSub]
      case' true => refine callGo_pure (digits_pure p hpl) (by rfl) ?_
      case' true => simp only [hop, go_sem, Nat.reduceAdd, Nat.reduceEqDiff, Nat.reduceLT, reduceIte, reduceCtorEq, Nat.reduceBEq, Int.reduceLT, Int.reduceToNat, Int.reducePow, Nat.reduceLeDiff, Int.reduceLE, Nat.reduceMul, Nat.reduceSub]
      case' false => simp only [go_sem, Nat.reduceAdd, Nat.reduceEqDiff, Nat.reduceLT, reduceIte, reduceCtorEq, Nat.reduceBEq, Int.reduceLT, Int.reduceToNat, Int.reducePow, Nat.reduceLeDiff, Int.reduceLE, Nat.reduceMul, Nat.reduceSub]
      all_goals
        refine callGo_pure (scripts_pure p hpl) (by rfl) ?_
        have hT := told_count p
        have hpre : (upto l k j).length ≤ 12 := by
          have hj2 : j = 0 ∨ j = 1 := by omega
          rcases hj2 with rfl | rfl
          · simp [upto]
          · exact told_count _
        generalize told (counts p) 12 = T at hup hT ⊢
        simp only [go_sem, Nat.reduceAdd, Nat.reduceEqDiff, Nat.reduceLT, reduceIte, reduceCtorEq, Nat.reduceBEq, Int.reduceLT, Int.reduceToNat, Int.reducePow, Nat.reduceLeDiff, Int.reduceLE, Nat.reduceMul, Nat.reduceSub, octs_length]
        refine loop_to T.length (fun i => ⟨[(0, some (.sl 21 (runes l) none)), (4, some (.lit (.bool false))), (7, some (.rf .map 0)), (70, some (.sn 22 [.sl 21 (runes (l.take k)) none, .sl 21 (runes (l.drop k)) none])), (71, some (.lit (.int .i64 ((2 : Nat) : Int)))), (72, some (.lit (.int .i64 (j : Int)))), (91, some (.sl 5 (octs T) none)), (92, some (.lit (.int .i64 (T.length : Int)))), (93, some (.lit (.int .i64 (i : Int))))],
            [(0, [.ob (.map 0 0 (incs (upto l k j ++ T.take i) []).length) (mc (incs (upto l k j ++ T.take i) []))])], [], 1⟩)
          (fun _ => True) ((weak_untip 91 rfl).trans (weak_by [0] (by simp) rfl ?_ ?_ trivial (by simp))) trivial ?_ ?_
        · simp only [go_sem, Nat.reduceAdd, Nat.reduceEqDiff, Nat.reduceLT, reduceIte, reduceCtorEq, Nat.reduceBEq, Int.reduceLT, Int.reduceToNat, Int.reducePow, Nat.reduceLeDiff, Int.reduceLE, Nat.reduceMul, Nat.reduceSub, slotsBy, boxesBy, tipsBy, rawAt, nm, AV.ren, AV.renL, AV.under, AV.underL, List.all_nil, List.all_cons, bne_self_eq_false, List.getD_cons_zero, List.getD_cons_succ, List.length_nil, List.length_cons, and_true, true_and, Int.natCast_zero]
        · simp only [go_sem, Nat.reduceAdd, Nat.reduceEqDiff, Nat.reduceLT, reduceIte, reduceCtorEq, Nat.reduceBEq, Int.reduceLT, Int.reduceToNat, Int.reducePow, Nat.reduceLeDiff, Int.reduceLE, Nat.reduceMul, Nat.reduceSub, slotsBy, boxesBy, tipsBy, rawAt, nm, AV.ren, AV.renL, AV.under, AV.underL, List.all_nil, List.all_cons, bne_self_eq_false, List.getD_cons_zero, List.getD_cons_succ, List.length_nil, List.length_cons, and_true, true_and, List.take_zero, List.append_nil, mc_ren, mc_under]
        · intro i hi _
          have hg := getN_incs (upto l k j ++ T.take i) [] (T[i] : Nat)
          have hg2 := List.countP_le_length (p := fun (s : Nat) => (s : Int) == (T[i] : Nat)) (l := upto l k j ++ T.take i)
          have hg3 := List.length_take_le i T
          rw [List.length_append] at hg2
          simp only [getN, Int.zero_add] at hg
          have hin : incs (upto l k j ++ T.take (i + 1)) [] = inc (incs (upto l k j ++ T.take i) []) (T[i] : Nat) := by
            rw [List.take_succ_eq_append_getElem hi, ← List.append_assoc, incs_append _ [T[i]]]; rfl
          have hw : IntKind.i64.wrap (getN (incs (upto l k j ++ T.take i) []) (T[i] : Nat) + 1) = getN (incs (upto l k j ++ T.take i) []) (T[i] : Nat) + 1 := wrap_i64 _ (by omega) (by omega)
          simp only [go_sem, Nat.reduceAdd, Nat.reduceEqDiff, Nat.reduceLT, reduceIte, reduceCtorEq, Nat.reduceBEq, Int.reduceLT, Int.reduceToNat, Int.reducePow, Nat.reduceLeDiff, Int.reduceLE, Nat.reduceMul, Nat.reduceSub, hi, octs_get T i hi, mc_lkp, hw, mc_mup]
          simp (disch := omega) only [wrap_i64]
          refine weak_by [0] (by simp) rfl ?_ ?_ trivial (by simp)
          · simp only [go_sem, Nat.reduceAdd, Nat.reduceEqDiff, Nat.reduceLT, reduceIte, reduceCtorEq, Nat.reduceBEq, Int.reduceLT, Int.reduceToNat, Int.reducePow, Nat.reduceLeDiff, Int.reduceLE, Nat.reduceMul, Nat.reduceSub, slotsBy, boxesBy, tipsBy, rawAt, nm, AV.ren, AV.renL, AV.under, AV.underL, List.all_nil, List.all_cons, bne_self_eq_false, List.getD_cons_zero, List.getD_cons_succ, List.length_nil, List.length_cons, and_true, true_and, Int.natCast_add, Int.natCast_one]
          · simp only [go_sem, Nat.reduceAdd, Nat.reduceEqDiff, Nat.reduceLT, reduceIte, reduceCtorEq, Nat.reduceBEq, Int.reduceLT, Int.reduceToNat, Int.reducePow, Nat.reduceLeDiff, Int.reduceLE, Nat.reduceMul, Nat.reduceSub, slotsBy, boxesBy, tipsBy, rawAt, nm, AV.ren, AV.renL, AV.under, AV.underL, List.all_nil, List.all_cons, bne_self_eq_false, List.getD_cons_zero, List.getD_cons_succ, List.length_nil, List.length_cons, and_true, true_and, hin, mc_ren, mc_under]
        · intro _
          rw [List.take_length]
          simp only [go_sem, Nat.reduceAdd, Nat.reduceEqDiff, Nat.reduceLT, reduceIte, reduceCtorEq, Nat.reduceBEq, Int.reduceLT, Int.reduceToNat, Int.reducePow, Nat.reduceLeDiff, Int.reduceLE, Nat.reduceMul, Nat.reduceSub]
          simp (disch := omega) only [wrap_i64]
          refine weak_by [0] (by simp) rfl ?_ ?_ trivial (by simp)
          · simp only [go_sem, Nat.reduceAdd, Nat.reduceEqDiff, Nat.reduceLT, reduceIte, reduceCtorEq, Nat.reduceBEq, Int.reduceLT, Int.reduceToNat, Int.reducePow, Nat.reduceLeDiff, Int.reduceLE, Nat.reduceMul, Nat.reduceSub, slotsBy, boxesBy, tipsBy, rawAt, nm, AV.ren, AV.renL, AV.under, AV.underL, List.all_nil, List.all_cons, bne_self_eq_false, List.getD_cons_zero, List.getD_cons_succ, List.length_nil, List.length_cons, and_true, true_and, Int.natCast_add, Int.natCast_one]
          · simp only [go_sem, Nat.reduceAdd, Nat.reduceEqDiff, Nat.reduceLT, reduceIte, reduceCtorEq, Nat.reduceBEq, Int.reduceLT, Int.reduceToNat, Int.reducePow, Nat.reduceLeDiff, Int.reduceLE, Nat.reduceMul, Nat.reduceSub, slotsBy, boxesBy, tipsBy, rawAt, nm, AV.ren, AV.renL, AV.under, AV.underL, List.all_nil, List.all_cons, bne_self_eq_false, List.getD_cons_zero, List.getD_cons_succ, List.length_nil, List.length_cons, and_true, true_and, hup, mc_ren, mc_under]
    · intro _
      simp only [go_sem, Nat.reduceAdd, Nat.reduceEqDiff, Nat.reduceLT, reduceIte, reduceCtorEq, Nat.reduceBEq, Int.reduceLT, Int.reduceToNat, Int.reducePow, Nat.reduceLeDiff, Int.reduceLE, Nat.reduceMul, Nat.reduceSub]
      refine callGo_pure (scripts_pure l hl) (by rfl) ?_
      have h2 : upto l k 2 = parts l k := rfl
      have hlen := parts_len l k
      have hget := parts_get l k
      have hsort := told_sorted l
      have hmem : ∀ s ∈ told (counts l) 12, 2 ≤ s := fun s hs => ((told_mem l s).1 hs).2.1
      have hc := told_count l
      rw [h2]
      generalize told (counts l) 12 = T at hlen hget hsort hmem hc ⊢
      generalize incs (parts l k) [] = M at hlen hget ⊢
      simp only [go_sem, Nat.reduceAdd, Nat.reduceEqDiff, Nat.reduceLT, reduceIte, reduceCtorEq, Nat.reduceBEq, Int.reduceLT, Int.reduceToNat, Int.reducePow, Nat.reduceLeDiff, Int.reduceLE, Nat.reduceMul, Nat.reduceSub, octs_length]
      refine loop_to T.length (fun i => ⟨[(0, some (.sl 21 (runes l) none)), (4, some (.lit (.bool false))), (7, some (.rf .map 0)), (12, some (.sl 5 (octs T) none)), (105, some (.sl 5 (octs T) none)), (106, some (.lit (.int .i64 (T.length : Int)))), (107, some (.lit (.int .i64 (i : Int))))],
          [(0, [.ob (.map 0 0 M.length) (mc M)])], [], 1⟩)
        (fun _ => True) ((weak_untip 105 rfl).trans ((weak_untip 12 rfl).trans (weak_by [0] (by simp) rfl ?_ ?_ trivial (by simp)))) trivial ?_ ?_
      · simp only [go_sem, Nat.reduceAdd, Nat.reduceEqDiff, Nat.reduceLT, reduceIte, reduceCtorEq, Nat.reduceBEq, Int.reduceLT, Int.reduceToNat, Int.reducePow, Nat.reduceLeDiff, Int.reduceLE, Nat.reduceMul, Nat.reduceSub, slotsBy, boxesBy, tipsBy, rawAt, nm, AV.ren, AV.renL, AV.under, AV.underL, List.all_nil, List.all_cons, bne_self_eq_false, List.getD_cons_zero, List.getD_cons_succ, List.length_nil, List.length_cons, and_true, true_and, Int.natCast_zero]
      · simp only [go_sem, Nat.reduceAdd, Nat.reduceEqDiff, Nat.reduceLT, reduceIte, reduceCtorEq, Nat.reduceBEq, Int.reduceLT, Int.reduceToNat, Int.reducePow, Nat.reduceLeDiff, Int.reduceLE, Nat.reduceMul, Nat.reduceSub, slotsBy, boxesBy, tipsBy, rawAt, nm, AV.ren, AV.renL, AV.under, AV.underL, List.all_nil, List.all_cons, bne_self_eq_false, List.getD_cons_zero, List.getD_cons_succ, List.length_nil, List.length_cons, and_true, true_and, mc_ren, mc_under]
      · intro i hi _
        have hs0 : (getN M (T[i] : Nat) == 0) = false := by simpa using hget _ (List.getElem_mem hi)
        have hs2 : decide (((T[i] : Nat) : Int) ≤ 1) = false := by have := hmem _ (List.getElem_mem hi); simp only [decide_eq_false_iff_not]; omega
        cases i with
        | zero =>
          have z0 : decide (((0 : Nat) : Int) > 0) = false := rfl
          simp only [go_sem, Nat.reduceAdd, Nat.reduceEqDiff, Nat.reduceLT, reduceIte, reduceCtorEq, Nat.reduceBEq, Int.reduceLT, Int.reduceToNat, Int.reducePow, Nat.reduceLeDiff, Int.reduceLE, Nat.reduceMul, Nat.reduceSub, hi, octs_get T 0 hi, mc_lkp, hs0, hs2, z0]
          simp (disch := omega) only [wrap_i64]
          refine weak_by [0] (by simp) rfl ?_ ?_ trivial (by simp)
          · simp only [go_sem, Nat.reduceAdd, Nat.reduceEqDiff, Nat.reduceLT, reduceIte, reduceCtorEq, Nat.reduceBEq, Int.reduceLT, Int.reduceToNat, Int.reducePow, Nat.reduceLeDiff, Int.reduceLE, Nat.reduceMul, Nat.reduceSub, slotsBy, boxesBy, tipsBy, rawAt, nm, AV.ren, AV.renL, AV.under, AV.underL, List.all_nil, List.all_cons, bne_self_eq_false, List.getD_cons_zero, List.getD_cons_succ, List.length_nil, List.length_cons, and_true, true_and, Int.natCast_add, Int.natCast_one]
            rfl
          · simp only [go_sem, Nat.reduceAdd, Nat.reduceEqDiff, Nat.reduceLT, reduceIte, reduceCtorEq, Nat.reduceBEq, Int.reduceLT, Int.reduceToNat, Int.reducePow, Nat.reduceLeDiff, Int.reduceLE, Nat.reduceMul, Nat.reduceSub, slotsBy, boxesBy, tipsBy, rawAt, nm, AV.ren, AV.renL, AV.under, AV.underL, List.all_nil, List.all_cons, bne_self_eq_false, List.getD_cons_zero, List.getD_cons_succ, List.length_nil, List.length_cons, and_true, true_and, mc_ren, mc_under]
        | succ m =>
          have hm : m < T.length := by omega
          have z0 : decide (((m + 1 : Nat) : Int) > 0) = true := by simp only [decide_eq_true_eq]; omega
          have hw : IntKind.i64.wrap (((m + 1 : Nat) : Int) - 1) = (m : Int) := by rw [wrap_i64 _ (by omega) (by omega)]; omega
          have hlt : decide (((T[m] : Nat) : Int) ≥ ((T[m + 1] : Nat) : Int)) = false := by
            have := List.pairwise_iff_getElem.1 hsort m (m + 1) hm hi (by omega)
            simp only [decide_eq_false_iff_not]; omega
          simp only [go_sem, Nat.reduceAdd, Nat.reduceEqDiff, Nat.reduceLT, reduceIte, reduceCtorEq, Nat.reduceBEq, Int.reduceLT, Int.reduceToNat, Int.reducePow, Nat.reduceLeDiff, Int.reduceLE, Nat.reduceMul, Nat.reduceSub, hi, octs_get T (m + 1) hi, mc_lkp, hs0, z0, hw, hm, octs_get T m hm, hlt, hs2, Int.natCast_nonneg, Int.toNat_natCast]
          simp (disch := omega) only [wrap_i64]
          refine weak_by [0] (by simp) rfl ?_ ?_ trivial (by simp)
          · simp only [go_sem, Nat.reduceAdd, Nat.reduceEqDiff, Nat.reduceLT, reduceIte, reduceCtorEq, Nat.reduceBEq, Int.reduceLT, Int.reduceToNat, Int.reducePow, Nat.reduceLeDiff, Int.reduceLE, Nat.reduceMul, Nat.reduceSub, slotsBy, boxesBy, tipsBy, rawAt, nm, AV.ren, AV.renL, AV.under, AV.underL, List.all_nil, List.all_cons, bne_self_eq_false, List.getD_cons_zero, List.getD_cons_succ, List.length_nil, List.length_cons, and_true, true_and, Int.natCast_add, Int.natCast_one]
          · simp only [go_sem, Nat.reduceAdd, Nat.reduceEqDiff, Nat.reduceLT, reduceIte, reduceCtorEq, Nat.reduceBEq, Int.reduceLT, Int.reduceToNat, Int.reducePow, Nat.reduceLeDiff, Int.reduceLE, Nat.reduceMul, Nat.reduceSub, slotsBy, boxesBy, tipsBy, rawAt, nm, AV.ren, AV.renL, AV.under, AV.underL, List.all_nil, List.all_cons, bne_self_eq_false, List.getD_cons_zero, List.getD_cons_succ, List.length_nil, List.length_cons, and_true, true_and, mc_ren, mc_under]
      · intro _
        have el : ((T.length : Int) == (M.length : Int)) = true := by rw [hlen]; simp
        simp only [go_sem, Nat.reduceAdd, Nat.reduceEqDiff, Nat.reduceLT, reduceIte, reduceCtorEq, Nat.reduceBEq, Int.reduceLT, Int.reduceToNat, Int.reducePow, Nat.reduceLeDiff, Int.reduceLE, Nat.reduceMul, Nat.reduceSub, octs_length, el]
        refine callGo_pure awake10_pure (by rfl) ?_
        simp only [go_sem, Nat.reduceAdd, Nat.reduceEqDiff, Nat.reduceLT, reduceIte, reduceCtorEq, Nat.reduceBEq, Int.reduceLT, Int.reduceToNat, Int.reducePow, Nat.reduceLeDiff, Int.reduceLE, Nat.reduceMul, Nat.reduceSub]
        simp only [Done, resAV, resL, resOne, look_nil, look_cons, Nat.reduceEqDiff, if_true, if_false, reduceIte, ite_true, ite_false, Nat.zero_ne_one, Nat.one_ne_zero, reduceCtorEq, true_or, or_true, true_and, Option.some.injEq, AV.lit.injEq, Value.int.injEq, Value.bool.injEq]

theorem mixedOrder_any (avs : List AV) (h : Args Try.prog Try.f8.params.toList avs) : Pure Try.prog 8 avs [] (.lit (.bool true)) := by
  have hp : Try.f8.params.toList = [22, 5] := by kernel_rfl
  rw [hp] at h
  obtain ⟨av0, rest0, rfl, a0, h0⟩ := h
  obtain ⟨av1, rest1, rfl, a1, rfl⟩ := h0
  obtain ⟨z0, rfl, w0, s0⟩ := arg_ints (e := 21) (k := .i32) (by kernel_rfl) (by kernel_rfl) a0
  rw [show Try.prog.bytesOf 21 = 4 from by kernel_rfl] at s0
  obtain ⟨z1, rfl, w1⟩ := arg_int (k := .u8) (by kernel_rfl) a1
  exact mixedOrder_pure z0 ⟨by omega, fun n hn => by simpa [Lit.wf, IntKind.min, IntKind.max, IntKind.signed, IntKind.bits] using w0 n hn⟩ z1 (by simpa [Lit.wf, IntKind.min, IntKind.max, IntKind.signed, IntKind.bits] using w1)

set_option maxRecDepth 100000 in
theorem mixedOrder_lifted (os : Os) (started : os.Started) (H : Type) (enc : TypeId × Value → H) :
    ReturnsInHanded {} Try.checked os 8 .any (Rows.mixedOrderSpec.pre6 enc Try.prog Try.f8 Rows.mixedOrderRow.domain false) (Rows.mixedOrderSpec.post enc Try.prog Try.f8 false true false false) := by
  refine law_returns (C := Try.checked) (tb := 4) (by kernel_rfl) started (by kernel_rfl) Try.func8
    (ChangeSpec.witness6 (enc := enc) (C := Try.checked) false ⟨#[], #[.slice none 0 0, .int .u8 0], []⟩ 8 (by kernel_rfl) (by kernel_rfl) (by kernel_rfl) (by kernel_rfl))
    (by kernel_rfl) (by kernel_rfl) rfl rfl (by kernel_rfl) (by kernel_rfl) ?_ mixedOrder_any
  intro ds hds
  have hp : Try.f8.params.toList = [22, 5] := by kernel_rfl
  rw [hp] at hds
  match ds, hds with
  | [d0, d1], _ => exact ⟨rfl, rfl, rfl⟩

theorem mixedOrder_holds : Rows.MixedOrderSaid :=
  OpenClaim.holds_of_wide 8 Try.f8 rfl rfl rfl rfl rfl rfl rfl ⟨rfl, rfl, rfl, rfl, rfl⟩ rfl rfl rfl rfl rfl (by kernel_rfl) Try.func8 (by kernel_rfl)
    (of_decide_eq_true (by kernel_rfl)) (by unfold Func.isWrapper; first | (rw [if_pos (by decide +kernel)]; kernel_rfl) | (rw [if_neg (by decide +kernel)]; exact ⟨rfl, rfl⟩))
    (fun os started H enc _ => mixedOrder_lifted os started H enc)
end Go.Proofs.Ytocaeclhmkojiaa
