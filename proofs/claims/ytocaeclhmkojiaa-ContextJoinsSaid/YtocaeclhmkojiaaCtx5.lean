/-
A label without code points that ask for others fails nothing: the law answers true, whatever it is handed. Conditions: none.
-/
import Derived.Test.YtocaeclhmkojiaaCtx4
set_option linter.unusedSimpArgs false
set_option linter.unusedVariables false
set_option linter.unusedSectionVars false
namespace Go.Proofs.Ytocaeclhmkojiaa
open Go Go.Ab Go.ChangeShapes Go.WideShapes Go.ChangeAt Go.RowKit
def a41 : ACode :=
  (.seq (.reg [⟨(.some 2), (.mv (.k (.bool false))), .none⟩]) (.seq (.reg [⟨(.some 3), (.mv (.t 0)), .none⟩, ⟨(.some 4), (.bin .eql (.t 3) (.k (.int .i32 8204))), .none⟩, ⟨(.some 5), (.mv (.t 4)),
  .none⟩, ⟨(.some 6), (.mv (.t 0)), (.some (5, false))⟩, ⟨(.some 7), (.bin .eql (.t 6) (.k (.int .i32 8205))), (.some (5, false))⟩, ⟨(.some 8), (.pick (.t 5) (.k (.bool true)) (.t 7)), .none⟩, ⟨(.some
  9), (.mv (.t 8)), .none⟩, ⟨(.some 10), (.mv (.t 0)), (.some (9, false))⟩, ⟨(.some 11), (.bin .eql (.t 10) (.k (.int .i32 183))), (.some (9, false))⟩, ⟨(.some 12), (.pick (.t 9) (.k (.bool true)) (.t
  11)), .none⟩, ⟨(.some 13), (.mv (.t 12)), .none⟩, ⟨(.some 14), (.mv (.t 0)), (.some (13, false))⟩, ⟨(.some 15), (.bin .eql (.t 14) (.k (.int .i32 885))), (.some (13, false))⟩, ⟨(.some 16), (.pick (.t
  13) (.k (.bool true)) (.t 15)), .none⟩, ⟨(.some 17), (.mv (.t 16)), .none⟩, ⟨(.some 18), (.mv (.t 0)), (.some (17, false))⟩, ⟨(.some 19), (.bin .eql (.t 18) (.k (.int .i32 1523))), (.some (17,
  false))⟩, ⟨(.some 20), (.pick (.t 17) (.k (.bool true)) (.t 19)), .none⟩, ⟨(.some 21), (.mv (.t 20)), .none⟩, ⟨(.some 22), (.mv (.t 0)), (.some (21, false))⟩, ⟨(.some 23), (.bin .eql (.t 22) (.k (.int
  .i32 1524))), (.some (21, false))⟩, ⟨(.some 24), (.pick (.t 21) (.k (.bool true)) (.t 23)), .none⟩, ⟨(.some 25), (.mv (.t 24)), .none⟩, ⟨(.some 26), (.mv (.t 0)), (.some (25, false))⟩, ⟨(.some 27),
  (.bin .eql (.t 26) (.k (.int .i32 12539))), (.some (25, false))⟩, ⟨(.some 28), (.pick (.t 25) (.k (.bool true)) (.t 27)), .none⟩, ⟨(.some 29), (.mv (.t 28)), .none⟩, ⟨(.some 30), (.mv (.t 0)), (.some
  (29, false))⟩, ⟨(.some 31), (.bin .geq (.t 30) (.k (.int .i32 1632))), (.some (29, false))⟩, ⟨(.some 32), (.mv (.t 31)), (.some (29, false))⟩, ⟨(.some 33), (.mv (.t 0)), (.some (32, true))⟩, ⟨(.some
  34), (.bin .leq (.t 33) (.k (.int .i32 1641))), (.some (32, true))⟩, ⟨(.some 35), (.pick (.t 32) (.t 34) (.k (.bool false))), (.some (29, false))⟩, ⟨(.some 36), (.pick (.t 29) (.k (.bool true)) (.t
  35)), .none⟩, ⟨(.some 37), (.mv (.t 36)), .none⟩, ⟨(.some 38), (.mv (.t 0)), (.some (37, false))⟩, ⟨(.some 39), (.bin .geq (.t 38) (.k (.int .i32 1776))), (.some (37, false))⟩, ⟨(.some 40), (.mv (.t
  39)), (.some (37, false))⟩, ⟨(.some 41), (.mv (.t 0)), (.some (40, true))⟩, ⟨(.some 42), (.bin .leq (.t 41) (.k (.int .i32 1785))), (.some (40, true))⟩, ⟨(.some 43), (.pick (.t 40) (.t 42) (.k (.bool
  false))), (.some (37, false))⟩, ⟨(.some 44), (.pick (.t 37) (.k (.bool true)) (.t 43)), .none⟩, ⟨(.some 2), (.mv (.t 44)), .none⟩]) .ret))
theorem c41 : Try.f41.body.bind (cCode Try.prog 45) = some a41 := by kernel_rfl
theorem r41 : Try.f41.results.toList = [(.tmp 2)] := by kernel_rfl
theorem n41 : Try.f41.ntmps = 45 := by kernel_rfl
theorem e41 : Enters Try.prog 41 := enters_of Try.func41 (by kernel_rfl) (by kernel_rfl)
def a11 : ACode :=
  (.seq (.reg [⟨(.some 2), (.mv (.k (.bool false))), .none⟩]) (.seq (.seq (.reg [⟨(.some 8), (.mv (.t 0)), .none⟩, ⟨(.some 9), (.len (.t 8)), .none⟩, ⟨(.some 10), (.bin .gtr (.t 9) (.k (.int .i64
  200))), .none⟩]) (.cond (.t 10) (.seq (.reg [⟨(.some 11), (.call (.f 36) []), .none⟩, ⟨(.some 2), (.mv (.t 11)), .none⟩]) .ret) .skip)) (.seq (.reg [⟨(.some 3), (.mv (.k (.slice .none 0 0))), .none⟩])
  (.seq (.reg [⟨(.some 4), (.mv (.k (.int .u8 0))), .none⟩]) (.seq (.seq (.reg [⟨(.some 12), (.mv (.t 0)), .none⟩, ⟨(.some 13), (.len (.t 12)), .none⟩, ⟨(.some 14), (.mv (.k (.int .i64 0))), .none⟩])
  (.block 0 (.loop (.seq (.reg [⟨(.some 15), (.bin .lss (.t 14) (.t 13)), .none⟩]) (.seq (.cond (.t 15) .skip (.exit 0)) (.seq (.block 1 (.seq (.reg [⟨(.some 16), (.mv (.t 14)), .none⟩, ⟨(.some 17),
  (.ia 21 (.t 12) (.t 14)), .none⟩, ⟨(.some 18), (.ld .none (.t 17)), .none⟩, ⟨(.some 5), (.mv (.t 16)), .none⟩, ⟨(.some 6), (.mv (.t 18)), .none⟩]) (.seq (.reg [⟨(.some 19), (.mv (.t 0)), .none⟩,
  ⟨(.some 20), (.mv (.t 5)), .none⟩, ⟨(.some 21), (.call (.f 37) [(.t 19), (.t 20)]), .none⟩, ⟨(.some 7), (.mv (.t 21)), .none⟩]) (.seq (.seq (.reg [⟨(.some 22), (.mv (.t 6)), .none⟩, ⟨(.some 23),
  (.call (.f 41) [(.t 22)]), .none⟩, ⟨(.some 24), (.not (.t 23)), .none⟩]) (.cond (.t 24) (.seq (.reg [⟨(.some 25), (.mv (.t 3)), .none⟩, ⟨(.some 26), (.mv (.t 6)), .none⟩, ⟨(.some 27), (.bs 21 1 [(.t
  26)]), .none⟩, ⟨(.some 28), (.app 21 4 (.t 25) (.t 27)), .none⟩, ⟨(.some 3), (.mv (.t 28)), .none⟩]) (.seq (.reg [⟨(.some 29), (.mv (.t 7)), .none⟩, ⟨(.some 30), (.bin .neq (.t 29) (.k (.int .u8 0))),
  .none⟩]) (.cond (.t 30) (.seq (.reg [⟨(.some 2), (.mv (.k (.bool false))), .none⟩]) .ret) .skip))) .skip)) (.seq (.seq (.reg [⟨(.some 31), (.mv (.t 7)), .none⟩, ⟨(.some 32), (.bin .neq (.t 31) (.k
  (.int .u8 0))), .none⟩, ⟨(.some 33), (.mv (.t 32)), .none⟩, ⟨(.some 34), (.mv (.t 7)), (.some (33, true))⟩, ⟨(.some 35), (.bin .eql (.t 34) (.k (.int .u8 7))), (.some (33, true))⟩, ⟨(.some 36), (.mv
  (.t 6)), (.some (33, true))⟩, ⟨(.some 37), (.bin .eql (.t 36) (.k (.int .i32 8204))), (.some (33, true))⟩, ⟨(.some 38), (.mv (.t 37)), (.some (33, true))⟩, ⟨(.some 39), (.mv (.t 6)), (.some (38,
  false))⟩, ⟨(.some 40), (.bin .eql (.t 39) (.k (.int .i32 8205))), (.some (38, false))⟩, ⟨(.some 41), (.pick (.t 38) (.k (.bool true)) (.t 40)), (.some (33, true))⟩, ⟨(.some 42), (.eqB true (.t 35) (.t
  41)), (.some (33, true))⟩, ⟨(.some 43), (.pick (.t 33) (.t 42) (.k (.bool false))), .none⟩, ⟨(.some 44), (.mv (.t 43)), .none⟩, ⟨(.some 45), (.mv (.t 7)), (.some (44, false))⟩, ⟨(.some 46), (.bin .gtr
  (.t 45) (.k (.int .u8 8))), (.some (44, false))⟩, ⟨(.some 47), (.pick (.t 44) (.k (.bool true)) (.t 46)), .none⟩]) (.cond (.t 47) (.seq (.reg [⟨(.some 2), (.mv (.k (.bool false))), .none⟩]) .ret)
  .skip)) (.seq (.reg [⟨(.some 48), (.mv (.t 4)), .none⟩, ⟨(.some 49), (.bin .eql (.t 48) (.k (.int .u8 0))), .none⟩]) (.cond (.t 49) (.reg [⟨(.some 50), (.mv (.t 7)), .none⟩, ⟨(.some 4), (.mv (.t 50)),
  .none⟩]) .skip))))))) (.reg [⟨(.some 51), (.bin .add (.t 14) (.k (.int .i64 1))), .none⟩, ⟨(.some 14), (.mv (.t 51)), .none⟩]))))))) (.seq (.reg [⟨(.some 52), (.mv (.t 3)), .none⟩, ⟨(.some 53), (.call
  (.f 39) [(.t 52)]), .none⟩, ⟨(.some 54), (.bin .eql (.t 53) (.k (.int .u8 0))), .none⟩, ⟨(.some 55), (.mv (.t 54)), .none⟩, ⟨(.some 56), (.mv (.t 0)), (.some (55, true))⟩, ⟨(.some 57), (.call (.f 39)
  [(.t 56)]), (.some (55, true))⟩, ⟨(.some 58), (.mv (.t 4)), (.some (55, true))⟩, ⟨(.some 59), (.bin .eql (.t 57) (.t 58)), (.some (55, true))⟩, ⟨(.some 60), (.pick (.t 55) (.t 59) (.k (.bool false))),
  .none⟩, ⟨(.some 61), (.mv (.t 60)), .none⟩, ⟨(.some 62), (.mv (.t 0)), (.some (61, true))⟩, ⟨(.some 63), (.call (.f 37) [(.t 62), (.k (.int .i64 (-1)))]), (.some (61, true))⟩, ⟨(.some 64), (.bin .eql
  (.t 63) (.k (.int .u8 0))), (.some (61, true))⟩, ⟨(.some 65), (.pick (.t 61) (.t 64) (.k (.bool false))), .none⟩, ⟨(.some 66), (.mv (.t 65)), .none⟩, ⟨(.some 67), (.mv (.t 0)), (.some (66, true))⟩,
  ⟨(.some 68), (.mv (.t 0)), (.some (66, true))⟩, ⟨(.some 69), (.len (.t 68)), (.some (66, true))⟩, ⟨(.some 70), (.call (.f 37) [(.t 67), (.t 69)]), (.some (66, true))⟩, ⟨(.some 71), (.bin .eql (.t 70)
  (.k (.int .u8 0))), (.some (66, true))⟩, ⟨(.some 72), (.pick (.t 66) (.t 71) (.k (.bool false))), .none⟩, ⟨(.some 73), (.mv (.t 72)), .none⟩, ⟨(.some 74), (.call (.f 36) []), (.some (73, true))⟩,
  ⟨(.some 75), (.pick (.t 73) (.t 74) (.k (.bool false))), .none⟩, ⟨(.some 2), (.mv (.t 75)), .none⟩]) .ret))))))
theorem c11 : Try.f11.body.bind (cCode Try.prog 76) = some a11 := by kernel_rfl
theorem r11 : Try.f11.results.toList = [(.tmp 2)] := by kernel_rfl
theorem n11 : Try.f11.ntmps = 76 := by kernel_rfl
theorem e11 : Enters Try.prog 11 := enters_of Try.func11 (by kernel_rfl) (by kernel_rfl)

/-- Is a code point one of those that ask for others? -/
def asksOf (r : Int) : Bool := r == 8204 || (r == 8205 || (r == 183 || (r == 885 || (r == 1523 || (r == 1524 || (r == 12539 || ((decide (r ≥ 1632) && decide (r ≤ 1641)) || (decide (r ≥ 1776) && decide (r ≤ 1785)))))))))

set_option maxRecDepth 10000 in
theorem asks_pure (r : Int) : Pure Try.prog 41 [.lit (.int .i32 r)] [] (.lit (.bool (asksOf r))) := by
  refine pure0 Try.func41 c41 n41 e41 r41 (by simp) rfl ?_
  simp only [a41, astart, argSlots, go_sem, Nat.reduceAdd, Nat.reduceEqDiff, Nat.reduceLT, reduceIte, reduceCtorEq, Nat.reduceBEq, Int.reduceLT, Int.reduceToNat, Int.reducePow, Nat.reduceLeDiff, Int.reduceLE, Nat.reduceMul, Nat.reduceSub]
  by_cases r0 : r = 8204
  · subst r0
    simp only [go_sem, Nat.reduceAdd, Nat.reduceEqDiff, Nat.reduceLT, reduceIte, reduceCtorEq, Nat.reduceBEq, Int.reduceLT, Int.reduceToNat, Int.reducePow, Nat.reduceLeDiff, Int.reduceLE, Nat.reduceMul, Nat.reduceSub, Int.reduceBEq]
    simp only [Done, resAV, resL, resOne, look_nil, look_cons, Nat.reduceEqDiff, if_true, if_false, reduceIte, ite_true, ite_false, Nat.zero_ne_one, Nat.one_ne_zero, reduceCtorEq, true_or, or_true, true_and, Option.some.injEq, AV.lit.injEq, Value.int.injEq, Value.bool.injEq]
    rfl
  have n0 : (r == 8204) = false := by simpa using r0
  simp only [n0, go_sem, Nat.reduceAdd, Nat.reduceEqDiff, Nat.reduceLT, reduceIte, reduceCtorEq, Nat.reduceBEq, Int.reduceLT, Int.reduceToNat, Int.reducePow, Nat.reduceLeDiff, Int.reduceLE, Nat.reduceMul, Nat.reduceSub]
  by_cases r1 : r = 8205
  · subst r1
    simp only [go_sem, Nat.reduceAdd, Nat.reduceEqDiff, Nat.reduceLT, reduceIte, reduceCtorEq, Nat.reduceBEq, Int.reduceLT, Int.reduceToNat, Int.reducePow, Nat.reduceLeDiff, Int.reduceLE, Nat.reduceMul, Nat.reduceSub, Int.reduceBEq]
    simp only [Done, resAV, resL, resOne, look_nil, look_cons, Nat.reduceEqDiff, if_true, if_false, reduceIte, ite_true, ite_false, Nat.zero_ne_one, Nat.one_ne_zero, reduceCtorEq, true_or, or_true, true_and, Option.some.injEq, AV.lit.injEq, Value.int.injEq, Value.bool.injEq]
    rfl
  have n1 : (r == 8205) = false := by simpa using r1
  simp only [n1, go_sem, Nat.reduceAdd, Nat.reduceEqDiff, Nat.reduceLT, reduceIte, reduceCtorEq, Nat.reduceBEq, Int.reduceLT, Int.reduceToNat, Int.reducePow, Nat.reduceLeDiff, Int.reduceLE, Nat.reduceMul, Nat.reduceSub]
  by_cases r2 : r = 183
  · subst r2
    simp only [go_sem, Nat.reduceAdd, Nat.reduceEqDiff, Nat.reduceLT, reduceIte, reduceCtorEq, Nat.reduceBEq, Int.reduceLT, Int.reduceToNat, Int.reducePow, Nat.reduceLeDiff, Int.reduceLE, Nat.reduceMul, Nat.reduceSub, Int.reduceBEq]
    simp only [Done, resAV, resL, resOne, look_nil, look_cons, Nat.reduceEqDiff, if_true, if_false, reduceIte, ite_true, ite_false, Nat.zero_ne_one, Nat.one_ne_zero, reduceCtorEq, true_or, or_true, true_and, Option.some.injEq, AV.lit.injEq, Value.int.injEq, Value.bool.injEq]
    rfl
  have n2 : (r == 183) = false := by simpa using r2
  simp only [n2, go_sem, Nat.reduceAdd, Nat.reduceEqDiff, Nat.reduceLT, reduceIte, reduceCtorEq, Nat.reduceBEq, Int.reduceLT, Int.reduceToNat, Int.reducePow, Nat.reduceLeDiff, Int.reduceLE, Nat.reduceMul, Nat.reduceSub]
  by_cases r3 : r = 885
  · subst r3
    simp only [go_sem, Nat.reduceAdd, Nat.reduceEqDiff, Nat.reduceLT, reduceIte, reduceCtorEq, Nat.reduceBEq, Int.reduceLT, Int.reduceToNat, Int.reducePow, Nat.reduceLeDiff, Int.reduceLE, Nat.reduceMul, Nat.reduceSub, Int.reduceBEq]
    simp only [Done, resAV, resL, resOne, look_nil, look_cons, Nat.reduceEqDiff, if_true, if_false, reduceIte, ite_true, ite_false, Nat.zero_ne_one, Nat.one_ne_zero, reduceCtorEq, true_or, or_true, true_and, Option.some.injEq, AV.lit.injEq, Value.int.injEq, Value.bool.injEq]
    rfl
  have n3 : (r == 885) = false := by simpa using r3
  simp only [n3, go_sem, Nat.reduceAdd, Nat.reduceEqDiff, Nat.reduceLT, reduceIte, reduceCtorEq, Nat.reduceBEq, Int.reduceLT, Int.reduceToNat, Int.reducePow, Nat.reduceLeDiff, Int.reduceLE, Nat.reduceMul, Nat.reduceSub]
  by_cases r4 : r = 1523
  · subst r4
    simp only [go_sem, Nat.reduceAdd, Nat.reduceEqDiff, Nat.reduceLT, reduceIte, reduceCtorEq, Nat.reduceBEq, Int.reduceLT, Int.reduceToNat, Int.reducePow, Nat.reduceLeDiff, Int.reduceLE, Nat.reduceMul, Nat.reduceSub, Int.reduceBEq]
    simp only [Done, resAV, resL, resOne, look_nil, look_cons, Nat.reduceEqDiff, if_true, if_false, reduceIte, ite_true, ite_false, Nat.zero_ne_one, Nat.one_ne_zero, reduceCtorEq, true_or, or_true, true_and, Option.some.injEq, AV.lit.injEq, Value.int.injEq, Value.bool.injEq]
    rfl
  have n4 : (r == 1523) = false := by simpa using r4
  simp only [n4, go_sem, Nat.reduceAdd, Nat.reduceEqDiff, Nat.reduceLT, reduceIte, reduceCtorEq, Nat.reduceBEq, Int.reduceLT, Int.reduceToNat, Int.reducePow, Nat.reduceLeDiff, Int.reduceLE, Nat.reduceMul, Nat.reduceSub]
  by_cases r5 : r = 1524
  · subst r5
    simp only [go_sem, Nat.reduceAdd, Nat.reduceEqDiff, Nat.reduceLT, reduceIte, reduceCtorEq, Nat.reduceBEq, Int.reduceLT, Int.reduceToNat, Int.reducePow, Nat.reduceLeDiff, Int.reduceLE, Nat.reduceMul, Nat.reduceSub, Int.reduceBEq]
    simp only [Done, resAV, resL, resOne, look_nil, look_cons, Nat.reduceEqDiff, if_true, if_false, reduceIte, ite_true, ite_false, Nat.zero_ne_one, Nat.one_ne_zero, reduceCtorEq, true_or, or_true, true_and, Option.some.injEq, AV.lit.injEq, Value.int.injEq, Value.bool.injEq]
    rfl
  have n5 : (r == 1524) = false := by simpa using r5
  simp only [n5, go_sem, Nat.reduceAdd, Nat.reduceEqDiff, Nat.reduceLT, reduceIte, reduceCtorEq, Nat.reduceBEq, Int.reduceLT, Int.reduceToNat, Int.reducePow, Nat.reduceLeDiff, Int.reduceLE, Nat.reduceMul, Nat.reduceSub]
  by_cases r6 : r = 12539
  · subst r6
    simp only [go_sem, Nat.reduceAdd, Nat.reduceEqDiff, Nat.reduceLT, reduceIte, reduceCtorEq, Nat.reduceBEq, Int.reduceLT, Int.reduceToNat, Int.reducePow, Nat.reduceLeDiff, Int.reduceLE, Nat.reduceMul, Nat.reduceSub, Int.reduceBEq]
    simp only [Done, resAV, resL, resOne, look_nil, look_cons, Nat.reduceEqDiff, if_true, if_false, reduceIte, ite_true, ite_false, Nat.zero_ne_one, Nat.one_ne_zero, reduceCtorEq, true_or, or_true, true_and, Option.some.injEq, AV.lit.injEq, Value.int.injEq, Value.bool.injEq]
    rfl
  have n6 : (r == 12539) = false := by simpa using r6
  simp only [n6, go_sem, Nat.reduceAdd, Nat.reduceEqDiff, Nat.reduceLT, reduceIte, reduceCtorEq, Nat.reduceBEq, Int.reduceLT, Int.reduceToNat, Int.reducePow, Nat.reduceLeDiff, Int.reduceLE, Nat.reduceMul, Nat.reduceSub]
  have hr : asksOf r = ((decide (r ≥ 1632) && decide (r ≤ 1641)) || (decide (r ≥ 1776) && decide (r ≤ 1785))) := by
    simp only [asksOf, n0, n1, n2, n3, n4, n5, n6, Bool.false_or]
  cases h1 : decide (r ≥ 1632) <;> cases h2 : decide (r ≤ 1641) <;> cases h3 : decide (r ≥ 1776) <;> cases h4 : decide (r ≤ 1785)
  all_goals
    rw [h1, h2, h3, h4] at hr
    simp only [h1, h2, h3, h4, go_sem, Nat.reduceAdd, Nat.reduceEqDiff, Nat.reduceLT, reduceIte, reduceCtorEq, Nat.reduceBEq, Int.reduceLT, Int.reduceToNat, Int.reducePow, Nat.reduceLeDiff, Int.reduceLE, Nat.reduceMul, Nat.reduceSub]
    simp only [Done, resAV, resL, resOne, look_nil, look_cons, Nat.reduceEqDiff, if_true, if_false, reduceIte, ite_true, ite_false, Nat.zero_ne_one, Nat.one_ne_zero, reduceCtorEq, true_or, or_true, true_and, Option.some.injEq, AV.lit.injEq, Value.int.injEq, Value.bool.injEq]
    rw [hr]
    try rfl

theorem asks_key {r : Int} (h : asksOf r = false) : keyOf r = r ∧ ∀ l i, fineOf l i r = true := by
  simp only [asksOf, Bool.or_eq_false_iff, Bool.and_eq_false_iff, decide_eq_false_iff_not, beq_eq_false_iff_ne, ne_eq] at h
  obtain ⟨h1, h2, h3, h4, h5, h6, h7, h8, h9⟩ := h
  have k1 : r ≠ 1632 := by omega
  have k2 : r ≠ 1776 := by omega
  exact ⟨key_self (by omega) (by omega), fun l i => by simp [fineOf, *]⟩
theorem at_asks {l : List Int} {k : Nat} (hk : k < l.length) (h : asksOf l[k] = false) : atOf l (k : Int) = 0 :=
  (at_by l k hk (asks_key h).1 ((asks_key h).2 l k) rfl).trans (if_pos rfl)
theorem at_clause {l : List Int} {k : Nat} (hk : k < l.length) : atOf l (k : Int) ≤ 8 ∧ (atOf l (k : Int) ≠ 0 → (atOf l (k : Int) = 7 ↔ (l[k] = 8204 ∨ l[k] = 8205))) := by
  have h := at_by l k hk rfl (b := fineOf l k (keyOf l[k])) rfl (c := clauseOf (keyOf l[k])) rfl
  rw [h]
  have hc : clauseOf (keyOf l[k]) = 7 ↔ (l[k] = 8204 ∨ l[k] = 8205) := by
    by_cases r8 : 1632 ≤ l[k] ∧ l[k] ≤ 1641
    · rw [key_arab r8.1 r8.2]
      simp [clauseOf]; omega
    · by_cases r9 : 1776 ≤ l[k] ∧ l[k] ≤ 1785
      · rw [key_east r9.1 r9.2]
        simp [clauseOf]; omega
      · rw [key_self r8 r9]
        unfold clauseOf
        split
        · simp [*]
        · split
          · simp [*]
          · simp [*]
  have h8 : clauseOf (keyOf l[k]) = 7 ∨ clauseOf (keyOf l[k]) = 8 := by
    unfold clauseOf; split
    · exact .inl rfl
    · split
      · exact .inl rfl
      · exact .inr rfl
  split
  · simp
  · exact ⟨by omega, fun _ => hc⟩

/-- The first one's so far. -/
def fu (l : List Int) : Nat → Int
  | 0 => 0
  | i + 1 => if fu l i = 0 then atOf l (i : Int) else fu l i
theorem fu_first (l : List Int) : ∀ (n i : Nat), fu l (i + n) = if fu l i = 0 then firstFrom l n i else fu l i
  | 0, i => by simp only [Nat.add_zero, firstFrom]; split <;> simp [*]
  | n + 1, i => by
    rw [show i + (n + 1) = (i + 1) + n by omega, fu_first l n (i + 1), fu, firstFrom]
    by_cases h0 : fu l i = 0
    · simp only [if_pos h0]
      by_cases h1 : atOf l (i : Int) = 0
      · simp [h1]
      · simp [h1]
    · simp only [if_neg h0]
theorem fu_all (l : List Int) : fu l l.length = chk8 l := by
  have := fu_first l l.length 0
  rw [Nat.zero_add] at this
  rw [this]
  rfl
theorem first_zero {l : List Int} (h : ∀ k, k < l.length → atOf l (k : Int) = 0) : ∀ (n i : Nat), i + n ≤ l.length → firstFrom l n i = 0
  | 0, i, _ => rfl
  | n + 1, i, hi => by
    rw [firstFrom, if_neg (by rw [h i (by omega)]; simp), first_zero h n (i + 1) (by omega)]
def bareC (l : List Int) : List Int := l.filter fun r => !asksOf r
theorem bareC_take {l : List Int} {i : Nat} (hi : i < l.length) : bareC (l.take (i + 1)) = if asksOf l[i] = false then bareC (l.take i) ++ [l[i]] else bareC (l.take i) := by
  rw [List.take_succ_eq_append_getElem hi]
  simp only [bareC, List.filter_append, List.filter_cons, List.filter_nil]
  cases asksOf l[i] <;> simp
theorem bareC_len (l : List Int) : (bareC l).length ≤ l.length := List.length_filter_le _ _
theorem bareC_chk (l : List Int) : chk8 (bareC l) = 0 := by
  refine first_zero (fun k hk => at_asks hk ?_) _ _ (by omega)
  have := (List.mem_filter.1 (List.getElem_mem hk)).2
  simpa using this

theorem runesSnoc (q : List Int) (r : Int) : runes q ++ [[.int .i32 r]] = runes (q ++ [r]) := by simp [runes]

set_option maxRecDepth 10000 in
theorem contextPlain_pure (l : List Int) (h : l.length ≤ 35184372088064 ∧ I32 l) : Pure Try.prog 11 [.sl 21 (runes l) none] [] (.lit (.bool true)) := by
  refine pure0 Try.func11 c11 n11 e11 r11 (by simp) rfl ?_
  simp only [a11, astart, argSlots, go_sem, Nat.reduceAdd, Nat.reduceEqDiff, Nat.reduceLT, reduceIte, reduceCtorEq, Nat.reduceBEq, Int.reduceLT, Int.reduceToNat, Int.reducePow, Nat.reduceLeDiff, Int.reduceLE, Nat.reduceMul, Nat.reduceSub, runes_length]
  by_cases h0 : 200 < l.length
  · have e1 : decide ((l.length : Int) > 200) = true := by simp only [decide_eq_true_eq]; omega
    simp only [e1, go_sem, Nat.reduceAdd, Nat.reduceEqDiff, Nat.reduceLT, reduceIte, reduceCtorEq, Nat.reduceBEq, Int.reduceLT, Int.reduceToNat, Int.reducePow, Nat.reduceLeDiff, Int.reduceLE, Nat.reduceMul, Nat.reduceSub]
    refine callGo_pure awake08_pure (by rfl) ?_
    simp only [go_sem, Nat.reduceAdd, Nat.reduceEqDiff, Nat.reduceLT, reduceIte, reduceCtorEq, Nat.reduceBEq, Int.reduceLT, Int.reduceToNat, Int.reducePow, Nat.reduceLeDiff, Int.reduceLE, Nat.reduceMul, Nat.reduceSub]
    simp only [Done, resAV, resL, resOne, look_nil, look_cons, Nat.reduceEqDiff, if_true, if_false, reduceIte, ite_true, ite_false, Nat.zero_ne_one, Nat.one_ne_zero, reduceCtorEq, true_or, or_true, true_and, Option.some.injEq, AV.lit.injEq, Value.int.injEq, Value.bool.injEq]
  · have e1 : decide ((l.length : Int) > 200) = false := by simp only [decide_eq_false_iff_not]; omega
    have hl : l.length ≤ 1000000 := by omega
    simp only [e1, go_sem, Nat.reduceAdd, Nat.reduceEqDiff, Nat.reduceLT, reduceIte, reduceCtorEq, Nat.reduceBEq, Int.reduceLT, Int.reduceToNat, Int.reducePow, Nat.reduceLeDiff, Int.reduceLE, Nat.reduceMul, Nat.reduceSub, runes_length]
    refine loop_to l.length (fun n => ⟨[(0, some (.sl 21 (runes l) none)), (3, some (.sl 21 (runes (bareC (l.take n))) (some 0))), (4, some (.lit (.int .u8 (fu l n)))), (12, some (.sl 21 (runes l) none)), (13, some (.lit (.int .i64 l.length))), (14, some (.lit (.int .i64 n)))], [], [(0, 21)], 1⟩)
      (fun _ => True) ((weak_nil 3 21 (by simp only [go_sem, Nat.reduceAdd, Nat.reduceEqDiff, Nat.reduceLT, reduceIte, reduceCtorEq, Nat.reduceBEq, Int.reduceLT, Int.reduceToNat, Int.reducePow, Nat.reduceLeDiff, Int.reduceLE, Nat.reduceMul, Nat.reduceSub])).trans (weak_by [0] (by simp) rfl ?_ trivial ?_ (by simp))) trivial ?_ ?_
    · simp only [go_sem, Nat.reduceAdd, Nat.reduceEqDiff, Nat.reduceLT, reduceIte, reduceCtorEq, Nat.reduceBEq, Int.reduceLT, Int.reduceToNat, Int.reducePow, Nat.reduceLeDiff, Int.reduceLE, Nat.reduceMul, Nat.reduceSub, slotsBy, boxesBy, tipsBy, rawAt, nm, AV.ren, AV.renL, AV.under, AV.underL, List.all_nil, List.all_cons, bne_self_eq_false, List.getD_cons_zero, List.getD_cons_succ, List.length_nil, List.length_cons, and_true, true_and, Int.natCast_zero, fu]
      simp [bareC, runes]
    · simp only [go_sem, Nat.reduceAdd, Nat.reduceEqDiff, Nat.reduceLT, reduceIte, reduceCtorEq, Nat.reduceBEq, Int.reduceLT, Int.reduceToNat, Int.reducePow, Nat.reduceLeDiff, Int.reduceLE, Nat.reduceMul, Nat.reduceSub, slotsBy, boxesBy, tipsBy, rawAt, nm, AV.ren, AV.renL, AV.under, AV.underL, List.all_nil, List.all_cons, bne_self_eq_false, List.getD_cons_zero, List.getD_cons_succ, List.length_nil, List.length_cons, and_true, true_and, beq_self_eq_true]
    · intro n hn _
      have hb := bareC_take hn
      have hbl := bareC_len (l.take n)
      have htl := List.length_take_le n l
      have hc := at_clause hn
      have h8 : decide (atOf l (n : Int) > 8) = false := by simp only [decide_eq_false_iff_not]; omega
      have hfu : fu l (n + 1) = if fu l n = 0 then atOf l (n : Int) else fu l n := rfl
      have hz := fun h => at_asks (l := l) hn h
      simp only [go_sem, Nat.reduceAdd, Nat.reduceEqDiff, Nat.reduceLT, reduceIte, reduceCtorEq, Nat.reduceBEq, Int.reduceLT, Int.reduceToNat, Int.reducePow, Nat.reduceLeDiff, Int.reduceLE, Nat.reduceMul, Nat.reduceSub, hn, runes_get l n hn]
      refine callGo_pure (at8_pure l n hl) (by rfl) ?_
      simp only [go_sem, Nat.reduceAdd, Nat.reduceEqDiff, Nat.reduceLT, reduceIte, reduceCtorEq, Nat.reduceBEq, Int.reduceLT, Int.reduceToNat, Int.reducePow, Nat.reduceLeDiff, Int.reduceLE, Nat.reduceMul, Nat.reduceSub]
      refine callGo_pure (asks_pure _) (by rfl) ?_
      generalize l[n] = r at hb hc hz
      generalize atOf l (n : Int) = c at hc h8 hfu hz
      cases ha : asksOf r
      · rw [if_pos ha] at hb
        have hc0 := hz ha
        subst hc0
        simp only [go_sem, Nat.reduceAdd, Nat.reduceEqDiff, Nat.reduceLT, reduceIte, reduceCtorEq, Nat.reduceBEq, Int.reduceLT, Int.reduceToNat, Int.reducePow, Nat.reduceLeDiff, Int.reduceLE, Nat.reduceMul, Nat.reduceSub, bne_self_eq_false]
        refine ⟨by omega, ?_⟩
        rw [runesSnoc]
        by_cases hf : fu l n = 0
        · have ef : (fu l n == 0) = true := by simp [hf]
          rw [if_pos hf] at hfu
          simp only [h8, ef, go_sem, Nat.reduceAdd, Nat.reduceEqDiff, Nat.reduceLT, reduceIte, reduceCtorEq, Nat.reduceBEq, Int.reduceLT, Int.reduceToNat, Int.reducePow, Nat.reduceLeDiff, Int.reduceLE, Nat.reduceMul, Nat.reduceSub]
          simp (disch := omega) only [wrap_i64]
          refine weak_by [2] (by simp) rfl ?_ trivial ?_ (by simp)
          · simp only [go_sem, Nat.reduceAdd, Nat.reduceEqDiff, Nat.reduceLT, reduceIte, reduceCtorEq, Nat.reduceBEq, Int.reduceLT, Int.reduceToNat, Int.reducePow, Nat.reduceLeDiff, Int.reduceLE, Nat.reduceMul, Nat.reduceSub, slotsBy, boxesBy, tipsBy, rawAt, nm, AV.ren, AV.renL, AV.under, AV.underL, List.all_nil, List.all_cons, bne_self_eq_false, List.getD_cons_zero, List.getD_cons_succ, List.length_nil, List.length_cons, and_true, true_and, hb, hfu, Int.natCast_add, Int.natCast_one]
          · simp only [go_sem, Nat.reduceAdd, Nat.reduceEqDiff, Nat.reduceLT, reduceIte, reduceCtorEq, Nat.reduceBEq, Int.reduceLT, Int.reduceToNat, Int.reducePow, Nat.reduceLeDiff, Int.reduceLE, Nat.reduceMul, Nat.reduceSub, slotsBy, boxesBy, tipsBy, rawAt, nm, AV.ren, AV.renL, AV.under, AV.underL, List.all_nil, List.all_cons, bne_self_eq_false, List.getD_cons_zero, List.getD_cons_succ, List.length_nil, List.length_cons, and_true, true_and, beq_self_eq_true]
        · have ef : (fu l n == 0) = false := by simp [hf]
          rw [if_neg hf] at hfu
          simp only [h8, ef, go_sem, Nat.reduceAdd, Nat.reduceEqDiff, Nat.reduceLT, reduceIte, reduceCtorEq, Nat.reduceBEq, Int.reduceLT, Int.reduceToNat, Int.reducePow, Nat.reduceLeDiff, Int.reduceLE, Nat.reduceMul, Nat.reduceSub]
          simp (disch := omega) only [wrap_i64]
          refine weak_by [2] (by simp) rfl ?_ trivial ?_ (by simp)
          · simp only [go_sem, Nat.reduceAdd, Nat.reduceEqDiff, Nat.reduceLT, reduceIte, reduceCtorEq, Nat.reduceBEq, Int.reduceLT, Int.reduceToNat, Int.reducePow, Nat.reduceLeDiff, Int.reduceLE, Nat.reduceMul, Nat.reduceSub, slotsBy, boxesBy, tipsBy, rawAt, nm, AV.ren, AV.renL, AV.under, AV.underL, List.all_nil, List.all_cons, bne_self_eq_false, List.getD_cons_zero, List.getD_cons_succ, List.length_nil, List.length_cons, and_true, true_and, hb, hfu, Int.natCast_add, Int.natCast_one]
          · simp only [go_sem, Nat.reduceAdd, Nat.reduceEqDiff, Nat.reduceLT, reduceIte, reduceCtorEq, Nat.reduceBEq, Int.reduceLT, Int.reduceToNat, Int.reducePow, Nat.reduceLeDiff, Int.reduceLE, Nat.reduceMul, Nat.reduceSub, slotsBy, boxesBy, tipsBy, rawAt, nm, AV.ren, AV.renL, AV.under, AV.underL, List.all_nil, List.all_cons, bne_self_eq_false, List.getD_cons_zero, List.getD_cons_succ, List.length_nil, List.length_cons, and_true, true_and, beq_self_eq_true]
      · rw [if_neg (by rw [ha]; simp)] at hb
        simp only [go_sem, Nat.reduceAdd, Nat.reduceEqDiff, Nat.reduceLT, reduceIte, reduceCtorEq, Nat.reduceBEq, Int.reduceLT, Int.reduceToNat, Int.reducePow, Nat.reduceLeDiff, Int.reduceLE, Nat.reduceMul, Nat.reduceSub]
        have fin : ∀ s1 : State, True := fun _ => trivial
        by_cases hc0 : c = 0
        · subst hc0
          simp only [bne_self_eq_false, h8, go_sem, Nat.reduceAdd, Nat.reduceEqDiff, Nat.reduceLT, reduceIte, reduceCtorEq, Nat.reduceBEq, Int.reduceLT, Int.reduceToNat, Int.reducePow, Nat.reduceLeDiff, Int.reduceLE, Nat.reduceMul, Nat.reduceSub]
          by_cases hf : fu l n = 0
          · have ef : (fu l n == 0) = true := by simp [hf]
            rw [if_pos hf] at hfu
            simp only [h8, ef, go_sem, Nat.reduceAdd, Nat.reduceEqDiff, Nat.reduceLT, reduceIte, reduceCtorEq, Nat.reduceBEq, Int.reduceLT, Int.reduceToNat, Int.reducePow, Nat.reduceLeDiff, Int.reduceLE, Nat.reduceMul, Nat.reduceSub]
            simp (disch := omega) only [wrap_i64]
            refine weak_by [0] (by simp) rfl ?_ trivial ?_ (by simp)
            · simp only [go_sem, Nat.reduceAdd, Nat.reduceEqDiff, Nat.reduceLT, reduceIte, reduceCtorEq, Nat.reduceBEq, Int.reduceLT, Int.reduceToNat, Int.reducePow, Nat.reduceLeDiff, Int.reduceLE, Nat.reduceMul, Nat.reduceSub, slotsBy, boxesBy, tipsBy, rawAt, nm, AV.ren, AV.renL, AV.under, AV.underL, List.all_nil, List.all_cons, bne_self_eq_false, List.getD_cons_zero, List.getD_cons_succ, List.length_nil, List.length_cons, and_true, true_and, hb, hfu, Int.natCast_add, Int.natCast_one]
            · simp only [go_sem, Nat.reduceAdd, Nat.reduceEqDiff, Nat.reduceLT, reduceIte, reduceCtorEq, Nat.reduceBEq, Int.reduceLT, Int.reduceToNat, Int.reducePow, Nat.reduceLeDiff, Int.reduceLE, Nat.reduceMul, Nat.reduceSub, slotsBy, boxesBy, tipsBy, rawAt, nm, AV.ren, AV.renL, AV.under, AV.underL, List.all_nil, List.all_cons, bne_self_eq_false, List.getD_cons_zero, List.getD_cons_succ, List.length_nil, List.length_cons, and_true, true_and, beq_self_eq_true]
          · have ef : (fu l n == 0) = false := by simp [hf]
            rw [if_neg hf] at hfu
            simp only [h8, ef, go_sem, Nat.reduceAdd, Nat.reduceEqDiff, Nat.reduceLT, reduceIte, reduceCtorEq, Nat.reduceBEq, Int.reduceLT, Int.reduceToNat, Int.reducePow, Nat.reduceLeDiff, Int.reduceLE, Nat.reduceMul, Nat.reduceSub]
            simp (disch := omega) only [wrap_i64]
            refine weak_by [0] (by simp) rfl ?_ trivial ?_ (by simp)
            · simp only [go_sem, Nat.reduceAdd, Nat.reduceEqDiff, Nat.reduceLT, reduceIte, reduceCtorEq, Nat.reduceBEq, Int.reduceLT, Int.reduceToNat, Int.reducePow, Nat.reduceLeDiff, Int.reduceLE, Nat.reduceMul, Nat.reduceSub, slotsBy, boxesBy, tipsBy, rawAt, nm, AV.ren, AV.renL, AV.under, AV.underL, List.all_nil, List.all_cons, bne_self_eq_false, List.getD_cons_zero, List.getD_cons_succ, List.length_nil, List.length_cons, and_true, true_and, hb, hfu, Int.natCast_add, Int.natCast_one]
            · simp only [go_sem, Nat.reduceAdd, Nat.reduceEqDiff, Nat.reduceLT, reduceIte, reduceCtorEq, Nat.reduceBEq, Int.reduceLT, Int.reduceToNat, Int.reducePow, Nat.reduceLeDiff, Int.reduceLE, Nat.reduceMul, Nat.reduceSub, slotsBy, boxesBy, tipsBy, rawAt, nm, AV.ren, AV.renL, AV.under, AV.underL, List.all_nil, List.all_cons, bne_self_eq_false, List.getD_cons_zero, List.getD_cons_succ, List.length_nil, List.length_cons, and_true, true_and, beq_self_eq_true]
        · have ec : (c != 0) = true := by simpa using hc0
          have hj := hc.2 hc0
          have hx : (!(c == 7) == (r == 8204 || r == 8205)) = false := by
            have : (c == 7) = (r == 8204 || r == 8205) := by
              rw [Bool.eq_iff_iff]
              simpa using hj
            rw [this]
            cases (r == 8204 || r == 8205) <;> rfl
          have key : ∀ b : Bool, (r == 8204 || r == 8205) = b → (c == 7) = b := fun b hb => by
            rw [← hb, Bool.eq_iff_iff]
            simpa using hj
          have hnx : ∀ b : Bool, (!b == b) = false := fun b => by cases b <;> rfl
          have hcase : ((r == 8204) = true ∧ (c == 7) = true) ∨ ((r == 8204) = false ∧ (r == 8205) = true ∧ (c == 7) = true) ∨ ((r == 8204) = false ∧ (r == 8205) = false ∧ (c == 7) = false) := by
            cases q1 : r == 8204
            · cases q2 : r == 8205
              · exact .inr (.inr ⟨rfl, rfl, key false (by rw [q1, q2]; rfl)⟩)
              · exact .inr (.inl ⟨rfl, rfl, key true (by rw [q1, q2]; rfl)⟩)
            · exact .inl ⟨rfl, key true (by rw [q1]; rfl)⟩
          rcases hcase with ⟨q1, q7⟩ | ⟨q1, q2, q7⟩ | ⟨q1, q2, q7⟩
          case' neg.inl => simp only [ec, q7, q1, go_sem, Nat.reduceAdd, Nat.reduceEqDiff, Nat.reduceLT, reduceIte, reduceCtorEq, Nat.reduceBEq, Int.reduceLT, Int.reduceToNat, Int.reducePow, Nat.reduceLeDiff, Int.reduceLE, Nat.reduceMul, Nat.reduceSub, beq_self_eq_true, Bool.not_true, h8]
          case' neg.inr.inl => simp only [ec, q7, q1, q2, go_sem, Nat.reduceAdd, Nat.reduceEqDiff, Nat.reduceLT, reduceIte, reduceCtorEq, Nat.reduceBEq, Int.reduceLT, Int.reduceToNat, Int.reducePow, Nat.reduceLeDiff, Int.reduceLE, Nat.reduceMul, Nat.reduceSub, beq_self_eq_true, Bool.not_true, h8]
          case' neg.inr.inr => simp only [ec, q7, q1, q2, go_sem, Nat.reduceAdd, Nat.reduceEqDiff, Nat.reduceLT, reduceIte, reduceCtorEq, Nat.reduceBEq, Int.reduceLT, Int.reduceToNat, Int.reducePow, Nat.reduceLeDiff, Int.reduceLE, Nat.reduceMul, Nat.reduceSub, beq_self_eq_true, Bool.not_true, h8]
          all_goals
            by_cases hf : fu l n = 0
            · have ef : (fu l n == 0) = true := by simp [hf]
              rw [if_pos hf] at hfu
              simp only [ef, go_sem, Nat.reduceAdd, Nat.reduceEqDiff, Nat.reduceLT, reduceIte, reduceCtorEq, Nat.reduceBEq, Int.reduceLT, Int.reduceToNat, Int.reducePow, Nat.reduceLeDiff, Int.reduceLE, Nat.reduceMul, Nat.reduceSub]
              simp (disch := omega) only [wrap_i64]
              refine weak_by [0] (by simp) rfl ?_ trivial ?_ (by simp)
              · simp only [go_sem, Nat.reduceAdd, Nat.reduceEqDiff, Nat.reduceLT, reduceIte, reduceCtorEq, Nat.reduceBEq, Int.reduceLT, Int.reduceToNat, Int.reducePow, Nat.reduceLeDiff, Int.reduceLE, Nat.reduceMul, Nat.reduceSub, slotsBy, boxesBy, tipsBy, rawAt, nm, AV.ren, AV.renL, AV.under, AV.underL, List.all_nil, List.all_cons, bne_self_eq_false, List.getD_cons_zero, List.getD_cons_succ, List.length_nil, List.length_cons, and_true, true_and, hb, hfu, Int.natCast_add, Int.natCast_one]
              · simp only [go_sem, Nat.reduceAdd, Nat.reduceEqDiff, Nat.reduceLT, reduceIte, reduceCtorEq, Nat.reduceBEq, Int.reduceLT, Int.reduceToNat, Int.reducePow, Nat.reduceLeDiff, Int.reduceLE, Nat.reduceMul, Nat.reduceSub, slotsBy, boxesBy, tipsBy, rawAt, nm, AV.ren, AV.renL, AV.under, AV.underL, List.all_nil, List.all_cons, bne_self_eq_false, List.getD_cons_zero, List.getD_cons_succ, List.length_nil, List.length_cons, and_true, true_and, beq_self_eq_true]
            · have ef : (fu l n == 0) = false := by simp [hf]
              rw [if_neg hf] at hfu
              simp only [ef, go_sem, Nat.reduceAdd, Nat.reduceEqDiff, Nat.reduceLT, reduceIte, reduceCtorEq, Nat.reduceBEq, Int.reduceLT, Int.reduceToNat, Int.reducePow, Nat.reduceLeDiff, Int.reduceLE, Nat.reduceMul, Nat.reduceSub]
              simp (disch := omega) only [wrap_i64]
              refine weak_by [0] (by simp) rfl ?_ trivial ?_ (by simp)
              · simp only [go_sem, Nat.reduceAdd, Nat.reduceEqDiff, Nat.reduceLT, reduceIte, reduceCtorEq, Nat.reduceBEq, Int.reduceLT, Int.reduceToNat, Int.reducePow, Nat.reduceLeDiff, Int.reduceLE, Nat.reduceMul, Nat.reduceSub, slotsBy, boxesBy, tipsBy, rawAt, nm, AV.ren, AV.renL, AV.under, AV.underL, List.all_nil, List.all_cons, bne_self_eq_false, List.getD_cons_zero, List.getD_cons_succ, List.length_nil, List.length_cons, and_true, true_and, hb, hfu, Int.natCast_add, Int.natCast_one]
              · simp only [go_sem, Nat.reduceAdd, Nat.reduceEqDiff, Nat.reduceLT, reduceIte, reduceCtorEq, Nat.reduceBEq, Int.reduceLT, Int.reduceToNat, Int.reducePow, Nat.reduceLeDiff, Int.reduceLE, Nat.reduceMul, Nat.reduceSub, slotsBy, boxesBy, tipsBy, rawAt, nm, AV.ren, AV.renL, AV.under, AV.underL, List.all_nil, List.all_cons, bne_self_eq_false, List.getD_cons_zero, List.getD_cons_succ, List.length_nil, List.length_cons, and_true, true_and, beq_self_eq_true]
    · intro _
      rw [List.take_length]
      have hbl := bareC_len l
      simp only [go_sem, Nat.reduceAdd, Nat.reduceEqDiff, Nat.reduceLT, reduceIte, reduceCtorEq, Nat.reduceBEq, Int.reduceLT, Int.reduceToNat, Int.reducePow, Nat.reduceLeDiff, Int.reduceLE, Nat.reduceMul, Nat.reduceSub]
      refine callGo_pure (chk8_pure (bareC l) (by omega)) (by rfl) ?_
      simp only [go_sem, Nat.reduceAdd, Nat.reduceEqDiff, Nat.reduceLT, reduceIte, reduceCtorEq, Nat.reduceBEq, Int.reduceLT, Int.reduceToNat, Int.reducePow, Nat.reduceLeDiff, Int.reduceLE, Nat.reduceMul, Nat.reduceSub, bareC_chk, beq_self_eq_true]
      refine callGo_pure (chk8_pure l hl) (by rfl) ?_
      simp only [go_sem, Nat.reduceAdd, Nat.reduceEqDiff, Nat.reduceLT, reduceIte, reduceCtorEq, Nat.reduceBEq, Int.reduceLT, Int.reduceToNat, Int.reducePow, Nat.reduceLeDiff, Int.reduceLE, Nat.reduceMul, Nat.reduceSub, fu_all, beq_self_eq_true]
      refine callGo_pure (at8_is l (-1) 0 hl (by unfold atOf; rw [if_neg (by omega)])) (by rfl) ?_
      simp only [go_sem, Nat.reduceAdd, Nat.reduceEqDiff, Nat.reduceLT, reduceIte, reduceCtorEq, Nat.reduceBEq, Int.reduceLT, Int.reduceToNat, Int.reducePow, Nat.reduceLeDiff, Int.reduceLE, Nat.reduceMul, Nat.reduceSub, beq_self_eq_true, runes_length]
      refine callGo_pure (at8_is l l.length 0 hl (by unfold atOf; rw [if_neg (by omega)])) (by rfl) ?_
      simp only [go_sem, Nat.reduceAdd, Nat.reduceEqDiff, Nat.reduceLT, reduceIte, reduceCtorEq, Nat.reduceBEq, Int.reduceLT, Int.reduceToNat, Int.reducePow, Nat.reduceLeDiff, Int.reduceLE, Nat.reduceMul, Nat.reduceSub, beq_self_eq_true]
      refine callGo_pure awake08_pure (by rfl) ?_
      simp only [go_sem, Nat.reduceAdd, Nat.reduceEqDiff, Nat.reduceLT, reduceIte, reduceCtorEq, Nat.reduceBEq, Int.reduceLT, Int.reduceToNat, Int.reducePow, Nat.reduceLeDiff, Int.reduceLE, Nat.reduceMul, Nat.reduceSub]
      simp only [Done, resAV, resL, resOne, look_nil, look_cons, Nat.reduceEqDiff, if_true, if_false, reduceIte, ite_true, ite_false, Nat.zero_ne_one, Nat.one_ne_zero, reduceCtorEq, true_or, or_true, true_and, Option.some.injEq, AV.lit.injEq, Value.int.injEq, Value.bool.injEq]

theorem contextPlain_any (avs : List AV) (h : Args Try.prog Try.f11.params.toList avs) : Pure Try.prog 11 avs [] (.lit (.bool true)) := by
  have hp : Try.f11.params.toList = [22] := by kernel_rfl
  rw [hp] at h
  obtain ⟨av0, rest0, rfl, a0, rfl⟩ := h
  obtain ⟨z0, rfl, w0, s0⟩ := arg_ints (e := 21) (k := .i32) (by kernel_rfl) (by kernel_rfl) a0
  rw [show Try.prog.bytesOf 21 = 4 from by kernel_rfl] at s0
  exact contextPlain_pure z0 ⟨by omega, fun n hn => by simpa [Lit.wf, IntKind.min, IntKind.max, IntKind.signed, IntKind.bits] using w0 n hn⟩

set_option maxRecDepth 100000 in
theorem contextPlain_lifted (os : Os) (started : os.Started) (H : Type) (enc : TypeId × Value → H) :
    ReturnsInHanded {} Try.checked os 11 .any (Rows.contextPlainSpec.pre6 enc Try.prog Try.f11 Rows.contextPlainRow.domain false) (Rows.contextPlainSpec.post enc Try.prog Try.f11 false true false false) := by
  refine law_returns (C := Try.checked) (tb := 4) (by kernel_rfl) started (by kernel_rfl) Try.func11
    (ChangeSpec.witness6 (enc := enc) (C := Try.checked) false ⟨#[], #[.slice none 0 0], []⟩ 8 (by kernel_rfl) (by kernel_rfl) (by kernel_rfl) (by kernel_rfl))
    (by kernel_rfl) (by kernel_rfl) rfl rfl (by kernel_rfl) (by kernel_rfl) ?_ contextPlain_any
  intro ds hds
  have hp : Try.f11.params.toList = [22] := by kernel_rfl
  rw [hp] at hds
  match ds, hds with
  | [d0], _ => exact ⟨rfl, rfl, rfl⟩

theorem contextPlain_holds : Rows.ContextPlainSaid :=
  OpenClaim.holds_of_wide 11 Try.f11 rfl rfl rfl rfl rfl rfl rfl ⟨rfl, rfl, rfl, rfl, rfl⟩ rfl rfl rfl rfl rfl (by kernel_rfl) Try.func11 (by kernel_rfl)
    (of_decide_eq_true (by kernel_rfl)) (by unfold Func.isWrapper; first | (rw [if_pos (by decide +kernel)]; kernel_rfl) | (rw [if_neg (by decide +kernel)]; exact ⟨rfl, rfl⟩))
    (fun os started H enc _ => contextPlain_lifted os started H enc)
end Go.Proofs.Ytocaeclhmkojiaa
