/-
What kinds of code points there are: the statement UcdKinds. Conditions: none.
-/
import Derived.Test.YtbnaepdeakcljaaUcd9
set_option linter.unusedSimpArgs false
set_option linter.unusedVariables false
set_option linter.unusedSectionVars false
namespace Go.Proofs.Ytbnaepdeakcljaa
open Go Go.Ab Go.ChangeShapes Go.WideShapes Go.ChangeAt Go.RowKit
def a11 : ACode :=
  (.seq (.reg [⟨(.some 4), (.mv (.k (.bool false))), .none⟩]) (.seq (.reg [⟨(.some 11), (.call (.f 28) []), .none⟩, ⟨(.some 5), (.mv (.t 11)), .none⟩]) (.seq (.seq (.reg [⟨(.some 12), (.mv (.t 5)),
  .none⟩, ⟨(.some 13), (.len (.t 12)), .none⟩, ⟨(.some 14), (.bin .eql (.t 13) (.k (.int .i64 0))), .none⟩]) (.cond (.t 14) (.seq (.reg [⟨(.some 4), (.mv (.k (.bool false))), .none⟩]) .ret) .skip))
  (.seq (.reg [⟨(.some 15), (.mv (.t 5)), .none⟩, ⟨(.some 16), (.mv (.t 0)), .none⟩, ⟨(.some 17), (.cvI .i64 (.t 16)), .none⟩, ⟨(.some 18), (.mv (.t 5)), .none⟩, ⟨(.some 19), (.len (.t 18)), .none⟩,
  ⟨(.some 20), (.bin .rem (.t 17) (.t 19)), .none⟩, ⟨(.some 21), (.ia 48 (.t 15) (.t 20)), .none⟩, ⟨(.some 22), (.ld (.some 9) (.t 21)), .none⟩, ⟨(.some 6), (.alc 48 [(.int .i32 0), (.int .i32 0), (.int
  .u8 0), (.int .u8 0), (.int .u8 0), (.int .u8 0), (.int .u8 0), (.int .u8 0), (.int .u8 0)]), .none⟩, ⟨.none, (.st 9 (.t 6) (.t 22)), .none⟩]) (.seq (.seq (.dreg [⟨(.some 23), (.fa 2 (.t 6)), .none⟩,
  ⟨(.some 24), (.ld (.some 7) (.t 23)), .none⟩, ⟨(.some 25), (.mv (.t 1)), .none⟩, ⟨(.some 26), (.call (.f 30) [(.t 25)]), .none⟩, ⟨(.some 27), (.bs 46 7 [(.t 24), (.t 26)]), .none⟩, ⟨(.some 28), (.len
  (.t 27)), .none⟩, ⟨(.some 29), (.mv (.k (.int .i64 0))), .none⟩]) (.block 0 (.loop (.seq (.reg [⟨(.some 30), (.bin .lss (.t 29) (.t 28)), .none⟩]) (.seq (.cond (.t 30) .skip (.exit 0)) (.seq (.block 1
  (.seq (.reg [⟨(.some 31), (.ia 46 (.t 27) (.t 29)), .none⟩, ⟨(.some 32), (.ld (.some 7) (.t 31)), .none⟩, ⟨(.some 8), (.alc 46 [(.int .u8 0), (.int .u8 0), (.int .u8 0), (.int .u8 0), (.int .u8 0),
  (.int .u8 0), (.int .u8 0)]), .none⟩, ⟨.none, (.st 7 (.t 8) (.t 32)), .none⟩]) (.seq (.reg [⟨(.some 33), (.fa 0 (.t 8)), .none⟩, ⟨(.some 34), (.ld .none (.t 33)), .none⟩, ⟨(.some 35), (.bin .eql (.t
  34) (.k (.int .u8 4))), .none⟩, ⟨(.some 9), (.mv (.t 35)), .none⟩]) (.seq (.reg [⟨(.some 36), (.fa 0 (.t 8)), .none⟩, ⟨(.some 37), (.ld .none (.t 36)), .none⟩, ⟨(.some 38), (.bin .eql (.t 37) (.k
  (.int .u8 1))), .none⟩, ⟨(.some 39), (.mv (.t 38)), .none⟩, ⟨(.some 40), (.fa 0 (.t 8)), (.some (39, false))⟩, ⟨(.some 41), (.ld .none (.t 40)), (.some (39, false))⟩, ⟨(.some 42), (.bin .eql (.t 41)
  (.k (.int .u8 2))), (.some (39, false))⟩, ⟨(.some 43), (.pick (.t 39) (.k (.bool true)) (.t 42)), .none⟩, ⟨(.some 44), (.mv (.t 43)), .none⟩, ⟨(.some 45), (.fa 0 (.t 8)), (.some (44, false))⟩, ⟨(.some
  46), (.ld .none (.t 45)), (.some (44, false))⟩, ⟨(.some 47), (.bin .eql (.t 46) (.k (.int .u8 3))), (.some (44, false))⟩, ⟨(.some 48), (.pick (.t 44) (.k (.bool true)) (.t 47)), .none⟩, ⟨(.some 10),
  (.mv (.t 48)), .none⟩]) (.seq (.seq (.reg [⟨(.some 49), (.fa 3 (.t 8)), .none⟩, ⟨(.some 50), (.ld .none (.t 49)), .none⟩, ⟨(.some 51), (.bin .gtr (.t 50) (.k (.int .u8 0))), .none⟩, ⟨(.some 52), (.mv
  (.t 51)), .none⟩, ⟨(.some 53), (.fa 1 (.t 8)), (.some (52, false))⟩, ⟨(.some 54), (.ld .none (.t 53)), (.some (52, false))⟩, ⟨(.some 55), (.bin .eql (.t 54) (.k (.int .u8 8))), (.some (52, false))⟩,
  ⟨(.some 56), (.pick (.t 52) (.k (.bool true)) (.t 55)), .none⟩, ⟨(.some 57), (.mv (.t 56)), .none⟩, ⟨(.some 58), (.mv (.t 9)), (.some (57, true))⟩, ⟨(.some 59), (.not (.t 58)), (.some (57, true))⟩,
  ⟨(.some 60), (.pick (.t 57) (.t 59) (.k (.bool false))), .none⟩, ⟨(.some 61), (.mv (.t 60)), .none⟩, ⟨(.some 62), (.mv (.t 9)), (.some (61, false))⟩, ⟨(.some 63), (.mv (.t 62)), (.some (61, false))⟩,
  ⟨(.some 64), (.fa 1 (.t 8)), (.some (63, true))⟩, ⟨(.some 65), (.ld .none (.t 64)), (.some (63, true))⟩, ⟨(.some 66), (.bin .neq (.t 65) (.k (.int .u8 8))), (.some (63, true))⟩, ⟨(.some 67), (.pick
  (.t 63) (.t 66) (.k (.bool false))), (.some (61, false))⟩, ⟨(.some 68), (.mv (.t 67)), (.some (61, false))⟩, ⟨(.some 69), (.fa 1 (.t 8)), (.some (68, true))⟩, ⟨(.some 70), (.ld .none (.t 69)), (.some
  (68, true))⟩, ⟨(.some 71), (.bin .neq (.t 70) (.k (.int .u8 0))), (.some (68, true))⟩, ⟨(.some 72), (.pick (.t 68) (.t 71) (.k (.bool false))), (.some (61, false))⟩, ⟨(.some 73), (.pick (.t 61) (.k
  (.bool true)) (.t 72)), .none⟩, ⟨(.some 74), (.mv (.t 73)), .none⟩, ⟨(.some 75), (.fa 5 (.t 8)), (.some (74, false))⟩, ⟨(.some 76), (.ld .none (.t 75)), (.some (74, false))⟩, ⟨(.some 77), (.bin .neq
  (.t 76) (.k (.int .u8 0))), (.some (74, false))⟩, ⟨(.some 78), (.fa 0 (.t 8)), (.some (74, false))⟩, ⟨(.some 79), (.ld .none (.t 78)), (.some (74, false))⟩, ⟨(.some 80), (.bin .eql (.t 79) (.k (.int
  .u8 5))), (.some (74, false))⟩, ⟨(.some 81), (.eqB true (.t 77) (.t 80)), (.some (74, false))⟩, ⟨(.some 82), (.pick (.t 74) (.k (.bool true)) (.t 81)), .none⟩]) (.cond (.t 82) (.seq (.reg [⟨(.some 4),
  (.mv (.k (.bool false))), .none⟩]) .ret) .skip)) (.seq (.reg [⟨(.some 83), (.mv (.t 10)), .none⟩, ⟨(.some 84), (.mv (.t 83)), .none⟩, ⟨(.some 85), (.fa 1 (.t 8)), (.some (84, true))⟩, ⟨(.some 86),
  (.ld .none (.t 85)), (.some (84, true))⟩, ⟨(.some 87), (.bin .neq (.t 86) (.k (.int .u8 0))), (.some (84, true))⟩, ⟨(.some 88), (.pick (.t 84) (.t 87) (.k (.bool false))), .none⟩, ⟨(.some 89), (.mv
  (.t 88)), .none⟩, ⟨(.some 90), (.fa 1 (.t 8)), (.some (89, true))⟩, ⟨(.some 91), (.ld .none (.t 90)), (.some (89, true))⟩, ⟨(.some 92), (.bin .neq (.t 91) (.k (.int .u8 1))), (.some (89, true))⟩,
  ⟨(.some 93), (.pick (.t 89) (.t 92) (.k (.bool false))), .none⟩, ⟨(.some 94), (.mv (.t 93)), .none⟩, ⟨(.some 95), (.fa 1 (.t 8)), (.some (94, true))⟩, ⟨(.some 96), (.ld .none (.t 95)), (.some (94,
  true))⟩, ⟨(.some 97), (.bin .neq (.t 96) (.k (.int .u8 2))), (.some (94, true))⟩, ⟨(.some 98), (.pick (.t 94) (.t 97) (.k (.bool false))), .none⟩, ⟨(.some 99), (.mv (.t 98)), .none⟩, ⟨(.some 100),
  (.fa 0 (.t 8)), (.some (99, false))⟩, ⟨(.some 101), (.ld .none (.t 100)), (.some (99, false))⟩, ⟨(.some 102), (.bin .eql (.t 101) (.k (.int .u8 9))), (.some (99, false))⟩, ⟨(.some 103), (.mv (.t
  102)), (.some (99, false))⟩, ⟨(.some 104), (.fa 6 (.t 8)), (.some (103, true))⟩, ⟨(.some 105), (.ld .none (.t 104)), (.some (103, true))⟩, ⟨(.some 106), (.bin .neq (.t 105) (.k (.int .u8 0))), (.some
  (103, true))⟩, ⟨(.some 107), (.pick (.t 103) (.t 106) (.k (.bool false))), (.some (99, false))⟩, ⟨(.some 108), (.pick (.t 99) (.k (.bool true)) (.t 107)), .none⟩, ⟨(.some 109), (.mv (.t 108)), .none⟩,
  ⟨(.some 110), (.fa 6 (.t 8)), (.some (109, false))⟩, ⟨(.some 111), (.ld .none (.t 110)), (.some (109, false))⟩, ⟨(.some 112), (.bin .gtr (.t 111) (.k (.int .u8 2))), (.some (109, false))⟩, ⟨(.some
  113), (.pick (.t 109) (.k (.bool true)) (.t 112)), .none⟩, ⟨(.some 114), (.mv (.t 113)), .none⟩, ⟨(.some 115), (.fa 2 (.t 8)), (.some (114, false))⟩, ⟨(.some 116), (.ld .none (.t 115)), (.some (114,
  false))⟩, ⟨(.some 117), (.bin .gtr (.t 116) (.k (.int .u8 5))), (.some (114, false))⟩, ⟨(.some 118), (.pick (.t 114) (.k (.bool true)) (.t 117)), .none⟩, ⟨(.some 119), (.mv (.t 118)), .none⟩, ⟨(.some
  120), (.fa 4 (.t 8)), (.some (119, false))⟩, ⟨(.some 121), (.ld .none (.t 120)), (.some (119, false))⟩, ⟨(.some 122), (.bin .gtr (.t 121) (.k (.int .u8 11))), (.some (119, false))⟩, ⟨(.some 123),
  (.pick (.t 119) (.k (.bool true)) (.t 122)), .none⟩, ⟨(.some 124), (.mv (.t 123)), .none⟩, ⟨(.some 125), (.fa 1 (.t 8)), (.some (124, false))⟩, ⟨(.some 126), (.ld .none (.t 125)), (.some (124,
  false))⟩, ⟨(.some 127), (.bin .gtr (.t 126) (.k (.int .u8 22))), (.some (124, false))⟩, ⟨(.some 128), (.pick (.t 124) (.k (.bool true)) (.t 127)), .none⟩]) (.cond (.t 128) (.seq (.reg [⟨(.some 4),
  (.mv (.k (.bool false))), .none⟩]) .ret) .skip))))))) (.reg [⟨(.some 129), (.bin .add (.t 29) (.k (.int .i64 1))), .none⟩, ⟨(.some 29), (.mv (.t 129)), .none⟩]))))))) (.seq (.reg [⟨(.some 130), (.fa 2
  (.t 6)), .none⟩, ⟨(.some 131), (.fa 5 (.t 130)), .none⟩, ⟨(.some 132), (.ld .none (.t 131)), .none⟩, ⟨(.some 133), (.bin .eql (.t 132) (.k (.int .u8 0))), .none⟩, ⟨(.some 134), (.mv (.t 133)), .none⟩,
  ⟨(.some 135), (.fa 1 (.t 6)), (.some (134, false))⟩, ⟨(.some 136), (.ld .none (.t 135)), (.some (134, false))⟩, ⟨(.some 137), (.fa 0 (.t 6)), (.some (134, false))⟩, ⟨(.some 138), (.ld .none (.t 137)),
  (.some (134, false))⟩, ⟨(.some 139), (.bin .sub (.t 136) (.t 138)), (.some (134, false))⟩, ⟨(.some 140), (.bin .eql (.t 139) (.k (.int .i32 9))), (.some (134, false))⟩, ⟨(.some 141), (.pick (.t 134)
  (.k (.bool true)) (.t 140)), .none⟩, ⟨(.some 142), (.mv (.t 141)), .none⟩, ⟨(.some 143), (.call (.f 34) []), (.some (142, true))⟩, ⟨(.some 144), (.pick (.t 142) (.t 143) (.k (.bool false))), .none⟩,
  ⟨(.some 4), (.mv (.t 144)), .none⟩]) .ret))))))
theorem c11 : Try.f11.body.bind (cCode Try.prog 145) = some a11 := by kernel_rfl
theorem r11 : Try.f11.results.toList = [(.tmp 4)] := by kernel_rfl
theorem n11 : Try.f11.ntmps = 145 := by kernel_rfl
theorem e11 : Enters Try.prog 11 := enters_of Try.func11 (by kernel_rfl) (by kernel_rfl)

/-- What a row is like. -/
def kindOK (x : Row) : Bool :=
  (decide (x.width ≤ 2) && (decide (x.join ≤ 5) && (decide (x.script ≤ 11) && decide (x.bidi ≤ 22)))) &&
  ((decide (x.cat = 4) && (decide (x.digits = 0) && (decide (x.bidi = 8) || decide (x.bidi = 0)))) ||
   ((decide (x.cat = 1) || (decide (x.cat = 2) || decide (x.cat = 3))) && (decide (x.digits = 0) && (decide (x.ccc = 0) && (decide (x.bidi = 0) || (decide (x.bidi = 1) || decide (x.bidi = 2)))))) ||
   (decide (x.cat = 5) && (decide (x.digits ≠ 0) && (decide (x.ccc = 0) && decide (x.bidi ≠ 8)))) ||
   (decide (x.cat = 9) && (decide (x.width = 0) && (decide (x.digits = 0) && (decide (x.ccc = 0) && decide (x.bidi ≠ 8))))) ||
   ((decide (x.cat = 0) || (decide (x.cat = 6) || (decide (x.cat = 7) || (decide (x.cat = 8) || decide (x.cat = 10))))) && (decide (x.digits = 0) && (decide (x.ccc = 0) && decide (x.bidi ≠ 8)))))
theorem kinds_ok : (plainRow :: tab).all kindOK = true := by kernel_rfl
theorem nine_ok : tab.all (fun x => decide (x.digits = 0) || decide (x.to - x.fr = 9)) = true := by kernel_rfl
theorem kind_cases {x : Row} (h : kindOK x = true) : (x.width ≤ 2 ∧ x.join ≤ 5 ∧ x.script ≤ 11 ∧ x.bidi ≤ 22) ∧
    ((x.cat = 4 ∧ x.digits = 0 ∧ (x.bidi = 8 ∨ x.bidi = 0)) ∨ ((x.cat = 1 ∨ x.cat = 2 ∨ x.cat = 3) ∧ x.digits = 0 ∧ x.ccc = 0 ∧ (x.bidi = 0 ∨ x.bidi = 1 ∨ x.bidi = 2)) ∨ (x.cat = 5 ∧ x.digits ≠ 0 ∧ x.ccc = 0 ∧ x.bidi ≠ 8) ∨
     (x.cat = 9 ∧ x.width = 0 ∧ x.digits = 0 ∧ x.ccc = 0 ∧ x.bidi ≠ 8) ∨ ((x.cat = 0 ∨ x.cat = 6 ∨ x.cat = 7 ∨ x.cat = 8 ∨ x.cat = 10) ∧ x.digits = 0 ∧ x.ccc = 0 ∧ x.bidi ≠ 8)) := by
  simpa [kindOK, or_assoc, and_assoc] using h

set_option maxRecDepth 10000 in
set_option maxHeartbeats 4000000 in
theorem ucdKinds_pure (n : Int) (hn : 0 ≤ n ∧ n ≤ 255) (r : Int) (hr : -2147483648 ≤ r ∧ r ≤ 2147483647) : Pure Try.prog 11 [.lit (.int .u8 n), .lit (.int .i32 r)] [] (.lit (.bool true)) := by
  refine pure0 Try.func11 c11 n11 e11 r11 (by simp) rfl ?_
  simp only [a11, astart, argSlots, go_sem, Nat.reduceAdd, Nat.reduceEqDiff, Nat.reduceLT, reduceIte, reduceCtorEq, Nat.reduceBEq, Int.reduceLT, Int.reduceToNat, Int.reducePow, Nat.reduceLeDiff, Int.reduceLE, Nat.reduceMul, Nat.reduceSub]
  refine callGo_pure table_pure rfl ?_
  have b0 : ((166 : Int) == 0) = false := rfl
  obtain ⟨k, hk, hkt⟩ := tmod_166 hn.1
  obtain ⟨x, hx, hm, hg⟩ := tab_get hk
  have hwn : IntKind.i64.wrap n = n := wrap_i64 _ (by omega) (by omega)
  simp only [go_sem, Nat.reduceAdd, Nat.reduceEqDiff, Nat.reduceLT, reduceIte, reduceCtorEq, Nat.reduceBEq, Int.reduceLT, Int.reduceToNat, Int.reducePow, Nat.reduceLeDiff, Int.reduceLE, Nat.reduceMul, Nat.reduceSub, tabC_len, e166, b0, hwn, ne166, hkt, hg, Row.cells, Int.natCast_nonneg, Int.toNat_natCast]
  refine dcallGo_pure (of_pure r) (by rfl) rfl ?_
  simp only [Row.prop, go_sem, Nat.reduceAdd, Nat.reduceEqDiff, Nat.reduceLT, reduceIte, reduceCtorEq, Nat.reduceBEq, Int.reduceLT, Int.reduceToNat, Int.reducePow, Nat.reduceLeDiff, Int.reduceLE, Nat.reduceMul, Nat.reduceSub, Value.oneCell', Bool.and_self, oneV, List.all_cons, List.all_nil]
  have hps : [x.prop, (rowAt r).prop] = [[Value.int .u8 x.cat, .int .u8 x.bidi, .int .u8 x.join, .int .u8 x.ccc, .int .u8 x.script, .int .u8 x.digits, .int .u8 x.width], [Value.int .u8 (rowAt r).cat, .int .u8 (rowAt r).bidi, .int .u8 (rowAt r).join, .int .u8 (rowAt r).ccc, .int .u8 (rowAt r).script, .int .u8 (rowAt r).digits, .int .u8 (rowAt r).width]] := rfl
  rw [← hps]
  have hbx : ([.lit (.int .i32 x.fr), .lit (.int .i32 x.to), .lit (.int .u8 x.cat), .lit (.int .u8 x.bidi), .lit (.int .u8 x.join), .lit (.int .u8 x.ccc), .lit (.int .u8 x.script), .lit (.int .u8 x.digits), .lit (.int .u8 x.width)] : List AV) = x.cells.map .lit := rfl
  refine loop_to 2 (fun i => ⟨[(6, some (.bp 0 0)), (27, some (.sl 46 [x.prop, (rowAt r).prop] none)), (28, some (.lit (.int .i64 2))), (29, some (.lit (.int .i64 i)))], [(0, [.lit (.int .i32 x.fr), .lit (.int .i32 x.to), .lit (.int .u8 x.cat), .lit (.int .u8 x.bidi), .lit (.int .u8 x.join), .lit (.int .u8 x.ccc), .lit (.int .u8 x.script), .lit (.int .u8 x.digits), .lit (.int .u8 x.width)])], [], 1⟩) (fun i => i ≤ 2)
    ((weak_untip 27 (by simp only [go_sem, Nat.reduceAdd, Nat.reduceEqDiff, Nat.reduceLT, reduceIte, reduceCtorEq, Nat.reduceBEq, Int.reduceLT, Int.reduceToNat, Int.reducePow, Nat.reduceLeDiff, Int.reduceLE, Nat.reduceMul, Nat.reduceSub]; rfl)).trans (weak_by [1] (by simp) rfl ?_ ?_ ?_ ?_)) (Nat.zero_le _) ?_ ?_
  · simp only [go_sem, Nat.reduceAdd, Nat.reduceEqDiff, Nat.reduceLT, reduceIte, reduceCtorEq, Nat.reduceBEq, Int.reduceLT, Int.reduceToNat, Int.reducePow, Nat.reduceLeDiff, Int.reduceLE, Nat.reduceMul, Nat.reduceSub, slotsBy, boxesBy, tipsBy, rawAt, nm, AV.ren, AV.renL, AV.under, AV.underL, List.all_nil, List.all_cons, bne_self_eq_false, List.getD_cons_zero, List.getD_cons_succ, List.length_nil, List.length_cons, and_true, true_and, Int.natCast_zero]; rfl
  · simp only [go_sem, Nat.reduceAdd, Nat.reduceEqDiff, Nat.reduceLT, reduceIte, reduceCtorEq, Nat.reduceBEq, Int.reduceLT, Int.reduceToNat, Int.reducePow, Nat.reduceLeDiff, Int.reduceLE, Nat.reduceMul, Nat.reduceSub, slotsBy, boxesBy, tipsBy, rawAt, nm, AV.ren, AV.renL, AV.under, AV.underL, List.all_nil, List.all_cons, bne_self_eq_false, List.getD_cons_zero, List.getD_cons_succ, List.length_nil, List.length_cons, and_true, true_and]
  · trivial
  · simp
  · intro i hi _
    have hy : ∃ y : Row, [x.prop, (rowAt r).prop][i]? = some y.prop ∧ kindOK y = true := by
      match i, hi with
      | 0, _ => exact ⟨x, rfl, List.all_eq_true.1 kinds_ok x (List.mem_cons_of_mem _ hm)⟩
      | 1, _ => exact ⟨rowAt r, rfl, List.all_eq_true.1 kinds_ok _ (rowAt_mem r)⟩
    obtain ⟨y, hgy, hky⟩ := hy
    generalize [x.prop, (rowAt r).prop] = ps at hgy
    obtain ⟨⟨u1, u2, u3, u4⟩, hky⟩ := kind_cases hky
    have hd : decide ((i : Int) < 2) = true := by simp; omega
    have hw2 : IntKind.i64.wrap ((i : Int) + 1) = ((i + 1 : Nat) : Int) := by rw [wrap_i64 _ (by omega) (by omega)]; omega
    have v1 : decide (y.width > 2) = false := by simp only [decide_eq_false_iff_not]; omega
    have v2 : decide (y.join > 5) = false := by simp only [decide_eq_false_iff_not]; omega
    have v3 : decide (y.script > 11) = false := by simp only [decide_eq_false_iff_not]; omega
    have v4 : decide (y.bidi > 22) = false := by simp only [decide_eq_false_iff_not]; omega
    rcases hky with ⟨c1, c2, c3 | c3⟩ | ⟨c1, c2, c4, c3⟩ | ⟨c1, c2, c4, c3⟩ | ⟨c1, c5, c2, c4, c3⟩ | ⟨c1, c2, c4, c3⟩
    · simp only [hd, hgy, Row.prop, hw2, c1, c2, c3, v1, v2, v3, v4, go_sem, Nat.reduceAdd, Nat.reduceEqDiff, Nat.reduceLT, reduceIte, reduceCtorEq, Nat.reduceBEq, Int.reduceLT, Int.reduceToNat, Int.reducePow, Nat.reduceLeDiff, Int.reduceLE, Nat.reduceMul, Nat.reduceSub, Int.natCast_nonneg, Int.toNat_natCast, Int.reduceBEq, Int.reduceBNe, Int.reduceGT, beq_self_eq_true]
      refine gGo_splitF (fun h1 => ?_) (fun h1 => ?_)
      · simp only [h1, hw2, c1, c2, c3, v1, v2, v3, v4, go_sem, Nat.reduceAdd, Nat.reduceEqDiff, Nat.reduceLT, reduceIte, reduceCtorEq, Nat.reduceBEq, Int.reduceLT, Int.reduceToNat, Int.reducePow, Nat.reduceLeDiff, Int.reduceLE, Nat.reduceMul, Nat.reduceSub, Int.reduceBEq, Int.reduceBNe, Int.reduceGT, beq_self_eq_true]
        refine ⟨weak_by [0] (by simp) rfl ?_ ?_ ?_ ?_, by omega⟩
        · simp only [go_sem, Nat.reduceAdd, Nat.reduceEqDiff, Nat.reduceLT, reduceIte, reduceCtorEq, Nat.reduceBEq, Int.reduceLT, Int.reduceToNat, Int.reducePow, Nat.reduceLeDiff, Int.reduceLE, Nat.reduceMul, Nat.reduceSub, slotsBy, boxesBy, tipsBy, rawAt, nm, AV.ren, AV.renL, AV.under, AV.underL, List.all_nil, List.all_cons, bne_self_eq_false, List.getD_cons_zero, List.getD_cons_succ, List.length_nil, List.length_cons, and_true, true_and]
        · simp only [go_sem, Nat.reduceAdd, Nat.reduceEqDiff, Nat.reduceLT, reduceIte, reduceCtorEq, Nat.reduceBEq, Int.reduceLT, Int.reduceToNat, Int.reducePow, Nat.reduceLeDiff, Int.reduceLE, Nat.reduceMul, Nat.reduceSub, slotsBy, boxesBy, tipsBy, rawAt, nm, AV.ren, AV.renL, AV.under, AV.underL, List.all_nil, List.all_cons, bne_self_eq_false, List.getD_cons_zero, List.getD_cons_succ, List.length_nil, List.length_cons, and_true, true_and]
        · trivial
        · simp
      · simp only [h1, hw2, c1, c2, c3, v1, v2, v3, v4, go_sem, Nat.reduceAdd, Nat.reduceEqDiff, Nat.reduceLT, reduceIte, reduceCtorEq, Nat.reduceBEq, Int.reduceLT, Int.reduceToNat, Int.reducePow, Nat.reduceLeDiff, Int.reduceLE, Nat.reduceMul, Nat.reduceSub, Int.reduceBEq, Int.reduceBNe, Int.reduceGT, beq_self_eq_true]
        refine ⟨weak_by [0] (by simp) rfl ?_ ?_ ?_ ?_, by omega⟩
        · simp only [go_sem, Nat.reduceAdd, Nat.reduceEqDiff, Nat.reduceLT, reduceIte, reduceCtorEq, Nat.reduceBEq, Int.reduceLT, Int.reduceToNat, Int.reducePow, Nat.reduceLeDiff, Int.reduceLE, Nat.reduceMul, Nat.reduceSub, slotsBy, boxesBy, tipsBy, rawAt, nm, AV.ren, AV.renL, AV.under, AV.underL, List.all_nil, List.all_cons, bne_self_eq_false, List.getD_cons_zero, List.getD_cons_succ, List.length_nil, List.length_cons, and_true, true_and]
        · simp only [go_sem, Nat.reduceAdd, Nat.reduceEqDiff, Nat.reduceLT, reduceIte, reduceCtorEq, Nat.reduceBEq, Int.reduceLT, Int.reduceToNat, Int.reducePow, Nat.reduceLeDiff, Int.reduceLE, Nat.reduceMul, Nat.reduceSub, slotsBy, boxesBy, tipsBy, rawAt, nm, AV.ren, AV.renL, AV.under, AV.underL, List.all_nil, List.all_cons, bne_self_eq_false, List.getD_cons_zero, List.getD_cons_succ, List.length_nil, List.length_cons, and_true, true_and]
        · trivial
        · simp
    · simp only [hd, hgy, Row.prop, hw2, c1, c2, c3, v1, v2, v3, v4, go_sem, Nat.reduceAdd, Nat.reduceEqDiff, Nat.reduceLT, reduceIte, reduceCtorEq, Nat.reduceBEq, Int.reduceLT, Int.reduceToNat, Int.reducePow, Nat.reduceLeDiff, Int.reduceLE, Nat.reduceMul, Nat.reduceSub, Int.natCast_nonneg, Int.toNat_natCast, Int.reduceBEq, Int.reduceBNe, Int.reduceGT, beq_self_eq_true]
      refine gGo_splitF (fun h1 => ?_) (fun h1 => ?_)
      · simp only [h1, hw2, c1, c2, c3, v1, v2, v3, v4, go_sem, Nat.reduceAdd, Nat.reduceEqDiff, Nat.reduceLT, reduceIte, reduceCtorEq, Nat.reduceBEq, Int.reduceLT, Int.reduceToNat, Int.reducePow, Nat.reduceLeDiff, Int.reduceLE, Nat.reduceMul, Nat.reduceSub, Int.reduceBEq, Int.reduceBNe, Int.reduceGT, beq_self_eq_true]
        refine ⟨weak_by [0] (by simp) rfl ?_ ?_ ?_ ?_, by omega⟩
        · simp only [go_sem, Nat.reduceAdd, Nat.reduceEqDiff, Nat.reduceLT, reduceIte, reduceCtorEq, Nat.reduceBEq, Int.reduceLT, Int.reduceToNat, Int.reducePow, Nat.reduceLeDiff, Int.reduceLE, Nat.reduceMul, Nat.reduceSub, slotsBy, boxesBy, tipsBy, rawAt, nm, AV.ren, AV.renL, AV.under, AV.underL, List.all_nil, List.all_cons, bne_self_eq_false, List.getD_cons_zero, List.getD_cons_succ, List.length_nil, List.length_cons, and_true, true_and]
        · simp only [go_sem, Nat.reduceAdd, Nat.reduceEqDiff, Nat.reduceLT, reduceIte, reduceCtorEq, Nat.reduceBEq, Int.reduceLT, Int.reduceToNat, Int.reducePow, Nat.reduceLeDiff, Int.reduceLE, Nat.reduceMul, Nat.reduceSub, slotsBy, boxesBy, tipsBy, rawAt, nm, AV.ren, AV.renL, AV.under, AV.underL, List.all_nil, List.all_cons, bne_self_eq_false, List.getD_cons_zero, List.getD_cons_succ, List.length_nil, List.length_cons, and_true, true_and]
        · trivial
        · simp
      · simp only [h1, hw2, c1, c2, c3, v1, v2, v3, v4, go_sem, Nat.reduceAdd, Nat.reduceEqDiff, Nat.reduceLT, reduceIte, reduceCtorEq, Nat.reduceBEq, Int.reduceLT, Int.reduceToNat, Int.reducePow, Nat.reduceLeDiff, Int.reduceLE, Nat.reduceMul, Nat.reduceSub, Int.reduceBEq, Int.reduceBNe, Int.reduceGT, beq_self_eq_true]
        refine ⟨weak_by [0] (by simp) rfl ?_ ?_ ?_ ?_, by omega⟩
        · simp only [go_sem, Nat.reduceAdd, Nat.reduceEqDiff, Nat.reduceLT, reduceIte, reduceCtorEq, Nat.reduceBEq, Int.reduceLT, Int.reduceToNat, Int.reducePow, Nat.reduceLeDiff, Int.reduceLE, Nat.reduceMul, Nat.reduceSub, slotsBy, boxesBy, tipsBy, rawAt, nm, AV.ren, AV.renL, AV.under, AV.underL, List.all_nil, List.all_cons, bne_self_eq_false, List.getD_cons_zero, List.getD_cons_succ, List.length_nil, List.length_cons, and_true, true_and]
        · simp only [go_sem, Nat.reduceAdd, Nat.reduceEqDiff, Nat.reduceLT, reduceIte, reduceCtorEq, Nat.reduceBEq, Int.reduceLT, Int.reduceToNat, Int.reducePow, Nat.reduceLeDiff, Int.reduceLE, Nat.reduceMul, Nat.reduceSub, slotsBy, boxesBy, tipsBy, rawAt, nm, AV.ren, AV.renL, AV.under, AV.underL, List.all_nil, List.all_cons, bne_self_eq_false, List.getD_cons_zero, List.getD_cons_succ, List.length_nil, List.length_cons, and_true, true_and]
        · trivial
        · simp
    · rcases c1 with c1 | c1 | c1 <;> rcases c3 with c3 | c3 | c3 <;> simp only [hd, hgy, Row.prop, hw2, c1, c2, c3, c4, v1, v2, v3, v4, go_sem, Nat.reduceAdd, Nat.reduceEqDiff, Nat.reduceLT, reduceIte, reduceCtorEq, Nat.reduceBEq, Int.reduceLT, Int.reduceToNat, Int.reducePow, Nat.reduceLeDiff, Int.reduceLE, Nat.reduceMul, Nat.reduceSub, Int.natCast_nonneg, Int.toNat_natCast, Int.reduceBEq, Int.reduceBNe, Int.reduceGT, beq_self_eq_true]
      all_goals
        refine ⟨weak_by [0] (by simp) rfl ?_ ?_ ?_ ?_, by omega⟩
        · simp only [go_sem, Nat.reduceAdd, Nat.reduceEqDiff, Nat.reduceLT, reduceIte, reduceCtorEq, Nat.reduceBEq, Int.reduceLT, Int.reduceToNat, Int.reducePow, Nat.reduceLeDiff, Int.reduceLE, Nat.reduceMul, Nat.reduceSub, slotsBy, boxesBy, tipsBy, rawAt, nm, AV.ren, AV.renL, AV.under, AV.underL, List.all_nil, List.all_cons, bne_self_eq_false, List.getD_cons_zero, List.getD_cons_succ, List.length_nil, List.length_cons, and_true, true_and]
        · simp only [go_sem, Nat.reduceAdd, Nat.reduceEqDiff, Nat.reduceLT, reduceIte, reduceCtorEq, Nat.reduceBEq, Int.reduceLT, Int.reduceToNat, Int.reducePow, Nat.reduceLeDiff, Int.reduceLE, Nat.reduceMul, Nat.reduceSub, slotsBy, boxesBy, tipsBy, rawAt, nm, AV.ren, AV.renL, AV.under, AV.underL, List.all_nil, List.all_cons, bne_self_eq_false, List.getD_cons_zero, List.getD_cons_succ, List.length_nil, List.length_cons, and_true, true_and]
        · trivial
        · simp
    · have f1 : (y.digits != 0) = true := by simpa using c2
      have f2 : (y.bidi == 8) = false := by simpa using c3
      simp only [hd, hgy, Row.prop, hw2, c1, c4, f1, f2, v1, v2, v3, v4, go_sem, Nat.reduceAdd, Nat.reduceEqDiff, Nat.reduceLT, reduceIte, reduceCtorEq, Nat.reduceBEq, Int.reduceLT, Int.reduceToNat, Int.reducePow, Nat.reduceLeDiff, Int.reduceLE, Nat.reduceMul, Nat.reduceSub, Int.natCast_nonneg, Int.toNat_natCast, Int.reduceBEq, Int.reduceBNe, Int.reduceGT, beq_self_eq_true]
      refine ⟨weak_by [0] (by simp) rfl ?_ ?_ ?_ ?_, by omega⟩
      · simp only [go_sem, Nat.reduceAdd, Nat.reduceEqDiff, Nat.reduceLT, reduceIte, reduceCtorEq, Nat.reduceBEq, Int.reduceLT, Int.reduceToNat, Int.reducePow, Nat.reduceLeDiff, Int.reduceLE, Nat.reduceMul, Nat.reduceSub, slotsBy, boxesBy, tipsBy, rawAt, nm, AV.ren, AV.renL, AV.under, AV.underL, List.all_nil, List.all_cons, bne_self_eq_false, List.getD_cons_zero, List.getD_cons_succ, List.length_nil, List.length_cons, and_true, true_and]
      · simp only [go_sem, Nat.reduceAdd, Nat.reduceEqDiff, Nat.reduceLT, reduceIte, reduceCtorEq, Nat.reduceBEq, Int.reduceLT, Int.reduceToNat, Int.reducePow, Nat.reduceLeDiff, Int.reduceLE, Nat.reduceMul, Nat.reduceSub, slotsBy, boxesBy, tipsBy, rawAt, nm, AV.ren, AV.renL, AV.under, AV.underL, List.all_nil, List.all_cons, bne_self_eq_false, List.getD_cons_zero, List.getD_cons_succ, List.length_nil, List.length_cons, and_true, true_and]
      · trivial
      · simp
    · have f2 : (y.bidi == 8) = false := by simpa using c3
      simp only [hd, hgy, Row.prop, hw2, c1, c2, c4, c5, f2, v1, v2, v3, v4, go_sem, Nat.reduceAdd, Nat.reduceEqDiff, Nat.reduceLT, reduceIte, reduceCtorEq, Nat.reduceBEq, Int.reduceLT, Int.reduceToNat, Int.reducePow, Nat.reduceLeDiff, Int.reduceLE, Nat.reduceMul, Nat.reduceSub, Int.natCast_nonneg, Int.toNat_natCast, Int.reduceBEq, Int.reduceBNe, Int.reduceGT, beq_self_eq_true]
      refine ⟨weak_by [0] (by simp) rfl ?_ ?_ ?_ ?_, by omega⟩
      · simp only [go_sem, Nat.reduceAdd, Nat.reduceEqDiff, Nat.reduceLT, reduceIte, reduceCtorEq, Nat.reduceBEq, Int.reduceLT, Int.reduceToNat, Int.reducePow, Nat.reduceLeDiff, Int.reduceLE, Nat.reduceMul, Nat.reduceSub, slotsBy, boxesBy, tipsBy, rawAt, nm, AV.ren, AV.renL, AV.under, AV.underL, List.all_nil, List.all_cons, bne_self_eq_false, List.getD_cons_zero, List.getD_cons_succ, List.length_nil, List.length_cons, and_true, true_and]
      · simp only [go_sem, Nat.reduceAdd, Nat.reduceEqDiff, Nat.reduceLT, reduceIte, reduceCtorEq, Nat.reduceBEq, Int.reduceLT, Int.reduceToNat, Int.reducePow, Nat.reduceLeDiff, Int.reduceLE, Nat.reduceMul, Nat.reduceSub, slotsBy, boxesBy, tipsBy, rawAt, nm, AV.ren, AV.renL, AV.under, AV.underL, List.all_nil, List.all_cons, bne_self_eq_false, List.getD_cons_zero, List.getD_cons_succ, List.length_nil, List.length_cons, and_true, true_and]
      · trivial
      · simp
    · have f2 : (y.bidi == 8) = false := by simpa using c3
      have e1 : (y.cat == 1) = false ∧ (y.cat == 2) = false ∧ (y.cat == 3) = false ∧ (y.cat == 4) = false ∧ (y.cat == 5) = false ∧ (y.cat == 9) = false := by
        rcases c1 with c1 | c1 | c1 | c1 | c1 <;> rw [c1] <;> exact ⟨rfl, rfl, rfl, rfl, rfl, rfl⟩
      obtain ⟨e1, e2, e3, e4, e5, e9⟩ := e1
      simp only [hd, hgy, Row.prop, hw2, e1, e2, e3, e4, e5, e9, c2, c4, f2, v1, v2, v3, v4, go_sem, Nat.reduceAdd, Nat.reduceEqDiff, Nat.reduceLT, reduceIte, reduceCtorEq, Nat.reduceBEq, Int.reduceLT, Int.reduceToNat, Int.reducePow, Nat.reduceLeDiff, Int.reduceLE, Nat.reduceMul, Nat.reduceSub, Int.natCast_nonneg, Int.toNat_natCast, Int.reduceBEq, Int.reduceBNe, Int.reduceGT, beq_self_eq_true]
      refine ⟨weak_by [0] (by simp) rfl ?_ ?_ ?_ ?_, by omega⟩
      · simp only [go_sem, Nat.reduceAdd, Nat.reduceEqDiff, Nat.reduceLT, reduceIte, reduceCtorEq, Nat.reduceBEq, Int.reduceLT, Int.reduceToNat, Int.reducePow, Nat.reduceLeDiff, Int.reduceLE, Nat.reduceMul, Nat.reduceSub, slotsBy, boxesBy, tipsBy, rawAt, nm, AV.ren, AV.renL, AV.under, AV.underL, List.all_nil, List.all_cons, bne_self_eq_false, List.getD_cons_zero, List.getD_cons_succ, List.length_nil, List.length_cons, and_true, true_and]
      · simp only [go_sem, Nat.reduceAdd, Nat.reduceEqDiff, Nat.reduceLT, reduceIte, reduceCtorEq, Nat.reduceBEq, Int.reduceLT, Int.reduceToNat, Int.reducePow, Nat.reduceLeDiff, Int.reduceLE, Nat.reduceMul, Nat.reduceSub, slotsBy, boxesBy, tipsBy, rawAt, nm, AV.ren, AV.renL, AV.under, AV.underL, List.all_nil, List.all_cons, bne_self_eq_false, List.getD_cons_zero, List.getD_cons_succ, List.length_nil, List.length_cons, and_true, true_and]
      · trivial
      · simp
  · intro _
    have hd : decide (((2 : Nat) : Int) < 2) = false := rfl
    have hxr := tab_range hm
    have hle := tab_le hm
    have hws : IntKind.i32.wrap (x.to - x.fr) = x.to - x.fr := wrap_i32 _ (by omega) (by omega)
    have h9 := List.all_eq_true.1 nine_ok x hm
    have hw9 : IntKind.i32.wrap 9 = 9 := rfl
    simp only [hd, go_sem, Nat.reduceAdd, Nat.reduceEqDiff, Nat.reduceLT, reduceIte, reduceCtorEq, Nat.reduceBEq, Int.reduceLT, Int.reduceToNat, Int.reducePow, Nat.reduceLeDiff, Int.reduceLE, Nat.reduceMul, Nat.reduceSub]
    refine gGo_splitF (fun h1 => ?_) (fun h1 => ?_)
    · have h9 : x.to - x.fr = 9 := by
        simp only [beq_eq_false_iff_ne, ne_eq] at h1
        simpa [h1] using h9
      simp only [h1, h9, hw9, go_sem, Nat.reduceAdd, Nat.reduceEqDiff, Nat.reduceLT, reduceIte, reduceCtorEq, Nat.reduceBEq, Int.reduceLT, Int.reduceToNat, Int.reducePow, Nat.reduceLeDiff, Int.reduceLE, Nat.reduceMul, Nat.reduceSub, Int.reduceBEq]
      refine callGo_pure awake02_pure (by rfl) ?_
      simp only [go_sem, Nat.reduceAdd, Nat.reduceEqDiff, Nat.reduceLT, reduceIte, reduceCtorEq, Nat.reduceBEq, Int.reduceLT, Int.reduceToNat, Int.reducePow, Nat.reduceLeDiff, Int.reduceLE, Nat.reduceMul, Nat.reduceSub]
      simp only [Done, resAV, resL, resOne, look_nil, look_cons, Nat.reduceEqDiff, if_true, if_false, reduceIte, ite_true, ite_false, Nat.zero_ne_one, Nat.one_ne_zero, reduceCtorEq, true_or, or_true, true_and, Option.some.injEq, AV.lit.injEq, Value.int.injEq, Value.bool.injEq]
    · simp only [h1, go_sem, Nat.reduceAdd, Nat.reduceEqDiff, Nat.reduceLT, reduceIte, reduceCtorEq, Nat.reduceBEq, Int.reduceLT, Int.reduceToNat, Int.reducePow, Nat.reduceLeDiff, Int.reduceLE, Nat.reduceMul, Nat.reduceSub]
      refine callGo_pure awake02_pure (by rfl) ?_
      simp only [go_sem, Nat.reduceAdd, Nat.reduceEqDiff, Nat.reduceLT, reduceIte, reduceCtorEq, Nat.reduceBEq, Int.reduceLT, Int.reduceToNat, Int.reducePow, Nat.reduceLeDiff, Int.reduceLE, Nat.reduceMul, Nat.reduceSub]
      simp only [Done, resAV, resL, resOne, look_nil, look_cons, Nat.reduceEqDiff, if_true, if_false, reduceIte, ite_true, ite_false, Nat.zero_ne_one, Nat.one_ne_zero, reduceCtorEq, true_or, or_true, true_and, Option.some.injEq, AV.lit.injEq, Value.int.injEq, Value.bool.injEq]

theorem ucdKinds_any (avs : List AV) (h : Args Try.prog Try.f11.params.toList avs) : Pure Try.prog 11 avs [] (.lit (.bool true)) := by
  have hp : Try.f11.params.toList = [5, 21] := by kernel_rfl
  rw [hp] at h
  obtain ⟨av0, rest0, rfl, a0, h0⟩ := h
  obtain ⟨av1, rest1, rfl, a1, rfl⟩ := h0
  obtain ⟨z0, rfl, w0⟩ := arg_int (k := .u8) (by kernel_rfl) a0
  obtain ⟨z1, rfl, w1⟩ := arg_int (k := .i32) (by kernel_rfl) a1
  exact ucdKinds_pure z0 (by simpa [Lit.wf, IntKind.min, IntKind.max, IntKind.signed, IntKind.bits] using w0) z1 (by simpa [Lit.wf, IntKind.min, IntKind.max, IntKind.signed, IntKind.bits] using w1)

set_option maxRecDepth 100000 in
theorem ucdKinds_lifted (os : Os) (started : os.Started) (H : Type) (enc : TypeId × Value → H) :
    ReturnsInHanded {} Try.checked os 11 .any (Rows.ucdKindsSpec.pre6 enc Try.prog Try.f11 Rows.ucdKindsRow.domain false) (Rows.ucdKindsSpec.post enc Try.prog Try.f11 false true false false) := by
  refine law_returns (C := Try.checked) (tb := 4) (by kernel_rfl) started (by kernel_rfl) Try.func11
    (ChangeSpec.witness6 (enc := enc) (C := Try.checked) false ⟨#[], #[.int .u8 0, .int .i32 0], []⟩ 8 (by kernel_rfl) (by kernel_rfl) (by kernel_rfl) (by kernel_rfl))
    (by kernel_rfl) (by kernel_rfl) rfl rfl (by kernel_rfl) (by kernel_rfl) ?_ ucdKinds_any
  intro ds hds
  have hp : Try.f11.params.toList = [5, 21] := by kernel_rfl
  rw [hp] at hds
  match ds, hds with
  | [d0, d1], _ => exact ⟨rfl, rfl, rfl⟩

theorem ucdKinds_holds : Rows.UcdKindsSaid :=
  OpenClaim.holds_of_wide 11 Try.f11 rfl rfl rfl rfl rfl rfl rfl ⟨rfl, rfl, rfl, rfl, rfl⟩ rfl rfl rfl rfl rfl (by kernel_rfl) Try.func11 (by kernel_rfl)
    (of_decide_eq_true (by kernel_rfl)) (by unfold Func.isWrapper; first | (rw [if_pos (by decide +kernel)]; kernel_rfl) | (rw [if_neg (by decide +kernel)]; exact ⟨rfl, rfl⟩))
    (fun os started H enc _ => ucdKinds_lifted os started H enc)
end Go.Proofs.Ytbnaepdeakcljaa
