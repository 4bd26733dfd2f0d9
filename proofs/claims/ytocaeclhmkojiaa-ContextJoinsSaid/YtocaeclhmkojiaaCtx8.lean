/-
Behind a virama either joiner may stand: the law answers true, whatever it is handed. Conditions: none.
-/
import Derived.Test.YtocaeclhmkojiaaCtx7
set_option linter.unusedSimpArgs false
set_option linter.unusedVariables false
set_option linter.unusedSectionVars false
namespace Go.Proofs.Ytocaeclhmkojiaa
open Go Go.Ab Go.ChangeShapes Go.WideShapes Go.ChangeAt Go.RowKit
def a42 : ACode :=
  (.seq (.reg [⟨(.some 7), (.mv (.k (.int .u8 0))), .none⟩]) (.seq (.reg [⟨(.some 10), (.bs 21 1 []), .none⟩, ⟨(.some 11), (.mv (.t 1)), .none⟩, ⟨(.some 12), (.app 21 4 (.t 10) (.t 11)), .none⟩, ⟨(.some
  8), (.mv (.t 12)), .none⟩]) (.seq (.seq (.reg [⟨(.some 13), (.ld .none (.t 2)), .none⟩, ⟨(.some 14), (.bin .rem (.t 13) (.k (.int .u8 4))), .none⟩, ⟨(.some 15), (.mv (.k (.int .u8 0))), .none⟩])
  (.block 0 (.loop (.seq (.reg [⟨(.some 16), (.bin .lss (.t 15) (.t 14)), .none⟩]) (.seq (.cond (.t 16) .skip (.exit 0)) (.seq (.block 1 (.reg [⟨(.some 17), (.mv (.t 8)), .none⟩, ⟨(.some 18), (.bs 21 1
  [(.k (.int .i32 1614))]), .none⟩, ⟨(.some 19), (.app 21 4 (.t 17) (.t 18)), .none⟩, ⟨(.some 8), (.mv (.t 19)), .none⟩])) (.reg [⟨(.some 20), (.bin .add (.t 15) (.k (.int .u8 1))), .none⟩, ⟨(.some 15),
  (.mv (.t 20)), .none⟩]))))))) (.seq (.reg [⟨(.some 21), (.mv (.t 8)), .none⟩, ⟨(.some 22), (.len (.t 21)), .none⟩, ⟨(.some 9), (.mv (.t 22)), .none⟩]) (.seq (.reg [⟨(.some 23), (.mv (.t 8)), .none⟩,
  ⟨(.some 24), (.mv (.t 0)), .none⟩, ⟨(.some 25), (.bs 21 1 [(.t 24)]), .none⟩, ⟨(.some 26), (.app 21 4 (.t 23) (.t 25)), .none⟩, ⟨(.some 8), (.mv (.t 26)), .none⟩]) (.seq (.seq (.reg [⟨(.some 27), (.ld
  .none (.t 3)), .none⟩, ⟨(.some 28), (.bin .rem (.t 27) (.k (.int .u8 4))), .none⟩, ⟨(.some 29), (.mv (.k (.int .u8 0))), .none⟩]) (.block 2 (.loop (.seq (.reg [⟨(.some 30), (.bin .lss (.t 29) (.t
  28)), .none⟩]) (.seq (.cond (.t 30) .skip (.exit 2)) (.seq (.block 3 (.reg [⟨(.some 31), (.mv (.t 8)), .none⟩, ⟨(.some 32), (.bs 21 1 [(.k (.int .i32 1617))]), .none⟩, ⟨(.some 33), (.app 21 4 (.t 31)
  (.t 32)), .none⟩, ⟨(.some 8), (.mv (.t 33)), .none⟩])) (.reg [⟨(.some 34), (.bin .add (.t 29) (.k (.int .u8 1))), .none⟩, ⟨(.some 29), (.mv (.t 34)), .none⟩]))))))) (.seq (.reg [⟨(.some 35), (.mv (.t
  8)), .none⟩, ⟨(.some 36), (.ld .none (.t 4)), .none⟩, ⟨(.some 37), (.bs 21 1 [(.t 36)]), .none⟩, ⟨(.some 38), (.app 21 4 (.t 35) (.t 37)), .none⟩, ⟨(.some 39), (.mv (.t 9)), .none⟩, ⟨(.some 40),
  (.call (.f 37) [(.t 38), (.t 39)]), .none⟩, ⟨(.some 7), (.mv (.t 40)), .none⟩]) .ret)))))))
theorem c42 : Try.f42.body.bind (cCode Try.prog 41) = some a42 := by kernel_rfl
theorem r42 : Try.f42.results.toList = [(.tmp 7)] := by kernel_rfl
theorem n42 : Try.f42.ntmps = 41 := by kernel_rfl
theorem e42 : Enters Try.prog 42 := enters_of Try.func42 (by kernel_rfl) (by kernel_rfl)
def a13 : ACode :=
  (.seq (.reg [⟨(.some 5), (.box 21 (.t 1)), .none⟩, ⟨(.some 6), (.box 5 (.t 2)), .none⟩, ⟨(.some 7), (.box 5 (.t 3)), .none⟩, ⟨(.some 8), (.mv (.k (.bool false))), .none⟩]) (.seq (.reg [⟨(.some 16),
  (.mkf (.func 42) [] [(.t 6), (.t 7), (.t 5)]), .none⟩, ⟨(.some 9), (.mv (.t 16)), .none⟩]) (.seq (.dtr (.one ⟨(.some 17), (.mv (.t 0)), .none⟩ (.one ⟨(.some 18), (.call (.f 22) [(.t 17)]), .none⟩
  (.one ⟨(.some 19), (.ld .none (.t 5)), .none⟩ (.one ⟨(.some 20), (.call (.f 22) [(.t 19)]), .none⟩ (.both (.one ⟨(.some 10), (.alc 28 [(.int .u8 0), (.int .u8 0), (.int .u8 0), (.int .u8 0), (.int .u8
  0), (.int .u8 0), (.int .u8 0)]), .none⟩ (.one ⟨(.some 11), (.alc 28 [(.int .u8 0), (.int .u8 0), (.int .u8 0), (.int .u8 0), (.int .u8 0), (.int .u8 0), (.int .u8 0)]), .none⟩ (.one ⟨.none, (.st 7
  (.t 10) (.t 18)), .none⟩ (.one ⟨.none, (.st 7 (.t 11) (.t 20)), .none⟩ .leaf)))) (.both (.one ⟨(.some 11), (.alc 28 [(.int .u8 0), (.int .u8 0), (.int .u8 0), (.int .u8 0), (.int .u8 0), (.int .u8 0),
  (.int .u8 0)]), .none⟩ (.one ⟨(.some 10), (.alc 28 [(.int .u8 0), (.int .u8 0), (.int .u8 0), (.int .u8 0), (.int .u8 0), (.int .u8 0), (.int .u8 0)]), .none⟩ (.one ⟨.none, (.st 7 (.t 10) (.t 18)),
  .none⟩ (.one ⟨.none, (.st 7 (.t 11) (.t 20)), .none⟩ .leaf)))) .top))))))) (.seq (.reg [⟨(.some 21), (.ld .none (.t 6)), .none⟩, ⟨(.some 22), (.bin .rem (.t 21) (.k (.int .u8 4))), .none⟩, ⟨(.some
  23), (.bin .eql (.t 22) (.k (.int .u8 0))), .none⟩, ⟨(.some 24), (.mv (.t 23)), .none⟩, ⟨(.some 25), (.fa 3 (.t 10)), (.some (24, true))⟩, ⟨(.some 26), (.ld .none (.t 25)), (.some (24, true))⟩,
  ⟨(.some 27), (.bin .eql (.t 26) (.k (.int .u8 9))), (.some (24, true))⟩, ⟨(.some 28), (.pick (.t 24) (.t 27) (.k (.bool false))), .none⟩, ⟨(.some 12), (.mv (.t 28)), .none⟩]) (.seq (.reg [⟨(.some 29),
  (.fa 2 (.t 10)), .none⟩, ⟨(.some 30), (.ld .none (.t 29)), .none⟩, ⟨(.some 31), (.bin .eql (.t 30) (.k (.int .u8 3))), .none⟩, ⟨(.some 32), (.mv (.t 31)), .none⟩, ⟨(.some 33), (.fa 2 (.t 10)), (.some
  (32, false))⟩, ⟨(.some 34), (.ld .none (.t 33)), (.some (32, false))⟩, ⟨(.some 35), (.bin .eql (.t 34) (.k (.int .u8 4))), (.some (32, false))⟩, ⟨(.some 36), (.pick (.t 32) (.k (.bool true)) (.t 35)),
  .none⟩, ⟨(.some 13), (.mv (.t 36)), .none⟩]) (.seq (.reg [⟨(.some 37), (.fa 2 (.t 11)), .none⟩, ⟨(.some 38), (.ld .none (.t 37)), .none⟩, ⟨(.some 39), (.bin .eql (.t 38) (.k (.int .u8 3))), .none⟩,
  ⟨(.some 40), (.mv (.t 39)), .none⟩, ⟨(.some 41), (.fa 2 (.t 11)), (.some (40, false))⟩, ⟨(.some 42), (.ld .none (.t 41)), (.some (40, false))⟩, ⟨(.some 43), (.bin .eql (.t 42) (.k (.int .u8 5))),
  (.some (40, false))⟩, ⟨(.some 44), (.pick (.t 40) (.k (.bool true)) (.t 43)), .none⟩, ⟨(.some 14), (.mv (.t 44)), .none⟩]) (.seq (.seq (.reg [⟨(.some 45), (.fa 2 (.t 10)), .none⟩, ⟨(.some 46), (.ld
  .none (.t 45)), .none⟩, ⟨(.some 47), (.bin .eql (.t 46) (.k (.int .u8 2))), .none⟩, ⟨(.some 48), (.mv (.t 47)), .none⟩, ⟨(.some 49), (.mv (.t 12)), (.some (48, true))⟩, ⟨(.some 50), (.not (.t 49)),
  (.some (48, true))⟩, ⟨(.some 51), (.pick (.t 48) (.t 50) (.k (.bool false))), .none⟩, ⟨(.some 52), (.mv (.t 51)), .none⟩, ⟨(.some 53), (.fa 2 (.t 11)), (.some (52, false))⟩, ⟨(.some 54), (.ld .none
  (.t 53)), (.some (52, false))⟩, ⟨(.some 55), (.bin .eql (.t 54) (.k (.int .u8 2))), (.some (52, false))⟩, ⟨(.some 56), (.pick (.t 52) (.k (.bool true)) (.t 55)), .none⟩]) (.cond (.t 56) (.seq (.reg
  [⟨(.some 57), (.call (.f 36) []), .none⟩, ⟨(.some 8), (.mv (.t 57)), .none⟩]) .ret) .skip)) (.seq (.reg [⟨(.some 15), (.mv (.k (.int .u8 7))), .none⟩]) (.seq (.seq (.reg [⟨(.some 58), (.mv (.t 12)),
  .none⟩]) (.cond (.t 58) (.reg [⟨(.some 15), (.mv (.k (.int .u8 0))), .none⟩]) .skip)) (.seq (.seq (.reg [⟨(.some 59), (.mv (.t 9)), .none⟩, ⟨(.some 60), (.mv (.t 0)), .none⟩, ⟨(.some 61), (.bs 21 1
  [(.t 60)]), .none⟩, ⟨(.some 62), (.call (.t 59) [(.k (.int .i32 8205)), (.t 61)]), .none⟩, ⟨(.some 63), (.mv (.t 15)), .none⟩, ⟨(.some 64), (.bin .neq (.t 62) (.t 63)), .none⟩]) (.cond (.t 64) (.seq
  (.reg [⟨(.some 8), (.mv (.k (.bool false))), .none⟩]) .ret) .skip)) (.seq (.seq (.reg [⟨(.some 65), (.mv (.t 13)), .none⟩, ⟨(.some 66), (.mv (.t 65)), .none⟩, ⟨(.some 67), (.mv (.t 14)), (.some (66,
  true))⟩, ⟨(.some 68), (.pick (.t 66) (.t 67) (.k (.bool false))), .none⟩]) (.cond (.t 68) (.reg [⟨(.some 15), (.mv (.k (.int .u8 0))), .none⟩]) .skip)) (.seq (.reg [⟨(.some 69), (.mv (.t 9)), .none⟩,
  ⟨(.some 70), (.mv (.t 0)), .none⟩, ⟨(.some 71), (.bs 21 1 [(.t 70)]), .none⟩, ⟨(.some 72), (.call (.t 69) [(.k (.int .i32 8204)), (.t 71)]), .none⟩, ⟨(.some 73), (.mv (.t 15)), .none⟩, ⟨(.some 74),
  (.bin .eql (.t 72) (.t 73)), .none⟩, ⟨(.some 75), (.mv (.t 74)), .none⟩, ⟨(.some 76), (.mv (.t 0)), (.some (75, true))⟩, ⟨(.some 77), (.ld .none (.t 5)), (.some (75, true))⟩, ⟨(.some 78), (.bs 21 1
  [(.t 76), (.k (.int .i32 2381)), (.k (.int .i32 8204)), (.t 77)]), (.some (75, true))⟩, ⟨(.some 79), (.call (.f 37) [(.t 78), (.k (.int .i64 2))]), (.some (75, true))⟩, ⟨(.some 80), (.bin .eql (.t 79)
  (.k (.int .u8 0))), (.some (75, true))⟩, ⟨(.some 81), (.pick (.t 75) (.t 80) (.k (.bool false))), .none⟩, ⟨(.some 82), (.mv (.t 81)), .none⟩, ⟨(.some 83), (.mv (.t 0)), (.some (82, true))⟩, ⟨(.some
  84), (.ld .none (.t 5)), (.some (82, true))⟩, ⟨(.some 85), (.bs 21 1 [(.t 83), (.k (.int .i32 2381)), (.k (.int .i32 8205)), (.t 84)]), (.some (82, true))⟩, ⟨(.some 86), (.call (.f 37) [(.t 85), (.k
  (.int .i64 2))]), (.some (82, true))⟩, ⟨(.some 87), (.bin .eql (.t 86) (.k (.int .u8 0))), (.some (82, true))⟩, ⟨(.some 88), (.pick (.t 82) (.t 87) (.k (.bool false))), .none⟩, ⟨(.some 89), (.mv (.t
  88)), .none⟩, ⟨(.some 90), (.call (.f 36) []), (.some (89, true))⟩, ⟨(.some 91), (.pick (.t 89) (.t 90) (.k (.bool false))), .none⟩, ⟨(.some 8), (.mv (.t 91)), .none⟩]) .ret))))))))))))
theorem c13 : Try.f13.body.bind (cCode Try.prog 92) = some a13 := by kernel_rfl
theorem r13 : Try.f13.results.toList = [(.tmp 8)] := by kernel_rfl
theorem n13 : Try.f13.ntmps = 92 := by kernel_rfl
theorem e13 : Enters Try.prog 13 := enters_of Try.func13 (by kernel_rfl) (by kernel_rfl)

def joinRow (a : Int) (m : Nat) (j : Int) (k : Nat) (b : Int) : List Int := (a :: List.replicate m 1614) ++ (j :: (List.replicate k 1617 ++ [b]))

theorem runes_snoc (l : List Int) (x : Int) : runes l ++ [[.int .i32 x]] = runes (l ++ [x]) := by simp [runes]

set_option maxRecDepth 10000 in
theorem row_pure (j a x y b : Int) (hx : 0 ≤ x ∧ x ≤ 255) (hy : 0 ≤ y ∧ y ≤ 255) : Pure Try.prog 42 [.lit (.int .i32 j), .sl 21 (runes [a]) none, .ep [.lit (.int .u8 x)], .ep [.lit (.int .u8 y)], .ep [.lit (.int .i32 b)]] []
    (.lit (.int .u8 (atOf (joinRow a (x.toNat % 4) j (y.toNat % 4) b) ((x.toNat % 4 + 1 : Nat) : Int)))) := by
  obtain ⟨m, hm⟩ : ∃ m, m = x.toNat % 4 := ⟨_, rfl⟩
  obtain ⟨k, hk⟩ : ∃ k, k = y.toNat % 4 := ⟨_, rfl⟩
  have e4 : ((4 : Int) = 0) = False := by simp
  have hxm : x.tmod 4 = (m : Int) := by rw [Int.tmod_eq_emod_of_nonneg hx.1]; omega
  have hyk : y.tmod 4 = (k : Int) := by rw [Int.tmod_eq_emod_of_nonneg hy.1]; omega
  refine pure0 Try.func42 c42 n42 e42 r42 (by simp) rfl ?_
  simp only [a42, astart, argSlots, go_sem, Nat.reduceAdd, Nat.reduceEqDiff, Nat.reduceLT, reduceIte, reduceCtorEq, Nat.reduceBEq, Int.reduceLT, Int.reduceToNat, Int.reducePow, Nat.reduceLeDiff, Int.reduceLE, Nat.reduceMul, Nat.reduceSub, e4, hxm, hyk]
  rw [← hm, ← hk]
  have hm4 : m < 4 := by omega
  have hk4 : k < 4 := by omega
  refine loop_to m (fun i => ⟨[(0, some (.lit (.int .i32 j))), (3, some (.ep [.lit (.int .u8 y)])), (4, some (.ep [.lit (.int .i32 b)])), (7, some (.lit (.int .u8 0))), (14, some (.lit (.int .u8 (m : Int)))), (15, some (.lit (.int .u8 (i : Int)))), (8, some (.sl 21 (runes (a :: List.replicate i 1614)) (some 0)))], [], [(0, 21)], 1⟩)
    (fun _ => True) (weak_by [1] (by simp) rfl ?_ trivial ?_ (by simp)) trivial ?_ ?_
  · simp only [go_sem, Nat.reduceAdd, Nat.reduceEqDiff, Nat.reduceLT, reduceIte, reduceCtorEq, Nat.reduceBEq, Int.reduceLT, Int.reduceToNat, Int.reducePow, Nat.reduceLeDiff, Int.reduceLE, Nat.reduceMul, Nat.reduceSub, slotsBy, boxesBy, tipsBy, rawAt, nm, AV.ren, AV.renL, AV.under, AV.underL, List.all_nil, List.all_cons, bne_self_eq_false, List.getD_cons_zero, List.getD_cons_succ, List.length_nil, List.length_cons, and_true, true_and, Int.natCast_zero, List.replicate_zero]
  · simp only [go_sem, Nat.reduceAdd, Nat.reduceEqDiff, Nat.reduceLT, reduceIte, reduceCtorEq, Nat.reduceBEq, Int.reduceLT, Int.reduceToNat, Int.reducePow, Nat.reduceLeDiff, Int.reduceLE, Nat.reduceMul, Nat.reduceSub, slotsBy, boxesBy, tipsBy, rawAt, nm, AV.ren, AV.renL, AV.under, AV.underL, List.all_nil, List.all_cons, bne_self_eq_false, List.getD_cons_zero, List.getD_cons_succ, List.length_nil, List.length_cons, and_true, true_and, beq_self_eq_true]
  · intro i hi _
    simp only [go_sem, Nat.reduceAdd, Nat.reduceEqDiff, Nat.reduceLT, reduceIte, reduceCtorEq, Nat.reduceBEq, Int.reduceLT, Int.reduceToNat, Int.reducePow, Nat.reduceLeDiff, Int.reduceLE, Nat.reduceMul, Nat.reduceSub, hi]
    simp (disch := omega) only [wrap_u8]
    refine ⟨by simp only [runes_length, List.length_cons, List.length_replicate]; omega, ?_⟩
    refine weak_by [2] (by simp) rfl ?_ trivial ?_ (by simp)
    · simp only [go_sem, Nat.reduceAdd, Nat.reduceEqDiff, Nat.reduceLT, reduceIte, reduceCtorEq, Nat.reduceBEq, Int.reduceLT, Int.reduceToNat, Int.reducePow, Nat.reduceLeDiff, Int.reduceLE, Nat.reduceMul, Nat.reduceSub, slotsBy, boxesBy, tipsBy, rawAt, nm, AV.ren, AV.renL, AV.under, AV.underL, List.all_nil, List.all_cons, bne_self_eq_false, List.getD_cons_zero, List.getD_cons_succ, List.length_nil, List.length_cons, and_true, true_and, runes_snoc, Int.natCast_add, Int.natCast_one, List.replicate_succ', List.cons_append]
    · simp only [go_sem, Nat.reduceAdd, Nat.reduceEqDiff, Nat.reduceLT, reduceIte, reduceCtorEq, Nat.reduceBEq, Int.reduceLT, Int.reduceToNat, Int.reducePow, Nat.reduceLeDiff, Int.reduceLE, Nat.reduceMul, Nat.reduceSub, slotsBy, boxesBy, tipsBy, rawAt, nm, AV.ren, AV.renL, AV.under, AV.underL, List.all_nil, List.all_cons, bne_self_eq_false, List.getD_cons_zero, List.getD_cons_succ, List.length_nil, List.length_cons, and_true, true_and, beq_self_eq_true]
  · intro _
    simp only [go_sem, Nat.reduceAdd, Nat.reduceEqDiff, Nat.reduceLT, reduceIte, reduceCtorEq, Nat.reduceBEq, Int.reduceLT, Int.reduceToNat, Int.reducePow, Nat.reduceLeDiff, Int.reduceLE, Nat.reduceMul, Nat.reduceSub, e4, hyk]
    refine ⟨by simp only [runes_length, List.length_cons, List.length_replicate]; omega, ?_⟩
    refine loop_to k (fun i => ⟨[(4, some (.ep [.lit (.int .i32 b)])), (7, some (.lit (.int .u8 0))), (9, some (.lit (.int .i64 ((m + 1 : Nat) : Int)))), (28, some (.lit (.int .u8 (k : Int)))), (29, some (.lit (.int .u8 (i : Int)))), (8, some (.sl 21 (runes ((a :: List.replicate m 1614) ++ (j :: List.replicate i 1617))) (some 0)))], [], [(0, 21)], 1⟩)
      (fun _ => True) (weak_by [2] (by simp) rfl ?_ trivial ?_ (by simp)) trivial ?_ ?_
    · simp only [go_sem, Nat.reduceAdd, Nat.reduceEqDiff, Nat.reduceLT, reduceIte, reduceCtorEq, Nat.reduceBEq, Int.reduceLT, Int.reduceToNat, Int.reducePow, Nat.reduceLeDiff, Int.reduceLE, Nat.reduceMul, Nat.reduceSub, slotsBy, boxesBy, tipsBy, rawAt, nm, AV.ren, AV.renL, AV.under, AV.underL, List.all_nil, List.all_cons, bne_self_eq_false, List.getD_cons_zero, List.getD_cons_succ, List.length_nil, List.length_cons, and_true, true_and, runes_snoc, runes_length, Int.natCast_zero, List.replicate_zero, List.length_cons, List.length_replicate]
    · simp only [go_sem, Nat.reduceAdd, Nat.reduceEqDiff, Nat.reduceLT, reduceIte, reduceCtorEq, Nat.reduceBEq, Int.reduceLT, Int.reduceToNat, Int.reducePow, Nat.reduceLeDiff, Int.reduceLE, Nat.reduceMul, Nat.reduceSub, slotsBy, boxesBy, tipsBy, rawAt, nm, AV.ren, AV.renL, AV.under, AV.underL, List.all_nil, List.all_cons, bne_self_eq_false, List.getD_cons_zero, List.getD_cons_succ, List.length_nil, List.length_cons, and_true, true_and, beq_self_eq_true]
    · intro i hi _
      simp only [go_sem, Nat.reduceAdd, Nat.reduceEqDiff, Nat.reduceLT, reduceIte, reduceCtorEq, Nat.reduceBEq, Int.reduceLT, Int.reduceToNat, Int.reducePow, Nat.reduceLeDiff, Int.reduceLE, Nat.reduceMul, Nat.reduceSub, hi]
      simp (disch := omega) only [wrap_u8]
      refine ⟨by simp only [runes_length, List.length_append, List.length_cons, List.length_replicate]; omega, ?_⟩
      refine weak_by [2] (by simp) rfl ?_ trivial ?_ (by simp)
      · simp only [go_sem, Nat.reduceAdd, Nat.reduceEqDiff, Nat.reduceLT, reduceIte, reduceCtorEq, Nat.reduceBEq, Int.reduceLT, Int.reduceToNat, Int.reducePow, Nat.reduceLeDiff, Int.reduceLE, Nat.reduceMul, Nat.reduceSub, slotsBy, boxesBy, tipsBy, rawAt, nm, AV.ren, AV.renL, AV.under, AV.underL, List.all_nil, List.all_cons, bne_self_eq_false, List.getD_cons_zero, List.getD_cons_succ, List.length_nil, List.length_cons, and_true, true_and, runes_snoc, Int.natCast_add, Int.natCast_one, List.replicate_succ', List.cons_append, List.append_assoc]
      · simp only [go_sem, Nat.reduceAdd, Nat.reduceEqDiff, Nat.reduceLT, reduceIte, reduceCtorEq, Nat.reduceBEq, Int.reduceLT, Int.reduceToNat, Int.reducePow, Nat.reduceLeDiff, Int.reduceLE, Nat.reduceMul, Nat.reduceSub, slotsBy, boxesBy, tipsBy, rawAt, nm, AV.ren, AV.renL, AV.under, AV.underL, List.all_nil, List.all_cons, bne_self_eq_false, List.getD_cons_zero, List.getD_cons_succ, List.length_nil, List.length_cons, and_true, true_and, beq_self_eq_true]
    · intro _
      simp only [go_sem, Nat.reduceAdd, Nat.reduceEqDiff, Nat.reduceLT, reduceIte, reduceCtorEq, Nat.reduceBEq, Int.reduceLT, Int.reduceToNat, Int.reducePow, Nat.reduceLeDiff, Int.reduceLE, Nat.reduceMul, Nat.reduceSub]
      refine ⟨by simp only [runes_length, List.length_append, List.length_cons, List.length_replicate]; omega, ?_⟩
      have hj : runes (a :: (List.replicate m 1614 ++ j :: List.replicate k 1617)) ++ [[Value.int .i32 b]] = runes (joinRow a m j k b) := by simp only [runes_snoc, joinRow, List.append_assoc, List.cons_append]
      have hjl : (joinRow a m j k b).length ≤ 1000000 := by simp only [joinRow, List.length_append, List.length_cons, List.length_replicate, List.length_nil]; omega
      simp only [hj]
      refine callGo_pure (at8_pure (joinRow a m j k b) ((m + 1 : Nat) : Int) hjl) (by rfl) ?_
      simp only [go_sem, Nat.reduceAdd, Nat.reduceEqDiff, Nat.reduceLT, reduceIte, reduceCtorEq, Nat.reduceBEq, Int.reduceLT, Int.reduceToNat, Int.reducePow, Nat.reduceLeDiff, Int.reduceLE, Nat.reduceMul, Nat.reduceSub]
      simp only [Done, resAV, resL, resOne, look_nil, look_cons, Nat.reduceEqDiff, if_true, if_false, reduceIte, ite_true, ite_false, Nat.zero_ne_one, Nat.one_ne_zero, reduceCtorEq, true_or, or_true, true_and, Option.some.injEq, AV.lit.injEq, Value.int.injEq, Value.bool.injEq]

theorem r1614 : (rowAt 1614).join = 2 ∧ ((rowAt 1614).ccc == 9) = false := by decide +kernel
theorem r1617 : (rowAt 1617).join = 2 := by decide +kernel

theorem joinRow_len (a : Int) (m : Nat) (j : Int) (k : Nat) (b : Int) : (joinRow a m j k b).length = m + k + 3 := by simp only [joinRow, List.length_append, List.length_cons, List.length_replicate, List.length_nil]; omega
theorem atP_some {l : List Int} {i : Nat} {r : Int} (h : l[i]? = some r) : atP l (i : Int) = r := by
  obtain ⟨hlt, rfl⟩ := List.getElem?_eq_some_iff.1 h
  exact atP_in l i hlt
theorem row_mid (a b : Int) (m k : Nat) (j : Int) : atP (joinRow a m j k b) ((m + 1 : Nat) : Int) = j := by
  refine atP_some ?_
  unfold joinRow
  rw [List.getElem?_append_right (by simp)]
  simp
theorem row_head (a b : Int) (m k : Nat) (j : Int) : atP (joinRow a m j k b) ((0 : Nat) : Int) = a := by
  have hlt : 0 < (joinRow a m j k b).length := by rw [joinRow_len]; omega
  rw [atP_in _ _ hlt]
  rfl
theorem row_before (a b : Int) (m k : Nat) (j : Int) (i : Nat) (h : i < m) : atP (joinRow a m j k b) ((i + 1 : Nat) : Int) = 1614 := by
  refine atP_some ?_
  unfold joinRow
  rw [List.getElem?_append_left (by simp; omega)]
  simp [h]
theorem row_after (a b : Int) (m k : Nat) (j : Int) (i : Nat) (h : i < k) : atP (joinRow a m j k b) ((m + 2 + i : Nat) : Int) = 1617 := by
  refine atP_some ?_
  unfold joinRow
  rw [List.getElem?_append_right (by simp; omega)]
  have e : m + 2 + i - (a :: List.replicate m (1614 : Int)).length = i + 1 := by simp; omega
  simp only [e, List.getElem?_cons_succ]
  rw [List.getElem?_append_left (by simpa using h)]
  simp [h]
theorem row_last (a b : Int) (m k : Nat) (j : Int) : atP (joinRow a m j k b) ((m + 2 + k : Nat) : Int) = b := by
  refine atP_some ?_
  unfold joinRow
  rw [List.getElem?_append_right (by simp; omega)]
  have e : m + 2 + k - (a :: List.replicate m (1614 : Int)).length = k + 1 := by simp; omega
  simp only [e, List.getElem?_cons_succ]
  rw [List.getElem?_append_right (by simp)]
  simp
theorem joins_out (l : List Int) (way side : Int) (f : Nat) (k : Int) (h : k < 0 ∨ (l.length : Int) ≤ k) : joinsP l way side f k = false := by
  cases f with
  | zero => rfl
  | succ f => rw [joinsP, atP_out l k h, if_neg (by omega)]
/-- At a letter: whether it joins on. -/
theorem joins_here (l : List Int) (way side : Int) (f : Nat) (k r : Int) (hr : atP l k = r) (hs : side = 4 ∨ side = 5) (ho : k + way < 0 ∨ (l.length : Int) ≤ k + way) : joinsP l way side (f + 1) k = ((rowAt r).join == 3 || (rowAt r).join == side) := by
  rw [joinsP, hr]
  by_cases h0 : 0 ≤ r
  · rw [if_pos h0]
    by_cases h2 : (rowAt r).join = 2
    · have e : ((2 : Int) == side) = false := by simp only [beq_eq_false_iff_ne]; omega
      rw [if_pos h2, joins_out l way side f _ ho, h2, e]; rfl
    · rw [if_neg h2]
  · rw [if_neg h0, rowAt_neg (by omega)]
    rcases hs with rfl | rfl <;> rfl
theorem joins_before (a b : Int) (m k : Nat) (j : Int) : ∀ (i f : Nat), i ≤ m → i < f → joinsP (joinRow a m j k b) (-1) 4 f (i : Int) = ((rowAt a).join == 3 || (rowAt a).join == 4)
  | 0, f + 1, _, _ => joins_here _ _ _ _ _ _ (row_head a b m k j) (by omega) (.inl (by omega))
  | i + 1, f + 1, h1, h2 => by
    rw [joinsP, row_before a b m k j i (by omega), if_pos (by omega), if_pos r1614.1, show ((i + 1 : Nat) : Int) + -1 = (i : Int) by omega]
    exact joins_before a b m k j i f (by omega) (by omega)
theorem joins_after (a b : Int) (m k : Nat) (j : Int) : ∀ (d i f : Nat), i + d = k → d < f → joinsP (joinRow a m j k b) 1 5 f ((m + 2 + i : Nat) : Int) = ((rowAt b).join == 3 || (rowAt b).join == 5)
  | 0, i, f + 1, h1, _ => by
    rw [Nat.add_zero] at h1
    subst h1
    exact joins_here _ _ _ _ _ _ (row_last a b m i j) (by omega) (.inr (by rw [joinRow_len]; omega))
  | d + 1, i, f + 1, h1, h2 => by
    rw [joinsP, row_after a b m k j i (by omega), if_pos (by omega), if_pos r1617, show ((m + 2 + i : Nat) : Int) + 1 = ((m + 2 + (i + 1) : Nat) : Int) by omega]
    exact joins_after a b m k j d (i + 1) f (by omega) (by omega)
theorem row_killed (a b : Int) (m k : Nat) (j : Int) : killedP (joinRow a m j k b) ((m + 1 : Nat) : Int) = (decide (m = 0) && (rowAt a).ccc == 9) := by
  unfold killedP
  rw [show ((m + 1 : Nat) : Int) - 1 = (m : Int) by omega]
  cases m with
  | zero => rw [row_head]; rfl
  | succ m => rw [row_before a b (m + 1) k j m (by omega), r1614.2]; simp
/-- What the law asks. -/
theorem at_zwj (a b : Int) (m k : Nat) : atOf (joinRow a m 8205 k b) ((m + 1 : Nat) : Int) = if (decide (m = 0) && (rowAt a).ccc == 9) = true then 0 else 7 := by
  have hlt : m + 1 < (joinRow a m 8205 k b).length := by rw [joinRow_len]; omega
  have hg : (joinRow a m 8205 k b)[m + 1] = 8205 := by rw [← atP_in _ _ hlt]; exact row_mid a b m k 8205
  exact at_by _ _ hlt (by rw [hg]; exact key_self (by omega) (by omega)) (show fineOf _ _ 8205 = _ from row_killed a b m k 8205) rfl
theorem at_zwnj (a b : Int) (m k : Nat) : atOf (joinRow a m 8204 k b) ((m + 1 : Nat) : Int) =
    if ((decide (m = 0) && (rowAt a).ccc == 9) || (((rowAt a).join == 3 || (rowAt a).join == 4) && ((rowAt b).join == 3 || (rowAt b).join == 5))) = true then 0 else 7 := by
  have hlt : m + 1 < (joinRow a m 8204 k b).length := by rw [joinRow_len]; omega
  have hg : (joinRow a m 8204 k b)[m + 1] = 8204 := by rw [← atP_in _ _ hlt]; exact row_mid a b m k 8204
  refine at_by _ _ hlt (by rw [hg]; exact key_self (by omega) (by omega)) (show fineOf _ _ 8204 = _ from ?_) rfl
  show joinerP _ _ = _
  unfold joinerP
  rw [row_killed, show ((m + 1 : Nat) : Int) + -1 = (m : Int) by omega, show ((m + 1 : Nat) : Int) + 1 = ((m + 2 + 0 : Nat) : Int) by omega, joins_before a b m k 8204 m _ (Nat.le_refl _) (by rw [joinRow_len]; omega), joins_after a b m k 8204 k 0 _ (by omega) (by rw [joinRow_len]; omega)]
theorem r2381 : ((rowAt 2381).ccc == 9) = true := by decide +kernel
theorem at_virama (a j b : Int) (hj : j = 8205 ∨ j = 8204) : atOf [a, 2381, j, b] 2 = 0 := by
  have hk : killedP [a, 2381, j, b] 2 = true := r2381
  rcases hj with rfl | rfl
  · exact at_by [a, 2381, 8205, b] 2 (by simp) (key_self (by simp) (by simp)) (show fineOf _ _ 8205 = true from hk) rfl
  · refine at_by [a, 2381, 8204, b] 2 (by simp) (key_self (by simp) (by simp)) (b := true) (show fineOf _ _ 8204 = true from ?_) rfl
    show joinerP [a, 2381, 8204, b] 2 = true
    unfold joinerP
    rw [hk]; rfl

theorem runes4 (a b c d : Int) : [[Value.int .i32 a], [.int .i32 b], [.int .i32 c], [.int .i32 d]] = runes [a, b, c, d] := rfl
theorem runes1 (a : Int) : [[Value.int .i32 a]] = runes [a] := rfl
set_option maxRecDepth 10000 in
set_option maxHeartbeats 8000000 in
theorem contextJoins_pure (a : Int) (ha : -2147483648 ≤ a ∧ a ≤ 2147483647) (b : Int) (hb : -2147483648 ≤ b ∧ b ≤ 2147483647) (x : Int) (hx : 0 ≤ x ∧ x ≤ 255) (y : Int) (hy : 0 ≤ y ∧ y ≤ 255) :
    Pure Try.prog 13 [.lit (.int .i32 a), .lit (.int .i32 b), .lit (.int .u8 x), .lit (.int .u8 y)] [] (.lit (.bool true)) := by
  refine pure0 Try.func13 c13 n13 e13 r13 (by simp) rfl ?_
  have e4 : ((4 : Int) = 0) = False := by simp
  obtain ⟨m, hm⟩ : ∃ m, m = x.toNat % 4 := ⟨_, rfl⟩
  obtain ⟨k, hk⟩ : ∃ k, k = y.toNat % 4 := ⟨_, rfl⟩
  have hxm : x.tmod 4 = (m : Int) := by rw [Int.tmod_eq_emod_of_nonneg hx.1]; omega
  have hz := at_zwj a b m k
  have hn := at_zwnj a b m k
  simp only [a13, astart, argSlots, go_sem, Nat.reduceAdd, Nat.reduceEqDiff, Nat.reduceLT, reduceIte, reduceCtorEq, Nat.reduceBEq, Int.reduceLT, Int.reduceToNat, Int.reducePow, Nat.reduceLeDiff, Int.reduceLE, Nat.reduceMul, Nat.reduceSub]
  refine dtr_to ⟨[(0, some (.lit (.int .i32 a))), (5, some (.bp 0 0)), (6, some (.bp 1 0)), (7, some (.bp 2 0)), (8, some (.lit (.bool false))), (9, some (.fn (.func 42) [] [.bp 1 0, .bp 2 0, .bp 0 0])), (10, some (.bp 3 0)), (11, some (.bp 4 0))],
    [(0, [.lit (.int .i32 b)]), (1, [.lit (.int .u8 x)]), (2, [.lit (.int .u8 y)]), (3, (rowAt a).prop.map .lit), (4, (rowAt b).prop.map .lit)], [], 5⟩ ?_ ?_
  · simp only [go_sem, Nat.reduceAdd, Nat.reduceEqDiff, Nat.reduceLT, reduceIte, reduceCtorEq, Nat.reduceBEq, Int.reduceLT, Int.reduceToNat, Int.reducePow, Nat.reduceLeDiff, Int.reduceLE, Nat.reduceMul, Nat.reduceSub]
    refine dcallGo_pure (of_pure a) (by rfl) rfl ?_
    simp only [go_sem, Nat.reduceAdd, Nat.reduceEqDiff, Nat.reduceLT, reduceIte, reduceCtorEq, Nat.reduceBEq, Int.reduceLT, Int.reduceToNat, Int.reducePow, Nat.reduceLeDiff, Int.reduceLE, Nat.reduceMul, Nat.reduceSub]
    refine dcallGo_pure (of_pure b) (by rfl) rfl ?_
    simp only [go_sem, Nat.reduceAdd, Nat.reduceEqDiff, Nat.reduceLT, reduceIte, reduceCtorEq, Nat.reduceBEq, Int.reduceLT, Int.reduceToNat, Int.reducePow, Nat.reduceLeDiff, Int.reduceLE, Nat.reduceMul, Nat.reduceSub, Row.prop]
    refine ⟨?_, ?_⟩
    · refine weak_by [0, 1, 2, 3, 4] (by simp) rfl ?_ ?_ trivial ?_
      · simp only [go_sem, Nat.reduceAdd, Nat.reduceEqDiff, Nat.reduceLT, reduceIte, reduceCtorEq, Nat.reduceBEq, Int.reduceLT, Int.reduceToNat, Int.reducePow, Nat.reduceLeDiff, Int.reduceLE, Nat.reduceMul, Nat.reduceSub, slotsBy, boxesBy, tipsBy, rawAt, nm, AV.ren, AV.renL, AV.under, AV.underL, List.all_nil, List.all_cons, bne_self_eq_false, List.getD_cons_zero, List.getD_cons_succ, List.length_nil, List.length_cons, and_true, true_and]
        try first | rfl | decide
      · simp only [go_sem, Nat.reduceAdd, Nat.reduceEqDiff, Nat.reduceLT, reduceIte, reduceCtorEq, Nat.reduceBEq, Int.reduceLT, Int.reduceToNat, Int.reducePow, Nat.reduceLeDiff, Int.reduceLE, Nat.reduceMul, Nat.reduceSub, slotsBy, boxesBy, tipsBy, rawAt, nm, AV.ren, AV.renL, AV.under, AV.underL, List.all_nil, List.all_cons, bne_self_eq_false, List.getD_cons_zero, List.getD_cons_succ, List.length_nil, List.length_cons, and_true, true_and]
        try first | rfl | decide
      · simp
    · refine weak_by [0, 1, 2, 4, 3] (by simp) rfl ?_ ?_ trivial ?_
      · simp only [go_sem, Nat.reduceAdd, Nat.reduceEqDiff, Nat.reduceLT, reduceIte, reduceCtorEq, Nat.reduceBEq, Int.reduceLT, Int.reduceToNat, Int.reducePow, Nat.reduceLeDiff, Int.reduceLE, Nat.reduceMul, Nat.reduceSub, slotsBy, boxesBy, tipsBy, rawAt, nm, AV.ren, AV.renL, AV.under, AV.underL, List.all_nil, List.all_cons, bne_self_eq_false, List.getD_cons_zero, List.getD_cons_succ, List.length_nil, List.length_cons, and_true, true_and]
        try first | rfl | decide
      · simp only [go_sem, Nat.reduceAdd, Nat.reduceEqDiff, Nat.reduceLT, reduceIte, reduceCtorEq, Nat.reduceBEq, Int.reduceLT, Int.reduceToNat, Int.reducePow, Nat.reduceLeDiff, Int.reduceLE, Nat.reduceMul, Nat.reduceSub, slotsBy, boxesBy, tipsBy, rawAt, nm, AV.ren, AV.renL, AV.under, AV.underL, List.all_nil, List.all_cons, bne_self_eq_false, List.getD_cons_zero, List.getD_cons_succ, List.length_nil, List.length_cons, and_true, true_and]
        try first | rfl | decide
      · simp
  have hq : ∀ j, Pure Try.prog 42 [.lit (.int .i32 j), .sl 21 (runes [a]) none, .ep [.lit (.int .u8 x)], .ep [.lit (.int .u8 y)], .ep [.lit (.int .i32 b)]] [] (.lit (.int .u8 (atOf (joinRow a m j k b) ((m + 1 : Nat) : Int)))) := fun j => by rw [hm, hk]; exact row_pure j a x y b hx hy
  have hv1 := at8_is [a, 2381, 8204, b] 2 0 (by simp) (at_virama a 8204 b (.inr rfl))
  have hv2 := at8_is [a, 2381, 8205, b] 2 0 (by simp) (at_virama a 8205 b (.inl rfl))
  have hq1 := hq 8205
  have hq2 := hq 8204
  rw [hz] at hq1
  rw [hn] at hq2
  clear hz hn hq
  have cm : ((m : Int) == 0) = decide (m = 0) := by
    by_cases h : m = 0
    · simp [h]
    · simp [h]
  simp only [go_sem, Nat.reduceAdd, Nat.reduceEqDiff, Nat.reduceLT, reduceIte, reduceCtorEq, Nat.reduceBEq, Int.reduceLT, Int.reduceToNat, Int.reducePow, Nat.reduceLeDiff, Int.reduceLE, Nat.reduceMul, Nat.reduceSub, e4, hxm, cm, Row.prop, List.map_cons, List.map_nil]
  generalize (rowAt a).join = ja at hq2
  generalize (rowAt b).join = jb at hq2
  generalize (rowAt a).ccc = ca at hq1 hq2
  obtain ⟨kl, hkl⟩ : ∃ kl, (decide (m = 0) && ca == 9) = kl := ⟨_, rfl⟩
  obtain ⟨lf, hlf⟩ : ∃ lf, (ja == 3 || ja == 4) = lf := ⟨_, rfl⟩
  obtain ⟨rt, hrt⟩ : ∃ rt, (jb == 3 || jb == 5) = rt := ⟨_, rfl⟩
  rw [hkl] at hq1
  rw [hkl, hlf, hrt] at hq2
  cases c1 : decide (m = 0)
  case' true => cases c2 : ca == 9
  all_goals (first
    | (have hk' : kl = true := by rw [← hkl, c1, c2]; rfl)
    | (have hk' : kl = false := by rw [← hkl, c1, c2]; rfl)
    | (have hk' : kl = false := (by rw [← hkl, c1]; rfl)
       have c2 : Nat.succ 0 = 1 := rfl))
  all_goals
    subst hk'
    clear hkl
    cases c3 : ja == 3
  all_goals first
    | (have hl' : lf = true := (by rw [← hlf, c3]; rfl)
       have c4 : Nat.succ 0 = 1 := rfl)
    | cases c4 : ja == 4
  all_goals first
    | (have hl' : lf = true := by rw [← hlf, c3, c4]; rfl)
    | (have hl' : lf = false := by rw [← hlf, c3, c4]; rfl)
    | skip
  all_goals
    subst hl'
    clear hlf
    cases c5 : jb == 3
  all_goals first
    | (have hr' : rt = true := (by rw [← hrt, c5]; rfl)
       have c6 : Nat.succ 0 = 1 := rfl)
    | cases c6 : jb == 5
  all_goals first
    | (have hr' : rt = true := by rw [← hrt, c5, c6]; rfl)
    | (have hr' : rt = false := by rw [← hrt, c5, c6]; rfl)
    | skip
  all_goals
    subst hr'
    clear hrt
    simp only [Bool.true_and, Bool.false_and, Bool.true_or, Bool.false_or, Bool.or_true, Bool.or_false, Bool.and_true, Bool.and_false, reduceCtorEq, if_true, if_false] at hq1 hq2
    cases c7 : ja == 2
  all_goals
    cases c8 : jb == 2
  all_goals
    simp only [go_sem, Nat.reduceAdd, Nat.reduceEqDiff, Nat.reduceLT, reduceIte, reduceCtorEq, Nat.reduceBEq, Int.reduceLT, Int.reduceToNat, Int.reducePow, Nat.reduceLeDiff, Int.reduceLE, Nat.reduceMul, Nat.reduceSub, c1, c2, c3, c4, c5, c6, c7, c8]
    first
    | (refine callGo_pure awake08_pure (by rfl) ?_
       simp only [go_sem, Nat.reduceAdd, Nat.reduceEqDiff, Nat.reduceLT, reduceIte, reduceCtorEq, Nat.reduceBEq, Int.reduceLT, Int.reduceToNat, Int.reducePow, Nat.reduceLeDiff, Int.reduceLE, Nat.reduceMul, Nat.reduceSub]
       simp only [Done, resAV, resL, resOne, look_nil, look_cons, Nat.reduceEqDiff, if_true, if_false, reduceIte, ite_true, ite_false, Nat.zero_ne_one, Nat.one_ne_zero, reduceCtorEq, true_or, or_true, true_and, Option.some.injEq, AV.lit.injEq, Value.int.injEq, Value.bool.injEq])
    | (refine callGo_see hq1 (by simp only [go_sem, Nat.reduceAdd, Nat.reduceEqDiff, Nat.reduceLT, reduceIte, reduceCtorEq, Nat.reduceBEq, Int.reduceLT, Int.reduceToNat, Int.reducePow, Nat.reduceLeDiff, Int.reduceLE, Nat.reduceMul, Nat.reduceSub, AV.seeL, AV.see]; rfl) rfl ?_
       simp only [go_sem, Nat.reduceAdd, Nat.reduceEqDiff, Nat.reduceLT, reduceIte, reduceCtorEq, Nat.reduceBEq, Int.reduceLT, Int.reduceToNat, Int.reducePow, Nat.reduceLeDiff, Int.reduceLE, Nat.reduceMul, Nat.reduceSub, Int.reduceBNe, Int.reduceBEq, c1, c2, c3, c4, c5, c6, c7, c8]
       refine callGo_see hq2 (by simp only [go_sem, Nat.reduceAdd, Nat.reduceEqDiff, Nat.reduceLT, reduceIte, reduceCtorEq, Nat.reduceBEq, Int.reduceLT, Int.reduceToNat, Int.reducePow, Nat.reduceLeDiff, Int.reduceLE, Nat.reduceMul, Nat.reduceSub, AV.seeL, AV.see]; rfl) rfl ?_
       simp only [go_sem, Nat.reduceAdd, Nat.reduceEqDiff, Nat.reduceLT, reduceIte, reduceCtorEq, Nat.reduceBEq, Int.reduceLT, Int.reduceToNat, Int.reducePow, Nat.reduceLeDiff, Int.reduceLE, Nat.reduceMul, Nat.reduceSub, Int.reduceBNe, Int.reduceBEq]
       refine callGo_pure hv1 (by rfl) ?_
       simp only [go_sem, Nat.reduceAdd, Nat.reduceEqDiff, Nat.reduceLT, reduceIte, reduceCtorEq, Nat.reduceBEq, Int.reduceLT, Int.reduceToNat, Int.reducePow, Nat.reduceLeDiff, Int.reduceLE, Nat.reduceMul, Nat.reduceSub, Int.reduceBNe, Int.reduceBEq]
       refine callGo_pure hv2 (by rfl) ?_
       simp only [go_sem, Nat.reduceAdd, Nat.reduceEqDiff, Nat.reduceLT, reduceIte, reduceCtorEq, Nat.reduceBEq, Int.reduceLT, Int.reduceToNat, Int.reducePow, Nat.reduceLeDiff, Int.reduceLE, Nat.reduceMul, Nat.reduceSub, Int.reduceBNe, Int.reduceBEq]
       refine callGo_pure awake08_pure (by rfl) ?_
       simp only [go_sem, Nat.reduceAdd, Nat.reduceEqDiff, Nat.reduceLT, reduceIte, reduceCtorEq, Nat.reduceBEq, Int.reduceLT, Int.reduceToNat, Int.reducePow, Nat.reduceLeDiff, Int.reduceLE, Nat.reduceMul, Nat.reduceSub]
       simp only [Done, resAV, resL, resOne, look_nil, look_cons, Nat.reduceEqDiff, if_true, if_false, reduceIte, ite_true, ite_false, Nat.zero_ne_one, Nat.one_ne_zero, reduceCtorEq, true_or, or_true, true_and, Option.some.injEq, AV.lit.injEq, Value.int.injEq, Value.bool.injEq])
end Go.Proofs.Ytocaeclhmkojiaa
