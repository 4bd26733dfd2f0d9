/-
Of labels up to 200 code points the scripts, the level, the digits and the clause are as the document has them; the examples hold: so the law answers true, whatever it is handed. Conditions: none.
-/
import Derived.Test.YtocaeclhmkojiaaMix8
import Derived.Test.YtocaeclhmkojiaaRows
set_option linter.unusedSimpArgs false
set_option linter.unusedVariables false
set_option linter.unusedSectionVars false
namespace Go.Proofs.Ytocaeclhmkojiaa
open Go Go.Ab Go.ChangeShapes Go.WideShapes Go.ChangeAt Go.RowKit
def a67 : ACode :=
  (.seq (.reg [⟨(.some 4), (.mv (.k (.bool false))), .none⟩]) (.seq (.reg [⟨(.some 5), (.mv (.t 1)), .none⟩, ⟨(.some 6), (.call (.f 27) [(.t 5)]), .none⟩, ⟨(.some 7), (.mv (.t 0)), .none⟩, ⟨(.some 8),
  (.bin .eql (.t 6) (.t 7)), .none⟩, ⟨(.some 4), (.mv (.t 8)), .none⟩]) .ret))
theorem c67 : Try.f67.body.bind (cCode Try.prog 9) = some a67 := by kernel_rfl
theorem r67 : Try.f67.results.toList = [(.tmp 4)] := by kernel_rfl
theorem n67 : Try.f67.ntmps = 9 := by kernel_rfl
theorem e67 : Enters Try.prog 67 := enters_of Try.func67 (by kernel_rfl) (by kernel_rfl)
def a24 : ACode :=
  (.seq (.reg [⟨(.some 4), (.mv (.k (.bool false))), .none⟩]) (.seq (.reg [⟨(.some 5), (.mv (.t 0)), .none⟩, ⟨(.some 6), (.cvBS (.t 5)), .none⟩, ⟨(.some 7), (.mv (.t 1)), .none⟩, ⟨(.some 8), (.cvBS (.t
  7)), .none⟩, ⟨(.some 9), (.bin .eql (.t 6) (.t 8)), .none⟩, ⟨(.some 4), (.mv (.t 9)), .none⟩]) .ret))
theorem c24 : Try.f24.body.bind (cCode Try.prog 10) = some a24 := by kernel_rfl
theorem r24 : Try.f24.results.toList = [(.tmp 4)] := by kernel_rfl
theorem n24 : Try.f24.ntmps = 10 := by kernel_rfl
theorem e24 : Enters Try.prog 24 := enters_of Try.func24 (by kernel_rfl) (by kernel_rfl)
def a33 : ACode :=
  (.seq (.reg [⟨(.some 0), (.mv (.k (.bool false))), .none⟩]) (.seq (.reg [⟨(.some 1), (.bs 21 1 [(.k (.int .i32 97)), (.k (.int .i32 49))]), .none⟩, ⟨(.some 2), (.call (.f 67) [(.k (.int .u8 1)), (.t
  1)]), .none⟩, ⟨(.some 3), (.mv (.t 2)), .none⟩, ⟨(.some 4), (.bs 21 1 [(.k (.int .i32 233))]), (.some (3, true))⟩, ⟨(.some 5), (.call (.f 67) [(.k (.int .u8 2)), (.t 4)]), (.some (3, true))⟩, ⟨(.some
  6), (.pick (.t 3) (.t 5) (.k (.bool false))), .none⟩, ⟨(.some 7), (.mv (.t 6)), .none⟩, ⟨(.some 8), (.bs 21 1 [(.k (.int .i32 97)), (.k (.int .i32 1072))]), (.some (7, true))⟩, ⟨(.some 9), (.call (.f
  67) [(.k (.int .u8 4)), (.t 8)]), (.some (7, true))⟩, ⟨(.some 10), (.pick (.t 7) (.t 9) (.k (.bool false))), .none⟩, ⟨(.some 11), (.mv (.t 10)), .none⟩, ⟨(.some 12), (.bs 21 1 [(.k (.int .i32 97)),
  (.k (.int .i32 1072))]), (.some (11, true))⟩, ⟨(.some 13), (.call (.f 31) [(.t 12)]), (.some (11, true))⟩, ⟨(.some 14), (.bin .eql (.t 13) (.k (.int .u8 13))), (.some (11, true))⟩, ⟨(.some 15), (.pick
  (.t 11) (.t 14) (.k (.bool false))), .none⟩, ⟨(.some 16), (.mv (.t 15)), .none⟩, ⟨(.some 17), (.bs 21 1 [(.k (.int .i32 12354)), (.k (.int .i32 19968))]), (.some (16, true))⟩, ⟨(.some 18), (.call (.f
  67) [(.k (.int .u8 2)), (.t 17)]), (.some (16, true))⟩, ⟨(.some 19), (.pick (.t 16) (.t 18) (.k (.bool false))), .none⟩, ⟨(.some 20), (.mv (.t 19)), .none⟩, ⟨(.some 21), (.bs 21 1 [(.k (.int .i32
  97)), (.k (.int .i32 12354)), (.k (.int .i32 19968))]), (.some (20, true))⟩, ⟨(.some 22), (.call (.f 67) [(.k (.int .u8 3)), (.t 21)]), (.some (20, true))⟩, ⟨(.some 23), (.pick (.t 20) (.t 22) (.k
  (.bool false))), .none⟩, ⟨(.some 24), (.mv (.t 23)), .none⟩, ⟨(.some 25), (.bs 21 1 [(.k (.int .i32 44032)), (.k (.int .i32 12354))]), (.some (24, true))⟩, ⟨(.some 26), (.call (.f 67) [(.k (.int .u8
  4)), (.t 25)]), (.some (24, true))⟩, ⟨(.some 27), (.pick (.t 24) (.t 26) (.k (.bool false))), .none⟩, ⟨(.some 28), (.mv (.t 27)), .none⟩, ⟨(.some 29), (.bs 21 1 [(.k (.int .i32 44032)), (.k (.int .i32
  19968)), (.k (.int .i32 97))]), (.some (28, true))⟩, ⟨(.some 30), (.call (.f 67) [(.k (.int .u8 3)), (.t 29)]), (.some (28, true))⟩, ⟨(.some 31), (.pick (.t 28) (.t 30) (.k (.bool false))), .none⟩,
  ⟨(.some 32), (.mv (.t 31)), .none⟩, ⟨(.some 33), (.bs 21 1 [(.k (.int .i32 945)), (.k (.int .i32 49))]), (.some (32, true))⟩, ⟨(.some 34), (.call (.f 67) [(.k (.int .u8 2)), (.t 33)]), (.some (32,
  true))⟩, ⟨(.some 35), (.pick (.t 32) (.t 34) (.k (.bool false))), .none⟩, ⟨(.some 36), (.mv (.t 35)), .none⟩, ⟨(.some 37), (.bs 21 1 [(.k (.int .i32 49)), (.k (.int .i32 1633))]), (.some (36, true))⟩,
  ⟨(.some 38), (.call (.f 31) [(.t 37)]), (.some (36, true))⟩, ⟨(.some 39), (.bin .eql (.t 38) (.k (.int .u8 14))), (.some (36, true))⟩, ⟨(.some 40), (.pick (.t 36) (.t 39) (.k (.bool false))), .none⟩,
  ⟨(.some 41), (.mv (.t 40)), .none⟩, ⟨(.some 42), (.bs 21 1 [(.k (.int .i32 1072)), (.k (.int .i32 97)), (.k (.int .i32 49))]), (.some (41, true))⟩, ⟨(.some 43), (.call (.f 25) [(.t 42)]), (.some (41,
  true))⟩, ⟨(.some 44), (.bs 5 1 [(.k (.int .u8 2)), (.k (.int .u8 4))]), (.some (41, true))⟩, ⟨(.some 45), (.call (.f 24) [(.t 43), (.t 44)]), (.some (41, true))⟩, ⟨(.some 46), (.pick (.t 41) (.t 45)
  (.k (.bool false))), .none⟩, ⟨(.some 0), (.mv (.t 46)), .none⟩]) .ret))
theorem c33 : Try.f33.body.bind (cCode Try.prog 47) = some a33 := by kernel_rfl
theorem r33 : Try.f33.results.toList = [(.tmp 0)] := by kernel_rfl
theorem n33 : Try.f33.ntmps = 47 := by kernel_rfl
theorem e33 : Enters Try.prog 33 := enters_of Try.func33 (by kernel_rfl) (by kernel_rfl)
def a7 : ACode :=
  (.seq (.reg [⟨(.some 2), (.mv (.k (.bool false))), .none⟩]) (.seq (.reg [⟨(.some 3), (.mv (.t 0)), .none⟩, ⟨(.some 4), (.len (.t 3)), .none⟩, ⟨(.some 5), (.bin .gtr (.t 4) (.k (.int .i64 200))),
  .none⟩, ⟨(.some 6), (.mv (.t 5)), .none⟩, ⟨(.some 7), (.mv (.t 0)), (.some (6, false))⟩, ⟨(.some 8), (.call (.f 25) [(.t 7)]), (.some (6, false))⟩, ⟨(.some 9), (.mv (.t 0)), (.some (6, false))⟩,
  ⟨(.some 10), (.call (.f 26) [(.t 9)]), (.some (6, false))⟩, ⟨(.some 11), (.call (.f 24) [(.t 8), (.t 10)]), (.some (6, false))⟩, ⟨(.some 12), (.mv (.t 11)), (.some (6, false))⟩, ⟨(.some 13), (.mv (.t
  0)), (.some (12, true))⟩, ⟨(.some 14), (.call (.f 27) [(.t 13)]), (.some (12, true))⟩, ⟨(.some 15), (.mv (.t 0)), (.some (12, true))⟩, ⟨(.some 16), (.call (.f 28) [(.t 15)]), (.some (12, true))⟩,
  ⟨(.some 17), (.bin .eql (.t 14) (.t 16)), (.some (12, true))⟩, ⟨(.some 18), (.pick (.t 12) (.t 17) (.k (.bool false))), (.some (6, false))⟩, ⟨(.some 19), (.mv (.t 18)), (.some (6, false))⟩, ⟨(.some
  20), (.mv (.t 0)), (.some (19, true))⟩, ⟨(.some 21), (.call (.f 29) [(.t 20)]), (.some (19, true))⟩, ⟨(.some 22), (.mv (.t 0)), (.some (19, true))⟩, ⟨(.some 23), (.call (.f 30) [(.t 22)]), (.some (19,
  true))⟩, ⟨(.some 24), (.eqB false (.t 21) (.t 23)), (.some (19, true))⟩, ⟨(.some 25), (.pick (.t 19) (.t 24) (.k (.bool false))), (.some (6, false))⟩, ⟨(.some 26), (.mv (.t 25)), (.some (6, false))⟩,
  ⟨(.some 27), (.mv (.t 0)), (.some (26, true))⟩, ⟨(.some 28), (.call (.f 31) [(.t 27)]), (.some (26, true))⟩, ⟨(.some 29), (.mv (.t 0)), (.some (26, true))⟩, ⟨(.some 30), (.call (.f 32) [(.t 29)]),
  (.some (26, true))⟩, ⟨(.some 31), (.bin .eql (.t 28) (.t 30)), (.some (26, true))⟩, ⟨(.some 32), (.pick (.t 26) (.t 31) (.k (.bool false))), (.some (6, false))⟩, ⟨(.some 33), (.mv (.t 32)), (.some (6,
  false))⟩, ⟨(.some 34), (.call (.f 33) []), (.some (33, true))⟩, ⟨(.some 35), (.pick (.t 33) (.t 34) (.k (.bool false))), (.some (6, false))⟩, ⟨(.some 36), (.pick (.t 6) (.k (.bool true)) (.t 35)),
  .none⟩, ⟨(.some 2), (.mv (.t 36)), .none⟩]) .ret))
theorem c7 : Try.f7.body.bind (cCode Try.prog 37) = some a7 := by kernel_rfl
theorem r7 : Try.f7.results.toList = [(.tmp 2)] := by kernel_rfl
theorem n7 : Try.f7.ntmps = 37 := by kernel_rfl
theorem e7 : Enters Try.prog 7 := enters_of Try.func7 (by kernel_rfl) (by kernel_rfl)

theorem lev_pure (want : Int) (l : List Int) (b : Bool) (hl : l.length ≤ 4611686018427387904) (hb : (levelOf l == want) = b) : Pure Try.prog 67 [.lit (.int .u8 want), .sl 21 (runes l) none] [] (.lit (.bool b)) := by
  refine pure0 Try.func67 c67 n67 e67 r67 (by simp) rfl ?_
  simp only [a67, astart, argSlots, go_sem, Nat.reduceAdd, Nat.reduceEqDiff, Nat.reduceLT, reduceIte, reduceCtorEq, Nat.reduceBEq, Int.reduceLT, Int.reduceToNat, Int.reducePow, Nat.reduceLeDiff, Int.reduceLE, Nat.reduceMul, Nat.reduceSub]
  refine callGo_pure (level_pure l hl) (by rfl) ?_
  simp only [go_sem, Nat.reduceAdd, Nat.reduceEqDiff, Nat.reduceLT, reduceIte, reduceCtorEq, Nat.reduceBEq, Int.reduceLT, Int.reduceToNat, Int.reducePow, Nat.reduceLeDiff, Int.reduceLE, Nat.reduceMul, Nat.reduceSub, hb]
  simp only [Done, resAV, resL, resOne, look_nil, look_cons, Nat.reduceEqDiff, if_true, if_false, reduceIte, ite_true, ite_false, Nat.zero_ne_one, Nat.one_ne_zero, reduceCtorEq, true_or, or_true, true_and, Option.some.injEq, AV.lit.injEq, Value.int.injEq, Value.bool.injEq]

theorem chk_pure (l : List Int) (c : Int) (hl : l.length ≤ 4611686018427387904) (hc : checkOf l = c) : Pure Try.prog 31 [.sl 21 (runes l) none] [] (.lit (.int .u8 c)) := by
  subst hc; exact check_pure l hl

theorem scr_pure (l : List Int) (q : List Nat) (hl : l.length ≤ 4611686018427387904) (hc : told (counts l) 12 = q) : Pure Try.prog 25 [.sl 21 (runes l) none] [5] (.sl 5 (octs q) (some 0)) := by
  subst hc; exact scripts_pure l hl

theorem bytesOf_octs : ∀ (l : List Nat), bytesOf (octs l) = some (l.map fun (n : Nat) => UInt8.ofNat n)
  | [] => rfl
  | n :: l => by
    have ih := bytesOf_octs l
    simp only [octs, List.map_cons] at ih ⊢
    simp only [bytesOf, ih, Int.toNat_natCast]

theorem same_pure (l : List Nat) : Pure Try.prog 24 [.sl 5 (octs l) none, .sl 5 (octs l) none] [] (.lit (.bool true)) := by
  refine pure0 Try.func24 c24 n24 e24 r24 (by simp) rfl ?_
  simp only [a24, astart, argSlots, go_sem, Nat.reduceAdd, Nat.reduceEqDiff, Nat.reduceLT, reduceIte, reduceCtorEq, Nat.reduceBEq, Int.reduceLT, Int.reduceToNat, Int.reducePow, Nat.reduceLeDiff, Int.reduceLE, Nat.reduceMul, Nat.reduceSub, bytesOf_octs, binStr, beq_self_eq_true]
  simp only [Done, resAV, resL, resOne, look_nil, look_cons, Nat.reduceEqDiff, if_true, if_false, reduceIte, ite_true, ite_false, Nat.zero_ne_one, Nat.one_ne_zero, reduceCtorEq, true_or, or_true, true_and, Option.some.injEq, AV.lit.injEq, Value.int.injEq, Value.bool.injEq]

set_option maxRecDepth 10000 in
theorem awake10_pure : Pure Try.prog 33 [] [] (.lit (.bool true)) := by
  refine pure0 Try.func33 c33 n33 e33 r33 (by simp) rfl ?_
  simp only [a33, astart, argSlots, go_sem, Nat.reduceAdd, Nat.reduceEqDiff, Nat.reduceLT, reduceIte, reduceCtorEq, Nat.reduceBEq, Int.reduceLT, Int.reduceToNat, Int.reducePow, Nat.reduceLeDiff, Int.reduceLE, Nat.reduceMul, Nat.reduceSub]
  refine callGo_pure (lev_pure 1 [97, 49] true (by simp) (by decide +kernel)) (by rfl) ?_
  simp only [go_sem, Nat.reduceAdd, Nat.reduceEqDiff, Nat.reduceLT, reduceIte, reduceCtorEq, Nat.reduceBEq, Int.reduceLT, Int.reduceToNat, Int.reducePow, Nat.reduceLeDiff, Int.reduceLE, Nat.reduceMul, Nat.reduceSub]
  refine callGo_pure (lev_pure 2 [233] true (by simp) (by decide +kernel)) (by rfl) ?_
  simp only [go_sem, Nat.reduceAdd, Nat.reduceEqDiff, Nat.reduceLT, reduceIte, reduceCtorEq, Nat.reduceBEq, Int.reduceLT, Int.reduceToNat, Int.reducePow, Nat.reduceLeDiff, Int.reduceLE, Nat.reduceMul, Nat.reduceSub]
  refine callGo_pure (lev_pure 4 [97, 1072] true (by simp) (by decide +kernel)) (by rfl) ?_
  simp only [go_sem, Nat.reduceAdd, Nat.reduceEqDiff, Nat.reduceLT, reduceIte, reduceCtorEq, Nat.reduceBEq, Int.reduceLT, Int.reduceToNat, Int.reducePow, Nat.reduceLeDiff, Int.reduceLE, Nat.reduceMul, Nat.reduceSub]
  refine callGo_pure (chk_pure [97, 1072] 13 (by simp) (by decide +kernel)) (by rfl) ?_
  simp only [go_sem, Nat.reduceAdd, Nat.reduceEqDiff, Nat.reduceLT, reduceIte, reduceCtorEq, Nat.reduceBEq, Int.reduceLT, Int.reduceToNat, Int.reducePow, Nat.reduceLeDiff, Int.reduceLE, Nat.reduceMul, Nat.reduceSub, beq_self_eq_true]
  refine callGo_pure (lev_pure 2 [12354, 19968] true (by simp) (by decide +kernel)) (by rfl) ?_
  simp only [go_sem, Nat.reduceAdd, Nat.reduceEqDiff, Nat.reduceLT, reduceIte, reduceCtorEq, Nat.reduceBEq, Int.reduceLT, Int.reduceToNat, Int.reducePow, Nat.reduceLeDiff, Int.reduceLE, Nat.reduceMul, Nat.reduceSub]
  refine callGo_pure (lev_pure 3 [97, 12354, 19968] true (by simp) (by decide +kernel)) (by rfl) ?_
  simp only [go_sem, Nat.reduceAdd, Nat.reduceEqDiff, Nat.reduceLT, reduceIte, reduceCtorEq, Nat.reduceBEq, Int.reduceLT, Int.reduceToNat, Int.reducePow, Nat.reduceLeDiff, Int.reduceLE, Nat.reduceMul, Nat.reduceSub]
  refine callGo_pure (lev_pure 4 [44032, 12354] true (by simp) (by decide +kernel)) (by rfl) ?_
  simp only [go_sem, Nat.reduceAdd, Nat.reduceEqDiff, Nat.reduceLT, reduceIte, reduceCtorEq, Nat.reduceBEq, Int.reduceLT, Int.reduceToNat, Int.reducePow, Nat.reduceLeDiff, Int.reduceLE, Nat.reduceMul, Nat.reduceSub]
  refine callGo_pure (lev_pure 3 [44032, 19968, 97] true (by simp) (by decide +kernel)) (by rfl) ?_
  simp only [go_sem, Nat.reduceAdd, Nat.reduceEqDiff, Nat.reduceLT, reduceIte, reduceCtorEq, Nat.reduceBEq, Int.reduceLT, Int.reduceToNat, Int.reducePow, Nat.reduceLeDiff, Int.reduceLE, Nat.reduceMul, Nat.reduceSub]
  refine callGo_pure (lev_pure 2 [945, 49] true (by simp) (by decide +kernel)) (by rfl) ?_
  simp only [go_sem, Nat.reduceAdd, Nat.reduceEqDiff, Nat.reduceLT, reduceIte, reduceCtorEq, Nat.reduceBEq, Int.reduceLT, Int.reduceToNat, Int.reducePow, Nat.reduceLeDiff, Int.reduceLE, Nat.reduceMul, Nat.reduceSub]
  refine callGo_pure (chk_pure [49, 1633] 14 (by simp) (by decide +kernel)) (by rfl) ?_
  simp only [go_sem, Nat.reduceAdd, Nat.reduceEqDiff, Nat.reduceLT, reduceIte, reduceCtorEq, Nat.reduceBEq, Int.reduceLT, Int.reduceToNat, Int.reducePow, Nat.reduceLeDiff, Int.reduceLE, Nat.reduceMul, Nat.reduceSub, beq_self_eq_true]
  refine callGo_pure (scr_pure [1072, 97, 49] [2, 4] (by simp) (by decide +kernel)) (by rfl) ?_
  simp only [go_sem, Nat.reduceAdd, Nat.reduceEqDiff, Nat.reduceLT, reduceIte, reduceCtorEq, Nat.reduceBEq, Int.reduceLT, Int.reduceToNat, Int.reducePow, Nat.reduceLeDiff, Int.reduceLE, Nat.reduceMul, Nat.reduceSub]
  refine callGo_pure (same_pure [2, 4]) (by rfl) ?_
  simp only [go_sem, Nat.reduceAdd, Nat.reduceEqDiff, Nat.reduceLT, reduceIte, reduceCtorEq, Nat.reduceBEq, Int.reduceLT, Int.reduceToNat, Int.reducePow, Nat.reduceLeDiff, Int.reduceLE, Nat.reduceMul, Nat.reduceSub]
  simp only [Done, resAV, resL, resOne, look_nil, look_cons, Nat.reduceEqDiff, if_true, if_false, reduceIte, ite_true, ite_false, Nat.zero_ne_one, Nat.one_ne_zero, reduceCtorEq, true_or, or_true, true_and, Option.some.injEq, AV.lit.injEq, Value.int.injEq, Value.bool.injEq]

set_option maxRecDepth 10000 in
theorem mixedTells_pure (l : List Int) (hl : l.length ≤ 4611686018427387904) (h32 : I32 l) : Pure Try.prog 7 [.sl 21 (runes l) none] [] (.lit (.bool true)) := by
  refine pure0 Try.func7 c7 n7 e7 r7 (by simp) rfl ?_
  simp only [a7, astart, argSlots, go_sem, Nat.reduceAdd, Nat.reduceEqDiff, Nat.reduceLT, reduceIte, reduceCtorEq, Nat.reduceBEq, Int.reduceLT, Int.reduceToNat, Int.reducePow, Nat.reduceLeDiff, Int.reduceLE, Nat.reduceMul, Nat.reduceSub]
  refine gGo_splitF (fun h1 => ?_) (fun h1 => ?_)
  · simp only [h1, go_sem, Nat.reduceAdd, Nat.reduceEqDiff, Nat.reduceLT, reduceIte, reduceCtorEq, Nat.reduceBEq, Int.reduceLT, Int.reduceToNat, Int.reducePow, Nat.reduceLeDiff, Int.reduceLE, Nat.reduceMul, Nat.reduceSub]
    refine callGo_pure (scripts_pure l hl) (by rfl) ?_
    simp only [go_sem, Nat.reduceAdd, Nat.reduceEqDiff, Nat.reduceLT, reduceIte, reduceCtorEq, Nat.reduceBEq, Int.reduceLT, Int.reduceToNat, Int.reducePow, Nat.reduceLeDiff, Int.reduceLE, Nat.reduceMul, Nat.reduceSub]
    refine callGo_pure (refScripts_pure l hl h32) (by rfl) ?_
    simp only [go_sem, Nat.reduceAdd, Nat.reduceEqDiff, Nat.reduceLT, reduceIte, reduceCtorEq, Nat.reduceBEq, Int.reduceLT, Int.reduceToNat, Int.reducePow, Nat.reduceLeDiff, Int.reduceLE, Nat.reduceMul, Nat.reduceSub, told_found]
    refine callGo_pure (same_pure (found l 12)) (by rfl) ?_
    simp only [go_sem, Nat.reduceAdd, Nat.reduceEqDiff, Nat.reduceLT, reduceIte, reduceCtorEq, Nat.reduceBEq, Int.reduceLT, Int.reduceToNat, Int.reducePow, Nat.reduceLeDiff, Int.reduceLE, Nat.reduceMul, Nat.reduceSub]
    refine callGo_pure (level_pure l hl) (by rfl) ?_
    simp only [go_sem, Nat.reduceAdd, Nat.reduceEqDiff, Nat.reduceLT, reduceIte, reduceCtorEq, Nat.reduceBEq, Int.reduceLT, Int.reduceToNat, Int.reducePow, Nat.reduceLeDiff, Int.reduceLE, Nat.reduceMul, Nat.reduceSub]
    refine callGo_pure (refLevel_pure l hl h32) (by rfl) ?_
    simp only [go_sem, Nat.reduceAdd, Nat.reduceEqDiff, Nat.reduceLT, reduceIte, reduceCtorEq, Nat.reduceBEq, Int.reduceLT, Int.reduceToNat, Int.reducePow, Nat.reduceLeDiff, Int.reduceLE, Nat.reduceMul, Nat.reduceSub, level_same, beq_self_eq_true]
    refine callGo_pure (digits_pure l hl) (by rfl) ?_
    simp only [go_sem, Nat.reduceAdd, Nat.reduceEqDiff, Nat.reduceLT, reduceIte, reduceCtorEq, Nat.reduceBEq, Int.reduceLT, Int.reduceToNat, Int.reducePow, Nat.reduceLeDiff, Int.reduceLE, Nat.reduceMul, Nat.reduceSub]
    refine callGo_pure (refDigits_pure l hl h32) (by rfl) ?_
    simp only [go_sem, Nat.reduceAdd, Nat.reduceEqDiff, Nat.reduceLT, reduceIte, reduceCtorEq, Nat.reduceBEq, Int.reduceLT, Int.reduceToNat, Int.reducePow, Nat.reduceLeDiff, Int.reduceLE, Nat.reduceMul, Nat.reduceSub, beq_self_eq_true]
    refine callGo_pure (check_pure l hl) (by rfl) ?_
    simp only [go_sem, Nat.reduceAdd, Nat.reduceEqDiff, Nat.reduceLT, reduceIte, reduceCtorEq, Nat.reduceBEq, Int.reduceLT, Int.reduceToNat, Int.reducePow, Nat.reduceLeDiff, Int.reduceLE, Nat.reduceMul, Nat.reduceSub]
    refine callGo_pure (refCheck_pure l hl h32) (by rfl) ?_
    simp only [go_sem, Nat.reduceAdd, Nat.reduceEqDiff, Nat.reduceLT, reduceIte, reduceCtorEq, Nat.reduceBEq, Int.reduceLT, Int.reduceToNat, Int.reducePow, Nat.reduceLeDiff, Int.reduceLE, Nat.reduceMul, Nat.reduceSub, check_same, beq_self_eq_true]
    refine callGo_pure awake10_pure (by rfl) ?_
    simp only [go_sem, Nat.reduceAdd, Nat.reduceEqDiff, Nat.reduceLT, reduceIte, reduceCtorEq, Nat.reduceBEq, Int.reduceLT, Int.reduceToNat, Int.reducePow, Nat.reduceLeDiff, Int.reduceLE, Nat.reduceMul, Nat.reduceSub]
    simp only [Done, resAV, resL, resOne, look_nil, look_cons, Nat.reduceEqDiff, if_true, if_false, reduceIte, ite_true, ite_false, Nat.zero_ne_one, Nat.one_ne_zero, reduceCtorEq, true_or, or_true, true_and, Option.some.injEq, AV.lit.injEq, Value.int.injEq, Value.bool.injEq]
  · simp only [h1, go_sem, Nat.reduceAdd, Nat.reduceEqDiff, Nat.reduceLT, reduceIte, reduceCtorEq, Nat.reduceBEq, Int.reduceLT, Int.reduceToNat, Int.reducePow, Nat.reduceLeDiff, Int.reduceLE, Nat.reduceMul, Nat.reduceSub]
    simp only [Done, resAV, resL, resOne, look_nil, look_cons, Nat.reduceEqDiff, if_true, if_false, reduceIte, ite_true, ite_false, Nat.zero_ne_one, Nat.one_ne_zero, reduceCtorEq, true_or, or_true, true_and, Option.some.injEq, AV.lit.injEq, Value.int.injEq, Value.bool.injEq]

theorem tells_any (avs : List AV) (h : Args Try.prog Try.f7.params.toList avs) : Pure Try.prog 7 avs [] (.lit (.bool true)) := by
  have hp : Try.f7.params.toList = [22] := by kernel_rfl
  rw [hp] at h
  obtain ⟨av, rest, rfl, h1, rfl⟩ := h
  obtain ⟨zs, rfl, hw, hs⟩ := arg_ints (e := 21) (k := .i32) (by kernel_rfl) (by kernel_rfl) h1
  have hb : Try.prog.bytesOf 21 = 4 := by kernel_rfl
  rw [hb] at hs
  exact mixedTells_pure zs (by omega) fun n hn => by simpa [Lit.wf, IntKind.min, IntKind.max, IntKind.signed, IntKind.bits] using hw n hn

set_option maxRecDepth 100000 in
theorem tells_lifted (os : Os) (started : os.Started) (H : Type) (enc : TypeId × Value → H) :
    ReturnsInHanded {} Try.checked os 7 .any (Rows.mixedTellsSpec.pre6 enc Try.prog Try.f7 Rows.mixedTellsRow.domain false) (Rows.mixedTellsSpec.post enc Try.prog Try.f7 false true false false) := by
  refine law_returns (C := Try.checked) (tb := 4) (by kernel_rfl) started (by kernel_rfl) Try.func7
    (ChangeSpec.witness6 (enc := enc) (C := Try.checked) false ⟨#[], #[.slice none 0 0], []⟩ 8 (by kernel_rfl) (by kernel_rfl) (by kernel_rfl) (by kernel_rfl))
    (by kernel_rfl) (by kernel_rfl) rfl rfl (by kernel_rfl) (by kernel_rfl) ?_ tells_any
  intro ds hds
  have hp : Try.f7.params.toList = [22] := by kernel_rfl
  rw [hp] at hds
  match ds, hds with
  | [d], _ => exact ⟨rfl, rfl, rfl⟩

theorem mixedTells_holds : Rows.MixedTellsSaid :=
  OpenClaim.holds_of_wide 7 Try.f7 rfl rfl rfl rfl rfl rfl rfl ⟨rfl, rfl, rfl, rfl, rfl⟩ rfl rfl rfl rfl rfl (by kernel_rfl) Try.func7 (by kernel_rfl)
    (of_decide_eq_true (by kernel_rfl)) (by unfold Func.isWrapper; first | (rw [if_pos (by decide +kernel)]; kernel_rfl) | (rw [if_neg (by decide +kernel)]; exact ⟨rfl, rfl⟩))
    (fun os started H enc _ => tells_lifted os started H enc)
end Go.Proofs.Ytocaeclhmkojiaa
