/-
Scripts that go together. Conditions: none.
-/
import Derived.Test.YtocaeclhmkojiaaMix3
set_option linter.unusedSimpArgs false
set_option linter.unusedVariables false
set_option linter.unusedSectionVars false
namespace Go.Proofs.Ytocaeclhmkojiaa
open Go Go.Ab
def a62 : ACode :=
  (.seq (.reg [⟨(.some 1), (.box 66 (.t 0)), .none⟩, ⟨(.some 2), (.mv (.k (.bool false))), .none⟩]) (.seq (.reg [⟨(.some 3), (.ld (.some 12) (.t 1)), .none⟩, ⟨(.some 4), (.bs 5 1 [(.k (.int .u8 8)), (.k
  (.int .u8 9)), (.k (.int .u8 10))]), .none⟩, ⟨(.some 5), (.call (.f 63) [(.t 3), (.t 4)]), .none⟩, ⟨(.some 6), (.bd [(.int .i64 0), (.int .i64 0), (.int .i64 0), (.int .i64 0), (.int .i64 0), (.int
  .i64 0), (.int .i64 0), (.int .i64 0), (.int .i64 0), (.int .i64 0), (.int .i64 0), (.int .i64 0)] []), .none⟩, ⟨(.some 7), (.eqg false [.int, .int, .int, .int, .int, .int, .int, .int, .int, .int,
  .int, .int] (.t 5) (.t 6)), .none⟩, ⟨(.some 8), (.mv (.t 7)), .none⟩, ⟨(.some 9), (.ld (.some 12) (.t 1)), (.some (8, false))⟩, ⟨(.some 10), (.bs 5 1 [(.k (.int .u8 8)), (.k (.int .u8 11))]), (.some
  (8, false))⟩, ⟨(.some 11), (.call (.f 63) [(.t 9), (.t 10)]), (.some (8, false))⟩, ⟨(.some 12), (.bd [(.int .i64 0), (.int .i64 0), (.int .i64 0), (.int .i64 0), (.int .i64 0), (.int .i64 0), (.int
  .i64 0), (.int .i64 0), (.int .i64 0), (.int .i64 0), (.int .i64 0), (.int .i64 0)] []), (.some (8, false))⟩, ⟨(.some 13), (.eqg false [.int, .int, .int, .int, .int, .int, .int, .int, .int, .int,
  .int, .int] (.t 11) (.t 12)), (.some (8, false))⟩, ⟨(.some 14), (.pick (.t 8) (.k (.bool true)) (.t 13)), .none⟩, ⟨(.some 2), (.mv (.t 14)), .none⟩]) .ret))
theorem c62 : Try.f62.body.bind (cCode Try.prog 15) = some a62 := by kernel_rfl
theorem r62 : Try.f62.results.toList = [(.tmp 2)] := by kernel_rfl
theorem n62 : Try.f62.ntmps = 15 := by kernel_rfl
theorem e62 : Enters Try.prog 62 := enters_of Try.func62 (by kernel_rfl) (by kernel_rfl)

theorem vals_nums (cs : List Int) : vals (nums cs) = some (cs.map fun n => .int .i64 n) := by
  induction cs with
  | nil => rfl
  | cons c cs ih => simp only [nums, List.map_cons, vals] at ih ⊢; rw [ih]
theorem eqK_nums : ∀ (xs ys : List Int), xs.length = ys.length → eqK (List.replicate xs.length .int) (xs.map fun n => .int .i64 n) (ys.map fun n => .int .i64 n) = some (xs == ys)
  | [], [], _ => rfl
  | [], _ :: _, h => by simp at h
  | _ :: _, [], h => by simp at h
  | x :: xs, y :: ys, h => by
    simp only [List.length_cons, List.replicate_succ, List.map_cons, eqK, eqV, if_true, eqK_nums xs ys (by simpa using h)]
    rfl
theorem eqK_twelve {xs : List Int} (h : xs.length = 12) : eqK [.int, .int, .int, .int, .int, .int, .int, .int, .int, .int, .int, .int] (xs.map fun n => .int .i64 n) (zeros.map fun n => .int .i64 n) = some (xs == zeros) := by
  have := eqK_nums xs zeros (by rw [h]; rfl)
  rwa [h] at this

def eastOf (cs : List Int) : Bool := (cleared cs [8, 9, 10] == zeros) || (cleared cs [8, 11] == zeros)

theorem octs3 (a b c : Nat) : octs [a, b, c] = [[.int .u8 (a : Int)], [.int .u8 (b : Int)], [.int .u8 (c : Int)]] := rfl
theorem octs2 (a b : Nat) : octs [a, b] = [[.int .u8 (a : Int)], [.int .u8 (b : Int)]] := rfl
theorem eraseL_nums (cs : List Int) : AV.eraseL (nums cs) = some (nums cs) := by
  induction cs with
  | nil => rfl
  | cons c cs ih => simp only [nums, List.map_cons, AV.eraseL, AV.erase] at ih ⊢; rw [ih]
theorem shiftL_nums (n : Nat) (cs : List Int) : AV.shiftL n (nums cs) = nums cs := by
  induction cs with
  | nil => rfl
  | cons c cs ih => simp only [nums, List.map_cons, AV.shiftL, AV.shift] at ih ⊢; rw [ih]

set_option maxRecDepth 10000 in
theorem east_pure (cs : List Int) (hcs : cs.length = 12) : Pure Try.prog 62 [.ag (nums cs)] [] (.lit (.bool (eastOf cs))) := by
  refine pure0 Try.func62 c62 n62 e62 r62 (by simp) rfl ?_
  have ht : (nums cs).take 12 = nums cs := List.take_of_length_le (by rw [nums_length]; omega)
  have hln : (12 ≤ (nums cs).length) = True := by rw [nums_length]; simp [hcs]
  simp only [a62, astart, argSlots, go_sem, Nat.reduceAdd, Nat.reduceEqDiff, Nat.reduceLT, reduceIte, reduceCtorEq, Nat.reduceBEq, Int.reduceLT, Int.reduceToNat, Int.reducePow, Nat.reduceLeDiff, Int.reduceLE, Nat.reduceMul, Nat.reduceSub, nums_one, ht, hln]
  refine callGo_pure (without_pure cs [8, 9, 10] hcs (by simp) (by simp)) (by simp only [go_sem, Nat.reduceAdd, Nat.reduceEqDiff, Nat.reduceLT, reduceIte, reduceCtorEq, Nat.reduceBEq, Int.reduceLT, Int.reduceToNat, Int.reducePow, Nat.reduceLeDiff, Int.reduceLE, Nat.reduceMul, Nat.reduceSub, AV.eraseL, AV.erase, eraseL_nums, octs3]; rfl) ?_
  simp only [go_sem, Nat.reduceAdd, Nat.reduceEqDiff, Nat.reduceLT, reduceIte, reduceCtorEq, Nat.reduceBEq, Int.reduceLT, Int.reduceToNat, Int.reducePow, Nat.reduceLeDiff, Int.reduceLE, Nat.reduceMul, Nat.reduceSub, shiftL_nums, zeros_nums, vals_nums, eqK_twelve (show (cleared cs [8, 9, 10]).length = 12 by rw [cleared_length]; exact hcs), Option.map_some, Bool.false_eq_true, if_false]
  by_cases h1 : cleared cs [8, 9, 10] = zeros
  · have hb : (cleared cs [8, 9, 10] == zeros) = true := by simp [h1]
    simp only [hb, go_sem, Nat.reduceAdd, Nat.reduceEqDiff, Nat.reduceLT, reduceIte, reduceCtorEq, Nat.reduceBEq, Int.reduceLT, Int.reduceToNat, Int.reducePow, Nat.reduceLeDiff, Int.reduceLE, Nat.reduceMul, Nat.reduceSub]
    simp only [Done, resAV, resL, resOne, look_nil, look_cons, Nat.reduceEqDiff, if_true, if_false, reduceIte, ite_true, ite_false, Nat.zero_ne_one, Nat.one_ne_zero, reduceCtorEq, true_or, or_true, true_and, Option.some.injEq, AV.lit.injEq, Value.int.injEq, Value.bool.injEq]
    simp [eastOf, h1]
  · have hb : (cleared cs [8, 9, 10] == zeros) = false := by simp [h1]
    simp only [hb, go_sem, Nat.reduceAdd, Nat.reduceEqDiff, Nat.reduceLT, reduceIte, reduceCtorEq, Nat.reduceBEq, Int.reduceLT, Int.reduceToNat, Int.reducePow, Nat.reduceLeDiff, Int.reduceLE, Nat.reduceMul, Nat.reduceSub, ht, hln]
    refine callGo_pure (without_pure cs [8, 11] hcs (by simp) (by simp)) (by simp only [go_sem, Nat.reduceAdd, Nat.reduceEqDiff, Nat.reduceLT, reduceIte, reduceCtorEq, Nat.reduceBEq, Int.reduceLT, Int.reduceToNat, Int.reducePow, Nat.reduceLeDiff, Int.reduceLE, Nat.reduceMul, Nat.reduceSub, AV.eraseL, AV.erase, eraseL_nums, octs2]; rfl) ?_
    simp only [go_sem, Nat.reduceAdd, Nat.reduceEqDiff, Nat.reduceLT, reduceIte, reduceCtorEq, Nat.reduceBEq, Int.reduceLT, Int.reduceToNat, Int.reducePow, Nat.reduceLeDiff, Int.reduceLE, Nat.reduceMul, Nat.reduceSub, shiftL_nums, zeros_nums, vals_nums, eqK_twelve (show (cleared cs [8, 11]).length = 12 by rw [cleared_length]; exact hcs), Option.map_some, Bool.false_eq_true, if_false]
    simp only [Done, resAV, resL, resOne, look_nil, look_cons, Nat.reduceEqDiff, if_true, if_false, reduceIte, ite_true, ite_false, Nat.zero_ne_one, Nat.one_ne_zero, reduceCtorEq, true_or, or_true, true_and, Option.some.injEq, AV.lit.injEq, Value.int.injEq, Value.bool.injEq]
    simp [eastOf, h1]
end Go.Proofs.Ytocaeclhmkojiaa
