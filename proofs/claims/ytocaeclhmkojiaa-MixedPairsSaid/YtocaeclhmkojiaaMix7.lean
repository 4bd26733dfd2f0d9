/-
A label's scripts and level, as the document tells them. Conditions: none.
-/
import Derived.Test.YtocaeclhmkojiaaMix6
set_option linter.unusedSimpArgs false
set_option linter.unusedVariables false
set_option linter.unusedSectionVars false
namespace Go.Proofs.Ytocaeclhmkojiaa
open Go Go.Ab
def a65 : ACode :=
  (.seq (.reg [⟨(.some 8), (.mv (.k (.bool false))), .none⟩]) (.seq (.seq (.reg [⟨(.some 9), (.mv (.k (.int .i64 0))), .none⟩]) (.block 0 (.loop (.seq (.seq (.reg [⟨(.some 10), (.mv (.t 9)), .none⟩,
  ⟨(.some 11), (.mv (.t 0)), .none⟩, ⟨(.some 12), (.len (.t 11)), .none⟩, ⟨(.some 13), (.bin .lss (.t 10) (.t 12)), .none⟩]) (.cond (.t 13) .skip (.exit 0))) (.seq (.block 1 (.seq (.reg [⟨(.some 16),
  (.mv (.t 0)), .none⟩, ⟨(.some 17), (.mv (.t 9)), .none⟩, ⟨(.some 18), (.ia 5 (.t 16) (.t 17)), .none⟩, ⟨(.some 19), (.ld .none (.t 18)), .none⟩, ⟨(.some 20), (.mv (.t 1)), .none⟩, ⟨(.some 21), (.bin
  .neq (.t 19) (.t 20)), .none⟩, ⟨(.some 22), (.mv (.t 21)), .none⟩, ⟨(.some 23), (.mv (.t 0)), (.some (22, true))⟩, ⟨(.some 24), (.mv (.t 9)), (.some (22, true))⟩, ⟨(.some 25), (.ia 5 (.t 23) (.t 24)),
  (.some (22, true))⟩, ⟨(.some 26), (.ld .none (.t 25)), (.some (22, true))⟩, ⟨(.some 27), (.mv (.t 2)), (.some (22, true))⟩, ⟨(.some 28), (.bin .neq (.t 26) (.t 27)), (.some (22, true))⟩, ⟨(.some 29),
  (.pick (.t 22) (.t 28) (.k (.bool false))), .none⟩, ⟨(.some 30), (.mv (.t 29)), .none⟩, ⟨(.some 31), (.mv (.t 0)), (.some (30, true))⟩, ⟨(.some 32), (.mv (.t 9)), (.some (30, true))⟩, ⟨(.some 33),
  (.ia 5 (.t 31) (.t 32)), (.some (30, true))⟩, ⟨(.some 34), (.ld .none (.t 33)), (.some (30, true))⟩, ⟨(.some 35), (.mv (.t 3)), (.some (30, true))⟩, ⟨(.some 36), (.bin .neq (.t 34) (.t 35)), (.some
  (30, true))⟩, ⟨(.some 37), (.pick (.t 30) (.t 36) (.k (.bool false))), .none⟩]) (.cond (.t 37) (.seq (.reg [⟨(.some 8), (.mv (.k (.bool false))), .none⟩]) .ret) .skip))) (.reg [⟨(.some 14), (.mv (.t
  9)), .none⟩, ⟨(.some 15), (.bin .add (.t 14) (.k (.int .i64 1))), .none⟩, ⟨(.some 9), (.mv (.t 15)), .none⟩])))))) (.seq (.reg [⟨(.some 8), (.mv (.k (.bool true))), .none⟩]) .ret)))
theorem c65 : Try.f65.body.bind (cCode Try.prog 38) = some a65 := by kernel_rfl
theorem r65 : Try.f65.results.toList = [(.tmp 8)] := by kernel_rfl
theorem n65 : Try.f65.ntmps = 38 := by kernel_rfl
theorem e65 : Enters Try.prog 65 := enters_of Try.func65 (by kernel_rfl) (by kernel_rfl)
def a64 : ACode :=
  (.seq (.reg [⟨(.some 2), (.mv (.k (.bool false))), .none⟩]) (.seq (.reg [⟨(.some 3), (.mv (.t 0)), .none⟩, ⟨(.some 4), (.len (.t 3)), .none⟩, ⟨(.some 5), (.bin .lss (.t 4) (.k (.int .i64 2))), .none⟩,
  ⟨(.some 6), (.mv (.t 5)), .none⟩, ⟨(.some 7), (.mv (.t 0)), (.some (6, false))⟩, ⟨(.some 8), (.call (.f 65) [(.t 7), (.k (.int .u8 8)), (.k (.int .u8 9)), (.k (.int .u8 10))]), (.some (6, false))⟩,
  ⟨(.some 9), (.pick (.t 6) (.k (.bool true)) (.t 8)), .none⟩, ⟨(.some 10), (.mv (.t 9)), .none⟩, ⟨(.some 11), (.mv (.t 0)), (.some (10, false))⟩, ⟨(.some 12), (.call (.f 65) [(.t 11), (.k (.int .u8
  8)), (.k (.int .u8 11)), (.k (.int .u8 11))]), (.some (10, false))⟩, ⟨(.some 13), (.pick (.t 10) (.k (.bool true)) (.t 12)), .none⟩, ⟨(.some 2), (.mv (.t 13)), .none⟩]) .ret))
theorem c64 : Try.f64.body.bind (cCode Try.prog 14) = some a64 := by kernel_rfl
theorem r64 : Try.f64.results.toList = [(.tmp 2)] := by kernel_rfl
theorem n64 : Try.f64.ntmps = 14 := by kernel_rfl
theorem e64 : Enters Try.prog 64 := enters_of Try.func64 (by kernel_rfl) (by kernel_rfl)
def a28 : ACode :=
  (.seq (.reg [⟨(.some 2), (.mv (.k (.int .u8 0))), .none⟩]) (.seq (.reg [⟨(.some 3), (.mv (.k (.bool true))), .none⟩]) (.seq (.seq (.reg [⟨(.some 4), (.mv (.k (.int .i64 0))), .none⟩]) (.block 0 (.loop
  (.seq (.seq (.reg [⟨(.some 8), (.mv (.t 4)), .none⟩, ⟨(.some 9), (.mv (.t 0)), .none⟩, ⟨(.some 10), (.len (.t 9)), .none⟩, ⟨(.some 11), (.bin .lss (.t 8) (.t 10)), .none⟩]) (.cond (.t 11) .skip (.exit
  0))) (.seq (.block 1 (.reg [⟨(.some 14), (.mv (.t 3)), .none⟩, ⟨(.some 15), (.mv (.t 14)), .none⟩, ⟨(.some 16), (.mv (.t 0)), (.some (15, true))⟩, ⟨(.some 17), (.mv (.t 4)), (.some (15, true))⟩,
  ⟨(.some 18), (.ia 21 (.t 16) (.t 17)), (.some (15, true))⟩, ⟨(.some 19), (.ld .none (.t 18)), (.some (15, true))⟩, ⟨(.some 20), (.bin .geq (.t 19) (.k (.int .i32 0))), (.some (15, true))⟩, ⟨(.some
  21), (.pick (.t 15) (.t 20) (.k (.bool false))), .none⟩, ⟨(.some 22), (.mv (.t 21)), .none⟩, ⟨(.some 23), (.mv (.t 0)), (.some (22, true))⟩, ⟨(.some 24), (.mv (.t 4)), (.some (22, true))⟩, ⟨(.some
  25), (.ia 21 (.t 23) (.t 24)), (.some (22, true))⟩, ⟨(.some 26), (.ld .none (.t 25)), (.some (22, true))⟩, ⟨(.some 27), (.bin .lss (.t 26) (.k (.int .i32 128))), (.some (22, true))⟩, ⟨(.some 28),
  (.pick (.t 22) (.t 27) (.k (.bool false))), .none⟩, ⟨(.some 3), (.mv (.t 28)), .none⟩])) (.reg [⟨(.some 12), (.mv (.t 4)), .none⟩, ⟨(.some 13), (.bin .add (.t 12) (.k (.int .i64 1))), .none⟩, ⟨(.some
  4), (.mv (.t 13)), .none⟩])))))) (.seq (.seq (.reg [⟨(.some 29), (.mv (.t 3)), .none⟩]) (.cond (.t 29) (.seq (.reg [⟨(.some 2), (.mv (.k (.int .u8 1))), .none⟩]) .ret) .skip)) (.seq (.reg [⟨(.some
  30), (.mv (.t 0)), .none⟩, ⟨(.some 31), (.call (.f 26) [(.t 30)]), .none⟩, ⟨(.some 5), (.mv (.t 31)), .none⟩]) (.seq (.seq (.reg [⟨(.some 32), (.mv (.t 5)), .none⟩, ⟨(.some 33), (.call (.f 64) [(.t
  32)]), .none⟩]) (.cond (.t 33) (.seq (.reg [⟨(.some 2), (.mv (.k (.int .u8 2))), .none⟩]) .ret) .skip)) (.seq (.reg [⟨(.some 6), (.mv (.k (.slice .none 0 0))), .none⟩]) (.seq (.seq (.reg [⟨(.some 7),
  (.mv (.k (.int .i64 0))), .none⟩]) (.block 2 (.loop (.seq (.seq (.reg [⟨(.some 34), (.mv (.t 7)), .none⟩, ⟨(.some 35), (.mv (.t 5)), .none⟩, ⟨(.some 36), (.len (.t 35)), .none⟩, ⟨(.some 37), (.bin
  .lss (.t 34) (.t 36)), .none⟩]) (.cond (.t 37) .skip (.exit 2))) (.seq (.block 3 (.seq (.reg [⟨(.some 40), (.mv (.t 5)), .none⟩, ⟨(.some 41), (.mv (.t 7)), .none⟩, ⟨(.some 42), (.ia 5 (.t 40) (.t
  41)), .none⟩, ⟨(.some 43), (.ld .none (.t 42)), .none⟩, ⟨(.some 44), (.bin .neq (.t 43) (.k (.int .u8 2))), .none⟩]) (.cond (.t 44) (.reg [⟨(.some 45), (.mv (.t 6)), .none⟩, ⟨(.some 46), (.mv (.t 5)),
  .none⟩, ⟨(.some 47), (.mv (.t 7)), .none⟩, ⟨(.some 48), (.ia 5 (.t 46) (.t 47)), .none⟩, ⟨(.some 49), (.ld .none (.t 48)), .none⟩, ⟨(.some 50), (.bs 5 1 [(.t 49)]), .none⟩, ⟨(.some 51), (.app 5 1 (.t
  45) (.t 50)), .none⟩, ⟨(.some 6), (.mv (.t 51)), .none⟩]) .skip))) (.reg [⟨(.some 38), (.mv (.t 7)), .none⟩, ⟨(.some 39), (.bin .add (.t 38) (.k (.int .i64 1))), .none⟩, ⟨(.some 7), (.mv (.t 39)),
  .none⟩])))))) (.seq (.seq (.reg [⟨(.some 52), (.mv (.t 6)), .none⟩, ⟨(.some 53), (.call (.f 64) [(.t 52)]), .none⟩, ⟨(.some 54), (.mv (.t 53)), .none⟩, ⟨(.some 55), (.mv (.t 6)), (.some (54, true))⟩,
  ⟨(.some 56), (.len (.t 55)), (.some (54, true))⟩, ⟨(.some 57), (.mv (.t 5)), (.some (54, true))⟩, ⟨(.some 58), (.len (.t 57)), (.some (54, true))⟩, ⟨(.some 59), (.bin .lss (.t 56) (.t 58)), (.some
  (54, true))⟩, ⟨(.some 60), (.pick (.t 54) (.t 59) (.k (.bool false))), .none⟩, ⟨(.some 61), (.mv (.t 60)), .none⟩, ⟨(.some 62), (.mv (.t 6)), (.some (61, true))⟩, ⟨(.some 63), (.call (.f 65) [(.t 62),
  (.k (.int .u8 8)), (.k (.int .u8 9)), (.k (.int .u8 10))]), (.some (61, true))⟩, ⟨(.some 64), (.mv (.t 63)), (.some (61, true))⟩, ⟨(.some 65), (.mv (.t 6)), (.some (64, false))⟩, ⟨(.some 66), (.call
  (.f 65) [(.t 65), (.k (.int .u8 8)), (.k (.int .u8 11)), (.k (.int .u8 11))]), (.some (64, false))⟩, ⟨(.some 67), (.pick (.t 64) (.k (.bool true)) (.t 66)), (.some (61, true))⟩, ⟨(.some 68), (.pick
  (.t 61) (.t 67) (.k (.bool false))), .none⟩]) (.cond (.t 68) (.seq (.reg [⟨(.some 2), (.mv (.k (.int .u8 3))), .none⟩]) .ret) .skip)) (.seq (.reg [⟨(.some 2), (.mv (.k (.int .u8 4))), .none⟩])
  .ret))))))))))
theorem c28 : Try.f28.body.bind (cCode Try.prog 69) = some a28 := by kernel_rfl
theorem r28 : Try.f28.results.toList = [(.tmp 2)] := by kernel_rfl
theorem n28 : Try.f28.ntmps = 69 := by kernel_rfl
theorem e28 : Enters Try.prog 28 := enters_of Try.func28 (by kernel_rfl) (by kernel_rfl)
def a32 : ACode :=
  (.seq (.reg [⟨(.some 2), (.mv (.k (.int .u8 0))), .none⟩]) (.seq (.seq (.reg [⟨(.some 3), (.mv (.t 0)), .none⟩, ⟨(.some 4), (.call (.f 28) [(.t 3)]), .none⟩, ⟨(.some 5), (.bin .eql (.t 4) (.k (.int
  .u8 4))), .none⟩]) (.cond (.t 5) (.seq (.reg [⟨(.some 2), (.mv (.k (.int .u8 13))), .none⟩]) .ret) .skip)) (.seq (.seq (.reg [⟨(.some 6), (.mv (.t 0)), .none⟩, ⟨(.some 7), (.call (.f 30) [(.t 6)]),
  .none⟩, ⟨(.some 8), (.not (.t 7)), .none⟩]) (.cond (.t 8) (.seq (.reg [⟨(.some 2), (.mv (.k (.int .u8 14))), .none⟩]) .ret) .skip)) (.seq (.reg [⟨(.some 2), (.mv (.k (.int .u8 0))), .none⟩]) .ret))))
theorem c32 : Try.f32.body.bind (cCode Try.prog 9) = some a32 := by kernel_rfl
theorem r32 : Try.f32.results.toList = [(.tmp 2)] := by kernel_rfl
theorem n32 : Try.f32.ntmps = 9 := by kernel_rfl
theorem e32 : Enters Try.prog 32 := enters_of Try.func32 (by kernel_rfl) (by kernel_rfl)

/-- Those scripts that a label has. -/
def found (l : List Int) (n : Nat) : List Nat := (List.range n).filter fun s => decide (2 ≤ s) && hasScript l s

theorem found_succ (l : List Int) (n : Nat) (h : 2 ≤ n) : found l (n + 1) = if hasScript l n = true then found l n ++ [n] else found l n := by
  simp only [found, List.range_succ, List.filter_append, List.filter_cons, List.filter_nil, h, decide_true, Bool.true_and]
  split <;> simp
theorem found_length (l : List Int) (n : Nat) : (found l n).length ≤ n := by
  have := List.length_filter_le (fun s : Nat => decide (2 ≤ s) && hasScript l s) (List.range n)
  simpa [found] using this
theorem found_lt {l : List Int} {n s : Nat} (h : s ∈ found l n) : s < n := by
  simp only [found, List.mem_filter, List.mem_range] at h; exact h.1

set_option maxRecDepth 10000 in
theorem refScripts_pure (l : List Int) (hl : l.length ≤ 4611686018427387904) (h32 : I32 l) : Pure Try.prog 26 [.sl 21 (runes l) none] [5] (.sl 5 (octs (found l 12)) (some 0)) := by
  refine pure1 Try.func26 c26 n26 e26 r26 (by simp) ?_
  simp only [a26, astart, argSlots, go_sem, Nat.reduceAdd, Nat.reduceEqDiff, Nat.reduceLT, reduceIte, reduceCtorEq, Nat.reduceBEq, Int.reduceLT, Int.reduceToNat, Int.reducePow, Nat.reduceLeDiff, Int.reduceLE, Nat.reduceMul, Nat.reduceSub]
  refine loop_to 10 (fun i => ⟨[(0, some (.sl 21 (runes l) none)), (3, some (.sl 5 (octs (found l (i + 2))) (some 0))), (4, some (.lit (.int .u8 (i + 2 : Nat))))], [], [(0, 5)], 1⟩)
    (fun _ => True) ((weak_nil 3 5 (by simp only [go_sem, Nat.reduceAdd, Nat.reduceEqDiff, Nat.reduceLT, reduceIte, reduceCtorEq, Nat.reduceBEq, Int.reduceLT, Int.reduceToNat, Int.reducePow, Nat.reduceLeDiff, Int.reduceLE, Nat.reduceMul, Nat.reduceSub])).trans (weak_by [0] (by simp) rfl ?_ trivial ?_ (by simp))) trivial ?_ ?_
  · simp only [go_sem, Nat.reduceAdd, Nat.reduceEqDiff, Nat.reduceLT, reduceIte, reduceCtorEq, Nat.reduceBEq, Int.reduceLT, Int.reduceToNat, Int.reducePow, Nat.reduceLeDiff, Int.reduceLE, Nat.reduceMul, Nat.reduceSub, slotsBy, boxesBy, tipsBy, rawAt, nm, AV.ren, AV.renL, AV.under, AV.underL, List.all_nil, List.all_cons, bne_self_eq_false, List.getD_cons_zero, List.getD_cons_succ, List.length_nil, List.length_cons, and_true, true_and]
    have : found l 2 = [] := by simp [found, List.range_succ]
    simp [this, octs]
  · simp only [go_sem, Nat.reduceAdd, Nat.reduceEqDiff, Nat.reduceLT, reduceIte, reduceCtorEq, Nat.reduceBEq, Int.reduceLT, Int.reduceToNat, Int.reducePow, Nat.reduceLeDiff, Int.reduceLE, Nat.reduceMul, Nat.reduceSub, slotsBy, boxesBy, tipsBy, rawAt, nm, AV.ren, AV.renL, AV.under, AV.underL, List.all_nil, List.all_cons, bne_self_eq_false, List.getD_cons_zero, List.getD_cons_succ, List.length_nil, List.length_cons, and_true, true_and, beq_self_eq_true]
  · intro i hi _
    have hlt : decide (((i + 2 : Nat) : Int) ≤ 11) = true := by simp only [decide_eq_true_eq]; omega
    have hs := found_succ l (i + 2) (by omega)
    have hle := found_length l (i + 2)
    simp only [go_sem, Nat.reduceAdd, Nat.reduceEqDiff, Nat.reduceLT, reduceIte, reduceCtorEq, Nat.reduceBEq, Int.reduceLT, Int.reduceToNat, Int.reducePow, Nat.reduceLeDiff, Int.reduceLE, Nat.reduceMul, Nat.reduceSub, hlt]
    refine callGo_pure (has_pure l _ hl h32) (by rfl) ?_
    simp only [go_sem, Nat.reduceAdd, Nat.reduceEqDiff, Nat.reduceLT, reduceIte, reduceCtorEq, Nat.reduceBEq, Int.reduceLT, Int.reduceToNat, Int.reducePow, Nat.reduceLeDiff, Int.reduceLE, Nat.reduceMul, Nat.reduceSub]
    refine cGo_split (fun h1 => ?_) (fun h1 => ?_)
    · rw [if_pos h1] at hs
      simp only [go_sem, Nat.reduceAdd, Nat.reduceEqDiff, Nat.reduceLT, reduceIte, reduceCtorEq, Nat.reduceBEq, Int.reduceLT, Int.reduceToNat, Int.reducePow, Nat.reduceLeDiff, Int.reduceLE, Nat.reduceMul, Nat.reduceSub]
      refine ⟨by omega, ?_⟩
      simp (disch := omega) only [wrap_u8]
      refine weak_by [2] (by simp) rfl ?_ trivial ?_ (by simp)
      · simp only [go_sem, Nat.reduceAdd, Nat.reduceEqDiff, Nat.reduceLT, reduceIte, reduceCtorEq, Nat.reduceBEq, Int.reduceLT, Int.reduceToNat, Int.reducePow, Nat.reduceLeDiff, Int.reduceLE, Nat.reduceMul, Nat.reduceSub, slotsBy, boxesBy, tipsBy, rawAt, nm, AV.ren, AV.renL, AV.under, AV.underL, List.all_nil, List.all_cons, bne_self_eq_false, List.getD_cons_zero, List.getD_cons_succ, List.length_nil, List.length_cons, and_true, true_and, show i + 1 + 2 = i + 2 + 1 by omega, hs, Int.natCast_add, Int.natCast_one]
        simp [octs]
      · simp only [go_sem, Nat.reduceAdd, Nat.reduceEqDiff, Nat.reduceLT, reduceIte, reduceCtorEq, Nat.reduceBEq, Int.reduceLT, Int.reduceToNat, Int.reducePow, Nat.reduceLeDiff, Int.reduceLE, Nat.reduceMul, Nat.reduceSub, slotsBy, boxesBy, tipsBy, rawAt, nm, AV.ren, AV.renL, AV.under, AV.underL, List.all_nil, List.all_cons, bne_self_eq_false, List.getD_cons_zero, List.getD_cons_succ, List.length_nil, List.length_cons, and_true, true_and, beq_self_eq_true]
    · rw [if_neg (by rw [h1]; simp)] at hs
      simp only [go_sem, Nat.reduceAdd, Nat.reduceEqDiff, Nat.reduceLT, reduceIte, reduceCtorEq, Nat.reduceBEq, Int.reduceLT, Int.reduceToNat, Int.reducePow, Nat.reduceLeDiff, Int.reduceLE, Nat.reduceMul, Nat.reduceSub]
      simp (disch := omega) only [wrap_u8]
      refine weak_by [0] (by simp) rfl ?_ trivial ?_ (by simp)
      · simp only [go_sem, Nat.reduceAdd, Nat.reduceEqDiff, Nat.reduceLT, reduceIte, reduceCtorEq, Nat.reduceBEq, Int.reduceLT, Int.reduceToNat, Int.reducePow, Nat.reduceLeDiff, Int.reduceLE, Nat.reduceMul, Nat.reduceSub, slotsBy, boxesBy, tipsBy, rawAt, nm, AV.ren, AV.renL, AV.under, AV.underL, List.all_nil, List.all_cons, bne_self_eq_false, List.getD_cons_zero, List.getD_cons_succ, List.length_nil, List.length_cons, and_true, true_and, show i + 1 + 2 = i + 2 + 1 by omega, hs, Int.natCast_add, Int.natCast_one]
      · simp only [go_sem, Nat.reduceAdd, Nat.reduceEqDiff, Nat.reduceLT, reduceIte, reduceCtorEq, Nat.reduceBEq, Int.reduceLT, Int.reduceToNat, Int.reducePow, Nat.reduceLeDiff, Int.reduceLE, Nat.reduceMul, Nat.reduceSub, slotsBy, boxesBy, tipsBy, rawAt, nm, AV.ren, AV.renL, AV.under, AV.underL, List.all_nil, List.all_cons, bne_self_eq_false, List.getD_cons_zero, List.getD_cons_succ, List.length_nil, List.length_cons, and_true, true_and, beq_self_eq_true]
  · intro _
    have hlt : decide (((10 + 2 : Nat) : Int) ≤ 11) = false := by simp
    simp only [go_sem, Nat.reduceAdd, Nat.reduceEqDiff, Nat.reduceLT, reduceIte, reduceCtorEq, Nat.reduceBEq, Int.reduceLT, Int.reduceToNat, Int.reducePow, Nat.reduceLeDiff, Int.reduceLE, Nat.reduceMul, Nat.reduceSub, hlt]
    exact ⟨.inr rfl, 0, by simp only [resAV, resL, resOne, go_sem, Nat.reduceAdd, Nat.reduceEqDiff, Nat.reduceLT, reduceIte, reduceCtorEq, Nat.reduceBEq, Int.reduceLT, Int.reduceToNat, Int.reducePow, Nat.reduceLeDiff, Int.reduceLE, Nat.reduceMul, Nat.reduceSub], by simp [go_sem, Nat.reduceAdd, Nat.reduceEqDiff, Nat.reduceLT, reduceIte, reduceCtorEq, Nat.reduceBEq, Int.reduceLT, Int.reduceToNat, Int.reducePow, Nat.reduceLeDiff, Int.reduceLE, Nat.reduceMul, Nat.reduceSub]⟩

/-- All among three. -/
def amongOf (l : List Nat) (a b c : Nat) : Bool := l.all fun s => decide (s = a) || decide (s = b) || decide (s = c)

set_option maxRecDepth 10000 in
theorem refOfs_pure (l : List Nat) (a b c : Nat) (hl : l.length ≤ 4611686018427387904) : Pure Try.prog 65 [.sl 5 (octs l) none, .lit (.int .u8 a), .lit (.int .u8 b), .lit (.int .u8 c)] [] (.lit (.bool (amongOf l a b c))) := by
  refine pure0 Try.func65 c65 n65 e65 r65 (by simp) rfl ?_
  simp only [a65, astart, argSlots, go_sem, Nat.reduceAdd, Nat.reduceEqDiff, Nat.reduceLT, reduceIte, reduceCtorEq, Nat.reduceBEq, Int.reduceLT, Int.reduceToNat, Int.reducePow, Nat.reduceLeDiff, Int.reduceLE, Nat.reduceMul, Nat.reduceSub]
  refine loop_to l.length (fun i => ⟨[(0, some (.sl 5 (octs l) none)), (1, some (.lit (.int .u8 a))), (2, some (.lit (.int .u8 b))), (3, some (.lit (.int .u8 c))), (9, some (.lit (.int .i64 i)))], [], [], 0⟩)
    (fun i => amongOf (l.take i) a b c = true) (weak_by [] List.nodup_nil rfl ?_ trivial trivial (by simp)) rfl ?_ ?_
  · simp only [go_sem, Nat.reduceAdd, Nat.reduceEqDiff, Nat.reduceLT, reduceIte, reduceCtorEq, Nat.reduceBEq, Int.reduceLT, Int.reduceToNat, Int.reducePow, Nat.reduceLeDiff, Int.reduceLE, Nat.reduceMul, Nat.reduceSub, slotsBy, boxesBy, tipsBy, rawAt, nm, AV.ren, AV.renL, AV.under, AV.underL, List.all_nil, List.all_cons, bne_self_eq_false, List.getD_cons_zero, List.getD_cons_succ, List.length_nil, List.length_cons, and_true, true_and, Int.natCast_zero]
  · intro i hi hp
    have hstep : amongOf (l.take (i + 1)) a b c = (amongOf (l.take i) a b c && (decide (l[i] = a) || decide (l[i] = b) || decide (l[i] = c))) := by
      rw [List.take_succ_eq_append_getElem hi]
      simp only [amongOf, List.all_append, List.all_cons, List.all_nil, Bool.and_true]
    have hall : (decide (l[i] = a) || decide (l[i] = b) || decide (l[i] = c)) = false → amongOf l a b c = false := fun h => by
      unfold amongOf
      rw [List.all_eq_false]
      exact ⟨_, List.getElem_mem hi, by simpa using h⟩
    simp only [go_sem, Nat.reduceAdd, Nat.reduceEqDiff, Nat.reduceLT, reduceIte, reduceCtorEq, Nat.reduceBEq, Int.reduceLT, Int.reduceToNat, Int.reducePow, Nat.reduceLeDiff, Int.reduceLE, Nat.reduceMul, Nat.reduceSub, hi, octs_get l i hi]
    have hdone : (decide (l[i] = a) || decide (l[i] = b) || decide (l[i] = c)) = true → amongOf (l.take (i + 1)) a b c = true := fun h => by rw [hstep, hp, h]; rfl
    by_cases h1 : l[i] = a
    · have e1 : ((l[i] : Int) != a) = false := by simp [h1]
      simp only [e1, go_sem, Nat.reduceAdd, Nat.reduceEqDiff, Nat.reduceLT, reduceIte, reduceCtorEq, Nat.reduceBEq, Int.reduceLT, Int.reduceToNat, Int.reducePow, Nat.reduceLeDiff, Int.reduceLE, Nat.reduceMul, Nat.reduceSub]
      simp (disch := omega) only [wrap_i64]
      refine ⟨weak_by [] List.nodup_nil rfl ?_ trivial trivial (by simp), hdone (by simp [h1])⟩
      simp only [go_sem, Nat.reduceAdd, Nat.reduceEqDiff, Nat.reduceLT, reduceIte, reduceCtorEq, Nat.reduceBEq, Int.reduceLT, Int.reduceToNat, Int.reducePow, Nat.reduceLeDiff, Int.reduceLE, Nat.reduceMul, Nat.reduceSub, slotsBy, boxesBy, tipsBy, rawAt, nm, AV.ren, AV.renL, AV.under, AV.underL, List.all_nil, List.all_cons, bne_self_eq_false, List.getD_cons_zero, List.getD_cons_succ, List.length_nil, List.length_cons, and_true, true_and, Int.natCast_add, Int.natCast_one]
    · have e1 : ((l[i] : Int) != a) = true := by simp; omega
      by_cases h2 : l[i] = b
      · have e2 : ((l[i] : Int) != b) = false := by simp [h2]
        simp only [e1, e2, go_sem, Nat.reduceAdd, Nat.reduceEqDiff, Nat.reduceLT, reduceIte, reduceCtorEq, Nat.reduceBEq, Int.reduceLT, Int.reduceToNat, Int.reducePow, Nat.reduceLeDiff, Int.reduceLE, Nat.reduceMul, Nat.reduceSub, hi, octs_get l i hi]
        simp (disch := omega) only [wrap_i64]
        refine ⟨weak_by [] List.nodup_nil rfl ?_ trivial trivial (by simp), hdone (by simp [h2])⟩
        simp only [go_sem, Nat.reduceAdd, Nat.reduceEqDiff, Nat.reduceLT, reduceIte, reduceCtorEq, Nat.reduceBEq, Int.reduceLT, Int.reduceToNat, Int.reducePow, Nat.reduceLeDiff, Int.reduceLE, Nat.reduceMul, Nat.reduceSub, slotsBy, boxesBy, tipsBy, rawAt, nm, AV.ren, AV.renL, AV.under, AV.underL, List.all_nil, List.all_cons, bne_self_eq_false, List.getD_cons_zero, List.getD_cons_succ, List.length_nil, List.length_cons, and_true, true_and, Int.natCast_add, Int.natCast_one]
      · have e2 : ((l[i] : Int) != b) = true := by simp; omega
        by_cases h3 : l[i] = c
        · have e3 : ((l[i] : Int) != c) = false := by simp [h3]
          simp only [e1, e2, e3, go_sem, Nat.reduceAdd, Nat.reduceEqDiff, Nat.reduceLT, reduceIte, reduceCtorEq, Nat.reduceBEq, Int.reduceLT, Int.reduceToNat, Int.reducePow, Nat.reduceLeDiff, Int.reduceLE, Nat.reduceMul, Nat.reduceSub, hi, octs_get l i hi]
          simp (disch := omega) only [wrap_i64]
          refine ⟨weak_by [] List.nodup_nil rfl ?_ trivial trivial (by simp), hdone (by simp [h3])⟩
          simp only [go_sem, Nat.reduceAdd, Nat.reduceEqDiff, Nat.reduceLT, reduceIte, reduceCtorEq, Nat.reduceBEq, Int.reduceLT, Int.reduceToNat, Int.reducePow, Nat.reduceLeDiff, Int.reduceLE, Nat.reduceMul, Nat.reduceSub, slotsBy, boxesBy, tipsBy, rawAt, nm, AV.ren, AV.renL, AV.under, AV.underL, List.all_nil, List.all_cons, bne_self_eq_false, List.getD_cons_zero, List.getD_cons_succ, List.length_nil, List.length_cons, and_true, true_and, Int.natCast_add, Int.natCast_one]
        · have e3 : ((l[i] : Int) != c) = true := by simp; omega
          simp only [e1, e2, e3, go_sem, Nat.reduceAdd, Nat.reduceEqDiff, Nat.reduceLT, reduceIte, reduceCtorEq, Nat.reduceBEq, Int.reduceLT, Int.reduceToNat, Int.reducePow, Nat.reduceLeDiff, Int.reduceLE, Nat.reduceMul, Nat.reduceSub, hi, octs_get l i hi]
          simp only [Done, resAV, resL, resOne, look_nil, look_cons, Nat.reduceEqDiff, if_true, if_false, reduceIte, ite_true, ite_false, Nat.zero_ne_one, Nat.one_ne_zero, reduceCtorEq, true_or, or_true, true_and, Option.some.injEq, AV.lit.injEq, Value.int.injEq, Value.bool.injEq]
          exact (hall (by simp [h1, h2, h3])).symm
  · intro hp
    rw [List.take_length] at hp
    simp only [go_sem, Nat.reduceAdd, Nat.reduceEqDiff, Nat.reduceLT, reduceIte, reduceCtorEq, Nat.reduceBEq, Int.reduceLT, Int.reduceToNat, Int.reducePow, Nat.reduceLeDiff, Int.reduceLE, Nat.reduceMul, Nat.reduceSub]
    simp only [Done, resAV, resL, resOne, look_nil, look_cons, Nat.reduceEqDiff, if_true, if_false, reduceIte, ite_true, ite_false, Nat.zero_ne_one, Nat.one_ne_zero, reduceCtorEq, true_or, or_true, true_and, Option.some.injEq, AV.lit.injEq, Value.int.injEq, Value.bool.injEq]
    exact hp.symm

def togetherOf (l : List Nat) : Bool := decide (l.length < 2) || (amongOf l 8 9 10 || amongOf l 8 11 11)

set_option maxRecDepth 10000 in
theorem together_pure (l : List Nat) (hl : l.length ≤ 4611686018427387904) : Pure Try.prog 64 [.sl 5 (octs l) none] [] (.lit (.bool (togetherOf l))) := by
  refine pure0 Try.func64 c64 n64 e64 r64 (by simp) rfl ?_
  simp only [a64, astart, argSlots, go_sem, Nat.reduceAdd, Nat.reduceEqDiff, Nat.reduceLT, reduceIte, reduceCtorEq, Nat.reduceBEq, Int.reduceLT, Int.reduceToNat, Int.reducePow, Nat.reduceLeDiff, Int.reduceLE, Nat.reduceMul, Nat.reduceSub]
  by_cases h1 : l.length < 2
  · have e1 : decide ((l.length : Int) < 2) = true := by simp only [decide_eq_true_eq]; omega
    simp only [e1, go_sem, Nat.reduceAdd, Nat.reduceEqDiff, Nat.reduceLT, reduceIte, reduceCtorEq, Nat.reduceBEq, Int.reduceLT, Int.reduceToNat, Int.reducePow, Nat.reduceLeDiff, Int.reduceLE, Nat.reduceMul, Nat.reduceSub]
    simp only [Done, resAV, resL, resOne, look_nil, look_cons, Nat.reduceEqDiff, if_true, if_false, reduceIte, ite_true, ite_false, Nat.zero_ne_one, Nat.one_ne_zero, reduceCtorEq, true_or, or_true, true_and, Option.some.injEq, AV.lit.injEq, Value.int.injEq, Value.bool.injEq]
    simp [togetherOf, h1]
  · have e1 : decide ((l.length : Int) < 2) = false := by simp only [decide_eq_false_iff_not]; omega
    simp only [e1, go_sem, Nat.reduceAdd, Nat.reduceEqDiff, Nat.reduceLT, reduceIte, reduceCtorEq, Nat.reduceBEq, Int.reduceLT, Int.reduceToNat, Int.reducePow, Nat.reduceLeDiff, Int.reduceLE, Nat.reduceMul, Nat.reduceSub]
    refine callGo_pure (refOfs_pure l 8 9 10 hl) (by rfl) ?_
    simp only [go_sem, Nat.reduceAdd, Nat.reduceEqDiff, Nat.reduceLT, reduceIte, reduceCtorEq, Nat.reduceBEq, Int.reduceLT, Int.reduceToNat, Int.reducePow, Nat.reduceLeDiff, Int.reduceLE, Nat.reduceMul, Nat.reduceSub]
    refine gGo_splitF (fun h2 => ?_) (fun h2 => ?_)
    · simp only [h2, go_sem, Nat.reduceAdd, Nat.reduceEqDiff, Nat.reduceLT, reduceIte, reduceCtorEq, Nat.reduceBEq, Int.reduceLT, Int.reduceToNat, Int.reducePow, Nat.reduceLeDiff, Int.reduceLE, Nat.reduceMul, Nat.reduceSub]
      refine callGo_pure (refOfs_pure l 8 11 11 hl) (by rfl) ?_
      simp only [go_sem, Nat.reduceAdd, Nat.reduceEqDiff, Nat.reduceLT, reduceIte, reduceCtorEq, Nat.reduceBEq, Int.reduceLT, Int.reduceToNat, Int.reducePow, Nat.reduceLeDiff, Int.reduceLE, Nat.reduceMul, Nat.reduceSub]
      simp only [Done, resAV, resL, resOne, look_nil, look_cons, Nat.reduceEqDiff, if_true, if_false, reduceIte, ite_true, ite_false, Nat.zero_ne_one, Nat.one_ne_zero, reduceCtorEq, true_or, or_true, true_and, Option.some.injEq, AV.lit.injEq, Value.int.injEq, Value.bool.injEq]
      simp [togetherOf, h1, h2]
    · simp only [h2, go_sem, Nat.reduceAdd, Nat.reduceEqDiff, Nat.reduceLT, reduceIte, reduceCtorEq, Nat.reduceBEq, Int.reduceLT, Int.reduceToNat, Int.reducePow, Nat.reduceLeDiff, Int.reduceLE, Nat.reduceMul, Nat.reduceSub]
      simp only [Done, resAV, resL, resOne, look_nil, look_cons, Nat.reduceEqDiff, if_true, if_false, reduceIte, ite_true, ite_false, Nat.zero_ne_one, Nat.one_ne_zero, reduceCtorEq, true_or, or_true, true_and, Option.some.injEq, AV.lit.injEq, Value.int.injEq, Value.bool.injEq]
      simp [togetherOf, h1, h2]

def bareOf (l : List Nat) : List Nat := l.filter fun s => decide (s ≠ 2)

def refLevelOf (l : List Int) : Int :=
  if l.any wideOne = false then 1 else if togetherOf (found l 12) = true then 2 else
    if (togetherOf (bareOf (found l 12)) && (decide ((bareOf (found l 12)).length < (found l 12).length) && (amongOf (bareOf (found l 12)) 8 9 10 || amongOf (bareOf (found l 12)) 8 11 11))) = true then 3 else 4

theorem bare_take {l : List Nat} {i : Nat} (hi : i < l.length) : bareOf (l.take (i + 1)) = if l[i] ≠ 2 then bareOf (l.take i) ++ [l[i]] else bareOf (l.take i) := by
  rw [List.take_succ_eq_append_getElem hi]
  simp only [bareOf, List.filter_append, List.filter_cons, List.filter_nil, decide_eq_true_eq]
  split <;> simp
theorem bare_length (l : List Nat) : (bareOf l).length ≤ l.length := List.length_filter_le _ _

set_option maxRecDepth 10000 in
theorem refLevel_pure (l : List Int) (hl : l.length ≤ 4611686018427387904) (h32 : I32 l) : Pure Try.prog 28 [.sl 21 (runes l) none] [] (.lit (.int .u8 (refLevelOf l))) := by
  refine pure0 Try.func28 c28 n28 e28 r28 (by simp) rfl ?_
  simp only [a28, astart, argSlots, go_sem, Nat.reduceAdd, Nat.reduceEqDiff, Nat.reduceLT, reduceIte, reduceCtorEq, Nat.reduceBEq, Int.reduceLT, Int.reduceToNat, Int.reducePow, Nat.reduceLeDiff, Int.reduceLE, Nat.reduceMul, Nat.reduceSub]
  refine loop_to l.length (fun i => ⟨[(0, some (.sl 21 (runes l) none)), (3, some (.lit (.bool (!(l.take i).any wideOne)))), (4, some (.lit (.int .i64 i)))], [], [], 0⟩)
    (fun _ => True) (weak_by [] List.nodup_nil rfl ?_ trivial trivial (by simp)) trivial ?_ ?_
  · simp only [go_sem, Nat.reduceAdd, Nat.reduceEqDiff, Nat.reduceLT, reduceIte, reduceCtorEq, Nat.reduceBEq, Int.reduceLT, Int.reduceToNat, Int.reducePow, Nat.reduceLeDiff, Int.reduceLE, Nat.reduceMul, Nat.reduceSub, slotsBy, boxesBy, tipsBy, rawAt, nm, AV.ren, AV.renL, AV.under, AV.underL, List.all_nil, List.all_cons, bne_self_eq_false, List.getD_cons_zero, List.getD_cons_succ, List.length_nil, List.length_cons, and_true, true_and, Int.natCast_zero, List.any_nil, Bool.not_false]
  · intro i hi _
    have hstep : (l.take (i + 1)).any wideOne = ((l.take i).any wideOne || wideOne l[i]) := by
      rw [List.take_succ_eq_append_getElem hi]
      simp only [List.any_append, List.any_cons, List.any_nil, Bool.or_false]
    simp only [go_sem, Nat.reduceAdd, Nat.reduceEqDiff, Nat.reduceLT, reduceIte, reduceCtorEq, Nat.reduceBEq, Int.reduceLT, Int.reduceToNat, Int.reducePow, Nat.reduceLeDiff, Int.reduceLE, Nat.reduceMul, Nat.reduceSub, hi]
    by_cases h1 : (l.take i).any wideOne = true
    · simp only [h1, Bool.not_true, go_sem, Nat.reduceAdd, Nat.reduceEqDiff, Nat.reduceLT, reduceIte, reduceCtorEq, Nat.reduceBEq, Int.reduceLT, Int.reduceToNat, Int.reducePow, Nat.reduceLeDiff, Int.reduceLE, Nat.reduceMul, Nat.reduceSub]
      simp (disch := omega) only [wrap_i64]
      refine weak_by [] List.nodup_nil rfl ?_ trivial trivial (by simp)
      simp only [go_sem, Nat.reduceAdd, Nat.reduceEqDiff, Nat.reduceLT, reduceIte, reduceCtorEq, Nat.reduceBEq, Int.reduceLT, Int.reduceToNat, Int.reducePow, Nat.reduceLeDiff, Int.reduceLE, Nat.reduceMul, Nat.reduceSub, slotsBy, boxesBy, tipsBy, rawAt, nm, AV.ren, AV.renL, AV.under, AV.underL, List.all_nil, List.all_cons, bne_self_eq_false, List.getD_cons_zero, List.getD_cons_succ, List.length_nil, List.length_cons, and_true, true_and, hstep, h1, Bool.true_or, Bool.not_true, Int.natCast_add, Int.natCast_one]
    · have h1' : (l.take i).any wideOne = false := by simpa using h1
      simp only [h1', Bool.not_false, go_sem, Nat.reduceAdd, Nat.reduceEqDiff, Nat.reduceLT, reduceIte, reduceCtorEq, Nat.reduceBEq, Int.reduceLT, Int.reduceToNat, Int.reducePow, Nat.reduceLeDiff, Int.reduceLE, Nat.reduceMul, Nat.reduceSub, hi, runes_get l i hi]
      by_cases h2 : l[i] < 0
      · have e2 : decide (l[i] ≥ 0) = false := by simp only [decide_eq_false_iff_not]; omega
        have e3 : wideOne l[i] = true := by simp [wideOne, h2]
        simp only [e2, go_sem, Nat.reduceAdd, Nat.reduceEqDiff, Nat.reduceLT, reduceIte, reduceCtorEq, Nat.reduceBEq, Int.reduceLT, Int.reduceToNat, Int.reducePow, Nat.reduceLeDiff, Int.reduceLE, Nat.reduceMul, Nat.reduceSub]
        simp (disch := omega) only [wrap_i64]
        refine weak_by [] List.nodup_nil rfl ?_ trivial trivial (by simp)
        simp only [go_sem, Nat.reduceAdd, Nat.reduceEqDiff, Nat.reduceLT, reduceIte, reduceCtorEq, Nat.reduceBEq, Int.reduceLT, Int.reduceToNat, Int.reducePow, Nat.reduceLeDiff, Int.reduceLE, Nat.reduceMul, Nat.reduceSub, slotsBy, boxesBy, tipsBy, rawAt, nm, AV.ren, AV.renL, AV.under, AV.underL, List.all_nil, List.all_cons, bne_self_eq_false, List.getD_cons_zero, List.getD_cons_succ, List.length_nil, List.length_cons, and_true, true_and, hstep, h1', e3, Bool.false_or, Bool.not_true, Int.natCast_add, Int.natCast_one]
      · have e2 : decide (l[i] ≥ 0) = true := by simp only [decide_eq_true_eq]; omega
        have e3 : (!wideOne l[i]) = decide (l[i] < 128) := by
          rw [Bool.eq_iff_iff]
          simp [wideOne]
          omega
        simp only [e2, go_sem, Nat.reduceAdd, Nat.reduceEqDiff, Nat.reduceLT, reduceIte, reduceCtorEq, Nat.reduceBEq, Int.reduceLT, Int.reduceToNat, Int.reducePow, Nat.reduceLeDiff, Int.reduceLE, Nat.reduceMul, Nat.reduceSub, hi, runes_get l i hi]
        simp (disch := omega) only [wrap_i64]
        refine weak_by [] List.nodup_nil rfl ?_ trivial trivial (by simp)
        simp only [go_sem, Nat.reduceAdd, Nat.reduceEqDiff, Nat.reduceLT, reduceIte, reduceCtorEq, Nat.reduceBEq, Int.reduceLT, Int.reduceToNat, Int.reducePow, Nat.reduceLeDiff, Int.reduceLE, Nat.reduceMul, Nat.reduceSub, slotsBy, boxesBy, tipsBy, rawAt, nm, AV.ren, AV.renL, AV.under, AV.underL, List.all_nil, List.all_cons, bne_self_eq_false, List.getD_cons_zero, List.getD_cons_succ, List.length_nil, List.length_cons, and_true, true_and, hstep, h1', e3, Bool.false_or, Int.natCast_add, Int.natCast_one]
  · intro _
    rw [List.take_length]
    simp only [go_sem, Nat.reduceAdd, Nat.reduceEqDiff, Nat.reduceLT, reduceIte, reduceCtorEq, Nat.reduceBEq, Int.reduceLT, Int.reduceToNat, Int.reducePow, Nat.reduceLeDiff, Int.reduceLE, Nat.reduceMul, Nat.reduceSub]
    refine cGo_split (fun h1 => ?_) (fun h1 => ?_)
    · have h1' : l.any wideOne = false := by simpa using h1
      simp only [go_sem, Nat.reduceAdd, Nat.reduceEqDiff, Nat.reduceLT, reduceIte, reduceCtorEq, Nat.reduceBEq, Int.reduceLT, Int.reduceToNat, Int.reducePow, Nat.reduceLeDiff, Int.reduceLE, Nat.reduceMul, Nat.reduceSub]
      simp only [Done, resAV, resL, resOne, look_nil, look_cons, Nat.reduceEqDiff, if_true, if_false, reduceIte, ite_true, ite_false, Nat.zero_ne_one, Nat.one_ne_zero, reduceCtorEq, true_or, or_true, true_and, Option.some.injEq, AV.lit.injEq, Value.int.injEq, Value.bool.injEq]
      simp [refLevelOf, h1']
    · have h1' : l.any wideOne = true := by simpa using h1
      simp only [go_sem, Nat.reduceAdd, Nat.reduceEqDiff, Nat.reduceLT, reduceIte, reduceCtorEq, Nat.reduceBEq, Int.reduceLT, Int.reduceToNat, Int.reducePow, Nat.reduceLeDiff, Int.reduceLE, Nat.reduceMul, Nat.reduceSub]
      refine callGo_pure (refScripts_pure l hl h32) (by rfl) ?_
      have hfl := found_length l 12
      have hlv : refLevelOf l = if togetherOf (found l 12) = true then 2 else
        if (togetherOf (bareOf (found l 12)) && (decide ((bareOf (found l 12)).length < (found l 12).length) && (amongOf (bareOf (found l 12)) 8 9 10 || amongOf (bareOf (found l 12)) 8 11 11))) = true then 3 else 4 := by simp only [refLevelOf, h1', Bool.true_eq_false, if_false]
      generalize refLevelOf l = lv at hlv ⊢
      generalize found l 12 = q at hfl hlv ⊢
      simp only [go_sem, Nat.reduceAdd, Nat.reduceEqDiff, Nat.reduceLT, reduceIte, reduceCtorEq, Nat.reduceBEq, Int.reduceLT, Int.reduceToNat, Int.reducePow, Nat.reduceLeDiff, Int.reduceLE, Nat.reduceMul, Nat.reduceSub]
      refine callGo_pure (together_pure q (by omega)) (by rfl) ?_
      simp only [go_sem, Nat.reduceAdd, Nat.reduceEqDiff, Nat.reduceLT, reduceIte, reduceCtorEq, Nat.reduceBEq, Int.reduceLT, Int.reduceToNat, Int.reducePow, Nat.reduceLeDiff, Int.reduceLE, Nat.reduceMul, Nat.reduceSub]
      refine cGo_split (fun h2 => ?_) (fun h2 => ?_)
      · rw [h2] at hlv
        simp only [go_sem, Nat.reduceAdd, Nat.reduceEqDiff, Nat.reduceLT, reduceIte, reduceCtorEq, Nat.reduceBEq, Int.reduceLT, Int.reduceToNat, Int.reducePow, Nat.reduceLeDiff, Int.reduceLE, Nat.reduceMul, Nat.reduceSub]
        simp only [Done, resAV, resL, resOne, look_nil, look_cons, Nat.reduceEqDiff, if_true, if_false, reduceIte, ite_true, ite_false, Nat.zero_ne_one, Nat.one_ne_zero, reduceCtorEq, true_or, or_true, true_and, Option.some.injEq, AV.lit.injEq, Value.int.injEq, Value.bool.injEq]
        simp [hlv]
      · rw [h2] at hlv
        simp only [go_sem, Nat.reduceAdd, Nat.reduceEqDiff, Nat.reduceLT, reduceIte, reduceCtorEq, Nat.reduceBEq, Int.reduceLT, Int.reduceToNat, Int.reducePow, Nat.reduceLeDiff, Int.reduceLE, Nat.reduceMul, Nat.reduceSub]
        refine loop_to q.length (fun i => ⟨[(5, some (.sl 5 (octs q) none)), (6, some (.sl 5 (octs (bareOf (q.take i))) (some 0))), (7, some (.lit (.int .i64 i)))], [], [(0, 5)], 1⟩)
          (fun _ => True) ((weak_nil 6 5 (by simp only [go_sem, Nat.reduceAdd, Nat.reduceEqDiff, Nat.reduceLT, reduceIte, reduceCtorEq, Nat.reduceBEq, Int.reduceLT, Int.reduceToNat, Int.reducePow, Nat.reduceLeDiff, Int.reduceLE, Nat.reduceMul, Nat.reduceSub])).trans ((weak_untip 5 rfl).trans (weak_by [1] (by simp) rfl ?_ trivial ?_ (by simp)))) trivial ?_ ?_
        · simp only [go_sem, Nat.reduceAdd, Nat.reduceEqDiff, Nat.reduceLT, reduceIte, reduceCtorEq, Nat.reduceBEq, Int.reduceLT, Int.reduceToNat, Int.reducePow, Nat.reduceLeDiff, Int.reduceLE, Nat.reduceMul, Nat.reduceSub, slotsBy, boxesBy, tipsBy, rawAt, nm, AV.ren, AV.renL, AV.under, AV.underL, List.all_nil, List.all_cons, bne_self_eq_false, List.getD_cons_zero, List.getD_cons_succ, List.length_nil, List.length_cons, and_true, true_and, Int.natCast_zero]
          simp [bareOf, octs]
        · simp only [go_sem, Nat.reduceAdd, Nat.reduceEqDiff, Nat.reduceLT, reduceIte, reduceCtorEq, Nat.reduceBEq, Int.reduceLT, Int.reduceToNat, Int.reducePow, Nat.reduceLeDiff, Int.reduceLE, Nat.reduceMul, Nat.reduceSub, slotsBy, boxesBy, tipsBy, rawAt, nm, AV.ren, AV.renL, AV.under, AV.underL, List.all_nil, List.all_cons, bne_self_eq_false, List.getD_cons_zero, List.getD_cons_succ, List.length_nil, List.length_cons, and_true, true_and, beq_self_eq_true]
        · intro i hi _
          have hb := bare_take hi
          have hbl := bare_length (q.take i)
          have htl := List.length_take_le i q
          simp only [go_sem, Nat.reduceAdd, Nat.reduceEqDiff, Nat.reduceLT, reduceIte, reduceCtorEq, Nat.reduceBEq, Int.reduceLT, Int.reduceToNat, Int.reducePow, Nat.reduceLeDiff, Int.reduceLE, Nat.reduceMul, Nat.reduceSub, hi, octs_get q i hi]
          by_cases h3 : q[i] = 2
          · have e3 : ((q[i] : Int) != 2) = false := by simp [h3]
            rw [if_neg (by simp [h3])] at hb
            simp only [e3, go_sem, Nat.reduceAdd, Nat.reduceEqDiff, Nat.reduceLT, reduceIte, reduceCtorEq, Nat.reduceBEq, Int.reduceLT, Int.reduceToNat, Int.reducePow, Nat.reduceLeDiff, Int.reduceLE, Nat.reduceMul, Nat.reduceSub]
            simp (disch := omega) only [wrap_i64]
            refine weak_by [0] (by simp) rfl ?_ trivial ?_ (by simp)
            · simp only [go_sem, Nat.reduceAdd, Nat.reduceEqDiff, Nat.reduceLT, reduceIte, reduceCtorEq, Nat.reduceBEq, Int.reduceLT, Int.reduceToNat, Int.reducePow, Nat.reduceLeDiff, Int.reduceLE, Nat.reduceMul, Nat.reduceSub, slotsBy, boxesBy, tipsBy, rawAt, nm, AV.ren, AV.renL, AV.under, AV.underL, List.all_nil, List.all_cons, bne_self_eq_false, List.getD_cons_zero, List.getD_cons_succ, List.length_nil, List.length_cons, and_true, true_and, hb, Int.natCast_add, Int.natCast_one]
            · simp only [go_sem, Nat.reduceAdd, Nat.reduceEqDiff, Nat.reduceLT, reduceIte, reduceCtorEq, Nat.reduceBEq, Int.reduceLT, Int.reduceToNat, Int.reducePow, Nat.reduceLeDiff, Int.reduceLE, Nat.reduceMul, Nat.reduceSub, slotsBy, boxesBy, tipsBy, rawAt, nm, AV.ren, AV.renL, AV.under, AV.underL, List.all_nil, List.all_cons, bne_self_eq_false, List.getD_cons_zero, List.getD_cons_succ, List.length_nil, List.length_cons, and_true, true_and, beq_self_eq_true]
          · have e3 : ((q[i] : Int) != 2) = true := by simp; omega
            rw [if_pos h3] at hb
            simp only [e3, go_sem, Nat.reduceAdd, Nat.reduceEqDiff, Nat.reduceLT, reduceIte, reduceCtorEq, Nat.reduceBEq, Int.reduceLT, Int.reduceToNat, Int.reducePow, Nat.reduceLeDiff, Int.reduceLE, Nat.reduceMul, Nat.reduceSub, hi, octs_get q i hi]
            refine ⟨by omega, ?_⟩
            simp (disch := omega) only [wrap_i64]
            refine weak_by [2] (by simp) rfl ?_ trivial ?_ (by simp)
            · simp only [go_sem, Nat.reduceAdd, Nat.reduceEqDiff, Nat.reduceLT, reduceIte, reduceCtorEq, Nat.reduceBEq, Int.reduceLT, Int.reduceToNat, Int.reducePow, Nat.reduceLeDiff, Int.reduceLE, Nat.reduceMul, Nat.reduceSub, slotsBy, boxesBy, tipsBy, rawAt, nm, AV.ren, AV.renL, AV.under, AV.underL, List.all_nil, List.all_cons, bne_self_eq_false, List.getD_cons_zero, List.getD_cons_succ, List.length_nil, List.length_cons, and_true, true_and, hb, Int.natCast_add, Int.natCast_one]
              simp [octs]
            · simp only [go_sem, Nat.reduceAdd, Nat.reduceEqDiff, Nat.reduceLT, reduceIte, reduceCtorEq, Nat.reduceBEq, Int.reduceLT, Int.reduceToNat, Int.reducePow, Nat.reduceLeDiff, Int.reduceLE, Nat.reduceMul, Nat.reduceSub, slotsBy, boxesBy, tipsBy, rawAt, nm, AV.ren, AV.renL, AV.under, AV.underL, List.all_nil, List.all_cons, bne_self_eq_false, List.getD_cons_zero, List.getD_cons_succ, List.length_nil, List.length_cons, and_true, true_and, beq_self_eq_true]
        · intro _
          rw [List.take_length]
          have hbl := bare_length q
          generalize bareOf q = b at hlv hbl ⊢
          simp only [go_sem, Nat.reduceAdd, Nat.reduceEqDiff, Nat.reduceLT, reduceIte, reduceCtorEq, Nat.reduceBEq, Int.reduceLT, Int.reduceToNat, Int.reducePow, Nat.reduceLeDiff, Int.reduceLE, Nat.reduceMul, Nat.reduceSub]
          refine callGo_pure (together_pure b (by omega)) (by rfl) ?_
          simp only [go_sem, Nat.reduceAdd, Nat.reduceEqDiff, Nat.reduceLT, reduceIte, reduceCtorEq, Nat.reduceBEq, Int.reduceLT, Int.reduceToNat, Int.reducePow, Nat.reduceLeDiff, Int.reduceLE, Nat.reduceMul, Nat.reduceSub]
          refine gGo_splitT (fun h3 => ?_) (fun h3 => ?_)
          · rw [h3] at hlv
            simp only [h3, go_sem, Nat.reduceAdd, Nat.reduceEqDiff, Nat.reduceLT, reduceIte, reduceCtorEq, Nat.reduceBEq, Int.reduceLT, Int.reduceToNat, Int.reducePow, Nat.reduceLeDiff, Int.reduceLE, Nat.reduceMul, Nat.reduceSub]
            have el : decide ((b.length : Int) < (q.length : Int)) = decide (b.length < q.length) := by congr 1; apply propext; omega
            simp only [el]
            refine gGo_splitT (fun h4 => ?_) (fun h4 => ?_)
            · rw [h4] at hlv
              simp only [h4, go_sem, Nat.reduceAdd, Nat.reduceEqDiff, Nat.reduceLT, reduceIte, reduceCtorEq, Nat.reduceBEq, Int.reduceLT, Int.reduceToNat, Int.reducePow, Nat.reduceLeDiff, Int.reduceLE, Nat.reduceMul, Nat.reduceSub]
              refine callGo_pure (refOfs_pure b 8 9 10 (by omega)) (by rfl) ?_
              simp only [go_sem, Nat.reduceAdd, Nat.reduceEqDiff, Nat.reduceLT, reduceIte, reduceCtorEq, Nat.reduceBEq, Int.reduceLT, Int.reduceToNat, Int.reducePow, Nat.reduceLeDiff, Int.reduceLE, Nat.reduceMul, Nat.reduceSub]
              refine gGo_splitF (fun h5 => ?_) (fun h5 => ?_)
              · rw [h5] at hlv
                simp only [h5, go_sem, Nat.reduceAdd, Nat.reduceEqDiff, Nat.reduceLT, reduceIte, reduceCtorEq, Nat.reduceBEq, Int.reduceLT, Int.reduceToNat, Int.reducePow, Nat.reduceLeDiff, Int.reduceLE, Nat.reduceMul, Nat.reduceSub]
                refine callGo_pure (refOfs_pure b 8 11 11 (by omega)) (by rfl) ?_
                simp only [go_sem, Nat.reduceAdd, Nat.reduceEqDiff, Nat.reduceLT, reduceIte, reduceCtorEq, Nat.reduceBEq, Int.reduceLT, Int.reduceToNat, Int.reducePow, Nat.reduceLeDiff, Int.reduceLE, Nat.reduceMul, Nat.reduceSub]
                refine cGo_split (fun h6 => ?_) (fun h6 => ?_)
                · rw [h6] at hlv
                  simp only [go_sem, Nat.reduceAdd, Nat.reduceEqDiff, Nat.reduceLT, reduceIte, reduceCtorEq, Nat.reduceBEq, Int.reduceLT, Int.reduceToNat, Int.reducePow, Nat.reduceLeDiff, Int.reduceLE, Nat.reduceMul, Nat.reduceSub]
                  simp only [Done, resAV, resL, resOne, look_nil, look_cons, Nat.reduceEqDiff, if_true, if_false, reduceIte, ite_true, ite_false, Nat.zero_ne_one, Nat.one_ne_zero, reduceCtorEq, true_or, or_true, true_and, Option.some.injEq, AV.lit.injEq, Value.int.injEq, Value.bool.injEq]
                  simp [hlv]
                · rw [h6] at hlv
                  simp only [go_sem, Nat.reduceAdd, Nat.reduceEqDiff, Nat.reduceLT, reduceIte, reduceCtorEq, Nat.reduceBEq, Int.reduceLT, Int.reduceToNat, Int.reducePow, Nat.reduceLeDiff, Int.reduceLE, Nat.reduceMul, Nat.reduceSub]
                  simp only [Done, resAV, resL, resOne, look_nil, look_cons, Nat.reduceEqDiff, if_true, if_false, reduceIte, ite_true, ite_false, Nat.zero_ne_one, Nat.one_ne_zero, reduceCtorEq, true_or, or_true, true_and, Option.some.injEq, AV.lit.injEq, Value.int.injEq, Value.bool.injEq]
                  simp [hlv]
              · rw [h5] at hlv
                simp only [h5, go_sem, Nat.reduceAdd, Nat.reduceEqDiff, Nat.reduceLT, reduceIte, reduceCtorEq, Nat.reduceBEq, Int.reduceLT, Int.reduceToNat, Int.reducePow, Nat.reduceLeDiff, Int.reduceLE, Nat.reduceMul, Nat.reduceSub]
                simp only [Done, resAV, resL, resOne, look_nil, look_cons, Nat.reduceEqDiff, if_true, if_false, reduceIte, ite_true, ite_false, Nat.zero_ne_one, Nat.one_ne_zero, reduceCtorEq, true_or, or_true, true_and, Option.some.injEq, AV.lit.injEq, Value.int.injEq, Value.bool.injEq]
                simp [hlv]
            · rw [h4] at hlv
              simp only [h4, go_sem, Nat.reduceAdd, Nat.reduceEqDiff, Nat.reduceLT, reduceIte, reduceCtorEq, Nat.reduceBEq, Int.reduceLT, Int.reduceToNat, Int.reducePow, Nat.reduceLeDiff, Int.reduceLE, Nat.reduceMul, Nat.reduceSub]
              simp only [Done, resAV, resL, resOne, look_nil, look_cons, Nat.reduceEqDiff, if_true, if_false, reduceIte, ite_true, ite_false, Nat.zero_ne_one, Nat.one_ne_zero, reduceCtorEq, true_or, or_true, true_and, Option.some.injEq, AV.lit.injEq, Value.int.injEq, Value.bool.injEq]
              simp [hlv]
          · rw [h3] at hlv
            simp only [h3, go_sem, Nat.reduceAdd, Nat.reduceEqDiff, Nat.reduceLT, reduceIte, reduceCtorEq, Nat.reduceBEq, Int.reduceLT, Int.reduceToNat, Int.reducePow, Nat.reduceLeDiff, Int.reduceLE, Nat.reduceMul, Nat.reduceSub]
            simp only [Done, resAV, resL, resOne, look_nil, look_cons, Nat.reduceEqDiff, if_true, if_false, reduceIte, ite_true, ite_false, Nat.zero_ne_one, Nat.one_ne_zero, reduceCtorEq, true_or, or_true, true_and, Option.some.injEq, AV.lit.injEq, Value.int.injEq, Value.bool.injEq]
            simp [hlv]

def refCheckOf (l : List Int) : Int := if refLevelOf l = 4 then 13 else if oneSystem l = false then 14 else 0

set_option maxRecDepth 10000 in
theorem refCheck_pure (l : List Int) (hl : l.length ≤ 4611686018427387904) (h32 : I32 l) : Pure Try.prog 32 [.sl 21 (runes l) none] [] (.lit (.int .u8 (refCheckOf l))) := by
  refine pure0 Try.func32 c32 n32 e32 r32 (by simp) rfl ?_
  simp only [a32, astart, argSlots, go_sem, Nat.reduceAdd, Nat.reduceEqDiff, Nat.reduceLT, reduceIte, reduceCtorEq, Nat.reduceBEq, Int.reduceLT, Int.reduceToNat, Int.reducePow, Nat.reduceLeDiff, Int.reduceLE, Nat.reduceMul, Nat.reduceSub]
  refine callGo_pure (refLevel_pure l hl h32) (by rfl) ?_
  simp only [go_sem, Nat.reduceAdd, Nat.reduceEqDiff, Nat.reduceLT, reduceIte, reduceCtorEq, Nat.reduceBEq, Int.reduceLT, Int.reduceToNat, Int.reducePow, Nat.reduceLeDiff, Int.reduceLE, Nat.reduceMul, Nat.reduceSub]
  refine cGo_split (fun h1 => ?_) (fun h1 => ?_)
  · simp only [go_sem, Nat.reduceAdd, Nat.reduceEqDiff, Nat.reduceLT, reduceIte, reduceCtorEq, Nat.reduceBEq, Int.reduceLT, Int.reduceToNat, Int.reducePow, Nat.reduceLeDiff, Int.reduceLE, Nat.reduceMul, Nat.reduceSub]
    simp only [Done, resAV, resL, resOne, look_nil, look_cons, Nat.reduceEqDiff, if_true, if_false, reduceIte, ite_true, ite_false, Nat.zero_ne_one, Nat.one_ne_zero, reduceCtorEq, true_or, or_true, true_and, Option.some.injEq, AV.lit.injEq, Value.int.injEq, Value.bool.injEq]
    simp [refCheckOf, beq_iff_eq.1 h1]
  · simp only [go_sem, Nat.reduceAdd, Nat.reduceEqDiff, Nat.reduceLT, reduceIte, reduceCtorEq, Nat.reduceBEq, Int.reduceLT, Int.reduceToNat, Int.reducePow, Nat.reduceLeDiff, Int.reduceLE, Nat.reduceMul, Nat.reduceSub]
    refine callGo_pure (refDigits_pure l hl h32) (by rfl) ?_
    simp only [go_sem, Nat.reduceAdd, Nat.reduceEqDiff, Nat.reduceLT, reduceIte, reduceCtorEq, Nat.reduceBEq, Int.reduceLT, Int.reduceToNat, Int.reducePow, Nat.reduceLeDiff, Int.reduceLE, Nat.reduceMul, Nat.reduceSub]
    refine cGo_split (fun h2 => ?_) (fun h2 => ?_)
    · simp only [go_sem, Nat.reduceAdd, Nat.reduceEqDiff, Nat.reduceLT, reduceIte, reduceCtorEq, Nat.reduceBEq, Int.reduceLT, Int.reduceToNat, Int.reducePow, Nat.reduceLeDiff, Int.reduceLE, Nat.reduceMul, Nat.reduceSub]
      simp only [Done, resAV, resL, resOne, look_nil, look_cons, Nat.reduceEqDiff, if_true, if_false, reduceIte, ite_true, ite_false, Nat.zero_ne_one, Nat.one_ne_zero, reduceCtorEq, true_or, or_true, true_and, Option.some.injEq, AV.lit.injEq, Value.int.injEq, Value.bool.injEq]
      simp at h1 h2
      simp [refCheckOf, h1, h2]
    · simp only [go_sem, Nat.reduceAdd, Nat.reduceEqDiff, Nat.reduceLT, reduceIte, reduceCtorEq, Nat.reduceBEq, Int.reduceLT, Int.reduceToNat, Int.reducePow, Nat.reduceLeDiff, Int.reduceLE, Nat.reduceMul, Nat.reduceSub]
      simp only [Done, resAV, resL, resOne, look_nil, look_cons, Nat.reduceEqDiff, if_true, if_false, reduceIte, ite_true, ite_false, Nat.zero_ne_one, Nat.one_ne_zero, reduceCtorEq, true_or, or_true, true_and, Option.some.injEq, AV.lit.injEq, Value.int.injEq, Value.bool.injEq]
      simp at h1 h2
      simp [refCheckOf, h1, h2]
end Go.Proofs.Ytocaeclhmkojiaa
