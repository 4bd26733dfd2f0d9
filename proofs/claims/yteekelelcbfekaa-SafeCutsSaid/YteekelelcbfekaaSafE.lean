/-
Which code points are safe, and what a text is shown as, is exactly what the document defines; the examples hold: so the law answers true, whatever it is handed. Conditions: none.
-/
import Derived.Test.YteekelelcbfekaaSafM6
import Derived.Test.YteekelelcbfekaaRows
set_option linter.unusedSimpArgs false
set_option linter.unusedVariables false
set_option linter.unusedSectionVars false
namespace Go.Proofs.Yteekelelcbfekaa
open Go Go.Ab Go.ChangeShapes Go.WideShapes Go.ChangeAt Go.RowKit
def a18 : ACode :=
  (.seq (.reg [⟨(.some 4), (.mv (.k (.bool false))), .none⟩]) (.seq (.reg [⟨(.some 5), (.mv (.t 0)), .none⟩, ⟨(.some 6), (.call (.f 7) [(.t 5)]), .none⟩, ⟨(.some 7), (.call (.f 13) [(.t 6)]), .none⟩,
  ⟨(.some 8), (.cvRS (.t 7)), .none⟩, ⟨(.some 9), (.mv (.t 1)), .none⟩, ⟨(.some 10), (.bin .eql (.t 8) (.t 9)), .none⟩, ⟨(.some 4), (.mv (.t 10)), .none⟩]) .ret))
theorem c18 : Try.f18.body.bind (cCode Try.prog 11) = some a18 := by kernel_rfl
theorem r18 : Try.f18.results.toList = [(.tmp 4)] := by kernel_rfl
theorem n18 : Try.f18.ntmps = 11 := by kernel_rfl
theorem e18 : Enters Try.prog 18 := enters_of Try.func18 (by kernel_rfl) (by kernel_rfl)
def a6 : ACode :=
  (.seq (.reg [⟨(.some 0), (.mv (.k (.bool false))), .none⟩]) (.seq (.reg [⟨(.some 2), (.call (.f 7) [(.k (.string ⟨#[97, 37, 67, 51, 37, 65, 57, 37, 50, 48]⟩))]), .none⟩, ⟨(.some 1), (.mv (.t 2)),
  .none⟩]) (.seq (.reg [⟨(.some 3), (.mv (.t 1)), .none⟩, ⟨(.some 4), (.len (.t 3)), .none⟩, ⟨(.some 5), (.bin .eql (.t 4) (.k (.int .i64 5))), .none⟩, ⟨(.some 6), (.mv (.t 5)), .none⟩, ⟨(.some 7), (.mv
  (.t 1)), (.some (6, true))⟩, ⟨(.some 8), (.ia 35 (.t 7) (.k (.int .i64 1))), (.some (6, true))⟩, ⟨(.some 9), (.ld (.some 3) (.t 8)), (.some (6, true))⟩, ⟨(.some 10), (.bd [(.int .i32 0), (.int .i64
  0), (.int .i64 0)] [(0, (1, (.k (.int .i32 233)))), (1, (1, (.k (.int .i64 1)))), (2, (1, (.k (.int .i64 7))))]), (.some (6, true))⟩, ⟨(.some 11), (.eqg false [.int, .int, .int] (.t 9) (.t 10)),
  (.some (6, true))⟩, ⟨(.some 12), (.pick (.t 6) (.t 11) (.k (.bool false))), .none⟩, ⟨(.some 13), (.mv (.t 12)), .none⟩, ⟨(.some 14), (.call (.f 18) [(.k (.string ⟨#[97, 37, 67, 51, 37, 65, 57, 37, 50,
  48]⟩)), (.k (.string ⟨#[97, 195, 169, 37, 50, 48]⟩))]), (.some (13, true))⟩, ⟨(.some 15), (.pick (.t 13) (.t 14) (.k (.bool false))), .none⟩, ⟨(.some 16), (.mv (.t 15)), .none⟩, ⟨(.some 17), (.call
  (.f 18) [(.k (.string ⟨#[37, 67, 51]⟩)), (.k (.string ⟨#[37, 67, 51]⟩))]), (.some (16, true))⟩, ⟨(.some 18), (.pick (.t 16) (.t 17) (.k (.bool false))), .none⟩, ⟨(.some 19), (.mv (.t 18)), .none⟩,
  ⟨(.some 20), (.call (.f 18) [(.k (.string ⟨#[37, 69, 50, 37, 56, 48, 37, 65, 69]⟩)), (.k (.string ⟨#[37, 69, 50, 37, 56, 48, 37, 65, 69]⟩))]), (.some (19, true))⟩, ⟨(.some 21), (.pick (.t 19) (.t 20)
  (.k (.bool false))), .none⟩, ⟨(.some 22), (.mv (.t 21)), .none⟩, ⟨(.some 23), (.call (.f 18) [(.k (.string ⟨#[37, 52, 49]⟩)), (.k (.string ⟨#[37, 52, 49]⟩))]), (.some (22, true))⟩, ⟨(.some 24), (.pick
  (.t 22) (.t 23) (.k (.bool false))), .none⟩, ⟨(.some 25), (.mv (.t 24)), .none⟩, ⟨(.some 26), (.call (.f 18) [(.k (.string ⟨#[37, 99, 51, 37, 97, 57, 37, 67, 67, 37, 56, 49]⟩)), (.k (.string ⟨#[195,
  169, 204, 129]⟩))]), (.some (25, true))⟩, ⟨(.some 27), (.pick (.t 25) (.t 26) (.k (.bool false))), .none⟩, ⟨(.some 28), (.mv (.t 27)), .none⟩, ⟨(.some 29), (.call (.f 8) [(.k (.int .i32 1488))]),
  (.some (28, true))⟩, ⟨(.some 30), (.pick (.t 28) (.t 29) (.k (.bool false))), .none⟩, ⟨(.some 31), (.mv (.t 30)), .none⟩, ⟨(.some 32), (.call (.f 8) [(.k (.int .i32 8238))]), (.some (31, true))⟩,
  ⟨(.some 33), (.not (.t 32)), (.some (31, true))⟩, ⟨(.some 34), (.pick (.t 31) (.t 33) (.k (.bool false))), .none⟩, ⟨(.some 35), (.mv (.t 34)), .none⟩, ⟨(.some 36), (.call (.f 8) [(.k (.int .i32
  97))]), (.some (35, true))⟩, ⟨(.some 37), (.not (.t 36)), (.some (35, true))⟩, ⟨(.some 38), (.pick (.t 35) (.t 37) (.k (.bool false))), .none⟩, ⟨(.some 0), (.mv (.t 38)), .none⟩]) .ret)))
theorem c6 : Try.f6.body.bind (cCode Try.prog 39) = some a6 := by kernel_rfl
theorem r6 : Try.f6.results.toList = [(.tmp 0)] := by kernel_rfl
theorem n6 : Try.f6.ntmps = 39 := by kernel_rfl
theorem e6 : Enters Try.prog 6 := enters_of Try.func6 (by kernel_rfl) (by kernel_rfl)
def a3 : ACode :=
  (.seq (.reg [⟨(.some 4), (.mv (.k (.bool false))), .none⟩]) (.seq (.seq (.reg [⟨(.some 6), (.mv (.t 1)), .none⟩, ⟨(.some 7), (.lenS (.t 6)), .none⟩, ⟨(.some 8), (.bin .gtr (.t 7) (.k (.int .i64
  400))), .none⟩]) (.cond (.t 8) (.seq (.reg [⟨(.some 9), (.call (.f 6) []), .none⟩, ⟨(.some 4), (.mv (.t 9)), .none⟩]) .ret) .skip)) (.seq (.reg [⟨(.some 10), (.mv (.t 1)), .none⟩, ⟨(.some 11), (.call
  (.f 7) [(.t 10)]), .none⟩, ⟨(.some 5), (.mv (.t 11)), .none⟩]) (.seq (.reg [⟨(.some 12), (.mv (.t 0)), .none⟩, ⟨(.some 13), (.call (.f 8) [(.t 12)]), .none⟩, ⟨(.some 14), (.mv (.t 0)), .none⟩, ⟨(.some
  15), (.call (.f 9) [(.t 14)]), .none⟩, ⟨(.some 16), (.eqB false (.t 13) (.t 15)), .none⟩, ⟨(.some 17), (.mv (.t 16)), .none⟩, ⟨(.some 18), (.mv (.t 5)), (.some (17, true))⟩, ⟨(.some 19), (.mv (.t 1)),
  (.some (17, true))⟩, ⟨(.some 20), (.call (.f 11) [(.t 19)]), (.some (17, true))⟩, ⟨(.some 21), (.call (.f 10) [(.t 18), (.t 20)]), (.some (17, true))⟩, ⟨(.some 22), (.pick (.t 17) (.t 21) (.k (.bool
  false))), .none⟩, ⟨(.some 23), (.mv (.t 22)), .none⟩, ⟨(.some 24), (.mv (.t 5)), (.some (23, true))⟩, ⟨(.some 25), (.call (.f 13) [(.t 24)]), (.some (23, true))⟩, ⟨(.some 26), (.mv (.t 5)), (.some
  (23, true))⟩, ⟨(.some 27), (.call (.f 14) [(.t 26)]), (.some (23, true))⟩, ⟨(.some 28), (.call (.f 12) [(.t 25), (.t 27)]), (.some (23, true))⟩, ⟨(.some 29), (.pick (.t 23) (.t 28) (.k (.bool
  false))), .none⟩, ⟨(.some 30), (.mv (.t 29)), .none⟩, ⟨(.some 31), (.call (.f 6) []), (.some (30, true))⟩, ⟨(.some 32), (.pick (.t 30) (.t 31) (.k (.bool false))), .none⟩, ⟨(.some 4), (.mv (.t 32)),
  .none⟩]) .ret))))
theorem c3 : Try.f3.body.bind (cCode Try.prog 33) = some a3 := by kernel_rfl
theorem r3 : Try.f3.results.toList = [(.tmp 4)] := by kernel_rfl
theorem n3 : Try.f3.ntmps = 33 := by kernel_rfl
theorem e3 : Enters Try.prog 3 := enters_of Try.func3 (by kernel_rfl) (by kernel_rfl)

theorem showT_len (at_ : Nat) (b : List Nat) : (showT at_ b).length ≤ b.length := by
  have key : ∀ (f at_ : Nat) (b : List Nat), b.length ≤ f → (showT at_ b).length ≤ b.length := by
    intro f
    induction f with
    | zero => intro at_ b h; have : b = [] := List.eq_nil_of_length_eq_zero (by omega)
              subst this; simp [showT, showF]
    | succ f ih =>
      intro at_ b h
      cases hc : isC b
      · cases b with
        | nil => simp [showT, showF]
        | cons c t =>
          have := ih (at_ + 1) t (by simpa using h)
          rw [showT_one hc]
          simpa using this
      · have h3 := isC_len hc
        have hp := rowN_pos.2 hc
        have hn := rowN_le b
        have := ih (at_ + 3 * rowN b) (b.drop (3 * rowN b)) (by simp only [List.length_drop]; omega)
        have h2 := said_row_len at_ b
        rw [showT_row hc, List.length_append]
        simp only [List.length_drop] at this
        omega
  exact key _ _ _ (Nat.le_refl _)

theorem runesOf_runes : ∀ l : List Int, runesOf (runes l) = some l
  | [] => rfl
  | x :: l => by
    have := runesOf_runes l
    simp only [runes] at this
    simp [runes, runesOf, this]

/-- Is that what a text is shown as? -/
def showsB (b w : List Nat) : Bool := (strOf (rOf (showT 0 b))).toList == (txt w).toList

set_option maxRecDepth 10000 in
theorem shows_pure (b w : List Nat) (hb : ∀ n ∈ b, n ≤ 255) (hl : b.length ≤ 1000000) : Pure Try.prog 18 [.lit (.string (txt b)), .lit (.string (txt w))] [] (.lit (.bool (showsB b w))) := by
  refine pure0 Try.func18 c18 n18 e18 r18 (by simp) rfl ?_
  simp only [a18, astart, argSlots, go_sem, Nat.reduceAdd, Nat.reduceEqDiff, Nat.reduceLT, reduceIte, reduceCtorEq, Nat.reduceBEq, Int.reduceLT, Int.reduceToNat, Int.reducePow, Nat.reduceLeDiff, Int.reduceLE, Nat.reduceMul, Nat.reduceSub]
  refine callGo_pure (show_pure b hb hl) (by rfl) ?_
  simp only [go_sem, Nat.reduceAdd, Nat.reduceEqDiff, Nat.reduceLT, reduceIte, reduceCtorEq, Nat.reduceBEq, Int.reduceLT, Int.reduceToNat, Int.reducePow, Nat.reduceLeDiff, Int.reduceLE, Nat.reduceMul, Nat.reduceSub]
  refine callGo_pure (safeRunes_pure (showT 0 b) (by have := showT_len 0 b; omega)) (by rfl) ?_
  simp only [go_sem, Nat.reduceAdd, Nat.reduceEqDiff, Nat.reduceLT, reduceIte, reduceCtorEq, Nat.reduceBEq, Int.reduceLT, Int.reduceToNat, Int.reducePow, Nat.reduceLeDiff, Int.reduceLE, Nat.reduceMul, Nat.reduceSub, runesOf_runes, binStr]
  simp only [Done, resAV, resL, resOne, look_nil, look_cons, Nat.reduceEqDiff, if_true, if_false, reduceIte, ite_true, ite_false, Nat.zero_ne_one, Nat.one_ne_zero, reduceCtorEq, true_or, or_true, true_and, Option.some.injEq, AV.lit.injEq, Value.int.injEq, Value.bool.injEq]
  rfl
theorem ex0 : Pure Try.prog 18 [.lit (.string ⟨#[97, 37, 67, 51, 37, 65, 57, 37, 50, 48]⟩), .lit (.string ⟨#[97, 195, 169, 37, 50, 48]⟩)] [] (.lit (.bool true)) := by
  have h := shows_pure [97, 37, 67, 51, 37, 65, 57, 37, 50, 48] [97, 195, 169, 37, 50, 48] (by decide) (by decide)
  rw [show showsB [97, 37, 67, 51, 37, 65, 57, 37, 50, 48] [97, 195, 169, 37, 50, 48] = true from by decide +kernel] at h
  exact h
theorem ex1 : Pure Try.prog 18 [.lit (.string ⟨#[37, 67, 51]⟩), .lit (.string ⟨#[37, 67, 51]⟩)] [] (.lit (.bool true)) := by
  have h := shows_pure [37, 67, 51] [37, 67, 51] (by decide) (by decide)
  rw [show showsB [37, 67, 51] [37, 67, 51] = true from by decide +kernel] at h
  exact h
theorem ex2 : Pure Try.prog 18 [.lit (.string ⟨#[37, 69, 50, 37, 56, 48, 37, 65, 69]⟩), .lit (.string ⟨#[37, 69, 50, 37, 56, 48, 37, 65, 69]⟩)] [] (.lit (.bool true)) := by
  have h := shows_pure [37, 69, 50, 37, 56, 48, 37, 65, 69] [37, 69, 50, 37, 56, 48, 37, 65, 69] (by decide) (by decide)
  rw [show showsB [37, 69, 50, 37, 56, 48, 37, 65, 69] [37, 69, 50, 37, 56, 48, 37, 65, 69] = true from by decide +kernel] at h
  exact h
theorem ex3 : Pure Try.prog 18 [.lit (.string ⟨#[37, 52, 49]⟩), .lit (.string ⟨#[37, 52, 49]⟩)] [] (.lit (.bool true)) := by
  have h := shows_pure [37, 52, 49] [37, 52, 49] (by decide) (by decide)
  rw [show showsB [37, 52, 49] [37, 52, 49] = true from by decide +kernel] at h
  exact h
theorem ex4 : Pure Try.prog 18 [.lit (.string ⟨#[37, 99, 51, 37, 97, 57, 37, 67, 67, 37, 56, 49]⟩), .lit (.string ⟨#[195, 169, 204, 129]⟩)] [] (.lit (.bool true)) := by
  have h := shows_pure [37, 99, 51, 37, 97, 57, 37, 67, 67, 37, 56, 49] [195, 169, 204, 129] (by decide) (by decide)
  rw [show showsB [37, 99, 51, 37, 97, 57, 37, 67, 67, 37, 56, 49] [195, 169, 204, 129] = true from by decide +kernel] at h
  exact h
theorem exShow : Pure Try.prog 7 [.lit (.string ⟨#[97, 37, 67, 51, 37, 65, 57, 37, 50, 48]⟩)] [35] (.sl 35 [[.int .i32 97, .int .i64 0, .int .i64 1], [.int .i32 233, .int .i64 1, .int .i64 7], [.int .i32 37, .int .i64 7, .int .i64 8], [.int .i32 50, .int .i64 8, .int .i64 9], [.int .i32 48, .int .i64 9, .int .i64 10]] (some 0)) := by
  have h := show_pure [97, 37, 67, 51, 37, 65, 57, 37, 50, 48] (by decide) (by decide)
  rw [show showT 0 [97, 37, 67, 51, 37, 65, 57, 37, 50, 48] = [(97, 0, 1), (233, 1, 7), (37, 7, 8), (50, 8, 9), (48, 9, 10)] from by decide +kernel] at h
  exact h
theorem exS1 : Pure Try.prog 8 [.lit (.int .i32 1488)] [] (.lit (.bool true)) := by
  have h := safe_pure 1488
  rw [show safeOf 1488 = true from by decide +kernel] at h
  exact h
theorem exS2 : Pure Try.prog 8 [.lit (.int .i32 8238)] [] (.lit (.bool false)) := by
  have h := safe_pure 8238
  rw [show safeOf 8238 = false from by decide +kernel] at h
  exact h
theorem exS3 : Pure Try.prog 8 [.lit (.int .i32 97)] [] (.lit (.bool false)) := by
  have h := safe_pure 97
  rw [show safeOf 97 = false from by decide +kernel] at h
  exact h

set_option maxRecDepth 10000 in
theorem awake25_pure : Pure Try.prog 6 [] [] (.lit (.bool true)) := by
  refine pure0 Try.func6 c6 n6 e6 r6 (by simp) rfl ?_
  simp only [a6, astart, argSlots, go_sem, Nat.reduceAdd, Nat.reduceEqDiff, Nat.reduceLT, reduceIte, reduceCtorEq, Nat.reduceBEq, Int.reduceLT, Int.reduceToNat, Int.reducePow, Nat.reduceLeDiff, Int.reduceLE, Nat.reduceMul, Nat.reduceSub]
  refine callGo_pure exShow (by rfl) ?_
  have b5 : (((5 : Nat) : Int) == 5) = true := rfl
  simp only [b5, go_sem, Nat.reduceAdd, Nat.reduceEqDiff, Nat.reduceLT, reduceIte, reduceCtorEq, Nat.reduceBEq, Int.reduceLT, Int.reduceToNat, Int.reducePow, Nat.reduceLeDiff, Int.reduceLE, Nat.reduceMul, Nat.reduceSub, beq_self_eq_true, Bool.and_true]
  refine callGo_pure ex0 (by rfl) ?_
  simp only [go_sem, Nat.reduceAdd, Nat.reduceEqDiff, Nat.reduceLT, reduceIte, reduceCtorEq, Nat.reduceBEq, Int.reduceLT, Int.reduceToNat, Int.reducePow, Nat.reduceLeDiff, Int.reduceLE, Nat.reduceMul, Nat.reduceSub]
  refine callGo_pure ex1 (by rfl) ?_
  simp only [go_sem, Nat.reduceAdd, Nat.reduceEqDiff, Nat.reduceLT, reduceIte, reduceCtorEq, Nat.reduceBEq, Int.reduceLT, Int.reduceToNat, Int.reducePow, Nat.reduceLeDiff, Int.reduceLE, Nat.reduceMul, Nat.reduceSub]
  refine callGo_pure ex2 (by rfl) ?_
  simp only [go_sem, Nat.reduceAdd, Nat.reduceEqDiff, Nat.reduceLT, reduceIte, reduceCtorEq, Nat.reduceBEq, Int.reduceLT, Int.reduceToNat, Int.reducePow, Nat.reduceLeDiff, Int.reduceLE, Nat.reduceMul, Nat.reduceSub]
  refine callGo_pure ex3 (by rfl) ?_
  simp only [go_sem, Nat.reduceAdd, Nat.reduceEqDiff, Nat.reduceLT, reduceIte, reduceCtorEq, Nat.reduceBEq, Int.reduceLT, Int.reduceToNat, Int.reducePow, Nat.reduceLeDiff, Int.reduceLE, Nat.reduceMul, Nat.reduceSub]
  refine callGo_pure ex4 (by rfl) ?_
  simp only [go_sem, Nat.reduceAdd, Nat.reduceEqDiff, Nat.reduceLT, reduceIte, reduceCtorEq, Nat.reduceBEq, Int.reduceLT, Int.reduceToNat, Int.reducePow, Nat.reduceLeDiff, Int.reduceLE, Nat.reduceMul, Nat.reduceSub]
  refine callGo_pure exS1 (by rfl) ?_
  simp only [go_sem, Nat.reduceAdd, Nat.reduceEqDiff, Nat.reduceLT, reduceIte, reduceCtorEq, Nat.reduceBEq, Int.reduceLT, Int.reduceToNat, Int.reducePow, Nat.reduceLeDiff, Int.reduceLE, Nat.reduceMul, Nat.reduceSub]
  refine callGo_pure exS2 (by rfl) ?_
  simp only [go_sem, Nat.reduceAdd, Nat.reduceEqDiff, Nat.reduceLT, reduceIte, reduceCtorEq, Nat.reduceBEq, Int.reduceLT, Int.reduceToNat, Int.reducePow, Nat.reduceLeDiff, Int.reduceLE, Nat.reduceMul, Nat.reduceSub, Bool.not_false]
  refine callGo_pure exS3 (by rfl) ?_
  simp only [go_sem, Nat.reduceAdd, Nat.reduceEqDiff, Nat.reduceLT, reduceIte, reduceCtorEq, Nat.reduceBEq, Int.reduceLT, Int.reduceToNat, Int.reducePow, Nat.reduceLeDiff, Int.reduceLE, Nat.reduceMul, Nat.reduceSub, Bool.not_false]
  simp only [Done, resAV, resL, resOne, look_nil, look_cons, Nat.reduceEqDiff, if_true, if_false, reduceIte, ite_true, ite_false, Nat.zero_ne_one, Nat.one_ne_zero, reduceCtorEq, true_or, or_true, true_and, Option.some.injEq, AV.lit.injEq, Value.int.injEq, Value.bool.injEq]

set_option maxRecDepth 10000 in
theorem safeTells_pure (r : Int) (h32 : -2147483648 ≤ r ∧ r ≤ 2147483647) (s : ByteArray) (hs : s.size ≤ 140737488351232) : Pure Try.prog 3 [.lit (.int .i32 r), .lit (.string s)] [] (.lit (.bool true)) := by
  obtain ⟨b, rfl, hb, hbl⟩ := txt_of s
  refine pure0 Try.func3 c3 n3 e3 r3 (by simp) rfl ?_
  simp only [a3, astart, argSlots, txt_size, go_sem, Nat.reduceAdd, Nat.reduceEqDiff, Nat.reduceLT, reduceIte, reduceCtorEq, Nat.reduceBEq, Int.reduceLT, Int.reduceToNat, Int.reducePow, Nat.reduceLeDiff, Int.reduceLE, Nat.reduceMul, Nat.reduceSub]
  refine cGo_split (fun h => ?_) (fun h => ?_)
  · simp only [go_sem, Nat.reduceAdd, Nat.reduceEqDiff, Nat.reduceLT, reduceIte, reduceCtorEq, Nat.reduceBEq, Int.reduceLT, Int.reduceToNat, Int.reducePow, Nat.reduceLeDiff, Int.reduceLE, Nat.reduceMul, Nat.reduceSub]
    refine callGo_pure awake25_pure (by rfl) ?_
    simp only [go_sem, Nat.reduceAdd, Nat.reduceEqDiff, Nat.reduceLT, reduceIte, reduceCtorEq, Nat.reduceBEq, Int.reduceLT, Int.reduceToNat, Int.reducePow, Nat.reduceLeDiff, Int.reduceLE, Nat.reduceMul, Nat.reduceSub]
    simp only [Done, resAV, resL, resOne, look_nil, look_cons, Nat.reduceEqDiff, if_true, if_false, reduceIte, ite_true, ite_false, Nat.zero_ne_one, Nat.one_ne_zero, reduceCtorEq, true_or, or_true, true_and, Option.some.injEq, AV.lit.injEq, Value.int.injEq, Value.bool.injEq]
  · simp only [decide_eq_false_iff_not] at h
    have hl : b.length ≤ 1000000 := by omega
    have hst := showT_len 0 b
    simp only [go_sem, Nat.reduceAdd, Nat.reduceEqDiff, Nat.reduceLT, reduceIte, reduceCtorEq, Nat.reduceBEq, Int.reduceLT, Int.reduceToNat, Int.reducePow, Nat.reduceLeDiff, Int.reduceLE, Nat.reduceMul, Nat.reduceSub]
    refine callGo_pure (show_pure b hb hl) (by rfl) ?_
    simp only [go_sem, Nat.reduceAdd, Nat.reduceEqDiff, Nat.reduceLT, reduceIte, reduceCtorEq, Nat.reduceBEq, Int.reduceLT, Int.reduceToNat, Int.reducePow, Nat.reduceLeDiff, Int.reduceLE, Nat.reduceMul, Nat.reduceSub]
    refine callGo_pure (safe_pure r) (by rfl) ?_
    simp only [go_sem, Nat.reduceAdd, Nat.reduceEqDiff, Nat.reduceLT, reduceIte, reduceCtorEq, Nat.reduceBEq, Int.reduceLT, Int.reduceToNat, Int.reducePow, Nat.reduceLeDiff, Int.reduceLE, Nat.reduceMul, Nat.reduceSub]
    refine callGo_pure (refSafe_pure r h32) (by rfl) ?_
    simp only [go_sem, Nat.reduceAdd, Nat.reduceEqDiff, Nat.reduceLT, reduceIte, reduceCtorEq, Nat.reduceBEq, Int.reduceLT, Int.reduceToNat, Int.reducePow, Nat.reduceLeDiff, Int.reduceLE, Nat.reduceMul, Nat.reduceSub, beq_self_eq_true]
    refine callGo_pure (refShow_pure b hb hl) (by rfl) ?_
    simp only [go_sem, Nat.reduceAdd, Nat.reduceEqDiff, Nat.reduceLT, reduceIte, reduceCtorEq, Nat.reduceBEq, Int.reduceLT, Int.reduceToNat, Int.reducePow, Nat.reduceLeDiff, Int.reduceLE, Nat.reduceMul, Nat.reduceSub]
    refine callGo_pure (sameCodes_pure (showT 0 b) (showT 0 b) (by omega)) (by rfl) ?_
    simp only [go_sem, Nat.reduceAdd, Nat.reduceEqDiff, Nat.reduceLT, reduceIte, reduceCtorEq, Nat.reduceBEq, Int.reduceLT, Int.reduceToNat, Int.reducePow, Nat.reduceLeDiff, Int.reduceLE, Nat.reduceMul, Nat.reduceSub, beq_self_eq_true]
    refine callGo_pure (safeRunes_pure (showT 0 b) (by omega)) (by rfl) ?_
    simp only [go_sem, Nat.reduceAdd, Nat.reduceEqDiff, Nat.reduceLT, reduceIte, reduceCtorEq, Nat.reduceBEq, Int.reduceLT, Int.reduceToNat, Int.reducePow, Nat.reduceLeDiff, Int.reduceLE, Nat.reduceMul, Nat.reduceSub]
    refine callGo_pure (refRunes_pure (showT 0 b) (by omega)) (by rfl) ?_
    simp only [go_sem, Nat.reduceAdd, Nat.reduceEqDiff, Nat.reduceLT, reduceIte, reduceCtorEq, Nat.reduceBEq, Int.reduceLT, Int.reduceToNat, Int.reducePow, Nat.reduceLeDiff, Int.reduceLE, Nat.reduceMul, Nat.reduceSub]
    refine callGo_pure (runesSame_pure (rOf (showT 0 b)) (rOf (showT 0 b)) (by simp only [rOf, List.length_map]; omega)) (by rfl) ?_
    simp only [go_sem, Nat.reduceAdd, Nat.reduceEqDiff, Nat.reduceLT, reduceIte, reduceCtorEq, Nat.reduceBEq, Int.reduceLT, Int.reduceToNat, Int.reducePow, Nat.reduceLeDiff, Int.reduceLE, Nat.reduceMul, Nat.reduceSub, beq_self_eq_true]
    refine callGo_pure awake25_pure (by rfl) ?_
    simp only [go_sem, Nat.reduceAdd, Nat.reduceEqDiff, Nat.reduceLT, reduceIte, reduceCtorEq, Nat.reduceBEq, Int.reduceLT, Int.reduceToNat, Int.reducePow, Nat.reduceLeDiff, Int.reduceLE, Nat.reduceMul, Nat.reduceSub]
    simp only [Done, resAV, resL, resOne, look_nil, look_cons, Nat.reduceEqDiff, if_true, if_false, reduceIte, ite_true, ite_false, Nat.zero_ne_one, Nat.one_ne_zero, reduceCtorEq, true_or, or_true, true_and, Option.some.injEq, AV.lit.injEq, Value.int.injEq, Value.bool.injEq]

theorem safeTells_any (avs : List AV) (h : Args Try.prog Try.f3.params.toList avs) : Pure Try.prog 3 avs [] (.lit (.bool true)) := by
  have hp : Try.f3.params.toList = [21, 9] := by kernel_rfl
  rw [hp] at h
  obtain ⟨av0, rest0, rfl, a0, h0⟩ := h
  obtain ⟨av1, rest1, rfl, a1, rfl⟩ := h0
  obtain ⟨z0, rfl, w0⟩ := arg_int (k := .i32) (by kernel_rfl) a0
  obtain ⟨z1, rfl, w1⟩ := arg_str (by kernel_rfl) a1
  exact safeTells_pure z0 (by simpa [Lit.wf, IntKind.min, IntKind.max, IntKind.signed, IntKind.bits] using w0) z1 w1

set_option maxRecDepth 100000 in
theorem safeTells_lifted (os : Os) (started : os.Started) (H : Type) (enc : TypeId × Value → H) :
    ReturnsInHanded {} Try.checked os 3 .any (Rows.safeTellsSpec.pre6 enc Try.prog Try.f3 Rows.safeTellsRow.domain false) (Rows.safeTellsSpec.post enc Try.prog Try.f3 false true false false) := by
  refine law_returns (C := Try.checked) (tb := 4) (by kernel_rfl) started (by kernel_rfl) Try.func3
    (ChangeSpec.witness6 (enc := enc) (C := Try.checked) false ⟨#[], #[.int .i32 0, .string ⟨#[]⟩], []⟩ 8 (by kernel_rfl) (by kernel_rfl) (by kernel_rfl) (by kernel_rfl))
    (by kernel_rfl) (by kernel_rfl) rfl rfl (by kernel_rfl) (by kernel_rfl) ?_ safeTells_any
  intro ds hds
  have hp : Try.f3.params.toList = [21, 9] := by kernel_rfl
  rw [hp] at hds
  match ds, hds with
  | [d0, d1], _ => exact ⟨rfl, rfl, rfl⟩

theorem safeTells_holds : Rows.SafeTellsSaid :=
  OpenClaim.holds_of_wide 3 Try.f3 rfl rfl rfl rfl rfl rfl rfl ⟨rfl, rfl, rfl, rfl, rfl⟩ rfl rfl rfl rfl rfl (by kernel_rfl) Try.func3 (by kernel_rfl)
    (of_decide_eq_true (by kernel_rfl)) (by unfold Func.isWrapper; first | (rw [if_pos (by decide +kernel)]; kernel_rfl) | (rw [if_neg (by decide +kernel)]; exact ⟨rfl, rfl⟩))
    (fun os started H enc _ => safeTells_lifted os started H enc)
end Go.Proofs.Yteekelelcbfekaa
