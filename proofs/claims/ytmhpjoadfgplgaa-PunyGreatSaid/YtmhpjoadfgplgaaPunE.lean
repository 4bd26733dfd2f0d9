/-
Rows that are the same; scalars. Conditions: none.
-/
import Derived.Test.YtmhpjoadfgplgaaPunD
set_option linter.unusedSimpArgs false
set_option linter.unusedVariables false
set_option linter.unusedSectionVars false
namespace Go.Proofs.Ytmhpjoadfgplgaa
open Go Go.Ab
def a19 : ACode :=
  (.seq (.reg [⟨(.some 4), (.mv (.k (.bool false))), .none⟩]) (.seq (.seq (.reg [⟨(.some 6), (.mv (.t 0)), .none⟩, ⟨(.some 7), (.len (.t 6)), .none⟩, ⟨(.some 8), (.mv (.t 1)), .none⟩, ⟨(.some 9), (.len
  (.t 8)), .none⟩, ⟨(.some 10), (.bin .neq (.t 7) (.t 9)), .none⟩]) (.cond (.t 10) (.seq (.reg [⟨(.some 4), (.mv (.k (.bool false))), .none⟩]) .ret) .skip)) (.seq (.seq (.reg [⟨(.some 11), (.mv (.t 0)),
  .none⟩, ⟨(.some 12), (.len (.t 11)), .none⟩, ⟨(.some 13), (.mv (.k (.int .i64 0))), .none⟩]) (.block 0 (.loop (.seq (.reg [⟨(.some 14), (.bin .lss (.t 13) (.t 12)), .none⟩]) (.seq (.cond (.t 14) .skip
  (.exit 0)) (.seq (.block 1 (.seq (.reg [⟨(.some 15), (.mv (.t 13)), .none⟩, ⟨(.some 5), (.mv (.t 15)), .none⟩]) (.seq (.dreg [⟨(.some 16), (.mv (.t 0)), .none⟩, ⟨(.some 17), (.mv (.t 5)), .none⟩,
  ⟨(.some 18), (.ia 21 (.t 16) (.t 17)), .none⟩, ⟨(.some 19), (.ld .none (.t 18)), .none⟩, ⟨(.some 20), (.mv (.t 1)), .none⟩, ⟨(.some 21), (.mv (.t 5)), .none⟩, ⟨(.some 22), (.ia 21 (.t 20) (.t 21)),
  .none⟩, ⟨(.some 23), (.ld .none (.t 22)), .none⟩, ⟨(.some 24), (.bin .neq (.t 19) (.t 23)), .none⟩]) (.cond (.t 24) (.seq (.reg [⟨(.some 4), (.mv (.k (.bool false))), .none⟩]) .ret) .skip)))) (.reg
  [⟨(.some 25), (.bin .add (.t 13) (.k (.int .i64 1))), .none⟩, ⟨(.some 13), (.mv (.t 25)), .none⟩]))))))) (.seq (.reg [⟨(.some 4), (.mv (.k (.bool true))), .none⟩]) .ret))))
theorem c19 : Try.f19.body.bind (cCode Try.prog 26) = some a19 := by kernel_rfl
theorem r19 : Try.f19.results.toList = [(.tmp 4)] := by kernel_rfl
theorem n19 : Try.f19.ntmps = 26 := by kernel_rfl
theorem e19 : Enters Try.prog 19 := enters_of Try.func19 (by kernel_rfl) (by kernel_rfl)
def a20 : ACode :=
  (.seq (.reg [⟨(.some 2), (.mv (.k (.slice .none 0 0))), .none⟩]) (.seq (.reg [⟨(.some 3), (.mv (.k (.slice .none 0 0))), .none⟩]) (.seq (.seq (.reg [⟨(.some 6), (.mv (.t 0)), .none⟩, ⟨(.some 7), (.len
  (.t 6)), .none⟩, ⟨(.some 8), (.mv (.k (.int .i64 0))), .none⟩]) (.block 0 (.loop (.seq (.reg [⟨(.some 9), (.bin .lss (.t 8) (.t 7)), .none⟩]) (.seq (.cond (.t 9) .skip (.exit 0)) (.seq (.block 1 (.seq
  (.reg [⟨(.some 10), (.ia 21 (.t 6) (.t 8)), .none⟩, ⟨(.some 11), (.ld .none (.t 10)), .none⟩, ⟨(.some 5), (.mv (.t 11)), .none⟩]) (.seq (.reg [⟨(.some 12), (.mv (.t 5)), .none⟩, ⟨(.some 13), (.bin
  .geq (.t 12) (.k (.int .i32 0))), .none⟩, ⟨(.some 14), (.mv (.t 13)), .none⟩, ⟨(.some 15), (.mv (.t 5)), (.some (14, true))⟩, ⟨(.some 16), (.bin .leq (.t 15) (.k (.int .i32 1114111))), (.some (14,
  true))⟩, ⟨(.some 17), (.pick (.t 14) (.t 16) (.k (.bool false))), .none⟩, ⟨(.some 18), (.mv (.t 17)), .none⟩, ⟨(.some 19), (.mv (.t 5)), (.some (18, true))⟩, ⟨(.some 20), (.bin .lss (.t 19) (.k (.int
  .i32 55296))), (.some (18, true))⟩, ⟨(.some 21), (.mv (.t 20)), (.some (18, true))⟩, ⟨(.some 22), (.mv (.t 5)), (.some (21, false))⟩, ⟨(.some 23), (.bin .gtr (.t 22) (.k (.int .i32 57343))), (.some
  (21, false))⟩, ⟨(.some 24), (.pick (.t 21) (.k (.bool true)) (.t 23)), (.some (18, true))⟩, ⟨(.some 25), (.pick (.t 18) (.t 24) (.k (.bool false))), .none⟩]) (.cond (.t 25) (.reg [⟨(.some 26), (.mv
  (.t 3)), .none⟩, ⟨(.some 27), (.mv (.t 5)), .none⟩, ⟨(.some 28), (.bs 21 1 [(.t 27)]), .none⟩, ⟨(.some 29), (.app 21 4 (.t 26) (.t 28)), .none⟩, ⟨(.some 3), (.mv (.t 29)), .none⟩]) .skip)))) (.reg
  [⟨(.some 30), (.bin .add (.t 8) (.k (.int .i64 1))), .none⟩, ⟨(.some 8), (.mv (.t 30)), .none⟩]))))))) (.seq (.reg [⟨(.some 31), (.mv (.t 3)), .none⟩, ⟨(.some 2), (.mv (.t 31)), .none⟩]) .ret))))
theorem c20 : Try.f20.body.bind (cCode Try.prog 32) = some a20 := by kernel_rfl
theorem r20 : Try.f20.results.toList = [(.tmp 2)] := by kernel_rfl
theorem n20 : Try.f20.ntmps = 32 := by kernel_rfl
theorem e20 : Enters Try.prog 20 := enters_of Try.func20 (by kernel_rfl) (by kernel_rfl)
def a43 : ACode :=
  (.seq (.reg [⟨(.some 2), (.mv (.k (.bool false))), .none⟩]) (.seq (.reg [⟨(.some 3), (.mv (.t 0)), .none⟩, ⟨(.some 4), (.bin .geq (.t 3) (.k (.int .i32 0))), .none⟩, ⟨(.some 5), (.mv (.t 4)), .none⟩,
  ⟨(.some 6), (.mv (.t 0)), (.some (5, true))⟩, ⟨(.some 7), (.bin .leq (.t 6) (.k (.int .i32 1114111))), (.some (5, true))⟩, ⟨(.some 8), (.pick (.t 5) (.t 7) (.k (.bool false))), .none⟩, ⟨(.some 9),
  (.mv (.t 8)), .none⟩, ⟨(.some 10), (.mv (.t 0)), (.some (9, true))⟩, ⟨(.some 11), (.bin .lss (.t 10) (.k (.int .i32 55296))), (.some (9, true))⟩, ⟨(.some 12), (.mv (.t 11)), (.some (9, true))⟩,
  ⟨(.some 13), (.mv (.t 0)), (.some (12, false))⟩, ⟨(.some 14), (.bin .gtr (.t 13) (.k (.int .i32 57343))), (.some (12, false))⟩, ⟨(.some 15), (.pick (.t 12) (.k (.bool true)) (.t 14)), (.some (9,
  true))⟩, ⟨(.some 16), (.pick (.t 9) (.t 15) (.k (.bool false))), .none⟩, ⟨(.some 2), (.mv (.t 16)), .none⟩]) .ret))
theorem c43 : Try.f43.body.bind (cCode Try.prog 17) = some a43 := by kernel_rfl
theorem r43 : Try.f43.results.toList = [(.tmp 2)] := by kernel_rfl
theorem n43 : Try.f43.ntmps = 17 := by kernel_rfl
theorem e43 : Enters Try.prog 43 := enters_of Try.func43 (by kernel_rfl) (by kernel_rfl)
def a36 : ACode :=
  (.seq (.reg [⟨(.some 2), (.mv (.k (.bool false))), .none⟩]) (.seq (.block 0 (.seq (.reg [⟨(.some 4), (.mv (.t 0)), .none⟩, ⟨(.some 5), (.bin .leq (.k (.int .i32 0)) (.t 4)), .none⟩, ⟨(.some 6), (.mv
  (.t 5)), .none⟩, ⟨(.some 7), (.mv (.t 0)), (.some (6, true))⟩, ⟨(.some 8), (.bin .lss (.t 7) (.k (.int .i32 55296))), (.some (6, true))⟩, ⟨(.some 9), (.pick (.t 6) (.t 8) (.k (.bool false))), .none⟩,
  ⟨(.some 3), (.mv (.t 9)), .none⟩]) (.cond (.t 3) (.seq (.reg [⟨(.some 2), (.mv (.k (.bool true))), .none⟩]) .ret) (.seq (.reg [⟨(.some 11), (.mv (.t 0)), .none⟩, ⟨(.some 12), (.bin .lss (.k (.int .i32
  57343)) (.t 11)), .none⟩, ⟨(.some 13), (.mv (.t 12)), .none⟩, ⟨(.some 14), (.mv (.t 0)), (.some (13, true))⟩, ⟨(.some 15), (.bin .leq (.t 14) (.k (.int .i32 1114111))), (.some (13, true))⟩, ⟨(.some
  16), (.pick (.t 13) (.t 15) (.k (.bool false))), .none⟩, ⟨(.some 10), (.mv (.t 16)), .none⟩]) (.cond (.t 10) (.seq (.reg [⟨(.some 2), (.mv (.k (.bool true))), .none⟩]) .ret) .skip))))) (.seq (.reg
  [⟨(.some 2), (.mv (.k (.bool false))), .none⟩]) .ret)))
theorem c36 : Try.f36.body.bind (cCode Try.prog 17) = some a36 := by kernel_rfl
theorem r36 : Try.f36.results.toList = [(.tmp 2)] := by kernel_rfl
theorem n36 : Try.f36.ntmps = 17 := by kernel_rfl
theorem e36 : Enters Try.prog 36 := enters_of Try.func36 (by kernel_rfl) (by kernel_rfl)

abbrev rS (l : List Int) (t : Option Nat) : AV := .sl 21 (runes l) t

theorem runes_at {l : List Int} {i : Nat} (h : i < l.length) : (runes l)[i]? = some [.int .i32 l[i]] := runes_get l i h

set_option maxRecDepth 10000 in
theorem Same_pure (a b : List Int) (ha : a.length ≤ 4611686018427387904) : Pure Try.prog 19 [rS a none, rS b none] [] (.lit (.bool (a == b))) := by
  refine pure0 Try.func19 c19 n19 e19 r19 (by simp) rfl ?_
  simp only [a19, astart, argSlots, runes_length, go_sem, Nat.reduceAdd, Nat.reduceEqDiff, Nat.reduceLT, reduceIte, reduceCtorEq, Nat.reduceBEq, Int.reduceLT, Int.reduceToNat, Int.reducePow, Nat.reduceLeDiff, Int.reduceLE, Nat.reduceMul, Nat.reduceSub]
  refine cGo_split (fun h => ?_) (fun h => ?_)
  · simp only [bne_iff_ne, ne_eq, Int.natCast_inj] at h
    simp only [go_sem, Nat.reduceAdd, Nat.reduceEqDiff, Nat.reduceLT, reduceIte, reduceCtorEq, Nat.reduceBEq, Int.reduceLT, Int.reduceToNat, Int.reducePow, Nat.reduceLeDiff, Int.reduceLE, Nat.reduceMul, Nat.reduceSub]
    simp only [Done, resAV, resL, resOne, look_nil, look_cons, Nat.reduceEqDiff, if_true, if_false, reduceIte, ite_true, ite_false, Nat.zero_ne_one, Nat.one_ne_zero, reduceCtorEq, true_or, or_true, true_and, Option.some.injEq, AV.lit.injEq, Value.int.injEq, Value.bool.injEq]
    rw [eq_comm, beq_eq_false_iff_ne]
    exact fun e => h (by rw [e])
  simp only [bne_eq_false_iff_eq, Int.natCast_inj] at h
  simp only [runes_length, go_sem, Nat.reduceAdd, Nat.reduceEqDiff, Nat.reduceLT, reduceIte, reduceCtorEq, Nat.reduceBEq, Int.reduceLT, Int.reduceToNat, Int.reducePow, Nat.reduceLeDiff, Int.reduceLE, Nat.reduceMul, Nat.reduceSub]
  refine loop_to a.length (fun i => ⟨[(0, some (rS a none)), (1, some (rS b none)), (12, some (.lit (.int .i64 (a.length : Int)))), (13, some (.lit (.int .i64 (i : Int))))], [], [], 0⟩)
    (fun i => ∀ j : Nat, j < i → a[j]? = b[j]?) (weak_forget ?_ (List.Sublist.refl _) (List.Sublist.refl _)) (fun j hj => by omega) ?_ ?_
  · simp only [go_sem, Nat.reduceAdd, Nat.reduceEqDiff, Nat.reduceLT, reduceIte, reduceCtorEq, Nat.reduceBEq, Int.reduceLT, Int.reduceToNat, Int.reducePow, Nat.reduceLeDiff, Int.reduceLE, Nat.reduceMul, Nat.reduceSub, slotsSub, Int.natCast_zero]
  · intro i hi hp
    have hib : i < b.length := by omega
    simp only [dec_lt hi, hi, hib, runes_at hi, runes_at hib, runes_length, go_sem, Nat.reduceAdd, Nat.reduceEqDiff, Nat.reduceLT, reduceIte, reduceCtorEq, Nat.reduceBEq, Int.reduceLT, Int.reduceToNat, Int.reducePow, Nat.reduceLeDiff, Int.reduceLE, Nat.reduceMul, Nat.reduceSub]
    refine cGo_split (fun h2 => ?_) (fun h2 => ?_)
    · simp only [bne_iff_ne, ne_eq] at h2
      simp only [go_sem, Nat.reduceAdd, Nat.reduceEqDiff, Nat.reduceLT, reduceIte, reduceCtorEq, Nat.reduceBEq, Int.reduceLT, Int.reduceToNat, Int.reducePow, Nat.reduceLeDiff, Int.reduceLE, Nat.reduceMul, Nat.reduceSub]
      simp only [Done, resAV, resL, resOne, look_nil, look_cons, Nat.reduceEqDiff, if_true, if_false, reduceIte, ite_true, ite_false, Nat.zero_ne_one, Nat.one_ne_zero, reduceCtorEq, true_or, or_true, true_and, Option.some.injEq, AV.lit.injEq, Value.int.injEq, Value.bool.injEq]
      rw [eq_comm, beq_eq_false_iff_ne]
      intro e
      subst e
      exact h2 rfl
    · simp only [bne_eq_false_iff_eq] at h2
      have w : IntKind.i64.wrap ((i : Int) + 1) = ((i + 1 : Nat) : Int) := by rw [wrap_i64 _ (by omega) (by omega)]; omega
      simp only [w, go_sem, Nat.reduceAdd, Nat.reduceEqDiff, Nat.reduceLT, reduceIte, reduceCtorEq, Nat.reduceBEq, Int.reduceLT, Int.reduceToNat, Int.reducePow, Nat.reduceLeDiff, Int.reduceLE, Nat.reduceMul, Nat.reduceSub]
      refine ⟨weak_forget ?_ (List.Sublist.refl _) (List.Sublist.refl _), ?_⟩
      · simp only [go_sem, Nat.reduceAdd, Nat.reduceEqDiff, Nat.reduceLT, reduceIte, reduceCtorEq, Nat.reduceBEq, Int.reduceLT, Int.reduceToNat, Int.reducePow, Nat.reduceLeDiff, Int.reduceLE, Nat.reduceMul, Nat.reduceSub, slotsSub]
      · intro j hj
        rcases Nat.lt_succ_iff_lt_or_eq.1 hj with hj | hj
        · exact hp j hj
        · subst hj; rw [List.getElem?_eq_getElem hi, List.getElem?_eq_getElem hib, h2]
  · intro hp
    simp only [dec_irr, go_sem, Nat.reduceAdd, Nat.reduceEqDiff, Nat.reduceLT, reduceIte, reduceCtorEq, Nat.reduceBEq, Int.reduceLT, Int.reduceToNat, Int.reducePow, Nat.reduceLeDiff, Int.reduceLE, Nat.reduceMul, Nat.reduceSub]
    simp only [Done, resAV, resL, resOne, look_nil, look_cons, Nat.reduceEqDiff, if_true, if_false, reduceIte, ite_true, ite_false, Nat.zero_ne_one, Nat.one_ne_zero, reduceCtorEq, true_or, or_true, true_and, Option.some.injEq, AV.lit.injEq, Value.int.injEq, Value.bool.injEq]
    rw [eq_comm, beq_iff_eq]
    refine List.ext_getElem? fun j => ?_
    rcases Nat.lt_or_ge j a.length with hj | hj
    · exact hp j hj
    · rw [List.getElem?_eq_none hj, List.getElem?_eq_none (by omega)]

/-- A code point that is a scalar. -/
def isSc (r : Int) : Bool := decide (0 ≤ r ∧ r ≤ 1114111 ∧ ¬ (55296 ≤ r ∧ r ≤ 57343))

set_option maxRecDepth 10000 in
theorem Scalar_pure (r : Int) : Pure Try.prog 43 [.lit (.int .i32 r)] [] (.lit (.bool (isSc r))) := by
  refine pure0 Try.func43 c43 n43 e43 r43 (by simp) rfl ?_
  by_cases h1 : r ≥ 0
  · by_cases h2 : r ≤ 1114111
    · by_cases h3 : r < 55296
      · have e : isSc r = true := by simp [isSc]; omega
        simp only [a43, astart, argSlots, h1, h2, h3, e, decide_true, go_sem, Nat.reduceAdd, Nat.reduceEqDiff, Nat.reduceLT, reduceIte, reduceCtorEq, Nat.reduceBEq, Int.reduceLT, Int.reduceToNat, Int.reducePow, Nat.reduceLeDiff, Int.reduceLE, Nat.reduceMul, Nat.reduceSub]
        simp only [Done, resAV, resL, resOne, look_nil, look_cons, Nat.reduceEqDiff, if_true, if_false, reduceIte, ite_true, ite_false, Nat.zero_ne_one, Nat.one_ne_zero, reduceCtorEq, true_or, or_true, true_and, Option.some.injEq, AV.lit.injEq, Value.int.injEq, Value.bool.injEq]
      · by_cases h4 : r > 57343
        · have e : isSc r = true := by simp [isSc]; omega
          simp only [a43, astart, argSlots, h1, h2, h3, h4, e, decide_true, decide_false, go_sem, Nat.reduceAdd, Nat.reduceEqDiff, Nat.reduceLT, reduceIte, reduceCtorEq, Nat.reduceBEq, Int.reduceLT, Int.reduceToNat, Int.reducePow, Nat.reduceLeDiff, Int.reduceLE, Nat.reduceMul, Nat.reduceSub]
          simp only [Done, resAV, resL, resOne, look_nil, look_cons, Nat.reduceEqDiff, if_true, if_false, reduceIte, ite_true, ite_false, Nat.zero_ne_one, Nat.one_ne_zero, reduceCtorEq, true_or, or_true, true_and, Option.some.injEq, AV.lit.injEq, Value.int.injEq, Value.bool.injEq]
        · have e : isSc r = false := by simp [isSc]; omega
          simp only [a43, astart, argSlots, h1, h2, h3, h4, e, decide_true, decide_false, go_sem, Nat.reduceAdd, Nat.reduceEqDiff, Nat.reduceLT, reduceIte, reduceCtorEq, Nat.reduceBEq, Int.reduceLT, Int.reduceToNat, Int.reducePow, Nat.reduceLeDiff, Int.reduceLE, Nat.reduceMul, Nat.reduceSub]
          simp only [Done, resAV, resL, resOne, look_nil, look_cons, Nat.reduceEqDiff, if_true, if_false, reduceIte, ite_true, ite_false, Nat.zero_ne_one, Nat.one_ne_zero, reduceCtorEq, true_or, or_true, true_and, Option.some.injEq, AV.lit.injEq, Value.int.injEq, Value.bool.injEq]
    · have e : isSc r = false := by simp [isSc]; omega
      simp only [a43, astart, argSlots, h1, h2, e, decide_true, decide_false, go_sem, Nat.reduceAdd, Nat.reduceEqDiff, Nat.reduceLT, reduceIte, reduceCtorEq, Nat.reduceBEq, Int.reduceLT, Int.reduceToNat, Int.reducePow, Nat.reduceLeDiff, Int.reduceLE, Nat.reduceMul, Nat.reduceSub]
      simp only [Done, resAV, resL, resOne, look_nil, look_cons, Nat.reduceEqDiff, if_true, if_false, reduceIte, ite_true, ite_false, Nat.zero_ne_one, Nat.one_ne_zero, reduceCtorEq, true_or, or_true, true_and, Option.some.injEq, AV.lit.injEq, Value.int.injEq, Value.bool.injEq]
  · have e : isSc r = false := by simp [isSc]; omega
    simp only [a43, astart, argSlots, h1, e, decide_true, decide_false, go_sem, Nat.reduceAdd, Nat.reduceEqDiff, Nat.reduceLT, reduceIte, reduceCtorEq, Nat.reduceBEq, Int.reduceLT, Int.reduceToNat, Int.reducePow, Nat.reduceLeDiff, Int.reduceLE, Nat.reduceMul, Nat.reduceSub]
    simp only [Done, resAV, resL, resOne, look_nil, look_cons, Nat.reduceEqDiff, if_true, if_false, reduceIte, ite_true, ite_false, Nat.zero_ne_one, Nat.one_ne_zero, reduceCtorEq, true_or, or_true, true_and, Option.some.injEq, AV.lit.injEq, Value.int.injEq, Value.bool.injEq]

set_option maxRecDepth 10000 in
theorem Valid_pure (r : Int) : Pure Try.prog 36 [.lit (.int .i32 r)] [] (.lit (.bool (isSc r))) := by
  refine pure0 Try.func36 c36 n36 e36 r36 (by simp) rfl ?_
  by_cases h1 : 0 ≤ r
  · by_cases h3 : r < 55296
    · have e : isSc r = true := by simp [isSc]; omega
      simp only [a36, astart, argSlots, h1, h3, e, decide_true, go_sem, Nat.reduceAdd, Nat.reduceEqDiff, Nat.reduceLT, reduceIte, reduceCtorEq, Nat.reduceBEq, Int.reduceLT, Int.reduceToNat, Int.reducePow, Nat.reduceLeDiff, Int.reduceLE, Nat.reduceMul, Nat.reduceSub]
      simp only [Done, resAV, resL, resOne, look_nil, look_cons, Nat.reduceEqDiff, if_true, if_false, reduceIte, ite_true, ite_false, Nat.zero_ne_one, Nat.one_ne_zero, reduceCtorEq, true_or, or_true, true_and, Option.some.injEq, AV.lit.injEq, Value.int.injEq, Value.bool.injEq]
    · by_cases h4 : 57343 < r
      · by_cases h2 : r ≤ 1114111
        · have e : isSc r = true := by simp [isSc]; omega
          simp only [a36, astart, argSlots, h1, h2, h3, h4, e, decide_true, decide_false, go_sem, Nat.reduceAdd, Nat.reduceEqDiff, Nat.reduceLT, reduceIte, reduceCtorEq, Nat.reduceBEq, Int.reduceLT, Int.reduceToNat, Int.reducePow, Nat.reduceLeDiff, Int.reduceLE, Nat.reduceMul, Nat.reduceSub]
          simp only [Done, resAV, resL, resOne, look_nil, look_cons, Nat.reduceEqDiff, if_true, if_false, reduceIte, ite_true, ite_false, Nat.zero_ne_one, Nat.one_ne_zero, reduceCtorEq, true_or, or_true, true_and, Option.some.injEq, AV.lit.injEq, Value.int.injEq, Value.bool.injEq]
        · have e : isSc r = false := by simp [isSc]; omega
          simp only [a36, astart, argSlots, h1, h2, h3, h4, e, decide_true, decide_false, go_sem, Nat.reduceAdd, Nat.reduceEqDiff, Nat.reduceLT, reduceIte, reduceCtorEq, Nat.reduceBEq, Int.reduceLT, Int.reduceToNat, Int.reducePow, Nat.reduceLeDiff, Int.reduceLE, Nat.reduceMul, Nat.reduceSub]
          simp only [Done, resAV, resL, resOne, look_nil, look_cons, Nat.reduceEqDiff, if_true, if_false, reduceIte, ite_true, ite_false, Nat.zero_ne_one, Nat.one_ne_zero, reduceCtorEq, true_or, or_true, true_and, Option.some.injEq, AV.lit.injEq, Value.int.injEq, Value.bool.injEq]
      · have e : isSc r = false := by simp [isSc]; omega
        simp only [a36, astart, argSlots, h1, h3, h4, e, decide_true, decide_false, go_sem, Nat.reduceAdd, Nat.reduceEqDiff, Nat.reduceLT, reduceIte, reduceCtorEq, Nat.reduceBEq, Int.reduceLT, Int.reduceToNat, Int.reducePow, Nat.reduceLeDiff, Int.reduceLE, Nat.reduceMul, Nat.reduceSub]
        simp only [Done, resAV, resL, resOne, look_nil, look_cons, Nat.reduceEqDiff, if_true, if_false, reduceIte, ite_true, ite_false, Nat.zero_ne_one, Nat.one_ne_zero, reduceCtorEq, true_or, or_true, true_and, Option.some.injEq, AV.lit.injEq, Value.int.injEq, Value.bool.injEq]
  · have h4 : ¬ 57343 < r := by omega
    have e : isSc r = false := by simp [isSc]; omega
    simp only [a36, astart, argSlots, h1, h4, e, decide_true, decide_false, go_sem, Nat.reduceAdd, Nat.reduceEqDiff, Nat.reduceLT, reduceIte, reduceCtorEq, Nat.reduceBEq, Int.reduceLT, Int.reduceToNat, Int.reducePow, Nat.reduceLeDiff, Int.reduceLE, Nat.reduceMul, Nat.reduceSub]
    simp only [Done, resAV, resL, resOne, look_nil, look_cons, Nat.reduceEqDiff, if_true, if_false, reduceIte, ite_true, ite_false, Nat.zero_ne_one, Nat.one_ne_zero, reduceCtorEq, true_or, or_true, true_and, Option.some.injEq, AV.lit.injEq, Value.int.injEq, Value.bool.injEq]
end Go.Proofs.Ytmhpjoadfgplgaa
