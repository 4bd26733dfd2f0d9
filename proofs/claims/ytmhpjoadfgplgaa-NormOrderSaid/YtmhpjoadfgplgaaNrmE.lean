/-
What the statements share: rows that are the same, and the chapter's examples. Conditions: none.
-/
import Derived.Test.YtmhpjoadfgplgaaNrmH
set_option linter.unusedSimpArgs false
set_option linter.unusedVariables false
set_option linter.unusedSectionVars false
namespace Go.Proofs.Ytmhpjoadfgplgaa
open Go Go.Ab
def a19 : ACode :=
  (.seq (.reg [⟨(.some 4), (.mv (.k (.bool false))), .none⟩]) (.seq (.seq (.reg [⟨(.some 6), (.mv (.t 0)), .none⟩, ⟨(.some 7), (.len (.t 6)), .none⟩, ⟨(.some 8), (.mv (.t 1)), .none⟩, ⟨(.some 9), (.len
  (.t 8)), .none⟩, ⟨(.some 10), (.bin .neq (.t 7) (.t 9)), .none⟩]) (.cond (.t 10) (.seq (.reg [⟨(.some 4), (.mv (.k (.bool false))), .none⟩]) .ret) .skip)) (.seq (.seq (.reg [⟨(.some 11), (.mv (.t 0)),
  .none⟩, ⟨(.some 12), (.len (.t 11)), .none⟩, ⟨(.some 13), (.mv (.k (.int .i64 0))), .none⟩]) (.block 0 (.loop (.seq (.reg [⟨(.some 14), (.bin .lss (.t 13) (.t 12)), .none⟩]) (.seq (.cond (.t 14) .skip
  (.exit 0)) (.seq (.block 1 (.seq (.reg [⟨(.some 15), (.mv (.t 13)), .none⟩, ⟨(.some 5), (.mv (.t 15)), .none⟩]) (.seq (.dreg [⟨(.some 16), (.mv (.t 0)), .none⟩, ⟨(.some 17), (.mv (.t 5)), .none⟩,
  ⟨(.some 18), (.ia 21 (.t 16) (.t 17)), .none⟩, ⟨(.some 19), (.ld .none (.t 18)), .none⟩, ⟨(.some 20), (.mv (.t 1)), .none⟩, ⟨(.some 21), (.mv (.t 5)), .none⟩, ⟨(.some 22), (.ia 21 (.t 20) (.t 21)),
  .none⟩, ⟨(.some 23), (.ld .none (.t 22)), .none⟩, ⟨(.some 24), (.bin .neq (.t 19) (.t 23)), .none⟩]) (.cond (.t 24) (.seq (.reg [⟨(.some 4), (.mv (.k (.bool false))), .none⟩]) .ret) .skip)))) (.reg
  [⟨(.some 25), (.bin .add (.t 13) (.k (.int .i64 1))), .none⟩, ⟨(.some 13), (.mv (.t 25)), .none⟩]))))))) (.seq (.reg [⟨(.some 4), (.mv (.k (.bool true))), .none⟩]) .ret))))
theorem c19 : Try.f19.body.bind (cCode Try.prog 26) = some a19 := by kernel_rfl
theorem r19 : Try.f19.results.toList = [(.tmp 4)] := by kernel_rfl
theorem n19 : Try.f19.ntmps = 26 := by kernel_rfl
theorem e19 : Enters Try.prog 19 := enters_of Try.func19 (by kernel_rfl) (by kernel_rfl)
def a34 : ACode :=
  (.seq (.reg [⟨(.some 2), (.mv (.k (.bool false))), .none⟩]) (.seq (.reg [⟨(.some 3), (.mv (.t 0)), .none⟩, ⟨(.some 4), (.call (.f 28) [(.t 3)]), .none⟩, ⟨(.some 5), (.mv (.t 0)), .none⟩, ⟨(.some 6),
  (.call (.f 71) [(.t 4), (.t 5)]), .none⟩, ⟨(.some 2), (.mv (.t 6)), .none⟩]) .ret))
theorem c34 : Try.f34.body.bind (cCode Try.prog 7) = some a34 := by kernel_rfl
theorem r34 : Try.f34.results.toList = [(.tmp 2)] := by kernel_rfl
theorem n34 : Try.f34.ntmps = 7 := by kernel_rfl
theorem e34 : Enters Try.prog 34 := enters_of Try.func34 (by kernel_rfl) (by kernel_rfl)
def a71 : ACode :=
  (.seq (.reg [⟨(.some 4), (.mv (.k (.bool false))), .none⟩]) (.seq (.seq (.reg [⟨(.some 6), (.mv (.t 0)), .none⟩, ⟨(.some 7), (.len (.t 6)), .none⟩, ⟨(.some 8), (.mv (.t 1)), .none⟩, ⟨(.some 9), (.len
  (.t 8)), .none⟩, ⟨(.some 10), (.bin .neq (.t 7) (.t 9)), .none⟩]) (.cond (.t 10) (.seq (.reg [⟨(.some 4), (.mv (.k (.bool false))), .none⟩]) .ret) .skip)) (.seq (.seq (.reg [⟨(.some 11), (.mv (.t 0)),
  .none⟩, ⟨(.some 12), (.len (.t 11)), .none⟩, ⟨(.some 13), (.mv (.k (.int .i64 0))), .none⟩]) (.block 0 (.loop (.seq (.reg [⟨(.some 14), (.bin .lss (.t 13) (.t 12)), .none⟩]) (.seq (.cond (.t 14) .skip
  (.exit 0)) (.seq (.block 1 (.seq (.reg [⟨(.some 15), (.mv (.t 13)), .none⟩, ⟨(.some 5), (.mv (.t 15)), .none⟩]) (.seq (.dreg [⟨(.some 16), (.mv (.t 0)), .none⟩, ⟨(.some 17), (.mv (.t 5)), .none⟩,
  ⟨(.some 18), (.ia 21 (.t 16) (.t 17)), .none⟩, ⟨(.some 19), (.ld .none (.t 18)), .none⟩, ⟨(.some 20), (.mv (.t 1)), .none⟩, ⟨(.some 21), (.mv (.t 5)), .none⟩, ⟨(.some 22), (.ia 21 (.t 20) (.t 21)),
  .none⟩, ⟨(.some 23), (.ld .none (.t 22)), .none⟩, ⟨(.some 24), (.bin .neq (.t 19) (.t 23)), .none⟩]) (.cond (.t 24) (.seq (.reg [⟨(.some 4), (.mv (.k (.bool false))), .none⟩]) .ret) .skip)))) (.reg
  [⟨(.some 25), (.bin .add (.t 13) (.k (.int .i64 1))), .none⟩, ⟨(.some 13), (.mv (.t 25)), .none⟩]))))))) (.seq (.reg [⟨(.some 4), (.mv (.k (.bool true))), .none⟩]) .ret))))
theorem c71 : Try.f71.body.bind (cCode Try.prog 26) = some a71 := by kernel_rfl
theorem r71 : Try.f71.results.toList = [(.tmp 4)] := by kernel_rfl
theorem n71 : Try.f71.ntmps = 26 := by kernel_rfl
theorem e71 : Enters Try.prog 71 := enters_of Try.func71 (by kernel_rfl) (by kernel_rfl)
def a57 : ACode :=
  (.seq (.reg [⟨(.some 2), (.mv (.k (.slice .none 0 0))), .none⟩]) (.seq (.reg [⟨(.some 3), (.mv (.t 0)), .none⟩, ⟨(.some 2), (.mv (.t 3)), .none⟩]) .ret))
theorem c57 : Try.f57.body.bind (cCode Try.prog 4) = some a57 := by kernel_rfl
theorem r57 : Try.f57.results.toList = [(.tmp 2)] := by kernel_rfl
theorem n57 : Try.f57.ntmps = 4 := by kernel_rfl
theorem e57 : Enters Try.prog 57 := enters_of Try.func57 (by kernel_rfl) (by kernel_rfl)
def a24 : ACode :=
  (.seq (.reg [⟨(.some 0), (.mv (.k (.bool false))), .none⟩]) (.seq (.reg [⟨(.some 5), (.call (.f 29) [(.k (.int .i32 117)), (.k (.int .i32 776))]), .none⟩, ⟨(.some 4), (.mv (.t 5)), .none⟩, ⟨(.some 6),
  (.ext (.t 4) 0), .none⟩, ⟨(.some 7), (.ext (.t 4) 1), .none⟩, ⟨(.some 1), (.mv (.t 6)), .none⟩, ⟨(.some 2), (.mv (.t 7)), .none⟩]) (.seq (.reg [⟨(.some 3), (.mv (.f 19)), .none⟩]) (.seq (.reg [⟨(.some
  8), (.mv (.t 3)), .none⟩, ⟨(.some 9), (.call (.f 26) [(.k (.int .i32 472))]), .none⟩, ⟨(.some 10), (.bs 21 1 [(.k (.int .i32 117)), (.k (.int .i32 776)), (.k (.int .i32 769))]), .none⟩, ⟨(.some 11),
  (.call (.f 57) [(.t 10)]), .none⟩, ⟨(.some 12), (.call (.t 8) [(.t 9), (.t 11)]), .none⟩, ⟨(.some 13), (.mv (.t 12)), .none⟩, ⟨(.some 14), (.mv (.t 2)), (.some (13, true))⟩, ⟨(.some 15), (.pick (.t
  13) (.t 14) (.k (.bool false))), .none⟩, ⟨(.some 16), (.mv (.t 15)), .none⟩, ⟨(.some 17), (.mv (.t 1)), (.some (16, true))⟩, ⟨(.some 18), (.bin .eql (.t 17) (.k (.int .i32 252))), (.some (16, true))⟩,
  ⟨(.some 19), (.pick (.t 16) (.t 18) (.k (.bool false))), .none⟩, ⟨(.some 20), (.mv (.t 19)), .none⟩, ⟨(.some 21), (.mv (.t 3)), (.some (20, true))⟩, ⟨(.some 22), (.bs 21 1 [(.k (.int .i32 233)), (.k
  (.int .i32 803))]), (.some (20, true))⟩, ⟨(.some 23), (.call (.f 57) [(.t 22)]), (.some (20, true))⟩, ⟨(.some 24), (.call (.f 25) [(.t 23)]), (.some (20, true))⟩, ⟨(.some 25), (.bs 21 1 [(.k (.int
  .i32 101)), (.k (.int .i32 803)), (.k (.int .i32 769))]), (.some (20, true))⟩, ⟨(.some 26), (.call (.f 57) [(.t 25)]), (.some (20, true))⟩, ⟨(.some 27), (.call (.t 21) [(.t 24), (.t 26)]), (.some (20,
  true))⟩, ⟨(.some 28), (.pick (.t 20) (.t 27) (.k (.bool false))), .none⟩, ⟨(.some 29), (.mv (.t 28)), .none⟩, ⟨(.some 30), (.mv (.t 3)), (.some (29, true))⟩, ⟨(.some 31), (.bs 21 1 [(.k (.int .i32
  101)), (.k (.int .i32 769)), (.k (.int .i32 803))]), (.some (29, true))⟩, ⟨(.some 32), (.call (.f 57) [(.t 31)]), (.some (29, true))⟩, ⟨(.some 33), (.call (.f 28) [(.t 32)]), (.some (29, true))⟩,
  ⟨(.some 34), (.bs 21 1 [(.k (.int .i32 233)), (.k (.int .i32 803))]), (.some (29, true))⟩, ⟨(.some 35), (.call (.f 57) [(.t 34)]), (.some (29, true))⟩, ⟨(.some 36), (.call (.t 30) [(.t 33), (.t 35)]),
  (.some (29, true))⟩, ⟨(.some 37), (.pick (.t 29) (.t 36) (.k (.bool false))), .none⟩, ⟨(.some 38), (.mv (.t 37)), .none⟩, ⟨(.some 39), (.mv (.t 3)), (.some (38, true))⟩, ⟨(.some 40), (.bs 21 1 [(.k
  (.int .i32 4352)), (.k (.int .i32 4449)), (.k (.int .i32 4520))]), (.some (38, true))⟩, ⟨(.some 41), (.call (.f 57) [(.t 40)]), (.some (38, true))⟩, ⟨(.some 42), (.call (.f 28) [(.t 41)]), (.some (38,
  true))⟩, ⟨(.some 43), (.bs 21 1 [(.k (.int .i32 44033))]), (.some (38, true))⟩, ⟨(.some 44), (.call (.f 57) [(.t 43)]), (.some (38, true))⟩, ⟨(.some 45), (.call (.t 39) [(.t 42), (.t 44)]), (.some
  (38, true))⟩, ⟨(.some 46), (.pick (.t 38) (.t 45) (.k (.bool false))), .none⟩, ⟨(.some 47), (.mv (.t 46)), .none⟩, ⟨(.some 48), (.mv (.t 3)), (.some (47, true))⟩, ⟨(.some 49), (.bs 21 1 [(.k (.int
  .i32 9001))]), (.some (47, true))⟩, ⟨(.some 50), (.call (.f 57) [(.t 49)]), (.some (47, true))⟩, ⟨(.some 51), (.call (.f 28) [(.t 50)]), (.some (47, true))⟩, ⟨(.some 52), (.bs 21 1 [(.k (.int .i32
  12296))]), (.some (47, true))⟩, ⟨(.some 53), (.call (.f 57) [(.t 52)]), (.some (47, true))⟩, ⟨(.some 54), (.call (.t 48) [(.t 51), (.t 53)]), (.some (47, true))⟩, ⟨(.some 55), (.pick (.t 47) (.t 54)
  (.k (.bool false))), .none⟩, ⟨(.some 56), (.mv (.t 55)), .none⟩, ⟨(.some 57), (.mv (.t 3)), (.some (56, true))⟩, ⟨(.some 58), (.bs 21 1 [(.k (.int .i32 0))]), (.some (56, true))⟩, ⟨(.some 59), (.call
  (.f 57) [(.t 58)]), (.some (56, true))⟩, ⟨(.some 60), (.call (.f 28) [(.t 59)]), (.some (56, true))⟩, ⟨(.some 61), (.bs 21 1 [(.k (.int .i32 0))]), (.some (56, true))⟩, ⟨(.some 62), (.call (.f 57)
  [(.t 61)]), (.some (56, true))⟩, ⟨(.some 63), (.call (.t 57) [(.t 60), (.t 62)]), (.some (56, true))⟩, ⟨(.some 64), (.pick (.t 56) (.t 63) (.k (.bool false))), .none⟩, ⟨(.some 0), (.mv (.t 64)),
  .none⟩]) .ret))))
theorem c24 : Try.f24.body.bind (cCode Try.prog 65) = some a24 := by kernel_rfl
theorem r24 : Try.f24.results.toList = [(.tmp 0)] := by kernel_rfl
theorem n24 : Try.f24.ntmps = 65 := by kernel_rfl
theorem e24 : Enters Try.prog 24 := enters_of Try.func24 (by kernel_rfl) (by kernel_rfl)

set_option maxRecDepth 10000 in
theorem Same_pure (a b : List Int) (ha : a.length ≤ 4611686018427387904) : Pure Try.prog 19 [rS a none, rS b none] [] (.lit (.bool (a == b))) := by
  refine pure0 Try.func19 c19 n19 e19 r19 (by simp) rfl ?_
  simp only [a19, astart, argSlots, runes_length, go_sem, Nat.reduceAdd, Nat.reduceEqDiff, Nat.reduceLT, reduceIte, reduceCtorEq, Nat.reduceBEq, Int.reduceLT, Int.reduceToNat, Int.reducePow, Nat.reduceLeDiff, Int.reduceLE, Nat.reduceMul, Nat.reduceSub]
  refine cGo_split (fun h => ?_) (fun h => ?_)
  · simp only [bne_iff_ne, ne_eq, Int.natCast_inj] at h
    simp only [go_sem, Nat.reduceAdd, Nat.reduceEqDiff, Nat.reduceLT, reduceIte, reduceCtorEq, Nat.reduceBEq, Int.reduceLT, Int.reduceToNat, Int.reducePow, Nat.reduceLeDiff, Int.reduceLE, Nat.reduceMul, Nat.reduceSub]
    simp only [Done, resAV, resL, resOne, look_nil, look_cons, Nat.reduceEqDiff, if_true, if_false, reduceIte, ite_true, ite_false, Nat.zero_ne_one, Nat.one_ne_zero, reduceCtorEq, true_or, or_true, true_and, Option.some.injEq, AV.lit.injEq, Value.int.injEq, Value.bool.injEq]
    rw [eq_comm, beq_eq_false_iff_ne]
    exact fun e => h (by rw [e])
  simp only [bne_eq_false_iff_eq, Int.natCast_inj] at h
  simp only [runes_length, go_sem, Nat.reduceAdd, Nat.reduceEqDiff, Nat.reduceLT, reduceIte, reduceCtorEq, Nat.reduceBEq, Int.reduceLT, Int.reduceToNat, Int.reducePow, Nat.reduceLeDiff, Int.reduceLE, Nat.reduceMul, Nat.reduceSub]
  refine loop_to a.length (fun i => ⟨[(0, some (rS a none)), (1, some (rS b none)), (12, some (.lit (.int .i64 (a.length : Int)))), (13, some (.lit (.int .i64 (i : Int))))], [], [], 0⟩)
    (fun i => ∀ j : Nat, j < i → a[j]? = b[j]?) (weak_forget ?_ (List.Sublist.refl _) (List.Sublist.refl _)) (fun j hj => by omega) ?_ ?_
  · simp only [go_sem, Nat.reduceAdd, Nat.reduceEqDiff, Nat.reduceLT, reduceIte, reduceCtorEq, Nat.reduceBEq, Int.reduceLT, Int.reduceToNat, Int.reducePow, Nat.reduceLeDiff, Int.reduceLE, Nat.reduceMul, Nat.reduceSub, slotsSub, Int.natCast_zero]
  · intro i hi hp
    have hib : i < b.length := by omega
    simp only [dec_lt hi, hi, hib, runes_at hi, runes_at hib, runes_length, go_sem, Nat.reduceAdd, Nat.reduceEqDiff, Nat.reduceLT, reduceIte, reduceCtorEq, Nat.reduceBEq, Int.reduceLT, Int.reduceToNat, Int.reducePow, Nat.reduceLeDiff, Int.reduceLE, Nat.reduceMul, Nat.reduceSub]
    refine cGo_split (fun h2 => ?_) (fun h2 => ?_)
    · simp only [bne_iff_ne, ne_eq] at h2
      simp only [go_sem, Nat.reduceAdd, Nat.reduceEqDiff, Nat.reduceLT, reduceIte, reduceCtorEq, Nat.reduceBEq, Int.reduceLT, Int.reduceToNat, Int.reducePow, Nat.reduceLeDiff, Int.reduceLE, Nat.reduceMul, Nat.reduceSub]
      simp only [Done, resAV, resL, resOne, look_nil, look_cons, Nat.reduceEqDiff, if_true, if_false, reduceIte, ite_true, ite_false, Nat.zero_ne_one, Nat.one_ne_zero, reduceCtorEq, true_or, or_true, true_and, Option.some.injEq, AV.lit.injEq, Value.int.injEq, Value.bool.injEq]
      rw [eq_comm, beq_eq_false_iff_ne]
      intro e
      subst e
      exact h2 rfl
    · simp only [bne_eq_false_iff_eq] at h2
      have w : IntKind.i64.wrap ((i : Int) + 1) = ((i + 1 : Nat) : Int) := by rw [wrap_i64 _ (by omega) (by omega)]; omega
      simp only [w, go_sem, Nat.reduceAdd, Nat.reduceEqDiff, Nat.reduceLT, reduceIte, reduceCtorEq, Nat.reduceBEq, Int.reduceLT, Int.reduceToNat, Int.reducePow, Nat.reduceLeDiff, Int.reduceLE, Nat.reduceMul, Nat.reduceSub]
      refine ⟨weak_forget ?_ (List.Sublist.refl _) (List.Sublist.refl _), ?_⟩
      · simp only [go_sem, Nat.reduceAdd, Nat.reduceEqDiff, Nat.reduceLT, reduceIte, reduceCtorEq, Nat.reduceBEq, Int.reduceLT, Int.reduceToNat, Int.reducePow, Nat.reduceLeDiff, Int.reduceLE, Nat.reduceMul, Nat.reduceSub, slotsSub]
      · intro j hj
        rcases Nat.lt_succ_iff_lt_or_eq.1 hj with hj | hj
        · exact hp j hj
        · subst hj; rw [List.getElem?_eq_getElem hi, List.getElem?_eq_getElem hib, h2]
  · intro hp
    simp only [dec_irr, go_sem, Nat.reduceAdd, Nat.reduceEqDiff, Nat.reduceLT, reduceIte, reduceCtorEq, Nat.reduceBEq, Int.reduceLT, Int.reduceToNat, Int.reducePow, Nat.reduceLeDiff, Int.reduceLE, Nat.reduceMul, Nat.reduceSub]
    simp only [Done, resAV, resL, resOne, look_nil, look_cons, Nat.reduceEqDiff, if_true, if_false, reduceIte, ite_true, ite_false, Nat.zero_ne_one, Nat.one_ne_zero, reduceCtorEq, true_or, or_true, true_and, Option.some.injEq, AV.lit.injEq, Value.int.injEq, Value.bool.injEq]
    rw [eq_comm, beq_iff_eq]
    refine List.ext_getElem? fun j => ?_
    rcases Nat.lt_or_ge j a.length with hj | hj
    · exact hp j hj
    · rw [List.getElem?_eq_none hj, List.getElem?_eq_none (by omega)]

set_option maxRecDepth 10000 in
theorem Equal_pure (a b : List Int) (ha : a.length ≤ 4611686018427387904) : Pure Try.prog 71 [rS a none, rS b none] [] (.lit (.bool (a == b))) := by
  refine pure0 Try.func71 c71 n71 e71 r71 (by simp) rfl ?_
  simp only [a71, astart, argSlots, runes_length, go_sem, Nat.reduceAdd, Nat.reduceEqDiff, Nat.reduceLT, reduceIte, reduceCtorEq, Nat.reduceBEq, Int.reduceLT, Int.reduceToNat, Int.reducePow, Nat.reduceLeDiff, Int.reduceLE, Nat.reduceMul, Nat.reduceSub]
  refine cGo_split (fun h => ?_) (fun h => ?_)
  · simp only [bne_iff_ne, ne_eq, Int.natCast_inj] at h
    simp only [go_sem, Nat.reduceAdd, Nat.reduceEqDiff, Nat.reduceLT, reduceIte, reduceCtorEq, Nat.reduceBEq, Int.reduceLT, Int.reduceToNat, Int.reducePow, Nat.reduceLeDiff, Int.reduceLE, Nat.reduceMul, Nat.reduceSub]
    simp only [Done, resAV, resL, resOne, look_nil, look_cons, Nat.reduceEqDiff, if_true, if_false, reduceIte, ite_true, ite_false, Nat.zero_ne_one, Nat.one_ne_zero, reduceCtorEq, true_or, or_true, true_and, Option.some.injEq, AV.lit.injEq, Value.int.injEq, Value.bool.injEq]
    rw [eq_comm, beq_eq_false_iff_ne]
    exact fun e => h (by rw [e])
  simp only [bne_eq_false_iff_eq, Int.natCast_inj] at h
  simp only [runes_length, go_sem, Nat.reduceAdd, Nat.reduceEqDiff, Nat.reduceLT, reduceIte, reduceCtorEq, Nat.reduceBEq, Int.reduceLT, Int.reduceToNat, Int.reducePow, Nat.reduceLeDiff, Int.reduceLE, Nat.reduceMul, Nat.reduceSub]
  refine loop_to a.length (fun i => ⟨[(0, some (rS a none)), (1, some (rS b none)), (12, some (.lit (.int .i64 (a.length : Int)))), (13, some (.lit (.int .i64 (i : Int))))], [], [], 0⟩)
    (fun i => ∀ j : Nat, j < i → a[j]? = b[j]?) (weak_forget ?_ (List.Sublist.refl _) (List.Sublist.refl _)) (fun j hj => by omega) ?_ ?_
  · simp only [go_sem, Nat.reduceAdd, Nat.reduceEqDiff, Nat.reduceLT, reduceIte, reduceCtorEq, Nat.reduceBEq, Int.reduceLT, Int.reduceToNat, Int.reducePow, Nat.reduceLeDiff, Int.reduceLE, Nat.reduceMul, Nat.reduceSub, slotsSub, Int.natCast_zero]
  · intro i hi hp
    have hib : i < b.length := by omega
    simp only [dec_lt hi, hi, hib, runes_at hi, runes_at hib, runes_length, go_sem, Nat.reduceAdd, Nat.reduceEqDiff, Nat.reduceLT, reduceIte, reduceCtorEq, Nat.reduceBEq, Int.reduceLT, Int.reduceToNat, Int.reducePow, Nat.reduceLeDiff, Int.reduceLE, Nat.reduceMul, Nat.reduceSub]
    refine cGo_split (fun h2 => ?_) (fun h2 => ?_)
    · simp only [bne_iff_ne, ne_eq] at h2
      simp only [go_sem, Nat.reduceAdd, Nat.reduceEqDiff, Nat.reduceLT, reduceIte, reduceCtorEq, Nat.reduceBEq, Int.reduceLT, Int.reduceToNat, Int.reducePow, Nat.reduceLeDiff, Int.reduceLE, Nat.reduceMul, Nat.reduceSub]
      simp only [Done, resAV, resL, resOne, look_nil, look_cons, Nat.reduceEqDiff, if_true, if_false, reduceIte, ite_true, ite_false, Nat.zero_ne_one, Nat.one_ne_zero, reduceCtorEq, true_or, or_true, true_and, Option.some.injEq, AV.lit.injEq, Value.int.injEq, Value.bool.injEq]
      rw [eq_comm, beq_eq_false_iff_ne]
      intro e
      subst e
      exact h2 rfl
    · simp only [bne_eq_false_iff_eq] at h2
      have w : IntKind.i64.wrap ((i : Int) + 1) = ((i + 1 : Nat) : Int) := by rw [wrap_i64 _ (by omega) (by omega)]; omega
      simp only [w, go_sem, Nat.reduceAdd, Nat.reduceEqDiff, Nat.reduceLT, reduceIte, reduceCtorEq, Nat.reduceBEq, Int.reduceLT, Int.reduceToNat, Int.reducePow, Nat.reduceLeDiff, Int.reduceLE, Nat.reduceMul, Nat.reduceSub]
      refine ⟨weak_forget ?_ (List.Sublist.refl _) (List.Sublist.refl _), ?_⟩
      · simp only [go_sem, Nat.reduceAdd, Nat.reduceEqDiff, Nat.reduceLT, reduceIte, reduceCtorEq, Nat.reduceBEq, Int.reduceLT, Int.reduceToNat, Int.reducePow, Nat.reduceLeDiff, Int.reduceLE, Nat.reduceMul, Nat.reduceSub, slotsSub]
      · intro j hj
        rcases Nat.lt_succ_iff_lt_or_eq.1 hj with hj | hj
        · exact hp j hj
        · subst hj; rw [List.getElem?_eq_getElem hi, List.getElem?_eq_getElem hib, h2]
  · intro hp
    simp only [dec_irr, go_sem, Nat.reduceAdd, Nat.reduceEqDiff, Nat.reduceLT, reduceIte, reduceCtorEq, Nat.reduceBEq, Int.reduceLT, Int.reduceToNat, Int.reducePow, Nat.reduceLeDiff, Int.reduceLE, Nat.reduceMul, Nat.reduceSub]
    simp only [Done, resAV, resL, resOne, look_nil, look_cons, Nat.reduceEqDiff, if_true, if_false, reduceIte, ite_true, ite_false, Nat.zero_ne_one, Nat.one_ne_zero, reduceCtorEq, true_or, or_true, true_and, Option.some.injEq, AV.lit.injEq, Value.int.injEq, Value.bool.injEq]
    rw [eq_comm, beq_iff_eq]
    refine List.ext_getElem? fun j => ?_
    rcases Nat.lt_or_ge j a.length with hj | hj
    · exact hp j hj
    · rw [List.getElem?_eq_none hj, List.getElem?_eq_none (by omega)]

set_option maxRecDepth 10000 in
theorem Is_pure (l : List Int) (hl : l.length ≤ 1000) (h32 : I32 l) : Pure Try.prog 34 [rS l none] [] (.lit (.bool (nfcP T cls l == l))) := by
  refine pure0 Try.func34 c34 n34 e34 r34 (by simp) rfl ?_
  simp only [a34, astart, argSlots, go_sem, Nat.reduceAdd, Nat.reduceEqDiff, Nat.reduceLT, reduceIte, reduceCtorEq, Nat.reduceBEq, Int.reduceLT, Int.reduceToNat, Int.reducePow, Nat.reduceLeDiff, Int.reduceLE, Nat.reduceMul, Nat.reduceSub]
  refine callGo_pure (NFC_pure l hl h32) (by rfl) ?_
  have h1 := nfc_length (T := T) (cc := cls) l
  have h2 := nfd_len l
  simp only [go_sem, Nat.reduceAdd, Nat.reduceEqDiff, Nat.reduceLT, reduceIte, reduceCtorEq, Nat.reduceBEq, Int.reduceLT, Int.reduceToNat, Int.reducePow, Nat.reduceLeDiff, Int.reduceLE, Nat.reduceMul, Nat.reduceSub]
  refine callGo_pure (Equal_pure (nfcP T cls l) l (by omega)) (by rfl) ?_
  simp only [go_sem, Nat.reduceAdd, Nat.reduceEqDiff, Nat.reduceLT, reduceIte, reduceCtorEq, Nat.reduceBEq, Int.reduceLT, Int.reduceToNat, Int.reducePow, Nat.reduceLeDiff, Int.reduceLE, Nat.reduceMul, Nat.reduceSub]
  simp only [Done, resAV, resL, resOne, look_nil, look_cons, Nat.reduceEqDiff, if_true, if_false, reduceIte, ite_true, ite_false, Nat.zero_ne_one, Nat.one_ne_zero, reduceCtorEq, true_or, or_true, true_and, Option.some.injEq, AV.lit.injEq, Value.int.injEq, Value.bool.injEq]

theorem row_pure (l : List Int) : Pure Try.prog 57 [rS l none] [] (rS l none) := by
  refine pure0 Try.func57 c57 n57 e57 r57 (by simp) (by simp [AV.under]) ?_
  simp only [a57, astart, argSlots, go_sem, Nat.reduceAdd, Nat.reduceEqDiff, Nat.reduceLT, reduceIte, reduceCtorEq, Nat.reduceBEq, Int.reduceLT, Int.reduceToNat, Int.reducePow, Nat.reduceLeDiff, Int.reduceLE, Nat.reduceMul, Nat.reduceSub]
  simp only [Done, resAV, resL, resOne, look_nil, look_cons, Nat.reduceEqDiff, if_true, if_false, reduceIte, ite_true, ite_false, Nat.zero_ne_one, Nat.one_ne_zero, reduceCtorEq, true_or, or_true, true_and, Option.some.injEq, AV.lit.injEq, Value.int.injEq, Value.bool.injEq]

theorem i32_of {l : List Int} (h : l.all (fun n => decide (-2147483648 ≤ n) && decide (n ≤ 2147483647)) = true) : I32 l := fun n hn => by
  have := List.all_eq_true.1 h n hn
  simpa using this
theorem x1 : splitP T 472 = [117, 776, 769] := by decide +kernel
theorem x2 : nfdP T cls [233, 803] = [101, 803, 769] := by decide +kernel
theorem x3 : nfcP T cls [101, 769, 803] = [233, 803] := by decide +kernel
theorem x4 : nfcP T cls [4352, 4449, 4520] = [44033] := by decide +kernel
theorem x5 : nfcP T cls [9001] = [12296] := by decide +kernel
theorem x6 : nfcP T cls [0] = [0] := by decide +kernel
theorem x7 : joinP T 117 776 = some 252 := by decide +kernel

set_option maxRecDepth 10000 in
set_option maxHeartbeats 1000000 in
theorem awake_pure : Pure Try.prog 24 [] [] (.lit (.bool true)) := by
  refine pure0 Try.func24 c24 n24 e24 r24 (by simp) rfl ?_
  have y1 := Split_pure 472 (by omega)
  rw [x1] at y1
  have y2 := NFD_pure [233, 803] (by simp) (i32_of rfl)
  rw [x2] at y2
  have y3 := NFC_pure [101, 769, 803] (by simp) (i32_of rfl)
  rw [x3] at y3
  have y4 := NFC_pure [4352, 4449, 4520] (by simp) (i32_of rfl)
  rw [x4] at y4
  have y5 := NFC_pure [9001] (by simp) (i32_of rfl)
  rw [x5] at y5
  have y6 := NFC_pure [0] (by simp) (i32_of rfl)
  rw [x6] at y6
  have y7 := Join_pure (a := 117) (b := 776) (by omega) (by omega)
  rw [x7] at y7
  have b1 : ((252 : Int) == 252) = true := rfl
  simp only [a24, astart, argSlots, go_sem, Nat.reduceAdd, Nat.reduceEqDiff, Nat.reduceLT, reduceIte, reduceCtorEq, Nat.reduceBEq, Int.reduceLT, Int.reduceToNat, Int.reducePow, Nat.reduceLeDiff, Int.reduceLE, Nat.reduceMul, Nat.reduceSub]
  refine callGo_pure y7 (by rfl) ?_
  simp only [joinE, go_sem, Nat.reduceAdd, Nat.reduceEqDiff, Nat.reduceLT, reduceIte, reduceCtorEq, Nat.reduceBEq, Int.reduceLT, Int.reduceToNat, Int.reducePow, Nat.reduceLeDiff, Int.reduceLE, Nat.reduceMul, Nat.reduceSub]
  refine callGo_pure y1 (by rfl) ?_
  simp only [go_sem, Nat.reduceAdd, Nat.reduceEqDiff, Nat.reduceLT, reduceIte, reduceCtorEq, Nat.reduceBEq, Int.reduceLT, Int.reduceToNat, Int.reducePow, Nat.reduceLeDiff, Int.reduceLE, Nat.reduceMul, Nat.reduceSub]
  refine callGo_pure (row_pure [117, 776, 769]) (by rfl) ?_
  simp only [go_sem, Nat.reduceAdd, Nat.reduceEqDiff, Nat.reduceLT, reduceIte, reduceCtorEq, Nat.reduceBEq, Int.reduceLT, Int.reduceToNat, Int.reducePow, Nat.reduceLeDiff, Int.reduceLE, Nat.reduceMul, Nat.reduceSub]
  refine callGo_pure (Same_pure [117, 776, 769] [117, 776, 769] (by simp)) (by rfl) ?_
  simp only [beq_self_eq_true, b1, go_sem, Nat.reduceAdd, Nat.reduceEqDiff, Nat.reduceLT, reduceIte, reduceCtorEq, Nat.reduceBEq, Int.reduceLT, Int.reduceToNat, Int.reducePow, Nat.reduceLeDiff, Int.reduceLE, Nat.reduceMul, Nat.reduceSub]
  refine callGo_pure (row_pure [233, 803]) (by rfl) ?_
  simp only [go_sem, Nat.reduceAdd, Nat.reduceEqDiff, Nat.reduceLT, reduceIte, reduceCtorEq, Nat.reduceBEq, Int.reduceLT, Int.reduceToNat, Int.reducePow, Nat.reduceLeDiff, Int.reduceLE, Nat.reduceMul, Nat.reduceSub]
  refine callGo_pure y2 (by rfl) ?_
  simp only [go_sem, Nat.reduceAdd, Nat.reduceEqDiff, Nat.reduceLT, reduceIte, reduceCtorEq, Nat.reduceBEq, Int.reduceLT, Int.reduceToNat, Int.reducePow, Nat.reduceLeDiff, Int.reduceLE, Nat.reduceMul, Nat.reduceSub]
  refine callGo_pure (row_pure [101, 803, 769]) (by rfl) ?_
  simp only [go_sem, Nat.reduceAdd, Nat.reduceEqDiff, Nat.reduceLT, reduceIte, reduceCtorEq, Nat.reduceBEq, Int.reduceLT, Int.reduceToNat, Int.reducePow, Nat.reduceLeDiff, Int.reduceLE, Nat.reduceMul, Nat.reduceSub]
  refine callGo_pure (Same_pure [101, 803, 769] [101, 803, 769] (by simp)) (by rfl) ?_
  simp only [beq_self_eq_true, go_sem, Nat.reduceAdd, Nat.reduceEqDiff, Nat.reduceLT, reduceIte, reduceCtorEq, Nat.reduceBEq, Int.reduceLT, Int.reduceToNat, Int.reducePow, Nat.reduceLeDiff, Int.reduceLE, Nat.reduceMul, Nat.reduceSub]
  refine callGo_pure (row_pure [101, 769, 803]) (by rfl) ?_
  simp only [go_sem, Nat.reduceAdd, Nat.reduceEqDiff, Nat.reduceLT, reduceIte, reduceCtorEq, Nat.reduceBEq, Int.reduceLT, Int.reduceToNat, Int.reducePow, Nat.reduceLeDiff, Int.reduceLE, Nat.reduceMul, Nat.reduceSub]
  refine callGo_pure y3 (by rfl) ?_
  simp only [go_sem, Nat.reduceAdd, Nat.reduceEqDiff, Nat.reduceLT, reduceIte, reduceCtorEq, Nat.reduceBEq, Int.reduceLT, Int.reduceToNat, Int.reducePow, Nat.reduceLeDiff, Int.reduceLE, Nat.reduceMul, Nat.reduceSub]
  refine callGo_pure (row_pure [233, 803]) (by rfl) ?_
  simp only [go_sem, Nat.reduceAdd, Nat.reduceEqDiff, Nat.reduceLT, reduceIte, reduceCtorEq, Nat.reduceBEq, Int.reduceLT, Int.reduceToNat, Int.reducePow, Nat.reduceLeDiff, Int.reduceLE, Nat.reduceMul, Nat.reduceSub]
  refine callGo_pure (Same_pure [233, 803] [233, 803] (by simp)) (by rfl) ?_
  simp only [beq_self_eq_true, go_sem, Nat.reduceAdd, Nat.reduceEqDiff, Nat.reduceLT, reduceIte, reduceCtorEq, Nat.reduceBEq, Int.reduceLT, Int.reduceToNat, Int.reducePow, Nat.reduceLeDiff, Int.reduceLE, Nat.reduceMul, Nat.reduceSub]
  refine callGo_pure (row_pure [4352, 4449, 4520]) (by rfl) ?_
  simp only [go_sem, Nat.reduceAdd, Nat.reduceEqDiff, Nat.reduceLT, reduceIte, reduceCtorEq, Nat.reduceBEq, Int.reduceLT, Int.reduceToNat, Int.reducePow, Nat.reduceLeDiff, Int.reduceLE, Nat.reduceMul, Nat.reduceSub]
  refine callGo_pure y4 (by rfl) ?_
  simp only [go_sem, Nat.reduceAdd, Nat.reduceEqDiff, Nat.reduceLT, reduceIte, reduceCtorEq, Nat.reduceBEq, Int.reduceLT, Int.reduceToNat, Int.reducePow, Nat.reduceLeDiff, Int.reduceLE, Nat.reduceMul, Nat.reduceSub]
  refine callGo_pure (row_pure [44033]) (by rfl) ?_
  simp only [go_sem, Nat.reduceAdd, Nat.reduceEqDiff, Nat.reduceLT, reduceIte, reduceCtorEq, Nat.reduceBEq, Int.reduceLT, Int.reduceToNat, Int.reducePow, Nat.reduceLeDiff, Int.reduceLE, Nat.reduceMul, Nat.reduceSub]
  refine callGo_pure (Same_pure [44033] [44033] (by simp)) (by rfl) ?_
  simp only [beq_self_eq_true, go_sem, Nat.reduceAdd, Nat.reduceEqDiff, Nat.reduceLT, reduceIte, reduceCtorEq, Nat.reduceBEq, Int.reduceLT, Int.reduceToNat, Int.reducePow, Nat.reduceLeDiff, Int.reduceLE, Nat.reduceMul, Nat.reduceSub]
  refine callGo_pure (row_pure [9001]) (by rfl) ?_
  simp only [go_sem, Nat.reduceAdd, Nat.reduceEqDiff, Nat.reduceLT, reduceIte, reduceCtorEq, Nat.reduceBEq, Int.reduceLT, Int.reduceToNat, Int.reducePow, Nat.reduceLeDiff, Int.reduceLE, Nat.reduceMul, Nat.reduceSub]
  refine callGo_pure y5 (by rfl) ?_
  simp only [go_sem, Nat.reduceAdd, Nat.reduceEqDiff, Nat.reduceLT, reduceIte, reduceCtorEq, Nat.reduceBEq, Int.reduceLT, Int.reduceToNat, Int.reducePow, Nat.reduceLeDiff, Int.reduceLE, Nat.reduceMul, Nat.reduceSub]
  refine callGo_pure (row_pure [12296]) (by rfl) ?_
  simp only [go_sem, Nat.reduceAdd, Nat.reduceEqDiff, Nat.reduceLT, reduceIte, reduceCtorEq, Nat.reduceBEq, Int.reduceLT, Int.reduceToNat, Int.reducePow, Nat.reduceLeDiff, Int.reduceLE, Nat.reduceMul, Nat.reduceSub]
  refine callGo_pure (Same_pure [12296] [12296] (by simp)) (by rfl) ?_
  simp only [beq_self_eq_true, go_sem, Nat.reduceAdd, Nat.reduceEqDiff, Nat.reduceLT, reduceIte, reduceCtorEq, Nat.reduceBEq, Int.reduceLT, Int.reduceToNat, Int.reducePow, Nat.reduceLeDiff, Int.reduceLE, Nat.reduceMul, Nat.reduceSub]
  refine callGo_pure (row_pure [0]) (by rfl) ?_
  simp only [go_sem, Nat.reduceAdd, Nat.reduceEqDiff, Nat.reduceLT, reduceIte, reduceCtorEq, Nat.reduceBEq, Int.reduceLT, Int.reduceToNat, Int.reducePow, Nat.reduceLeDiff, Int.reduceLE, Nat.reduceMul, Nat.reduceSub]
  refine callGo_pure y6 (by rfl) ?_
  simp only [go_sem, Nat.reduceAdd, Nat.reduceEqDiff, Nat.reduceLT, reduceIte, reduceCtorEq, Nat.reduceBEq, Int.reduceLT, Int.reduceToNat, Int.reducePow, Nat.reduceLeDiff, Int.reduceLE, Nat.reduceMul, Nat.reduceSub]
  refine callGo_pure (row_pure [0]) (by rfl) ?_
  simp only [go_sem, Nat.reduceAdd, Nat.reduceEqDiff, Nat.reduceLT, reduceIte, reduceCtorEq, Nat.reduceBEq, Int.reduceLT, Int.reduceToNat, Int.reducePow, Nat.reduceLeDiff, Int.reduceLE, Nat.reduceMul, Nat.reduceSub]
  refine callGo_pure (Same_pure [0] [0] (by simp)) (by rfl) ?_
  simp only [beq_self_eq_true, go_sem, Nat.reduceAdd, Nat.reduceEqDiff, Nat.reduceLT, reduceIte, reduceCtorEq, Nat.reduceBEq, Int.reduceLT, Int.reduceToNat, Int.reducePow, Nat.reduceLeDiff, Int.reduceLE, Nat.reduceMul, Nat.reduceSub]
  simp only [Done, resAV, resL, resOne, look_nil, look_cons, Nat.reduceEqDiff, if_true, if_false, reduceIte, ite_true, ite_false, Nat.zero_ne_one, Nat.one_ne_zero, reduceCtorEq, true_or, or_true, true_and, Option.some.injEq, AV.lit.injEq, Value.int.injEq, Value.bool.injEq]
end Go.Proofs.Ytmhpjoadfgplgaa
