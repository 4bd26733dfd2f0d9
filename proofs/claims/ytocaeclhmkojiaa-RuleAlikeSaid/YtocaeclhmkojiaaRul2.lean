/-
The rule of bidi, as the document tells it; both are the same. Conditions: none.
-/
import Derived.Test.YtocaeclhmkojiaaRul1
set_option linter.unusedSimpArgs false
set_option linter.unusedVariables false
set_option linter.unusedSectionVars false
namespace Go.Proofs.Ytocaeclhmkojiaa
open Go Go.Ab
def a51 : ACode :=
  (.seq (.reg [⟨(.some 2), (.mv (.k (.int .u8 0))), .none⟩]) (.seq (.reg [⟨(.some 3), (.mv (.t 0)), .none⟩, ⟨(.some 4), (.call (.f 66) [(.t 3)]), .none⟩, ⟨(.some 5), (.fld 1 .none (.t 4)), .none⟩,
  ⟨(.some 2), (.mv (.t 5)), .none⟩]) .ret))
theorem c51 : Try.f51.body.bind (cCode Try.prog 6) = some a51 := by kernel_rfl
theorem r51 : Try.f51.results.toList = [(.tmp 2)] := by kernel_rfl
theorem n51 : Try.f51.ntmps = 6 := by kernel_rfl
theorem e51 : Enters Try.prog 51 := enters_of Try.func51 (by kernel_rfl) (by kernel_rfl)
def a82 : ACode :=
  (.seq (.reg [⟨(.some 4), (.mv (.k (.bool false))), .none⟩]) (.seq (.seq (.reg [⟨(.some 5), (.mv (.k (.int .i64 0))), .none⟩]) (.block 0 (.loop (.seq (.seq (.reg [⟨(.some 6), (.mv (.t 5)), .none⟩,
  ⟨(.some 7), (.mv (.t 1)), .none⟩, ⟨(.some 8), (.len (.t 7)), .none⟩, ⟨(.some 9), (.bin .lss (.t 6) (.t 8)), .none⟩]) (.cond (.t 9) .skip (.exit 0))) (.seq (.block 1 (.seq (.reg [⟨(.some 12), (.mv (.t
  1)), .none⟩, ⟨(.some 13), (.mv (.t 5)), .none⟩, ⟨(.some 14), (.ia 5 (.t 12) (.t 13)), .none⟩, ⟨(.some 15), (.ld .none (.t 14)), .none⟩, ⟨(.some 16), (.mv (.t 0)), .none⟩, ⟨(.some 17), (.bin .eql (.t
  15) (.t 16)), .none⟩]) (.cond (.t 17) (.seq (.reg [⟨(.some 4), (.mv (.k (.bool true))), .none⟩]) .ret) .skip))) (.reg [⟨(.some 10), (.mv (.t 5)), .none⟩, ⟨(.some 11), (.bin .add (.t 10) (.k (.int .i64
  1))), .none⟩, ⟨(.some 5), (.mv (.t 11)), .none⟩])))))) (.seq (.reg [⟨(.some 4), (.mv (.k (.bool false))), .none⟩]) .ret)))
theorem c82 : Try.f82.body.bind (cCode Try.prog 18) = some a82 := by kernel_rfl
theorem r82 : Try.f82.results.toList = [(.tmp 4)] := by kernel_rfl
theorem n82 : Try.f82.ntmps = 18 := by kernel_rfl
theorem e82 : Enters Try.prog 82 := enters_of Try.func82 (by kernel_rfl) (by kernel_rfl)
def a47 : ACode :=
  (.seq (.reg [⟨(.some 4), (.mv (.k (.bool false))), .none⟩]) (.seq (.seq (.reg [⟨(.some 5), (.mv (.k (.int .i64 0))), .none⟩]) (.block 0 (.loop (.seq (.seq (.reg [⟨(.some 6), (.mv (.t 5)), .none⟩,
  ⟨(.some 7), (.mv (.t 0)), .none⟩, ⟨(.some 8), (.len (.t 7)), .none⟩, ⟨(.some 9), (.bin .lss (.t 6) (.t 8)), .none⟩]) (.cond (.t 9) .skip (.exit 0))) (.seq (.block 1 (.seq (.reg [⟨(.some 12), (.mv (.t
  0)), .none⟩, ⟨(.some 13), (.mv (.t 5)), .none⟩, ⟨(.some 14), (.ia 21 (.t 12) (.t 13)), .none⟩, ⟨(.some 15), (.ld .none (.t 14)), .none⟩, ⟨(.some 16), (.call (.f 51) [(.t 15)]), .none⟩, ⟨(.some 17),
  (.mv (.t 1)), .none⟩, ⟨(.some 18), (.call (.f 82) [(.t 16), (.t 17)]), .none⟩]) (.cond (.t 18) (.seq (.reg [⟨(.some 4), (.mv (.k (.bool true))), .none⟩]) .ret) .skip))) (.reg [⟨(.some 10), (.mv (.t
  5)), .none⟩, ⟨(.some 11), (.bin .add (.t 10) (.k (.int .i64 1))), .none⟩, ⟨(.some 5), (.mv (.t 11)), .none⟩])))))) (.seq (.reg [⟨(.some 4), (.mv (.k (.bool false))), .none⟩]) .ret)))
theorem c47 : Try.f47.body.bind (cCode Try.prog 19) = some a47 := by kernel_rfl
theorem r47 : Try.f47.results.toList = [(.tmp 4)] := by kernel_rfl
theorem n47 : Try.f47.ntmps = 19 := by kernel_rfl
theorem e47 : Enters Try.prog 47 := enters_of Try.func47 (by kernel_rfl) (by kernel_rfl)
def a52 : ACode :=
  (.seq (.reg [⟨(.some 4), (.mv (.k (.bool false))), .none⟩]) (.seq (.seq (.reg [⟨(.some 5), (.mv (.k (.int .i64 0))), .none⟩]) (.block 0 (.loop (.seq (.seq (.reg [⟨(.some 6), (.mv (.t 5)), .none⟩,
  ⟨(.some 7), (.mv (.t 0)), .none⟩, ⟨(.some 8), (.len (.t 7)), .none⟩, ⟨(.some 9), (.bin .lss (.t 6) (.t 8)), .none⟩]) (.cond (.t 9) .skip (.exit 0))) (.seq (.block 1 (.seq (.reg [⟨(.some 12), (.mv (.t
  0)), .none⟩, ⟨(.some 13), (.mv (.t 5)), .none⟩, ⟨(.some 14), (.ia 21 (.t 12) (.t 13)), .none⟩, ⟨(.some 15), (.ld .none (.t 14)), .none⟩, ⟨(.some 16), (.call (.f 51) [(.t 15)]), .none⟩, ⟨(.some 17),
  (.mv (.t 1)), .none⟩, ⟨(.some 18), (.call (.f 82) [(.t 16), (.t 17)]), .none⟩, ⟨(.some 19), (.not (.t 18)), .none⟩]) (.cond (.t 19) (.seq (.reg [⟨(.some 4), (.mv (.k (.bool false))), .none⟩]) .ret)
  .skip))) (.reg [⟨(.some 10), (.mv (.t 5)), .none⟩, ⟨(.some 11), (.bin .add (.t 10) (.k (.int .i64 1))), .none⟩, ⟨(.some 5), (.mv (.t 11)), .none⟩])))))) (.seq (.reg [⟨(.some 4), (.mv (.k (.bool
  true))), .none⟩]) .ret)))
theorem c52 : Try.f52.body.bind (cCode Try.prog 20) = some a52 := by kernel_rfl
theorem r52 : Try.f52.results.toList = [(.tmp 4)] := by kernel_rfl
theorem n52 : Try.f52.ntmps = 20 := by kernel_rfl
theorem e52 : Enters Try.prog 52 := enters_of Try.func52 (by kernel_rfl) (by kernel_rfl)
def a53 : ACode :=
  (.seq (.reg [⟨(.some 4), (.mv (.k (.bool false))), .none⟩]) (.seq (.seq (.reg [⟨(.some 6), (.mv (.t 0)), .none⟩, ⟨(.some 7), (.len (.t 6)), .none⟩, ⟨(.some 8), (.bin .sub (.t 7) (.k (.int .i64 1))),
  .none⟩, ⟨(.some 5), (.mv (.t 8)), .none⟩]) (.block 0 (.loop (.seq (.seq (.reg [⟨(.some 9), (.mv (.t 5)), .none⟩, ⟨(.some 10), (.bin .geq (.t 9) (.k (.int .i64 0))), .none⟩]) (.cond (.t 10) .skip
  (.exit 0))) (.seq (.block 1 (.seq (.reg [⟨(.some 13), (.mv (.t 0)), .none⟩, ⟨(.some 14), (.mv (.t 5)), .none⟩, ⟨(.some 15), (.ia 21 (.t 13) (.t 14)), .none⟩, ⟨(.some 16), (.ld .none (.t 15)), .none⟩,
  ⟨(.some 17), (.call (.f 51) [(.t 16)]), .none⟩, ⟨(.some 18), (.bin .neq (.t 17) (.k (.int .u8 8))), .none⟩]) (.cond (.t 18) (.seq (.reg [⟨(.some 19), (.mv (.t 0)), .none⟩, ⟨(.some 20), (.mv (.t 5)),
  .none⟩, ⟨(.some 21), (.ia 21 (.t 19) (.t 20)), .none⟩, ⟨(.some 22), (.ld .none (.t 21)), .none⟩, ⟨(.some 23), (.call (.f 51) [(.t 22)]), .none⟩, ⟨(.some 24), (.mv (.t 1)), .none⟩, ⟨(.some 25), (.call
  (.f 82) [(.t 23), (.t 24)]), .none⟩, ⟨(.some 4), (.mv (.t 25)), .none⟩]) .ret) .skip))) (.reg [⟨(.some 11), (.mv (.t 5)), .none⟩, ⟨(.some 12), (.bin .sub (.t 11) (.k (.int .i64 1))), .none⟩, ⟨(.some
  5), (.mv (.t 12)), .none⟩])))))) (.seq (.reg [⟨(.some 4), (.mv (.k (.bool false))), .none⟩]) .ret)))
theorem c53 : Try.f53.body.bind (cCode Try.prog 26) = some a53 := by kernel_rfl
theorem r53 : Try.f53.results.toList = [(.tmp 4)] := by kernel_rfl
theorem n53 : Try.f53.ntmps = 26 := by kernel_rfl
theorem e53 : Enters Try.prog 53 := enters_of Try.func53 (by kernel_rfl) (by kernel_rfl)
def a18 : ACode :=
  (.seq (.reg [⟨(.some 2), (.mv (.k (.bool false))), .none⟩]) (.seq (.reg [⟨(.some 3), (.mv (.t 0)), .none⟩, ⟨(.some 4), (.bs 5 1 [(.k (.int .u8 1)), (.k (.int .u8 2)), (.k (.int .u8 6))]), .none⟩,
  ⟨(.some 5), (.call (.f 47) [(.t 3), (.t 4)]), .none⟩, ⟨(.some 2), (.mv (.t 5)), .none⟩]) .ret))
theorem c18 : Try.f18.body.bind (cCode Try.prog 6) = some a18 := by kernel_rfl
theorem r18 : Try.f18.results.toList = [(.tmp 2)] := by kernel_rfl
theorem n18 : Try.f18.ntmps = 6 := by kernel_rfl
theorem e18 : Enters Try.prog 18 := enters_of Try.func18 (by kernel_rfl) (by kernel_rfl)
def a20 : ACode :=
  (.seq (.reg [⟨(.some 2), (.mv (.k (.int .u8 0))), .none⟩]) (.seq (.seq (.reg [⟨(.some 3), (.mv (.t 0)), .none⟩, ⟨(.some 4), (.len (.t 3)), .none⟩, ⟨(.some 5), (.bin .eql (.t 4) (.k (.int .i64 0))),
  .none⟩]) (.cond (.t 5) (.seq (.reg [⟨(.some 2), (.mv (.k (.int .u8 9))), .none⟩]) .ret) .skip)) (.seq (.seq (.reg [⟨(.some 6), (.mv (.t 0)), .none⟩, ⟨(.some 7), (.ia 21 (.t 6) (.k (.int .i64 0))),
  .none⟩, ⟨(.some 8), (.ld .none (.t 7)), .none⟩, ⟨(.some 9), (.call (.f 51) [(.t 8)]), .none⟩]) (.block 0 (.seq (.seq (.reg [⟨(.some 11), (.bin .eql (.t 9) (.k (.int .u8 1))), .none⟩, ⟨(.some 10), (.mv
  (.t 11)), .none⟩]) (.cond (.t 10) .skip (.reg [⟨(.some 12), (.bin .eql (.t 9) (.k (.int .u8 2))), .none⟩, ⟨(.some 10), (.mv (.t 12)), .none⟩]))) (.cond (.t 10) (.seq (.seq (.reg [⟨(.some 13), (.mv (.t
  0)), .none⟩, ⟨(.some 14), (.bs 5 1 [(.k (.int .u8 1)), (.k (.int .u8 2)), (.k (.int .u8 6)), (.k (.int .u8 3)), (.k (.int .u8 4)), (.k (.int .u8 7)), (.k (.int .u8 5)), (.k (.int .u8 13)), (.k (.int
  .u8 9)), (.k (.int .u8 8))]), .none⟩, ⟨(.some 15), (.call (.f 52) [(.t 13), (.t 14)]), .none⟩, ⟨(.some 16), (.not (.t 15)), .none⟩]) (.cond (.t 16) (.seq (.reg [⟨(.some 2), (.mv (.k (.int .u8 10))),
  .none⟩]) .ret) .skip)) (.seq (.seq (.reg [⟨(.some 17), (.mv (.t 0)), .none⟩, ⟨(.some 18), (.bs 5 1 [(.k (.int .u8 1)), (.k (.int .u8 2)), (.k (.int .u8 3)), (.k (.int .u8 6))]), .none⟩, ⟨(.some 19),
  (.call (.f 53) [(.t 17), (.t 18)]), .none⟩, ⟨(.some 20), (.not (.t 19)), .none⟩]) (.cond (.t 20) (.seq (.reg [⟨(.some 2), (.mv (.k (.int .u8 11))), .none⟩]) .ret) .skip)) (.seq (.seq (.reg [⟨(.some
  21), (.mv (.t 0)), .none⟩, ⟨(.some 22), (.bs 5 1 [(.k (.int .u8 3))]), .none⟩, ⟨(.some 23), (.call (.f 47) [(.t 21), (.t 22)]), .none⟩, ⟨(.some 24), (.mv (.t 23)), .none⟩, ⟨(.some 25), (.mv (.t 0)),
  (.some (24, true))⟩, ⟨(.some 26), (.bs 5 1 [(.k (.int .u8 6))]), (.some (24, true))⟩, ⟨(.some 27), (.call (.f 47) [(.t 25), (.t 26)]), (.some (24, true))⟩, ⟨(.some 28), (.pick (.t 24) (.t 27) (.k
  (.bool false))), .none⟩]) (.cond (.t 28) (.seq (.reg [⟨(.some 2), (.mv (.k (.int .u8 12))), .none⟩]) .ret) .skip)) (.seq (.reg [⟨(.some 2), (.mv (.k (.int .u8 0))), .none⟩]) .ret)))) (.seq (.reg
  [⟨(.some 30), (.bin .eql (.t 9) (.k (.int .u8 0))), .none⟩, ⟨(.some 29), (.mv (.t 30)), .none⟩]) (.cond (.t 29) (.seq (.seq (.reg [⟨(.some 31), (.mv (.t 0)), .none⟩, ⟨(.some 32), (.bs 5 1 [(.k (.int
  .u8 0)), (.k (.int .u8 3)), (.k (.int .u8 4)), (.k (.int .u8 7)), (.k (.int .u8 5)), (.k (.int .u8 13)), (.k (.int .u8 9)), (.k (.int .u8 8))]), .none⟩, ⟨(.some 33), (.call (.f 52) [(.t 31), (.t
  32)]), .none⟩, ⟨(.some 34), (.not (.t 33)), .none⟩]) (.cond (.t 34) (.seq (.reg [⟨(.some 2), (.mv (.k (.int .u8 10))), .none⟩]) .ret) .skip)) (.seq (.seq (.reg [⟨(.some 35), (.mv (.t 0)), .none⟩,
  ⟨(.some 36), (.bs 5 1 [(.k (.int .u8 0)), (.k (.int .u8 3))]), .none⟩, ⟨(.some 37), (.call (.f 53) [(.t 35), (.t 36)]), .none⟩, ⟨(.some 38), (.not (.t 37)), .none⟩]) (.cond (.t 38) (.seq (.reg
  [⟨(.some 2), (.mv (.k (.int .u8 11))), .none⟩]) .ret) .skip)) (.seq (.reg [⟨(.some 2), (.mv (.k (.int .u8 0))), .none⟩]) .ret))) .skip)))))) (.seq (.reg [⟨(.some 2), (.mv (.k (.int .u8 9))), .none⟩])
  .ret))))
theorem c20 : Try.f20.body.bind (cCode Try.prog 39) = some a20 := by kernel_rfl
theorem r20 : Try.f20.results.toList = [(.tmp 2)] := by kernel_rfl
theorem n20 : Try.f20.ntmps = 39 := by kernel_rfl
theorem e20 : Enters Try.prog 20 := enters_of Try.func20 (by kernel_rfl) (by kernel_rfl)

theorem class_pure (r : Int) (hr : -2147483648 ≤ r ∧ r ≤ 2147483647) : Pure Try.prog 51 [.lit (.int .i32 r)] [] (.lit (.int .u8 (cls r))) := by
  refine pure0 Try.func51 c51 n51 e51 r51 (by simp) rfl ?_
  simp only [a51, astart, argSlots, go_sem, Nat.reduceAdd, Nat.reduceEqDiff, Nat.reduceLT, reduceIte, reduceCtorEq, Nat.reduceBEq, Int.reduceLT, Int.reduceToNat, Int.reducePow, Nat.reduceLeDiff, Int.reduceLE, Nat.reduceMul, Nat.reduceSub]
  refine callGo_pure (refOf_pure _ hr) (by rfl) ?_
  simp only [go_sem, Nat.reduceAdd, Nat.reduceEqDiff, Nat.reduceLT, reduceIte, reduceCtorEq, Nat.reduceBEq, Int.reduceLT, Int.reduceToNat, Int.reducePow, Nat.reduceLeDiff, Int.reduceLE, Nat.reduceMul, Nat.reduceSub, Row.prop]
  simp only [Done, resAV, resL, resOne, look_nil, look_cons, Nat.reduceEqDiff, if_true, if_false, reduceIte, ite_true, ite_false, Nat.zero_ne_one, Nat.one_ne_zero, reduceCtorEq, true_or, or_true, true_and, Option.some.injEq, AV.lit.injEq, Value.int.injEq, Value.bool.injEq]
  rfl

def isAmong (c : Int) (q : List Nat) : Bool := q.any fun x => decide ((x : Int) = c)

set_option maxRecDepth 10000 in
theorem among_pure (c : Int) (q : List Nat) (hl : q.length ≤ 4611686018427387904) : Pure Try.prog 82 [.lit (.int .u8 c), .sl 5 (octs q) none] [] (.lit (.bool (isAmong c q))) := by
  refine pure0 Try.func82 c82 n82 e82 r82 (by simp) rfl ?_
  simp only [a82, astart, argSlots, go_sem, Nat.reduceAdd, Nat.reduceEqDiff, Nat.reduceLT, reduceIte, reduceCtorEq, Nat.reduceBEq, Int.reduceLT, Int.reduceToNat, Int.reducePow, Nat.reduceLeDiff, Int.reduceLE, Nat.reduceMul, Nat.reduceSub]
  refine loop_to q.length (fun i => ⟨[(0, some (.lit (.int .u8 c))), (1, some (.sl 5 (octs q) none)), (5, some (.lit (.int .i64 i)))], [], [], 0⟩)
    (fun i => ∀ j : Nat, j < i → ∀ x, q[j]? = some x → (x : Int) ≠ c) (weak_by [] List.nodup_nil rfl ?_ trivial trivial (by simp)) (fun j hj => by omega) ?_ ?_
  · simp only [go_sem, Nat.reduceAdd, Nat.reduceEqDiff, Nat.reduceLT, reduceIte, reduceCtorEq, Nat.reduceBEq, Int.reduceLT, Int.reduceToNat, Int.reducePow, Nat.reduceLeDiff, Int.reduceLE, Nat.reduceMul, Nat.reduceSub, slotsBy, boxesBy, tipsBy, rawAt, nm, AV.ren, AV.renL, AV.under, AV.underL, List.all_nil, List.all_cons, bne_self_eq_false, List.getD_cons_zero, List.getD_cons_succ, List.length_nil, List.length_cons, and_true, true_and, Int.natCast_zero]
  · intro i hi hp
    simp only [go_sem, Nat.reduceAdd, Nat.reduceEqDiff, Nat.reduceLT, reduceIte, reduceCtorEq, Nat.reduceBEq, Int.reduceLT, Int.reduceToNat, Int.reducePow, Nat.reduceLeDiff, Int.reduceLE, Nat.reduceMul, Nat.reduceSub, hi, octs_get q i hi]
    refine cGo_split (fun h1 => ?_) (fun h1 => ?_)
    · simp only [go_sem, Nat.reduceAdd, Nat.reduceEqDiff, Nat.reduceLT, reduceIte, reduceCtorEq, Nat.reduceBEq, Int.reduceLT, Int.reduceToNat, Int.reducePow, Nat.reduceLeDiff, Int.reduceLE, Nat.reduceMul, Nat.reduceSub]
      simp only [Done, resAV, resL, resOne, look_nil, look_cons, Nat.reduceEqDiff, if_true, if_false, reduceIte, ite_true, ite_false, Nat.zero_ne_one, Nat.one_ne_zero, reduceCtorEq, true_or, or_true, true_and, Option.some.injEq, AV.lit.injEq, Value.int.injEq, Value.bool.injEq]
      exact (List.any_eq_true.2 ⟨_, List.getElem_mem hi, by simpa using h1⟩).symm
    · simp only [go_sem, Nat.reduceAdd, Nat.reduceEqDiff, Nat.reduceLT, reduceIte, reduceCtorEq, Nat.reduceBEq, Int.reduceLT, Int.reduceToNat, Int.reducePow, Nat.reduceLeDiff, Int.reduceLE, Nat.reduceMul, Nat.reduceSub]
      simp (disch := omega) only [wrap_i64]
      refine ⟨weak_by [] List.nodup_nil rfl ?_ trivial trivial (by simp), ?_⟩
      · simp only [go_sem, Nat.reduceAdd, Nat.reduceEqDiff, Nat.reduceLT, reduceIte, reduceCtorEq, Nat.reduceBEq, Int.reduceLT, Int.reduceToNat, Int.reducePow, Nat.reduceLeDiff, Int.reduceLE, Nat.reduceMul, Nat.reduceSub, slotsBy, boxesBy, tipsBy, rawAt, nm, AV.ren, AV.renL, AV.under, AV.underL, List.all_nil, List.all_cons, bne_self_eq_false, List.getD_cons_zero, List.getD_cons_succ, List.length_nil, List.length_cons, and_true, true_and, Int.natCast_add, Int.natCast_one]
      · intro j hj x hx
        rcases Nat.lt_succ_iff_lt_or_eq.1 hj with hj | hj
        · exact hp j hj x hx
        · subst hj
          rw [List.getElem?_eq_getElem hi, Option.some.injEq] at hx
          subst hx; simpa using h1
  · intro hp
    simp only [go_sem, Nat.reduceAdd, Nat.reduceEqDiff, Nat.reduceLT, reduceIte, reduceCtorEq, Nat.reduceBEq, Int.reduceLT, Int.reduceToNat, Int.reducePow, Nat.reduceLeDiff, Int.reduceLE, Nat.reduceMul, Nat.reduceSub]
    simp only [Done, resAV, resL, resOne, look_nil, look_cons, Nat.reduceEqDiff, if_true, if_false, reduceIte, ite_true, ite_false, Nat.zero_ne_one, Nat.one_ne_zero, reduceCtorEq, true_or, or_true, true_and, Option.some.injEq, AV.lit.injEq, Value.int.injEq, Value.bool.injEq]
    symm
    simp only [isAmong, List.any_eq_false, decide_eq_true_eq]
    intro x hx
    obtain ⟨j, hj, rfl⟩ := List.getElem_of_mem hx
    exact hp j hj _ (List.getElem?_eq_getElem hj)

set_option maxRecDepth 10000 in
theorem some_pure (l : List Int) (q : List Nat) (hl : l.length ≤ 4611686018427387904) (h32 : I32 l) (hq : q.length ≤ 4611686018427387904) : Pure Try.prog 47 [.sl 21 (runes l) none, .sl 5 (octs q) none] [] (.lit (.bool (l.any fun r => isAmong (cls r) q))) := by
  refine pure0 Try.func47 c47 n47 e47 r47 (by simp) rfl ?_
  simp only [a47, astart, argSlots, go_sem, Nat.reduceAdd, Nat.reduceEqDiff, Nat.reduceLT, reduceIte, reduceCtorEq, Nat.reduceBEq, Int.reduceLT, Int.reduceToNat, Int.reducePow, Nat.reduceLeDiff, Int.reduceLE, Nat.reduceMul, Nat.reduceSub]
  refine loop_to l.length (fun i => ⟨[(0, some (.sl 21 (runes l) none)), (1, some (.sl 5 (octs q) none)), (5, some (.lit (.int .i64 i)))], [], [], 0⟩)
    (fun i => ∀ j : Nat, j < i → ∀ r, l[j]? = some r → isAmong (cls r) q = false) (weak_by [] List.nodup_nil rfl ?_ trivial trivial (by simp)) (fun j hj => by omega) ?_ ?_
  · simp only [go_sem, Nat.reduceAdd, Nat.reduceEqDiff, Nat.reduceLT, reduceIte, reduceCtorEq, Nat.reduceBEq, Int.reduceLT, Int.reduceToNat, Int.reducePow, Nat.reduceLeDiff, Int.reduceLE, Nat.reduceMul, Nat.reduceSub, slotsBy, boxesBy, tipsBy, rawAt, nm, AV.ren, AV.renL, AV.under, AV.underL, List.all_nil, List.all_cons, bne_self_eq_false, List.getD_cons_zero, List.getD_cons_succ, List.length_nil, List.length_cons, and_true, true_and, Int.natCast_zero]
  · intro i hi hp
    simp only [go_sem, Nat.reduceAdd, Nat.reduceEqDiff, Nat.reduceLT, reduceIte, reduceCtorEq, Nat.reduceBEq, Int.reduceLT, Int.reduceToNat, Int.reducePow, Nat.reduceLeDiff, Int.reduceLE, Nat.reduceMul, Nat.reduceSub, hi, runes_get l i hi]
    refine callGo_pure (class_pure _ (h32 _ (List.getElem_mem hi))) (by rfl) ?_
    simp only [go_sem, Nat.reduceAdd, Nat.reduceEqDiff, Nat.reduceLT, reduceIte, reduceCtorEq, Nat.reduceBEq, Int.reduceLT, Int.reduceToNat, Int.reducePow, Nat.reduceLeDiff, Int.reduceLE, Nat.reduceMul, Nat.reduceSub]
    refine callGo_pure (among_pure _ q hq) (by rfl) ?_
    simp only [go_sem, Nat.reduceAdd, Nat.reduceEqDiff, Nat.reduceLT, reduceIte, reduceCtorEq, Nat.reduceBEq, Int.reduceLT, Int.reduceToNat, Int.reducePow, Nat.reduceLeDiff, Int.reduceLE, Nat.reduceMul, Nat.reduceSub]
    refine cGo_split (fun h1 => ?_) (fun h1 => ?_)
    · simp only [go_sem, Nat.reduceAdd, Nat.reduceEqDiff, Nat.reduceLT, reduceIte, reduceCtorEq, Nat.reduceBEq, Int.reduceLT, Int.reduceToNat, Int.reducePow, Nat.reduceLeDiff, Int.reduceLE, Nat.reduceMul, Nat.reduceSub]
      simp only [Done, resAV, resL, resOne, look_nil, look_cons, Nat.reduceEqDiff, if_true, if_false, reduceIte, ite_true, ite_false, Nat.zero_ne_one, Nat.one_ne_zero, reduceCtorEq, true_or, or_true, true_and, Option.some.injEq, AV.lit.injEq, Value.int.injEq, Value.bool.injEq]
      exact (List.any_eq_true.2 ⟨_, List.getElem_mem hi, h1⟩).symm
    · simp only [go_sem, Nat.reduceAdd, Nat.reduceEqDiff, Nat.reduceLT, reduceIte, reduceCtorEq, Nat.reduceBEq, Int.reduceLT, Int.reduceToNat, Int.reducePow, Nat.reduceLeDiff, Int.reduceLE, Nat.reduceMul, Nat.reduceSub]
      simp (disch := omega) only [wrap_i64]
      refine ⟨weak_by [] List.nodup_nil rfl ?_ trivial trivial (by simp), ?_⟩
      · simp only [go_sem, Nat.reduceAdd, Nat.reduceEqDiff, Nat.reduceLT, reduceIte, reduceCtorEq, Nat.reduceBEq, Int.reduceLT, Int.reduceToNat, Int.reducePow, Nat.reduceLeDiff, Int.reduceLE, Nat.reduceMul, Nat.reduceSub, slotsBy, boxesBy, tipsBy, rawAt, nm, AV.ren, AV.renL, AV.under, AV.underL, List.all_nil, List.all_cons, bne_self_eq_false, List.getD_cons_zero, List.getD_cons_succ, List.length_nil, List.length_cons, and_true, true_and, Int.natCast_add, Int.natCast_one]
      · intro j hj x hx
        rcases Nat.lt_succ_iff_lt_or_eq.1 hj with hj | hj
        · exact hp j hj x hx
        · subst hj
          rw [List.getElem?_eq_getElem hi, Option.some.injEq] at hx
          subst hx; exact h1
  · intro hp
    simp only [go_sem, Nat.reduceAdd, Nat.reduceEqDiff, Nat.reduceLT, reduceIte, reduceCtorEq, Nat.reduceBEq, Int.reduceLT, Int.reduceToNat, Int.reducePow, Nat.reduceLeDiff, Int.reduceLE, Nat.reduceMul, Nat.reduceSub]
    simp only [Done, resAV, resL, resOne, look_nil, look_cons, Nat.reduceEqDiff, if_true, if_false, reduceIte, ite_true, ite_false, Nat.zero_ne_one, Nat.one_ne_zero, reduceCtorEq, true_or, or_true, true_and, Option.some.injEq, AV.lit.injEq, Value.int.injEq, Value.bool.injEq]
    symm
    rw [List.any_eq_false]
    intro x hx
    obtain ⟨j, hj, rfl⟩ := List.getElem_of_mem hx
    simp [hp j hj _ (List.getElem?_eq_getElem hj)]

set_option maxRecDepth 10000 in
theorem all_pure (l : List Int) (q : List Nat) (hl : l.length ≤ 4611686018427387904) (h32 : I32 l) (hq : q.length ≤ 4611686018427387904) : Pure Try.prog 52 [.sl 21 (runes l) none, .sl 5 (octs q) none] [] (.lit (.bool (l.all fun r => isAmong (cls r) q))) := by
  refine pure0 Try.func52 c52 n52 e52 r52 (by simp) rfl ?_
  simp only [a52, astart, argSlots, go_sem, Nat.reduceAdd, Nat.reduceEqDiff, Nat.reduceLT, reduceIte, reduceCtorEq, Nat.reduceBEq, Int.reduceLT, Int.reduceToNat, Int.reducePow, Nat.reduceLeDiff, Int.reduceLE, Nat.reduceMul, Nat.reduceSub]
  refine loop_to l.length (fun i => ⟨[(0, some (.sl 21 (runes l) none)), (1, some (.sl 5 (octs q) none)), (5, some (.lit (.int .i64 i)))], [], [], 0⟩)
    (fun i => ∀ j : Nat, j < i → ∀ r, l[j]? = some r → isAmong (cls r) q = true) (weak_by [] List.nodup_nil rfl ?_ trivial trivial (by simp)) (fun j hj => by omega) ?_ ?_
  · simp only [go_sem, Nat.reduceAdd, Nat.reduceEqDiff, Nat.reduceLT, reduceIte, reduceCtorEq, Nat.reduceBEq, Int.reduceLT, Int.reduceToNat, Int.reducePow, Nat.reduceLeDiff, Int.reduceLE, Nat.reduceMul, Nat.reduceSub, slotsBy, boxesBy, tipsBy, rawAt, nm, AV.ren, AV.renL, AV.under, AV.underL, List.all_nil, List.all_cons, bne_self_eq_false, List.getD_cons_zero, List.getD_cons_succ, List.length_nil, List.length_cons, and_true, true_and, Int.natCast_zero]
  · intro i hi hp
    simp only [go_sem, Nat.reduceAdd, Nat.reduceEqDiff, Nat.reduceLT, reduceIte, reduceCtorEq, Nat.reduceBEq, Int.reduceLT, Int.reduceToNat, Int.reducePow, Nat.reduceLeDiff, Int.reduceLE, Nat.reduceMul, Nat.reduceSub, hi, runes_get l i hi]
    refine callGo_pure (class_pure _ (h32 _ (List.getElem_mem hi))) (by rfl) ?_
    simp only [go_sem, Nat.reduceAdd, Nat.reduceEqDiff, Nat.reduceLT, reduceIte, reduceCtorEq, Nat.reduceBEq, Int.reduceLT, Int.reduceToNat, Int.reducePow, Nat.reduceLeDiff, Int.reduceLE, Nat.reduceMul, Nat.reduceSub]
    refine callGo_pure (among_pure _ q hq) (by rfl) ?_
    simp only [go_sem, Nat.reduceAdd, Nat.reduceEqDiff, Nat.reduceLT, reduceIte, reduceCtorEq, Nat.reduceBEq, Int.reduceLT, Int.reduceToNat, Int.reducePow, Nat.reduceLeDiff, Int.reduceLE, Nat.reduceMul, Nat.reduceSub]
    refine cGo_split (fun h1 => ?_) (fun h1 => ?_)
    · simp only [go_sem, Nat.reduceAdd, Nat.reduceEqDiff, Nat.reduceLT, reduceIte, reduceCtorEq, Nat.reduceBEq, Int.reduceLT, Int.reduceToNat, Int.reducePow, Nat.reduceLeDiff, Int.reduceLE, Nat.reduceMul, Nat.reduceSub]
      simp only [Done, resAV, resL, resOne, look_nil, look_cons, Nat.reduceEqDiff, if_true, if_false, reduceIte, ite_true, ite_false, Nat.zero_ne_one, Nat.one_ne_zero, reduceCtorEq, true_or, or_true, true_and, Option.some.injEq, AV.lit.injEq, Value.int.injEq, Value.bool.injEq]
      symm
      rw [List.all_eq_false]
      exact ⟨_, List.getElem_mem hi, by simpa using h1⟩
    · have h1 : isAmong (cls l[i]) q = true := by simpa using h1
      simp only [go_sem, Nat.reduceAdd, Nat.reduceEqDiff, Nat.reduceLT, reduceIte, reduceCtorEq, Nat.reduceBEq, Int.reduceLT, Int.reduceToNat, Int.reducePow, Nat.reduceLeDiff, Int.reduceLE, Nat.reduceMul, Nat.reduceSub]
      simp (disch := omega) only [wrap_i64]
      refine ⟨weak_by [] List.nodup_nil rfl ?_ trivial trivial (by simp), ?_⟩
      · simp only [go_sem, Nat.reduceAdd, Nat.reduceEqDiff, Nat.reduceLT, reduceIte, reduceCtorEq, Nat.reduceBEq, Int.reduceLT, Int.reduceToNat, Int.reducePow, Nat.reduceLeDiff, Int.reduceLE, Nat.reduceMul, Nat.reduceSub, slotsBy, boxesBy, tipsBy, rawAt, nm, AV.ren, AV.renL, AV.under, AV.underL, List.all_nil, List.all_cons, bne_self_eq_false, List.getD_cons_zero, List.getD_cons_succ, List.length_nil, List.length_cons, and_true, true_and, Int.natCast_add, Int.natCast_one]
      · intro j hj x hx
        rcases Nat.lt_succ_iff_lt_or_eq.1 hj with hj | hj
        · exact hp j hj x hx
        · subst hj
          rw [List.getElem?_eq_getElem hi, Option.some.injEq] at hx
          subst hx; exact h1
  · intro hp
    simp only [go_sem, Nat.reduceAdd, Nat.reduceEqDiff, Nat.reduceLT, reduceIte, reduceCtorEq, Nat.reduceBEq, Int.reduceLT, Int.reduceToNat, Int.reducePow, Nat.reduceLeDiff, Int.reduceLE, Nat.reduceMul, Nat.reduceSub]
    simp only [Done, resAV, resL, resOne, look_nil, look_cons, Nat.reduceEqDiff, if_true, if_false, reduceIte, ite_true, ite_false, Nat.zero_ne_one, Nat.one_ne_zero, reduceCtorEq, true_or, or_true, true_and, Option.some.injEq, AV.lit.injEq, Value.int.injEq, Value.bool.injEq]
    symm
    rw [List.all_eq_true]
    intro x hx
    obtain ⟨j, hj, rfl⟩ := List.getElem_of_mem hx
    exact hp j hj _ (List.getElem?_eq_getElem hj)

def endsOf (l : List Int) (q : List Nat) : Bool := match l.reverse.find? fun r => cls r != 8 with
  | none => false
  | some r => isAmong (cls r) q

set_option maxRecDepth 10000 in
theorem ends_pure (l : List Int) (q : List Nat) (hl : l.length ≤ 4611686018427387904) (h32 : I32 l) (hq : q.length ≤ 4611686018427387904) : Pure Try.prog 53 [.sl 21 (runes l) none, .sl 5 (octs q) none] [] (.lit (.bool (endsOf l q))) := by
  refine pure0 Try.func53 c53 n53 e53 r53 (by simp) rfl ?_
  simp only [a53, astart, argSlots, go_sem, Nat.reduceAdd, Nat.reduceEqDiff, Nat.reduceLT, reduceIte, reduceCtorEq, Nat.reduceBEq, Int.reduceLT, Int.reduceToNat, Int.reducePow, Nat.reduceLeDiff, Int.reduceLE, Nat.reduceMul, Nat.reduceSub]
  have hw0 : IntKind.i64.wrap ((l.length : Int) - 1) = (l.length : Int) - 1 := wrap_i64 _ (by omega) (by omega)
  refine loop_to l.length (fun i => ⟨[(0, some (.sl 21 (runes l) none)), (1, some (.sl 5 (octs q) none)), (5, some (.lit (.int .i64 ((l.length : Int) - 1 - i))))], [], [], 0⟩)
    (fun i => ∀ j : Nat, j < i → ∀ r, l.reverse[j]? = some r → (cls r != 8) = false) (weak_by [] List.nodup_nil rfl ?_ trivial trivial (by simp)) (fun j hj => by omega) ?_ ?_
  · simp only [go_sem, Nat.reduceAdd, Nat.reduceEqDiff, Nat.reduceLT, reduceIte, reduceCtorEq, Nat.reduceBEq, Int.reduceLT, Int.reduceToNat, Int.reducePow, Nat.reduceLeDiff, Int.reduceLE, Nat.reduceMul, Nat.reduceSub, slotsBy, boxesBy, tipsBy, rawAt, nm, AV.ren, AV.renL, AV.under, AV.underL, List.all_nil, List.all_cons, bne_self_eq_false, List.getD_cons_zero, List.getD_cons_succ, List.length_nil, List.length_cons, and_true, true_and, hw0, Int.natCast_zero, Int.sub_zero]
  · intro i hi hp
    have hk : (l.length : Int) - 1 - (i : Int) = ((l.length - 1 - i : Nat) : Int) := by omega
    have hki : l.length - 1 - i < l.length := by omega
    have hge : decide ((l.length : Int) - 1 - (i : Int) ≥ 0) = true := by simp only [decide_eq_true_eq]; omega
    have hre := rev_get l i hi
    have hin := h32 _ (List.getElem_mem hki)
    simp only [go_sem, Nat.reduceAdd, Nat.reduceEqDiff, Nat.reduceLT, reduceIte, reduceCtorEq, Nat.reduceBEq, Int.reduceLT, Int.reduceToNat, Int.reducePow, Nat.reduceLeDiff, Int.reduceLE, Nat.reduceMul, Nat.reduceSub, hge, hk, runes_get l _ hki]
    refine callGo_pure (class_pure _ hin) (by rfl) ?_
    simp only [go_sem, Nat.reduceAdd, Nat.reduceEqDiff, Nat.reduceLT, reduceIte, reduceCtorEq, Nat.reduceBEq, Int.reduceLT, Int.reduceToNat, Int.reducePow, Nat.reduceLeDiff, Int.reduceLE, Nat.reduceMul, Nat.reduceSub]
    refine cGo_split (fun h1 => ?_) (fun h1 => ?_)
    · have hlast : (l.reverse.find? fun r => cls r != 8) = some (l[l.length - 1 - i]'hki) := by
        have hr : i < l.reverse.length := by rw [List.length_reverse]; exact hi
        have he : l.reverse[i] = l[l.length - 1 - i]'hki := by
          have := List.getElem?_eq_getElem hr
          rw [hre, Option.some.injEq] at this
          exact this.symm
        have := find_at (p := fun r => cls r != 8) hr hp (by rw [he]; exact h1)
        rw [he] at this
        exact this
      simp only [go_sem, Nat.reduceAdd, Nat.reduceEqDiff, Nat.reduceLT, reduceIte, reduceCtorEq, Nat.reduceBEq, Int.reduceLT, Int.reduceToNat, Int.reducePow, Nat.reduceLeDiff, Int.reduceLE, Nat.reduceMul, Nat.reduceSub, runes_get l _ hki]
      refine callGo_pure (class_pure _ hin) (by rfl) ?_
      simp only [go_sem, Nat.reduceAdd, Nat.reduceEqDiff, Nat.reduceLT, reduceIte, reduceCtorEq, Nat.reduceBEq, Int.reduceLT, Int.reduceToNat, Int.reducePow, Nat.reduceLeDiff, Int.reduceLE, Nat.reduceMul, Nat.reduceSub]
      refine callGo_pure (among_pure _ q hq) (by rfl) ?_
      simp only [go_sem, Nat.reduceAdd, Nat.reduceEqDiff, Nat.reduceLT, reduceIte, reduceCtorEq, Nat.reduceBEq, Int.reduceLT, Int.reduceToNat, Int.reducePow, Nat.reduceLeDiff, Int.reduceLE, Nat.reduceMul, Nat.reduceSub]
      simp only [Done, resAV, resL, resOne, look_nil, look_cons, Nat.reduceEqDiff, if_true, if_false, reduceIte, ite_true, ite_false, Nat.zero_ne_one, Nat.one_ne_zero, reduceCtorEq, true_or, or_true, true_and, Option.some.injEq, AV.lit.injEq, Value.int.injEq, Value.bool.injEq]
      simp only [endsOf, hlast]
    · simp only [go_sem, Nat.reduceAdd, Nat.reduceEqDiff, Nat.reduceLT, reduceIte, reduceCtorEq, Nat.reduceBEq, Int.reduceLT, Int.reduceToNat, Int.reducePow, Nat.reduceLeDiff, Int.reduceLE, Nat.reduceMul, Nat.reduceSub]
      have hw1 : IntKind.i64.wrap (((l.length - 1 - i : Nat) : Int) - 1) = (l.length : Int) - 1 - ((i + 1 : Nat) : Int) := by rw [wrap_i64 _ (by omega) (by omega)]; omega
      simp only [hw1]
      refine ⟨weak_by [] List.nodup_nil rfl ?_ trivial trivial (by simp), ?_⟩
      · simp only [go_sem, Nat.reduceAdd, Nat.reduceEqDiff, Nat.reduceLT, reduceIte, reduceCtorEq, Nat.reduceBEq, Int.reduceLT, Int.reduceToNat, Int.reducePow, Nat.reduceLeDiff, Int.reduceLE, Nat.reduceMul, Nat.reduceSub, slotsBy, boxesBy, tipsBy, rawAt, nm, AV.ren, AV.renL, AV.under, AV.underL, List.all_nil, List.all_cons, bne_self_eq_false, List.getD_cons_zero, List.getD_cons_succ, List.length_nil, List.length_cons, and_true, true_and]
      · intro j hj r hjr
        rcases Nat.lt_succ_iff_lt_or_eq.1 hj with hj | hj
        · exact hp j hj r hjr
        · subst hj
          rw [hre, Option.some.injEq] at hjr
          subst hjr; exact h1
  · intro hp
    have hge : decide ((l.length : Int) - 1 - ((l.length : Nat) : Int) ≥ 0) = false := by simp only [decide_eq_false_iff_not]; omega
    have hnone : (l.reverse.find? fun r => cls r != 8) = none := find_none (p := fun r => cls r != 8) (by rw [List.length_reverse]; exact hp)
    simp only [go_sem, Nat.reduceAdd, Nat.reduceEqDiff, Nat.reduceLT, reduceIte, reduceCtorEq, Nat.reduceBEq, Int.reduceLT, Int.reduceToNat, Int.reducePow, Nat.reduceLeDiff, Int.reduceLE, Nat.reduceMul, Nat.reduceSub, hge]
    simp only [Done, resAV, resL, resOne, look_nil, look_cons, Nat.reduceEqDiff, if_true, if_false, reduceIte, ite_true, ite_false, Nat.zero_ne_one, Nat.one_ne_zero, reduceCtorEq, true_or, or_true, true_and, Option.some.injEq, AV.lit.injEq, Value.int.injEq, Value.bool.injEq]
    simp only [endsOf, hnone]

theorem refBidi_pure (l : List Int) (hl : l.length ≤ 4611686018427387904) (h32 : I32 l) : Pure Try.prog 18 [.sl 21 (runes l) none] [] (.lit (.bool (l.any fun r => isAmong (cls r) [1, 2, 6]))) := by
  refine pure0 Try.func18 c18 n18 e18 r18 (by simp) rfl ?_
  simp only [a18, astart, argSlots, go_sem, Nat.reduceAdd, Nat.reduceEqDiff, Nat.reduceLT, reduceIte, reduceCtorEq, Nat.reduceBEq, Int.reduceLT, Int.reduceToNat, Int.reducePow, Nat.reduceLeDiff, Int.reduceLE, Nat.reduceMul, Nat.reduceSub]
  refine callGo_pure (some_pure l [1, 2, 6] hl h32 (by simp)) (by rfl) ?_
  simp only [go_sem, Nat.reduceAdd, Nat.reduceEqDiff, Nat.reduceLT, reduceIte, reduceCtorEq, Nat.reduceBEq, Int.reduceLT, Int.reduceToNat, Int.reducePow, Nat.reduceLeDiff, Int.reduceLE, Nat.reduceMul, Nat.reduceSub]
  simp only [Done, resAV, resL, resOne, look_nil, look_cons, Nat.reduceEqDiff, if_true, if_false, reduceIte, ite_true, ite_false, Nat.zero_ne_one, Nat.one_ne_zero, reduceCtorEq, true_or, or_true, true_and, Option.some.injEq, AV.lit.injEq, Value.int.injEq, Value.bool.injEq]

def refRuleOf (l : List Int) : Int := match l with
  | [] => 9
  | r :: _ => if cls r = 1 ∨ cls r = 2 then
      (if (l.all fun r => isAmong (cls r) [1, 2, 6, 3, 4, 7, 5, 13, 9, 8]) = false then 10 else if endsOf l [1, 2, 3, 6] = false then 11 else
        if ((l.any fun r => isAmong (cls r) [3]) && (l.any fun r => isAmong (cls r) [6])) = true then 12 else 0)
    else if cls r = 0 then
      (if (l.all fun r => isAmong (cls r) [0, 3, 4, 7, 5, 13, 9, 8]) = false then 10 else if endsOf l [0, 3] = false then 11 else 0)
    else 9

set_option maxRecDepth 10000 in
theorem refRule_pure (l : List Int) (hl : l.length ≤ 4611686018427387904) (h32 : I32 l) : Pure Try.prog 20 [.sl 21 (runes l) none] [] (.lit (.int .u8 (refRuleOf l))) := by
  refine pure0 Try.func20 c20 n20 e20 r20 (by simp) rfl ?_
  simp only [a20, astart, argSlots, go_sem, Nat.reduceAdd, Nat.reduceEqDiff, Nat.reduceLT, reduceIte, reduceCtorEq, Nat.reduceBEq, Int.reduceLT, Int.reduceToNat, Int.reducePow, Nat.reduceLeDiff, Int.reduceLE, Nat.reduceMul, Nat.reduceSub]
  refine cGo_split (fun h1 => ?_) (fun h1 => ?_)
  · have hq : l = [] := by simp at h1; exact h1
    simp only [go_sem, Nat.reduceAdd, Nat.reduceEqDiff, Nat.reduceLT, reduceIte, reduceCtorEq, Nat.reduceBEq, Int.reduceLT, Int.reduceToNat, Int.reducePow, Nat.reduceLeDiff, Int.reduceLE, Nat.reduceMul, Nat.reduceSub]
    simp only [Done, resAV, resL, resOne, look_nil, look_cons, Nat.reduceEqDiff, if_true, if_false, reduceIte, ite_true, ite_false, Nat.zero_ne_one, Nat.one_ne_zero, reduceCtorEq, true_or, or_true, true_and, Option.some.injEq, AV.lit.injEq, Value.int.injEq, Value.bool.injEq]
    rw [hq]; rfl
  · obtain ⟨r, q, hrq⟩ : ∃ r q, l = r :: q := by
      cases l with
      | nil => simp at h1
      | cons r q => exact ⟨r, q, rfl⟩
    have g : (runes l)[0]? = some [.int .i32 r] := by rw [hrq]; rfl
    have hr : -2147483648 ≤ r ∧ r ≤ 2147483647 := h32 r (by rw [hrq]; simp)
    have hru : refRuleOf l = if cls r = 1 ∨ cls r = 2 then
      (if (l.all fun r => isAmong (cls r) [1, 2, 6, 3, 4, 7, 5, 13, 9, 8]) = false then 10 else if endsOf l [1, 2, 3, 6] = false then 11 else
        if ((l.any fun r => isAmong (cls r) [3]) && (l.any fun r => isAmong (cls r) [6])) = true then 12 else 0)
      else if cls r = 0 then
      (if (l.all fun r => isAmong (cls r) [0, 3, 4, 7, 5, 13, 9, 8]) = false then 10 else if endsOf l [0, 3] = false then 11 else 0)
      else 9 := by rw [hrq]; rfl
    simp only [go_sem, Nat.reduceAdd, Nat.reduceEqDiff, Nat.reduceLT, reduceIte, reduceCtorEq, Nat.reduceBEq, Int.reduceLT, Int.reduceToNat, Int.reducePow, Nat.reduceLeDiff, Int.reduceLE, Nat.reduceMul, Nat.reduceSub, g]
    refine callGo_pure (class_pure _ hr) (by rfl) ?_
    simp only [go_sem, Nat.reduceAdd, Nat.reduceEqDiff, Nat.reduceLT, reduceIte, reduceCtorEq, Nat.reduceBEq, Int.reduceLT, Int.reduceToNat, Int.reducePow, Nat.reduceLeDiff, Int.reduceLE, Nat.reduceMul, Nat.reduceSub]
    by_cases h2 : cls r = 1 ∨ cls r = 2
    · rw [if_pos h2] at hru
      have e : (cls r == 1) = true ∨ ((cls r == 1) = false ∧ (cls r == 2) = true) := by
        by_cases h3 : cls r = 1
        · left; simp [h3]
        · right; simp; omega
      rcases e with e | ⟨e, e'⟩
      · simp only [e, go_sem, Nat.reduceAdd, Nat.reduceEqDiff, Nat.reduceLT, reduceIte, reduceCtorEq, Nat.reduceBEq, Int.reduceLT, Int.reduceToNat, Int.reducePow, Nat.reduceLeDiff, Int.reduceLE, Nat.reduceMul, Nat.reduceSub]
        refine callGo_pure (all_pure l [1, 2, 6, 3, 4, 7, 5, 13, 9, 8] hl h32 (by simp)) (by rfl) ?_
        simp only [go_sem, Nat.reduceAdd, Nat.reduceEqDiff, Nat.reduceLT, reduceIte, reduceCtorEq, Nat.reduceBEq, Int.reduceLT, Int.reduceToNat, Int.reducePow, Nat.reduceLeDiff, Int.reduceLE, Nat.reduceMul, Nat.reduceSub]
        refine cGo_split (fun h6 => ?_) (fun h6 => ?_)
        · rw [if_pos (by simpa using h6)] at hru
          simp only [go_sem, Nat.reduceAdd, Nat.reduceEqDiff, Nat.reduceLT, reduceIte, reduceCtorEq, Nat.reduceBEq, Int.reduceLT, Int.reduceToNat, Int.reducePow, Nat.reduceLeDiff, Int.reduceLE, Nat.reduceMul, Nat.reduceSub]
          simp only [Done, resAV, resL, resOne, look_nil, look_cons, Nat.reduceEqDiff, if_true, if_false, reduceIte, ite_true, ite_false, Nat.zero_ne_one, Nat.one_ne_zero, reduceCtorEq, true_or, or_true, true_and, Option.some.injEq, AV.lit.injEq, Value.int.injEq, Value.bool.injEq]
          exact hru.symm
        · rw [if_neg (by simpa using h6)] at hru
          simp only [go_sem, Nat.reduceAdd, Nat.reduceEqDiff, Nat.reduceLT, reduceIte, reduceCtorEq, Nat.reduceBEq, Int.reduceLT, Int.reduceToNat, Int.reducePow, Nat.reduceLeDiff, Int.reduceLE, Nat.reduceMul, Nat.reduceSub]
          refine callGo_pure (ends_pure l [1, 2, 3, 6] hl h32 (by simp)) (by rfl) ?_
          simp only [go_sem, Nat.reduceAdd, Nat.reduceEqDiff, Nat.reduceLT, reduceIte, reduceCtorEq, Nat.reduceBEq, Int.reduceLT, Int.reduceToNat, Int.reducePow, Nat.reduceLeDiff, Int.reduceLE, Nat.reduceMul, Nat.reduceSub]
          refine cGo_split (fun h7 => ?_) (fun h7 => ?_)
          · rw [if_pos (by simpa using h7)] at hru
            simp only [go_sem, Nat.reduceAdd, Nat.reduceEqDiff, Nat.reduceLT, reduceIte, reduceCtorEq, Nat.reduceBEq, Int.reduceLT, Int.reduceToNat, Int.reducePow, Nat.reduceLeDiff, Int.reduceLE, Nat.reduceMul, Nat.reduceSub]
            simp only [Done, resAV, resL, resOne, look_nil, look_cons, Nat.reduceEqDiff, if_true, if_false, reduceIte, ite_true, ite_false, Nat.zero_ne_one, Nat.one_ne_zero, reduceCtorEq, true_or, or_true, true_and, Option.some.injEq, AV.lit.injEq, Value.int.injEq, Value.bool.injEq]
            exact hru.symm
          · rw [if_neg (by simpa using h7)] at hru
            simp only [go_sem, Nat.reduceAdd, Nat.reduceEqDiff, Nat.reduceLT, reduceIte, reduceCtorEq, Nat.reduceBEq, Int.reduceLT, Int.reduceToNat, Int.reducePow, Nat.reduceLeDiff, Int.reduceLE, Nat.reduceMul, Nat.reduceSub]
            refine callGo_pure (some_pure l [3] hl h32 (by simp)) (by rfl) ?_
            simp only [go_sem, Nat.reduceAdd, Nat.reduceEqDiff, Nat.reduceLT, reduceIte, reduceCtorEq, Nat.reduceBEq, Int.reduceLT, Int.reduceToNat, Int.reducePow, Nat.reduceLeDiff, Int.reduceLE, Nat.reduceMul, Nat.reduceSub]
            refine gGo_splitT (fun h8 => ?_) (fun h8 => ?_)
            · rw [h8, Bool.true_and] at hru
              simp only [h8, go_sem, Nat.reduceAdd, Nat.reduceEqDiff, Nat.reduceLT, reduceIte, reduceCtorEq, Nat.reduceBEq, Int.reduceLT, Int.reduceToNat, Int.reducePow, Nat.reduceLeDiff, Int.reduceLE, Nat.reduceMul, Nat.reduceSub]
              refine callGo_pure (some_pure l [6] hl h32 (by simp)) (by rfl) ?_
              simp only [go_sem, Nat.reduceAdd, Nat.reduceEqDiff, Nat.reduceLT, reduceIte, reduceCtorEq, Nat.reduceBEq, Int.reduceLT, Int.reduceToNat, Int.reducePow, Nat.reduceLeDiff, Int.reduceLE, Nat.reduceMul, Nat.reduceSub]
              refine cGo_split (fun h9 => ?_) (fun h9 => ?_)
              · rw [if_pos h9] at hru
                simp only [go_sem, Nat.reduceAdd, Nat.reduceEqDiff, Nat.reduceLT, reduceIte, reduceCtorEq, Nat.reduceBEq, Int.reduceLT, Int.reduceToNat, Int.reducePow, Nat.reduceLeDiff, Int.reduceLE, Nat.reduceMul, Nat.reduceSub]
                simp only [Done, resAV, resL, resOne, look_nil, look_cons, Nat.reduceEqDiff, if_true, if_false, reduceIte, ite_true, ite_false, Nat.zero_ne_one, Nat.one_ne_zero, reduceCtorEq, true_or, or_true, true_and, Option.some.injEq, AV.lit.injEq, Value.int.injEq, Value.bool.injEq]
                exact hru.symm
              · rw [if_neg (by simp only [h9, Bool.false_eq_true, not_false_eq_true])] at hru
                simp only [go_sem, Nat.reduceAdd, Nat.reduceEqDiff, Nat.reduceLT, reduceIte, reduceCtorEq, Nat.reduceBEq, Int.reduceLT, Int.reduceToNat, Int.reducePow, Nat.reduceLeDiff, Int.reduceLE, Nat.reduceMul, Nat.reduceSub]
                simp only [Done, resAV, resL, resOne, look_nil, look_cons, Nat.reduceEqDiff, if_true, if_false, reduceIte, ite_true, ite_false, Nat.zero_ne_one, Nat.one_ne_zero, reduceCtorEq, true_or, or_true, true_and, Option.some.injEq, AV.lit.injEq, Value.int.injEq, Value.bool.injEq]
                exact hru.symm
            · rw [h8, Bool.false_and, if_neg (by simp)] at hru
              simp only [h8, go_sem, Nat.reduceAdd, Nat.reduceEqDiff, Nat.reduceLT, reduceIte, reduceCtorEq, Nat.reduceBEq, Int.reduceLT, Int.reduceToNat, Int.reducePow, Nat.reduceLeDiff, Int.reduceLE, Nat.reduceMul, Nat.reduceSub]
              simp only [Done, resAV, resL, resOne, look_nil, look_cons, Nat.reduceEqDiff, if_true, if_false, reduceIte, ite_true, ite_false, Nat.zero_ne_one, Nat.one_ne_zero, reduceCtorEq, true_or, or_true, true_and, Option.some.injEq, AV.lit.injEq, Value.int.injEq, Value.bool.injEq]
              exact hru.symm
      · simp only [e, e', go_sem, Nat.reduceAdd, Nat.reduceEqDiff, Nat.reduceLT, reduceIte, reduceCtorEq, Nat.reduceBEq, Int.reduceLT, Int.reduceToNat, Int.reducePow, Nat.reduceLeDiff, Int.reduceLE, Nat.reduceMul, Nat.reduceSub]
        refine callGo_pure (all_pure l [1, 2, 6, 3, 4, 7, 5, 13, 9, 8] hl h32 (by simp)) (by rfl) ?_
        simp only [go_sem, Nat.reduceAdd, Nat.reduceEqDiff, Nat.reduceLT, reduceIte, reduceCtorEq, Nat.reduceBEq, Int.reduceLT, Int.reduceToNat, Int.reducePow, Nat.reduceLeDiff, Int.reduceLE, Nat.reduceMul, Nat.reduceSub]
        refine cGo_split (fun h6 => ?_) (fun h6 => ?_)
        · rw [if_pos (by simpa using h6)] at hru
          simp only [go_sem, Nat.reduceAdd, Nat.reduceEqDiff, Nat.reduceLT, reduceIte, reduceCtorEq, Nat.reduceBEq, Int.reduceLT, Int.reduceToNat, Int.reducePow, Nat.reduceLeDiff, Int.reduceLE, Nat.reduceMul, Nat.reduceSub]
          simp only [Done, resAV, resL, resOne, look_nil, look_cons, Nat.reduceEqDiff, if_true, if_false, reduceIte, ite_true, ite_false, Nat.zero_ne_one, Nat.one_ne_zero, reduceCtorEq, true_or, or_true, true_and, Option.some.injEq, AV.lit.injEq, Value.int.injEq, Value.bool.injEq]
          exact hru.symm
        · rw [if_neg (by simpa using h6)] at hru
          simp only [go_sem, Nat.reduceAdd, Nat.reduceEqDiff, Nat.reduceLT, reduceIte, reduceCtorEq, Nat.reduceBEq, Int.reduceLT, Int.reduceToNat, Int.reducePow, Nat.reduceLeDiff, Int.reduceLE, Nat.reduceMul, Nat.reduceSub]
          refine callGo_pure (ends_pure l [1, 2, 3, 6] hl h32 (by simp)) (by rfl) ?_
          simp only [go_sem, Nat.reduceAdd, Nat.reduceEqDiff, Nat.reduceLT, reduceIte, reduceCtorEq, Nat.reduceBEq, Int.reduceLT, Int.reduceToNat, Int.reducePow, Nat.reduceLeDiff, Int.reduceLE, Nat.reduceMul, Nat.reduceSub]
          refine cGo_split (fun h7 => ?_) (fun h7 => ?_)
          · rw [if_pos (by simpa using h7)] at hru
            simp only [go_sem, Nat.reduceAdd, Nat.reduceEqDiff, Nat.reduceLT, reduceIte, reduceCtorEq, Nat.reduceBEq, Int.reduceLT, Int.reduceToNat, Int.reducePow, Nat.reduceLeDiff, Int.reduceLE, Nat.reduceMul, Nat.reduceSub]
            simp only [Done, resAV, resL, resOne, look_nil, look_cons, Nat.reduceEqDiff, if_true, if_false, reduceIte, ite_true, ite_false, Nat.zero_ne_one, Nat.one_ne_zero, reduceCtorEq, true_or, or_true, true_and, Option.some.injEq, AV.lit.injEq, Value.int.injEq, Value.bool.injEq]
            exact hru.symm
          · rw [if_neg (by simpa using h7)] at hru
            simp only [go_sem, Nat.reduceAdd, Nat.reduceEqDiff, Nat.reduceLT, reduceIte, reduceCtorEq, Nat.reduceBEq, Int.reduceLT, Int.reduceToNat, Int.reducePow, Nat.reduceLeDiff, Int.reduceLE, Nat.reduceMul, Nat.reduceSub]
            refine callGo_pure (some_pure l [3] hl h32 (by simp)) (by rfl) ?_
            simp only [go_sem, Nat.reduceAdd, Nat.reduceEqDiff, Nat.reduceLT, reduceIte, reduceCtorEq, Nat.reduceBEq, Int.reduceLT, Int.reduceToNat, Int.reducePow, Nat.reduceLeDiff, Int.reduceLE, Nat.reduceMul, Nat.reduceSub]
            refine gGo_splitT (fun h8 => ?_) (fun h8 => ?_)
            · rw [h8, Bool.true_and] at hru
              simp only [h8, go_sem, Nat.reduceAdd, Nat.reduceEqDiff, Nat.reduceLT, reduceIte, reduceCtorEq, Nat.reduceBEq, Int.reduceLT, Int.reduceToNat, Int.reducePow, Nat.reduceLeDiff, Int.reduceLE, Nat.reduceMul, Nat.reduceSub]
              refine callGo_pure (some_pure l [6] hl h32 (by simp)) (by rfl) ?_
              simp only [go_sem, Nat.reduceAdd, Nat.reduceEqDiff, Nat.reduceLT, reduceIte, reduceCtorEq, Nat.reduceBEq, Int.reduceLT, Int.reduceToNat, Int.reducePow, Nat.reduceLeDiff, Int.reduceLE, Nat.reduceMul, Nat.reduceSub]
              refine cGo_split (fun h9 => ?_) (fun h9 => ?_)
              · rw [if_pos h9] at hru
                simp only [go_sem, Nat.reduceAdd, Nat.reduceEqDiff, Nat.reduceLT, reduceIte, reduceCtorEq, Nat.reduceBEq, Int.reduceLT, Int.reduceToNat, Int.reducePow, Nat.reduceLeDiff, Int.reduceLE, Nat.reduceMul, Nat.reduceSub]
                simp only [Done, resAV, resL, resOne, look_nil, look_cons, Nat.reduceEqDiff, if_true, if_false, reduceIte, ite_true, ite_false, Nat.zero_ne_one, Nat.one_ne_zero, reduceCtorEq, true_or, or_true, true_and, Option.some.injEq, AV.lit.injEq, Value.int.injEq, Value.bool.injEq]
                exact hru.symm
              · rw [if_neg (by simp only [h9, Bool.false_eq_true, not_false_eq_true])] at hru
                simp only [go_sem, Nat.reduceAdd, Nat.reduceEqDiff, Nat.reduceLT, reduceIte, reduceCtorEq, Nat.reduceBEq, Int.reduceLT, Int.reduceToNat, Int.reducePow, Nat.reduceLeDiff, Int.reduceLE, Nat.reduceMul, Nat.reduceSub]
                simp only [Done, resAV, resL, resOne, look_nil, look_cons, Nat.reduceEqDiff, if_true, if_false, reduceIte, ite_true, ite_false, Nat.zero_ne_one, Nat.one_ne_zero, reduceCtorEq, true_or, or_true, true_and, Option.some.injEq, AV.lit.injEq, Value.int.injEq, Value.bool.injEq]
                exact hru.symm
            · rw [h8, Bool.false_and, if_neg (by simp)] at hru
              simp only [h8, go_sem, Nat.reduceAdd, Nat.reduceEqDiff, Nat.reduceLT, reduceIte, reduceCtorEq, Nat.reduceBEq, Int.reduceLT, Int.reduceToNat, Int.reducePow, Nat.reduceLeDiff, Int.reduceLE, Nat.reduceMul, Nat.reduceSub]
              simp only [Done, resAV, resL, resOne, look_nil, look_cons, Nat.reduceEqDiff, if_true, if_false, reduceIte, ite_true, ite_false, Nat.zero_ne_one, Nat.one_ne_zero, reduceCtorEq, true_or, or_true, true_and, Option.some.injEq, AV.lit.injEq, Value.int.injEq, Value.bool.injEq]
              exact hru.symm
    · rw [if_neg h2] at hru
      have e3 : (cls r == 1) = false := by simp; omega
      have e4 : (cls r == 2) = false := by simp; omega
      simp only [e3, e4, go_sem, Nat.reduceAdd, Nat.reduceEqDiff, Nat.reduceLT, reduceIte, reduceCtorEq, Nat.reduceBEq, Int.reduceLT, Int.reduceToNat, Int.reducePow, Nat.reduceLeDiff, Int.reduceLE, Nat.reduceMul, Nat.reduceSub]
      refine cGo_split (fun h5 => ?_) (fun h5 => ?_)
      · rw [if_pos (by simpa using h5)] at hru
        simp only [go_sem, Nat.reduceAdd, Nat.reduceEqDiff, Nat.reduceLT, reduceIte, reduceCtorEq, Nat.reduceBEq, Int.reduceLT, Int.reduceToNat, Int.reducePow, Nat.reduceLeDiff, Int.reduceLE, Nat.reduceMul, Nat.reduceSub]
        refine callGo_pure (all_pure l [0, 3, 4, 7, 5, 13, 9, 8] hl h32 (by simp)) (by rfl) ?_
        simp only [go_sem, Nat.reduceAdd, Nat.reduceEqDiff, Nat.reduceLT, reduceIte, reduceCtorEq, Nat.reduceBEq, Int.reduceLT, Int.reduceToNat, Int.reducePow, Nat.reduceLeDiff, Int.reduceLE, Nat.reduceMul, Nat.reduceSub]
        refine cGo_split (fun h6 => ?_) (fun h6 => ?_)
        · rw [if_pos (by simpa using h6)] at hru
          simp only [go_sem, Nat.reduceAdd, Nat.reduceEqDiff, Nat.reduceLT, reduceIte, reduceCtorEq, Nat.reduceBEq, Int.reduceLT, Int.reduceToNat, Int.reducePow, Nat.reduceLeDiff, Int.reduceLE, Nat.reduceMul, Nat.reduceSub]
          simp only [Done, resAV, resL, resOne, look_nil, look_cons, Nat.reduceEqDiff, if_true, if_false, reduceIte, ite_true, ite_false, Nat.zero_ne_one, Nat.one_ne_zero, reduceCtorEq, true_or, or_true, true_and, Option.some.injEq, AV.lit.injEq, Value.int.injEq, Value.bool.injEq]
          exact hru.symm
        · rw [if_neg (by simpa using h6)] at hru
          simp only [go_sem, Nat.reduceAdd, Nat.reduceEqDiff, Nat.reduceLT, reduceIte, reduceCtorEq, Nat.reduceBEq, Int.reduceLT, Int.reduceToNat, Int.reducePow, Nat.reduceLeDiff, Int.reduceLE, Nat.reduceMul, Nat.reduceSub]
          refine callGo_pure (ends_pure l [0, 3] hl h32 (by simp)) (by rfl) ?_
          simp only [go_sem, Nat.reduceAdd, Nat.reduceEqDiff, Nat.reduceLT, reduceIte, reduceCtorEq, Nat.reduceBEq, Int.reduceLT, Int.reduceToNat, Int.reducePow, Nat.reduceLeDiff, Int.reduceLE, Nat.reduceMul, Nat.reduceSub]
          refine cGo_split (fun h7 => ?_) (fun h7 => ?_)
          · rw [if_pos (by simpa using h7)] at hru
            simp only [go_sem, Nat.reduceAdd, Nat.reduceEqDiff, Nat.reduceLT, reduceIte, reduceCtorEq, Nat.reduceBEq, Int.reduceLT, Int.reduceToNat, Int.reducePow, Nat.reduceLeDiff, Int.reduceLE, Nat.reduceMul, Nat.reduceSub]
            simp only [Done, resAV, resL, resOne, look_nil, look_cons, Nat.reduceEqDiff, if_true, if_false, reduceIte, ite_true, ite_false, Nat.zero_ne_one, Nat.one_ne_zero, reduceCtorEq, true_or, or_true, true_and, Option.some.injEq, AV.lit.injEq, Value.int.injEq, Value.bool.injEq]
            exact hru.symm
          · rw [if_neg (by simpa using h7)] at hru
            simp only [go_sem, Nat.reduceAdd, Nat.reduceEqDiff, Nat.reduceLT, reduceIte, reduceCtorEq, Nat.reduceBEq, Int.reduceLT, Int.reduceToNat, Int.reducePow, Nat.reduceLeDiff, Int.reduceLE, Nat.reduceMul, Nat.reduceSub]
            simp only [Done, resAV, resL, resOne, look_nil, look_cons, Nat.reduceEqDiff, if_true, if_false, reduceIte, ite_true, ite_false, Nat.zero_ne_one, Nat.one_ne_zero, reduceCtorEq, true_or, or_true, true_and, Option.some.injEq, AV.lit.injEq, Value.int.injEq, Value.bool.injEq]
            exact hru.symm
      · rw [if_neg (by simpa using h5)] at hru
        simp only [go_sem, Nat.reduceAdd, Nat.reduceEqDiff, Nat.reduceLT, reduceIte, reduceCtorEq, Nat.reduceBEq, Int.reduceLT, Int.reduceToNat, Int.reducePow, Nat.reduceLeDiff, Int.reduceLE, Nat.reduceMul, Nat.reduceSub]
        simp only [Done, resAV, resL, resOne, look_nil, look_cons, Nat.reduceEqDiff, if_true, if_false, reduceIte, ite_true, ite_false, Nat.zero_ne_one, Nat.one_ne_zero, reduceCtorEq, true_or, or_true, true_and, Option.some.injEq, AV.lit.injEq, Value.int.injEq, Value.bool.injEq]
        exact hru.symm

/-! ### Both are the same -/

theorem cls_nat (r : Int) : ∃ k : Nat, k < 23 ∧ cls r = (k : Int) := by
  have := cls_in r
  exact ⟨(cls r).toNat, by omega, by omega⟩

theorem has_70 (r : Int) : hasB 70 (cls r) = isAmong (cls r) [1, 2, 6] := by
  obtain ⟨k, hk, he⟩ := cls_nat r
  rw [he]
  exact (by decide +kernel : ∀ k : Nat, k < 23 → hasB 70 (k : Int) = isAmong (k : Int) [1, 2, 6]) k hk
theorem has_7 (r : Int) : hasB 7 (cls r) = isAmong (cls r) [0, 1, 2] := by
  obtain ⟨k, hk, he⟩ := cls_nat r
  rw [he]
  exact (by decide +kernel : ∀ k : Nat, k < 23 → hasB 7 (k : Int) = isAmong (k : Int) [0, 1, 2]) k hk
theorem has_1 (r : Int) : hasB 1 (cls r) = isAmong (cls r) [0] := by
  obtain ⟨k, hk, he⟩ := cls_nat r
  rw [he]
  exact (by decide +kernel : ∀ k : Nat, k < 23 → hasB 1 (k : Int) = isAmong (k : Int) [0]) k hk
theorem has_8 (r : Int) : hasB 8 (cls r) = isAmong (cls r) [3] := by
  obtain ⟨k, hk, he⟩ := cls_nat r
  rw [he]
  exact (by decide +kernel : ∀ k : Nat, k < 23 → hasB 8 (k : Int) = isAmong (k : Int) [3]) k hk
theorem has_64 (r : Int) : hasB 64 (cls r) = isAmong (cls r) [6] := by
  obtain ⟨k, hk, he⟩ := cls_nat r
  rw [he]
  exact (by decide +kernel : ∀ k : Nat, k < 23 → hasB 64 (k : Int) = isAmong (k : Int) [6]) k hk
theorem has_9145 (r : Int) : hasB 9145 (cls r) = isAmong (cls r) [0, 3, 4, 7, 5, 13, 9, 8] := by
  obtain ⟨k, hk, he⟩ := cls_nat r
  rw [he]
  exact (by decide +kernel : ∀ k : Nat, k < 23 → hasB 9145 (k : Int) = isAmong (k : Int) [0, 3, 4, 7, 5, 13, 9, 8]) k hk
theorem has_9 (r : Int) : hasB 9 (cls r) = isAmong (cls r) [0, 3] := by
  obtain ⟨k, hk, he⟩ := cls_nat r
  rw [he]
  exact (by decide +kernel : ∀ k : Nat, k < 23 → hasB 9 (k : Int) = isAmong (k : Int) [0, 3]) k hk
theorem has_9214 (r : Int) : hasB 9214 (cls r) = isAmong (cls r) [1, 2, 6, 3, 4, 7, 5, 13, 9, 8] := by
  obtain ⟨k, hk, he⟩ := cls_nat r
  rw [he]
  exact (by decide +kernel : ∀ k : Nat, k < 23 → hasB 9214 (k : Int) = isAmong (k : Int) [1, 2, 6, 3, 4, 7, 5, 13, 9, 8]) k hk
theorem has_78 (r : Int) : hasB 78 (cls r) = isAmong (cls r) [1, 2, 3, 6] := by
  obtain ⟨k, hk, he⟩ := cls_nat r
  rw [he]
  exact (by decide +kernel : ∀ k : Nat, k < 23 → hasB 78 (k : Int) = isAmong (k : Int) [1, 2, 3, 6]) k hk
theorem has_256 (r : Int) : (!hasB 256 (cls r)) = (cls r != 8) := by
  obtain ⟨k, hk, he⟩ := cls_nat r
  rw [he]
  exact (by decide +kernel : ∀ k : Nat, k < 23 → (!hasB 256 (k : Int)) = ((k : Int) != 8)) k hk

theorem bidi_same (l : List Int) : bidiOf l = l.any fun r => isAmong (cls r) [1, 2, 6] := by simp only [bidiOf, has_70]

theorem fails_aux (a : Bool) (o : Option Int) (f : Int → Bool) : (if (!a) = true then (10 : Int) else match o with | none => 11 | some r => if f r = true then 0 else 11) =
    if a = false then 10 else if (match o with | none => false | some r => f r) = false then 11 else 0 := by
  cases a
  · rfl
  · cases o with
    | none => rfl
    | some r => cases h : f r <;> simp [h]

theorem fails_same (l : List Int) (wi en : Int) (q e : List Nat) (hw : ∀ r, hasB wi (cls r) = isAmong (cls r) q) (he : ∀ r, hasB en (cls r) = isAmong (cls r) e) :
    failsOf wi en l = if (l.all fun r => isAmong (cls r) q) = false then 10 else if endsOf l e = false then 11 else 0 := by
  have h1 : (l.any fun r => !hasB wi (cls r)) = !(l.all fun r => isAmong (cls r) q) := by
    rw [List.not_all_eq_any_not]; simp only [hw]
  have h2 : lastOf l = l.reverse.find? fun r => cls r != 8 := by simp only [lastOf, has_256]
  have h3 : failsOf wi en l = (if (!(l.all fun r => isAmong (cls r) q)) = true then (10 : Int) else match l.reverse.find? fun r => cls r != 8 with | none => 11 | some r => if isAmong (cls r) e = true then 0 else 11) := by
    unfold failsOf
    rw [h1, h2]
    simp only [he]
    rfl
  rw [h3]
  exact fails_aux _ _ fun r => isAmong (cls r) e

theorem rule_same (l : List Int) : ruleOf l = refRuleOf l := by
  cases l with
  | nil => rfl
  | cons r q =>
    simp only [ruleOf, refRuleOf, has_7, has_1, has_8, has_64, fails_same _ _ _ _ _ has_9145 has_9, fails_same _ _ _ _ _ has_9214 has_78]
    have e7 : isAmong (cls r) [0, 1, 2] = decide (cls r = 0 ∨ cls r = 1 ∨ cls r = 2) := by
      simp only [isAmong, List.any_cons, List.any_nil, Bool.or_false]
      rw [Bool.eq_iff_iff]; simp; omega
    have e1 : isAmong (cls r) [0] = decide (cls r = 0) := by
      simp only [isAmong, List.any_cons, List.any_nil, Bool.or_false]
      rw [Bool.eq_iff_iff]; simp; omega
    rw [e7, e1]
    by_cases h0 : cls r = 0
    · simp [h0]
    · by_cases h1 : cls r = 1 ∨ cls r = 2
      · rw [if_neg (by simp [h0, h1]), if_neg (by simp [h0]), if_pos h1]
        split
        · simp
        · split
          · simp
          · simp
      · rw [if_pos (by simp; omega), if_neg h1, if_neg h0]
end Go.Proofs.Ytocaeclhmkojiaa
