/-
THE STATEMENT NormOrder. In a row that is taken apart classes fall at starters alone; two marks of unlike classes may change places. Conditions: none.
-/
import Derived.Test.YtmhpjoadfgplgaaNrmG
import Derived.Test.YtmhpjoadfgplgaaRows
set_option linter.unusedSimpArgs false
set_option linter.unusedVariables false
set_option linter.unusedSectionVars false
namespace Go.Proofs.Ytmhpjoadfgplgaa
open Go Go.Ab
def a8_8 : ACode :=
  (.seq (.dreg [⟨(.some 88), (.mv (.t 0)), .none⟩, ⟨(.some 89), (.mv (.t 9)), .none⟩, ⟨(.some 90), (.ia 21 (.t 88) (.t 89)), .none⟩, ⟨(.some 91), (.ld .none (.t 90)), .none⟩, ⟨(.some 92), (.call (.f 27)
  [(.t 91)]), .none⟩, ⟨(.some 93), (.fld 3 .none (.t 92)), .none⟩, ⟨(.some 94), (.mv (.t 0)), .none⟩, ⟨(.some 95), (.mv (.t 9)), .none⟩, ⟨(.some 96), (.bin .add (.t 95) (.k (.int .i64 1))), .none⟩,
  ⟨(.some 97), (.ia 21 (.t 94) (.t 96)), .none⟩, ⟨(.some 98), (.ld .none (.t 97)), .none⟩, ⟨(.some 99), (.call (.f 27) [(.t 98)]), .none⟩, ⟨(.some 100), (.fld 3 .none (.t 99)), .none⟩, ⟨(.some 11), (.mv
  (.t 93)), .none⟩, ⟨(.some 12), (.mv (.t 100)), .none⟩]) (.seq (.seq (.reg [⟨(.some 101), (.mv (.t 11)), .none⟩, ⟨(.some 102), (.bin .gtr (.t 101) (.k (.int .u8 0))), .none⟩, ⟨(.some 103), (.mv (.t
  102)), .none⟩, ⟨(.some 104), (.mv (.t 12)), (.some (103, true))⟩, ⟨(.some 105), (.bin .gtr (.t 104) (.k (.int .u8 0))), (.some (103, true))⟩, ⟨(.some 106), (.pick (.t 103) (.t 105) (.k (.bool
  false))), .none⟩, ⟨(.some 107), (.mv (.t 106)), .none⟩, ⟨(.some 108), (.mv (.t 11)), (.some (107, true))⟩, ⟨(.some 109), (.mv (.t 12)), (.some (107, true))⟩, ⟨(.some 110), (.bin .neq (.t 108) (.t
  109)), (.some (107, true))⟩, ⟨(.some 111), (.pick (.t 107) (.t 110) (.k (.bool false))), .none⟩, ⟨(.some 112), (.mv (.t 111)), .none⟩, ⟨(.some 113), (.mv (.t 10)), (.some (112, true))⟩, ⟨(.some 114),
  (.call (.f 28) [(.t 113)]), (.some (112, true))⟩, ⟨(.some 115), (.mv (.t 0)), (.some (112, true))⟩, ⟨(.some 116), (.call (.f 28) [(.t 115)]), (.some (112, true))⟩, ⟨(.some 117), (.call (.f 19) [(.t
  114), (.t 116)]), (.some (112, true))⟩, ⟨(.some 118), (.not (.t 117)), (.some (112, true))⟩, ⟨(.some 119), (.pick (.t 112) (.t 118) (.k (.bool false))), .none⟩]) (.cond (.t 119) (.seq (.reg [⟨(.some
  4), (.mv (.k (.bool false))), .none⟩]) .ret) .skip)) (.seq (.reg [⟨(.some 120), (.call (.f 24) []), .none⟩, ⟨(.some 4), (.mv (.t 120)), .none⟩]) .ret)))
def a8 : ACode :=
  (.seq (.reg [⟨(.some 4), (.mv (.k (.bool false))), .none⟩]) (.seq (.seq (.reg [⟨(.some 13), (.mv (.t 0)), .none⟩, ⟨(.some 14), (.len (.t 13)), .none⟩, ⟨(.some 15), (.bin .gtr (.t 14) (.k (.int .i64
  200))), .none⟩]) (.cond (.t 15) (.seq (.reg [⟨(.some 16), (.call (.f 24) []), .none⟩, ⟨(.some 4), (.mv (.t 16)), .none⟩]) .ret) .skip)) (.seq (.reg [⟨(.some 17), (.mv (.t 0)), .none⟩, ⟨(.some 18),
  (.call (.f 25) [(.t 17)]), .none⟩, ⟨(.some 5), (.mv (.t 18)), .none⟩]) (.seq (.seq (.reg [⟨(.some 19), (.mv (.t 5)), .none⟩, ⟨(.some 20), (.len (.t 19)), .none⟩, ⟨(.some 21), (.mv (.k (.int .i64 0))),
  .none⟩]) (.block 0 (.loop (.seq (.reg [⟨(.some 22), (.bin .lss (.t 21) (.t 20)), .none⟩]) (.seq (.cond (.t 22) .skip (.exit 0)) (.seq (.block 1 (.seq (.reg [⟨(.some 23), (.mv (.t 21)), .none⟩, ⟨(.some
  24), (.ia 21 (.t 19) (.t 21)), .none⟩, ⟨(.some 25), (.ld .none (.t 24)), .none⟩, ⟨(.some 6), (.mv (.t 23)), .none⟩, ⟨(.some 7), (.mv (.t 25)), .none⟩]) (.seq (.seq (.reg [⟨(.some 26), (.mv (.t 7)),
  .none⟩, ⟨(.some 27), (.call (.f 26) [(.t 26)]), .none⟩, ⟨(.some 28), (.len (.t 27)), .none⟩, ⟨(.some 29), (.bin .neq (.t 28) (.k (.int .i64 1))), .none⟩, ⟨(.some 30), (.mv (.t 29)), .none⟩, ⟨(.some
  31), (.mv (.t 7)), (.some (30, false))⟩, ⟨(.some 32), (.call (.f 26) [(.t 31)]), (.some (30, false))⟩, ⟨(.some 33), (.ia 21 (.t 32) (.k (.int .i64 0))), (.some (30, false))⟩, ⟨(.some 34), (.ld .none
  (.t 33)), (.some (30, false))⟩, ⟨(.some 35), (.mv (.t 7)), (.some (30, false))⟩, ⟨(.some 36), (.bin .neq (.t 34) (.t 35)), (.some (30, false))⟩, ⟨(.some 37), (.pick (.t 30) (.k (.bool true)) (.t 36)),
  .none⟩]) (.cond (.t 37) (.seq (.reg [⟨(.some 4), (.mv (.k (.bool false))), .none⟩]) .ret) .skip)) (.seq (.reg [⟨(.some 38), (.mv (.t 7)), .none⟩, ⟨(.some 39), (.call (.f 27) [(.t 38)]), .none⟩,
  ⟨(.some 40), (.fld 3 .none (.t 39)), .none⟩, ⟨(.some 8), (.mv (.t 40)), .none⟩]) (.seq (.reg [⟨(.some 41), (.mv (.t 6)), .none⟩, ⟨(.some 42), (.bin .gtr (.t 41) (.k (.int .i64 0))), .none⟩, ⟨(.some
  43), (.mv (.t 42)), .none⟩, ⟨(.some 44), (.mv (.t 8)), (.some (43, true))⟩, ⟨(.some 45), (.bin .gtr (.t 44) (.k (.int .u8 0))), (.some (43, true))⟩, ⟨(.some 46), (.pick (.t 43) (.t 45) (.k (.bool
  false))), .none⟩, ⟨(.some 47), (.mv (.t 46)), .none⟩, ⟨(.some 48), (.mv (.t 5)), (.some (47, true))⟩, ⟨(.some 49), (.mv (.t 6)), (.some (47, true))⟩, ⟨(.some 50), (.bin .sub (.t 49) (.k (.int .i64
  1))), (.some (47, true))⟩, ⟨(.some 51), (.ia 21 (.t 48) (.t 50)), (.some (47, true))⟩, ⟨(.some 52), (.ld .none (.t 51)), (.some (47, true))⟩, ⟨(.some 53), (.call (.f 27) [(.t 52)]), (.some (47,
  true))⟩, ⟨(.some 54), (.fld 3 .none (.t 53)), (.some (47, true))⟩, ⟨(.some 55), (.mv (.t 8)), (.some (47, true))⟩, ⟨(.some 56), (.bin .gtr (.t 54) (.t 55)), (.some (47, true))⟩, ⟨(.some 57), (.pick
  (.t 47) (.t 56) (.k (.bool false))), .none⟩]) (.cond (.t 57) (.seq (.reg [⟨(.some 4), (.mv (.k (.bool false))), .none⟩]) .ret) .skip)))))) (.reg [⟨(.some 58), (.bin .add (.t 21) (.k (.int .i64 1))),
  .none⟩, ⟨(.some 21), (.mv (.t 58)), .none⟩]))))))) (.seq (.seq (.reg [⟨(.some 59), (.mv (.t 0)), .none⟩, ⟨(.some 60), (.len (.t 59)), .none⟩, ⟨(.some 61), (.bin .lss (.t 60) (.k (.int .i64 2))),
  .none⟩]) (.cond (.t 61) (.seq (.reg [⟨(.some 62), (.call (.f 24) []), .none⟩, ⟨(.some 4), (.mv (.t 62)), .none⟩]) .ret) .skip)) (.seq (.reg [⟨(.some 63), (.mv (.t 1)), .none⟩, ⟨(.some 64), (.cvI .i64
  (.t 63)), .none⟩, ⟨(.some 65), (.mv (.t 0)), .none⟩, ⟨(.some 66), (.len (.t 65)), .none⟩, ⟨(.some 67), (.bin .sub (.t 66) (.k (.int .i64 1))), .none⟩, ⟨(.some 68), (.bin .rem (.t 64) (.t 67)), .none⟩,
  ⟨(.some 9), (.mv (.t 68)), .none⟩]) (.seq (.reg [⟨(.some 69), (.bs 21 1 []), .none⟩, ⟨(.some 70), (.mv (.t 0)), .none⟩, ⟨(.some 71), (.app 21 4 (.t 69) (.t 70)), .none⟩, ⟨(.some 10), (.mv (.t 71)),
  .none⟩]) (.seq (.dreg [⟨(.some 72), (.mv (.t 10)), .none⟩, ⟨(.some 73), (.mv (.t 9)), .none⟩, ⟨(.some 74), (.mv (.t 10)), .none⟩, ⟨(.some 75), (.mv (.t 9)), .none⟩, ⟨(.some 76), (.bin .add (.t 75) (.k
  (.int .i64 1))), .none⟩, ⟨(.some 77), (.mv (.t 10)), .none⟩, ⟨(.some 78), (.mv (.t 9)), .none⟩, ⟨(.some 79), (.bin .add (.t 78) (.k (.int .i64 1))), .none⟩, ⟨(.some 80), (.ia 21 (.t 77) (.t 79)),
  .none⟩, ⟨(.some 81), (.ld .none (.t 80)), .none⟩, ⟨(.some 82), (.mv (.t 10)), .none⟩, ⟨(.some 83), (.mv (.t 9)), .none⟩, ⟨(.some 84), (.ia 21 (.t 82) (.t 83)), .none⟩, ⟨(.some 85), (.ld .none (.t
  84)), .none⟩, ⟨(.some 86), (.ia 21 (.t 72) (.t 73)), .none⟩, ⟨.none, (.st 1 (.t 86) (.t 81)), .none⟩, ⟨(.some 87), (.ia 21 (.t 74) (.t 76)), .none⟩, ⟨.none, (.st 1 (.t 87) (.t 85)), .none⟩])
  a8_8))))))))
theorem c8 : Try.f8.body.bind (cCode Try.prog 121) = some a8 := by kernel_rfl
theorem r8 : Try.f8.results.toList = [(.tmp 4)] := by kernel_rfl
theorem n8 : Try.f8.ntmps = 121 := by kernel_rfl
theorem e8 : Enters Try.prog 8 := enters_of Try.func8 (by kernel_rfl) (by kernel_rfl)

theorem good_get {l : List Int} (h : Good cls l) : ∀ {i : Nat} (hi : i + 1 < l.length), ¬(0 < cls l[i + 1] ∧ cls l[i + 1] < cls (l[i]'(by omega))) := by
  induction l with
  | nil => intro i hi; simp at hi
  | cons x l ih =>
    intro i hi
    cases i with
    | zero =>
      cases l with
      | nil => simp at hi
      | cons y l => exact h.1
    | succ i =>
      simp only [List.length_cons] at hi
      exact ih h.2 (i := i) (by omega)
theorem app_wrapT {S : List Int} (hS : S ≠ []) (bx : List (Nat × List AV)) {tp : List (Nat × TypeId)} {e : TypeId} {id : Nat} (ht : hasTip tp id e = true) (t : Option Nat) : rowApp bx tp e (.vx .wrap [.sl e [] (some id)]) (.sl e (runes S) t) = some ⟨1, 0, S.length, cX S, bx, dropTip tp id, 1⟩ := by
  have hl : 0 < S.length := by
    cases S with
    | nil => exact absurd rfl hS
    | cons x l => simp
  simp [rowApp, srcN, runes_flat, runes_length, cX_lits, hl, ht, Nat.div_self hl, cX]

set_option maxRecDepth 10000 in
set_option maxHeartbeats 2000000 in
theorem order_tail {l : List Int} (h32 : I32 l) (hl : l.length ≤ 1000) {P Q : List Int} {x y : Int} (hsp : l = P ++ x :: y :: Q) {sl : List (Nat × Option AV)} {tp : List (Nat × TypeId)} {nx : Nat} (h0 : Ab.look sl 0 = some (rS l none)) (h9 : Ab.look sl 9 = some (.lit (.int .i64 (P.length : Int)))) (h10 : Ab.look sl 10 = some (rS (P ++ y :: x :: Q) none)) :
    awp Try.prog 0 a8_8 (Done Try.prog [.tmp 4] (.lit (.bool true))) ⟨sl, [], tp, nx⟩ := by
  have hk : P.length + 1 < l.length := by rw [hsp]; simp
  have hk0 : P.length < l.length := by omega
  have g1 : (runes l)[P.length]? = some [.int .i32 x] := by rw [runes_at hk0]; simp [hsp]
  have g2 : (runes l)[P.length + 1]? = some [.int .i32 y] := by rw [runes_at hk]; simp [hsp]
  have w1 : IntKind.i64.wrap ((P.length : Int) + 1) = ((P.length + 1 : Nat) : Int) := by rw [wrap_i64 _ (by omega) (by omega)]; omega
  have x32 : -2147483648 ≤ x ∧ x ≤ 2147483647 := h32 x (by rw [hsp]; simp)
  have y32 : -2147483648 ≤ y ∧ y ≤ 2147483647 := h32 y (by rw [hsp]; simp)
  have cx := ccc_eq x
  have cy := ccc_eq y
  have o32 : I32 (P ++ y :: x :: Q) := i32_swap (by rw [← hsp]; exact h32)
  have ol : (P ++ y :: x :: Q).length = l.length := by rw [hsp]; simp
  have n1 := nfd_len l
  have n2 := nfc_length (T := T) (cc := cls) l
  have fin : ∀ (sl : List (Nat × Option AV)) (tp : List (Nat × TypeId)) (nx : Nat), True := fun _ _ _ => trivial
  simp only [a8_8, h0, h9, hk0, g1, runes_length, go_sem, Nat.reduceAdd, Nat.reduceEqDiff, Nat.reduceLT, reduceIte, reduceCtorEq, Nat.reduceBEq, Int.reduceLT, Int.reduceToNat, Int.reducePow, Nat.reduceLeDiff, Int.reduceLE, Nat.reduceMul, Nat.reduceSub]
  refine dcallGo_pure (of_pure x) (by rfl) (by rfl) ?_
  simp only [Row.prop, cx.1, h0, h9, w1, hk, g2, runes_length, go_sem, Nat.reduceAdd, Nat.reduceEqDiff, Nat.reduceLT, reduceIte, reduceCtorEq, Nat.reduceBEq, Int.reduceLT, Int.reduceToNat, Int.reducePow, Nat.reduceLeDiff, Int.reduceLE, Nat.reduceMul, Nat.reduceSub]
  refine dcallGo_pure (of_pure y) (by rfl) (by rfl) ?_
  simp only [Row.prop, cy.1, go_sem, Nat.reduceAdd, Nat.reduceEqDiff, Nat.reduceLT, reduceIte, reduceCtorEq, Nat.reduceBEq, Int.reduceLT, Int.reduceToNat, Int.reducePow, Nat.reduceLeDiff, Int.reduceLE, Nat.reduceMul, Nat.reduceSub]
  by_cases c1 : 0 < cls x
  · have e1 : decide (((cls x : Nat) : Int) > 0) = true := by simp only [decide_eq_true_eq]; omega
    by_cases c2 : 0 < cls y
    · have e2 : decide (((cls y : Nat) : Int) > 0) = true := by simp only [decide_eq_true_eq]; omega
      by_cases c3 : cls x = cls y
      · have e3 : (((cls x : Nat) : Int) != ((cls y : Nat) : Int)) = false := by rw [c3]; simp
        simp only [e1, e2, e3, go_sem, Nat.reduceAdd, Nat.reduceEqDiff, Nat.reduceLT, reduceIte, reduceCtorEq, Nat.reduceBEq, Int.reduceLT, Int.reduceToNat, Int.reducePow, Nat.reduceLeDiff, Int.reduceLE, Nat.reduceMul, Nat.reduceSub]
        refine callGo_pure awake_pure (by rfl) ?_
        simp only [go_sem, Nat.reduceAdd, Nat.reduceEqDiff, Nat.reduceLT, reduceIte, reduceCtorEq, Nat.reduceBEq, Int.reduceLT, Int.reduceToNat, Int.reducePow, Nat.reduceLeDiff, Int.reduceLE, Nat.reduceMul, Nat.reduceSub]
        simp only [Done, resAV, resL, resOne, look_nil, look_cons, Nat.reduceEqDiff, if_true, if_false, reduceIte, ite_true, ite_false, Nat.zero_ne_one, Nat.one_ne_zero, reduceCtorEq, true_or, or_true, true_and, Option.some.injEq, AV.lit.injEq, Value.int.injEq, Value.bool.injEq]
      · have e3 : (((cls x : Nat) : Int) != ((cls y : Nat) : Int)) = true := by simp; omega
        have he : nfcP T cls (P ++ y :: x :: Q) = nfcP T cls l := by
          unfold nfcP
          rw [hsp, nfd_swap nf c1 c2 c3 P Q]
        have q1 := NFC_pure (P ++ y :: x :: Q) (by omega) o32
        rw [he] at q1
        simp only [e1, e2, e3, h10, go_sem, Nat.reduceAdd, Nat.reduceEqDiff, Nat.reduceLT, reduceIte, reduceCtorEq, Nat.reduceBEq, Int.reduceLT, Int.reduceToNat, Int.reducePow, Nat.reduceLeDiff, Int.reduceLE, Nat.reduceMul, Nat.reduceSub]
        refine callGo_pure q1 (by rfl) ?_
        simp only [h0, go_sem, Nat.reduceAdd, Nat.reduceEqDiff, Nat.reduceLT, reduceIte, reduceCtorEq, Nat.reduceBEq, Int.reduceLT, Int.reduceToNat, Int.reducePow, Nat.reduceLeDiff, Int.reduceLE, Nat.reduceMul, Nat.reduceSub]
        refine callGo_pure (NFC_pure l hl h32) (by rfl) ?_
        simp only [go_sem, Nat.reduceAdd, Nat.reduceEqDiff, Nat.reduceLT, reduceIte, reduceCtorEq, Nat.reduceBEq, Int.reduceLT, Int.reduceToNat, Int.reducePow, Nat.reduceLeDiff, Int.reduceLE, Nat.reduceMul, Nat.reduceSub]
        refine callGo_pure (Same_pure (nfcP T cls l) (nfcP T cls l) (by omega)) (by rfl) ?_
        simp only [beq_self_eq_true, Bool.not_true, go_sem, Nat.reduceAdd, Nat.reduceEqDiff, Nat.reduceLT, reduceIte, reduceCtorEq, Nat.reduceBEq, Int.reduceLT, Int.reduceToNat, Int.reducePow, Nat.reduceLeDiff, Int.reduceLE, Nat.reduceMul, Nat.reduceSub]
        refine callGo_pure awake_pure (by rfl) ?_
        simp only [go_sem, Nat.reduceAdd, Nat.reduceEqDiff, Nat.reduceLT, reduceIte, reduceCtorEq, Nat.reduceBEq, Int.reduceLT, Int.reduceToNat, Int.reducePow, Nat.reduceLeDiff, Int.reduceLE, Nat.reduceMul, Nat.reduceSub]
        simp only [Done, resAV, resL, resOne, look_nil, look_cons, Nat.reduceEqDiff, if_true, if_false, reduceIte, ite_true, ite_false, Nat.zero_ne_one, Nat.one_ne_zero, reduceCtorEq, true_or, or_true, true_and, Option.some.injEq, AV.lit.injEq, Value.int.injEq, Value.bool.injEq]
    · have e2 : decide (((cls y : Nat) : Int) > 0) = false := by simp only [decide_eq_false_iff_not]; omega
      simp only [e1, e2, go_sem, Nat.reduceAdd, Nat.reduceEqDiff, Nat.reduceLT, reduceIte, reduceCtorEq, Nat.reduceBEq, Int.reduceLT, Int.reduceToNat, Int.reducePow, Nat.reduceLeDiff, Int.reduceLE, Nat.reduceMul, Nat.reduceSub]
      refine callGo_pure awake_pure (by rfl) ?_
      simp only [go_sem, Nat.reduceAdd, Nat.reduceEqDiff, Nat.reduceLT, reduceIte, reduceCtorEq, Nat.reduceBEq, Int.reduceLT, Int.reduceToNat, Int.reducePow, Nat.reduceLeDiff, Int.reduceLE, Nat.reduceMul, Nat.reduceSub]
      simp only [Done, resAV, resL, resOne, look_nil, look_cons, Nat.reduceEqDiff, if_true, if_false, reduceIte, ite_true, ite_false, Nat.zero_ne_one, Nat.one_ne_zero, reduceCtorEq, true_or, or_true, true_and, Option.some.injEq, AV.lit.injEq, Value.int.injEq, Value.bool.injEq]
  · have e1 : decide (((cls x : Nat) : Int) > 0) = false := by simp only [decide_eq_false_iff_not]; omega
    simp only [e1, go_sem, Nat.reduceAdd, Nat.reduceEqDiff, Nat.reduceLT, reduceIte, reduceCtorEq, Nat.reduceBEq, Int.reduceLT, Int.reduceToNat, Int.reducePow, Nat.reduceLeDiff, Int.reduceLE, Nat.reduceMul, Nat.reduceSub]
    refine callGo_pure awake_pure (by rfl) ?_
    simp only [go_sem, Nat.reduceAdd, Nat.reduceEqDiff, Nat.reduceLT, reduceIte, reduceCtorEq, Nat.reduceBEq, Int.reduceLT, Int.reduceToNat, Int.reducePow, Nat.reduceLeDiff, Int.reduceLE, Nat.reduceMul, Nat.reduceSub]
    simp only [Done, resAV, resL, resOne, look_nil, look_cons, Nat.reduceEqDiff, if_true, if_false, reduceIte, ite_true, ite_false, Nat.zero_ne_one, Nat.one_ne_zero, reduceCtorEq, true_or, or_true, true_and, Option.some.injEq, AV.lit.injEq, Value.int.injEq, Value.bool.injEq]

set_option maxRecDepth 10000 in
set_option maxHeartbeats 4000000 in
theorem normOrder_pure (l : List Int) (hl : Runes l) (c : Int) (hc : 0 ≤ c ∧ c ≤ 255) : Pure Try.prog 8 [rS l none, .lit (.int .u8 c)] [] (.lit (.bool true)) := by
  refine pure0M 7 Try.func8 c8 n8 e8 r8 (by kernel_rfl) (by simp) rfl ?_
  have h32 := hl.2
  have hb : cutB (7 + 1) a8 = a8_8 := rfl
  rw [hb]
  simp only [a8, cutF, astart, argSlots, runes_length, go_sem, Nat.reduceAdd, Nat.reduceEqDiff, Nat.reduceLT, reduceIte, reduceCtorEq, Nat.reduceBEq, Int.reduceLT, Int.reduceToNat, Int.reducePow, Nat.reduceLeDiff, Int.reduceLE, Nat.reduceMul, Nat.reduceSub]
  refine cGo_split (fun h => ?_) (fun h => ?_)
  · simp only [go_sem, Nat.reduceAdd, Nat.reduceEqDiff, Nat.reduceLT, reduceIte, reduceCtorEq, Nat.reduceBEq, Int.reduceLT, Int.reduceToNat, Int.reducePow, Nat.reduceLeDiff, Int.reduceLE, Nat.reduceMul, Nat.reduceSub]
    refine callGo_pure awake_pure (by rfl) ?_
    simp only [go_sem, Nat.reduceAdd, Nat.reduceEqDiff, Nat.reduceLT, reduceIte, reduceCtorEq, Nat.reduceBEq, Int.reduceLT, Int.reduceToNat, Int.reducePow, Nat.reduceLeDiff, Int.reduceLE, Nat.reduceMul, Nat.reduceSub]
    simp only [Done, resAV, resL, resOne, look_nil, look_cons, Nat.reduceEqDiff, if_true, if_false, reduceIte, ite_true, ite_false, Nat.zero_ne_one, Nat.one_ne_zero, reduceCtorEq, true_or, or_true, true_and, Option.some.injEq, AV.lit.injEq, Value.int.injEq, Value.bool.injEq]
  simp only [decide_eq_false_iff_not] at h
  have hl2 : l.length ≤ 200 := by omega
  have n1 := nfd_len l
  have d32 := nfd_i32 h32
  have dg := nfd_good (T := T) (cc := cls) l
  have dall := nfd_all nf l
  simp only [go_sem, Nat.reduceAdd, Nat.reduceEqDiff, Nat.reduceLT, reduceIte, reduceCtorEq, Nat.reduceBEq, Int.reduceLT, Int.reduceToNat, Int.reducePow, Nat.reduceLeDiff, Int.reduceLE, Nat.reduceMul, Nat.reduceSub]
  refine callGo_pure (NFD_pure l (by omega) h32) (by rfl) ?_
  simp only [runes_length, go_sem, Nat.reduceAdd, Nat.reduceEqDiff, Nat.reduceLT, reduceIte, reduceCtorEq, Nat.reduceBEq, Int.reduceLT, Int.reduceToNat, Int.reducePow, Nat.reduceLeDiff, Int.reduceLE, Nat.reduceMul, Nat.reduceSub]
  generalize nfdP T cls l = D at n1 d32 dg dall ⊢
  refine loop_by (α := Nat × Nat) (fun v => ⟨[(0, some (rS l none)), (1, some (.lit (.int .u8 c))), (5, some (rS D none)), (19, some (rS D none)), (20, some (.lit (.int .i64 (D.length : Int)))), (21, some (.lit (.int .i64 ((v.1 : Nat) : Int))))], [], [], v.2⟩)
    (fun v => v.1 ≤ D.length) (fun v => D.length - v.1) (fun v w h => by
      have := congrArg (cnt 21) h
      simp [cnt, Ab.look] at this
      rw [this]) (0, 1) ((weak_untip 5 (by simp only [go_sem, Nat.reduceAdd, Nat.reduceEqDiff, Nat.reduceLT, reduceIte, reduceCtorEq, Nat.reduceBEq, Int.reduceLT, Int.reduceToNat, Int.reducePow, Nat.reduceLeDiff, Int.reduceLE, Nat.reduceMul, Nat.reduceSub]; rfl)).trans ((weak_untip 19 (by simp only [go_sem, Nat.reduceAdd, Nat.reduceEqDiff, Nat.reduceLT, reduceIte, reduceCtorEq, Nat.reduceBEq, Int.reduceLT, Int.reduceToNat, Int.reducePow, Nat.reduceLeDiff, Int.reduceLE, Nat.reduceMul, Nat.reduceSub]; rfl)).trans (weak_forget ?_ (List.Sublist.refl _) (List.nil_sublist _)))) (Nat.zero_le _) ?_
  · simp only [go_sem, Nat.reduceAdd, Nat.reduceEqDiff, Nat.reduceLT, reduceIte, reduceCtorEq, Nat.reduceBEq, Int.reduceLT, Int.reduceToNat, Int.reducePow, Nat.reduceLeDiff, Int.reduceLE, Nat.reduceMul, Nat.reduceSub, slotsSub, Int.natCast_zero]
  rintro ⟨i, nx⟩ hi
  simp only at hi
  simp only [go_sem, Nat.reduceAdd, Nat.reduceEqDiff, Nat.reduceLT, reduceIte, reduceCtorEq, Nat.reduceBEq, Int.reduceLT, Int.reduceToNat, Int.reducePow, Nat.reduceLeDiff, Int.reduceLE, Nat.reduceMul, Nat.reduceSub]
  rcases Nat.lt_or_eq_of_le hi with hlt | heq
  · have r1 := d32 D[i] (List.getElem_mem hlt)
    have hs1 := dall D[i] (List.getElem_mem hlt)
    have cx := ccc_eq D[i]
    have y1 := Split_pure D[i] r1
    rw [hs1] at y1
    have f1 : ((1 : Int) != 1) = false := rfl
    have f2 : (D[i] != D[i]) = false := by simp
    have w1 : IntKind.i64.wrap ((i : Int) + 1) = ((i + 1 : Nat) : Int) := by rw [wrap_i64 _ (by omega) (by omega)]; omega
    simp only [dec_lt hlt, hlt, runes_at hlt, runes_length, go_sem, Nat.reduceAdd, Nat.reduceEqDiff, Nat.reduceLT, reduceIte, reduceCtorEq, Nat.reduceBEq, Int.reduceLT, Int.reduceToNat, Int.reducePow, Nat.reduceLeDiff, Int.reduceLE, Nat.reduceMul, Nat.reduceSub]
    refine callGo_pure y1 (by rfl) ?_
    simp only [rS, runes, Int.natCast_one, f1, go_sem, Nat.reduceAdd, Nat.reduceEqDiff, Nat.reduceLT, reduceIte, reduceCtorEq, Nat.reduceBEq, Int.reduceLT, Int.reduceToNat, Int.reducePow, Nat.reduceLeDiff, Int.reduceLE, Nat.reduceMul, Nat.reduceSub]
    refine callGo_pure y1 (by rfl) ?_
    simp only [rS, runes, f2, Int.natCast_one, go_sem, Nat.reduceAdd, Nat.reduceEqDiff, Nat.reduceLT, reduceIte, reduceCtorEq, Nat.reduceBEq, Int.reduceLT, Int.reduceToNat, Int.reducePow, Nat.reduceLeDiff, Int.reduceLE, Nat.reduceMul, Nat.reduceSub]
    refine callGo_pure (of_pure D[i]) (by rfl) ?_
    simp only [Row.prop, cx.1, go_sem, Nat.reduceAdd, Nat.reduceEqDiff, Nat.reduceLT, reduceIte, reduceCtorEq, Nat.reduceBEq, Int.reduceLT, Int.reduceToNat, Int.reducePow, Nat.reduceLeDiff, Int.reduceLE, Nat.reduceMul, Nat.reduceSub]
    by_cases c1 : 0 < i
    · have e1 : decide ((i : Int) > 0) = true := by simp only [decide_eq_true_eq]; omega
      by_cases c2 : 0 < cls D[i]
      · have e2 : decide (((cls D[i] : Nat) : Int) > 0) = true := by simp only [decide_eq_true_eq]; omega
        have w2 : IntKind.i64.wrap ((i : Int) - 1) = ((i - 1 : Nat) : Int) := by rw [wrap_i64 _ (by omega) (by omega)]; omega
        have hi1 : i - 1 < D.length := by omega
        have hg : ¬(0 < cls D[i] ∧ cls D[i] < cls (D[i - 1]'hi1)) := by
          have := good_get dg (i := i - 1) (by omega)
          simp only [show i - 1 + 1 = i by omega] at this
          exact this
        have cp := ccc_eq (D[i - 1]'hi1)
        have e3 : decide (((cls (D[i - 1]'hi1) : Nat) : Int) > ((cls D[i] : Nat) : Int)) = false := dec_ngt (by omega)
        have hgr : (List.map (fun n => [Value.int IntKind.i32 n]) D)[i - 1]? = some [.int .i32 (D[i - 1]'hi1)] := runes_at hi1
        have hln : (List.map (fun n => [Value.int IntKind.i32 n]) D).length = D.length := by simp
        simp only [e1, e2, w2, hi1, hgr, hln, go_sem, Nat.reduceAdd, Nat.reduceEqDiff, Nat.reduceLT, reduceIte, reduceCtorEq, Nat.reduceBEq, Int.reduceLT, Int.reduceToNat, Int.reducePow, Nat.reduceLeDiff, Int.reduceLE, Nat.reduceMul, Nat.reduceSub]
        refine callGo_pure (of_pure _) (by rfl) ?_
        simp only [Row.prop, cp.1, e3, w1, go_sem, Nat.reduceAdd, Nat.reduceEqDiff, Nat.reduceLT, reduceIte, reduceCtorEq, Nat.reduceBEq, Int.reduceLT, Int.reduceToNat, Int.reducePow, Nat.reduceLeDiff, Int.reduceLE, Nat.reduceMul, Nat.reduceSub]
        refine ⟨(i + 1, _), weak_forget ?_ (List.Sublist.refl _) (List.nil_sublist _), by simp only; omega, by simp only; omega⟩
        simp only [go_sem, Nat.reduceAdd, Nat.reduceEqDiff, Nat.reduceLT, reduceIte, reduceCtorEq, Nat.reduceBEq, Int.reduceLT, Int.reduceToNat, Int.reducePow, Nat.reduceLeDiff, Int.reduceLE, Nat.reduceMul, Nat.reduceSub, slotsSub]
      · have e2 : decide (((cls D[i] : Nat) : Int) > 0) = false := by simp only [decide_eq_false_iff_not]; omega
        simp only [e1, e2, w1, go_sem, Nat.reduceAdd, Nat.reduceEqDiff, Nat.reduceLT, reduceIte, reduceCtorEq, Nat.reduceBEq, Int.reduceLT, Int.reduceToNat, Int.reducePow, Nat.reduceLeDiff, Int.reduceLE, Nat.reduceMul, Nat.reduceSub]
        refine ⟨(i + 1, _), weak_forget ?_ (List.Sublist.refl _) (List.nil_sublist _), by simp only; omega, by simp only; omega⟩
        simp only [go_sem, Nat.reduceAdd, Nat.reduceEqDiff, Nat.reduceLT, reduceIte, reduceCtorEq, Nat.reduceBEq, Int.reduceLT, Int.reduceToNat, Int.reducePow, Nat.reduceLeDiff, Int.reduceLE, Nat.reduceMul, Nat.reduceSub, slotsSub]
    · have e1 : decide ((i : Int) > 0) = false := by simp only [decide_eq_false_iff_not]; omega
      simp only [e1, w1, go_sem, Nat.reduceAdd, Nat.reduceEqDiff, Nat.reduceLT, reduceIte, reduceCtorEq, Nat.reduceBEq, Int.reduceLT, Int.reduceToNat, Int.reducePow, Nat.reduceLeDiff, Int.reduceLE, Nat.reduceMul, Nat.reduceSub]
      refine ⟨(i + 1, _), weak_forget ?_ (List.Sublist.refl _) (List.nil_sublist _), by simp only; omega, by simp only; omega⟩
      simp only [go_sem, Nat.reduceAdd, Nat.reduceEqDiff, Nat.reduceLT, reduceIte, reduceCtorEq, Nat.reduceBEq, Int.reduceLT, Int.reduceToNat, Int.reducePow, Nat.reduceLeDiff, Int.reduceLE, Nat.reduceMul, Nat.reduceSub, slotsSub]
  · subst heq
    simp only [dec_irr, runes_length, go_sem, Nat.reduceAdd, Nat.reduceEqDiff, Nat.reduceLT, reduceIte, reduceCtorEq, Nat.reduceBEq, Int.reduceLT, Int.reduceToNat, Int.reducePow, Nat.reduceLeDiff, Int.reduceLE, Nat.reduceMul, Nat.reduceSub]
    by_cases h2 : l.length < 2
    · have e1 : decide ((l.length : Int) < 2) = true := by simp only [decide_eq_true_eq]; omega
      simp only [e1, go_sem, Nat.reduceAdd, Nat.reduceEqDiff, Nat.reduceLT, reduceIte, reduceCtorEq, Nat.reduceBEq, Int.reduceLT, Int.reduceToNat, Int.reducePow, Nat.reduceLeDiff, Int.reduceLE, Nat.reduceMul, Nat.reduceSub]
      refine callGo_pure awake_pure (by rfl) ?_
      simp only [go_sem, Nat.reduceAdd, Nat.reduceEqDiff, Nat.reduceLT, reduceIte, reduceCtorEq, Nat.reduceBEq, Int.reduceLT, Int.reduceToNat, Int.reducePow, Nat.reduceLeDiff, Int.reduceLE, Nat.reduceMul, Nat.reduceSub]
      simp only [Done, resAV, resL, resOne, look_nil, look_cons, Nat.reduceEqDiff, if_true, if_false, reduceIte, ite_true, ite_false, Nat.zero_ne_one, Nat.one_ne_zero, reduceCtorEq, true_or, or_true, true_and, Option.some.injEq, AV.lit.injEq, Value.int.injEq, Value.bool.injEq]
    have e1 : decide ((l.length : Int) < 2) = false := by simp only [decide_eq_false_iff_not]; omega
    have w0 : IntKind.i64.wrap c = c := wrap_i64 _ (by omega) (by omega)
    have w1 : IntKind.i64.wrap ((l.length : Int) - 1) = (l.length : Int) - 1 := wrap_i64 _ (by omega) (by omega)
    have z1 : ((l.length : Int) - 1 = 0) = False := eq_false (by omega)
    have d1 : c.tmod ((l.length : Int) - 1) = c % ((l.length : Int) - 1) := Int.tmod_eq_emod_of_nonneg hc.1
    have hm1 : 0 ≤ c % ((l.length : Int) - 1) := Int.emod_nonneg _ (by omega)
    have hm2 : c % ((l.length : Int) - 1) < (l.length : Int) - 1 := Int.emod_lt_of_pos _ (by omega)
    obtain ⟨k, hk⟩ : ∃ k : Nat, c % ((l.length : Int) - 1) = (k : Int) := ⟨(c % ((l.length : Int) - 1)).toNat, by omega⟩
    rw [hk] at hm2 d1
    have w2 : IntKind.i64.wrap (k : Int) = (k : Int) := wrap_i64 _ (by omega) (by omega)
    have w3 : IntKind.i64.wrap ((k : Int) + 1) = ((k + 1 : Nat) : Int) := by rw [wrap_i64 _ (by omega) (by omega)]; omega
    have hk1 : k + 1 < l.length := by omega
    have hk0 : k < l.length := by omega
    have hne : l ≠ [] := by intro e; rw [e] at hk1; simp at hk1
    simp only [e1, w0, w1, z1, d1, w2, go_sem, Nat.reduceAdd, Nat.reduceEqDiff, Nat.reduceLT, reduceIte, reduceCtorEq, Nat.reduceBEq, Int.reduceLT, Int.reduceToNat, Int.reducePow, Nat.reduceLeDiff, Int.reduceLE, Nat.reduceMul, Nat.reduceSub]
    refine empty_row ?_
    have r1 := fun tp' tt => app_wrapT hne [] (tp := (nx, 21) :: tp') (e := 21) (id := nx) (by simp only [beq_self_eq_true, go_sem, Nat.reduceAdd, Nat.reduceEqDiff, Nat.reduceLT, reduceIte, reduceCtorEq, Nat.reduceBEq, Int.reduceLT, Int.reduceToNat, Int.reducePow, Nat.reduceLeDiff, Int.reduceLE, Nat.reduceMul, Nat.reduceSub]) tt
    have htl : (l.take k).length = k := by simp; omega
    have hsp : l = l.take k ++ l[k] :: l[k + 1] :: l.drop (k + 2) := by
      rw [show l[k + 1] :: l.drop (k + 2) = l.drop (k + 1) from (List.drop_eq_getElem_cons hk1).symm, ← List.drop_eq_getElem_cons hk0, List.take_append_drop]
    have g1 := cX_get (xs := l) hk1
    have g2 := cX_get (xs := l) hk0
    have p1 := cX_put l k (l[k + 1]'hk1) hk0
    have p2 := cX_put (l.set k (l[k + 1]'hk1)) (k + 1) (l[k]'hk0) (by rw [List.length_set]; omega)
    have hset : (l.set k (l[k + 1]'hk1)).set (k + 1) (l[k]'hk0) = l.take k ++ l[k + 1]'hk1 :: l[k]'hk0 :: l.drop (k + 2) := by
      have := swp_next (l.take k) (l.drop (k + 2)) (l[k]'hk0) (l[k + 1]'hk1)
      rw [htl, ← hsp] at this
      rw [← this]
      unfold swp
      have q1 : l.getD (k + 1) 0 = l[k + 1]'hk1 := by rw [List.getD_eq_getElem?_getD, List.getElem?_eq_getElem hk1]; rfl
      have q2 : l.getD k 0 = l[k]'hk0 := by rw [List.getD_eq_getElem?_getD, List.getElem?_eq_getElem hk0]; rfl
      rw [q1, q2]
    have l1 : k + 1 ≤ l.length := by omega
    have l2 : k + 1 + 1 ≤ l.length := by omega
    have ol : (l.take k ++ l[k + 1]'hk1 :: l[k]'hk0 :: l.drop (k + 2)).length = l.length := by
      rw [← hset]; simp
    rw [hset] at p2
    generalize l[k] = x at *
    generalize l[k + 1] = y at *
    simp only [r1, w3, hk1, hk0, Nat.mul_one, unOb_cX, drop_get0, g1, g2, p1, p2, l1, l2, cX_length, List.length_set, go_sem, Nat.reduceAdd, Nat.reduceEqDiff, Nat.reduceLT, reduceIte, reduceCtorEq, Nat.reduceBEq, Int.reduceLT, Int.reduceToNat, Int.reducePow, Nat.reduceLeDiff, Int.reduceLE, Nat.reduceMul, Nat.reduceSub]
    refine ⟨by omega, ?_⟩
    refine ⟨_, (weak_freeze 10 (els := runes (l.take k ++ y :: x :: l.drop (k + 2))) (rest := []) (by simp only [go_sem, Nat.reduceAdd, Nat.reduceEqDiff, Nat.reduceLT, reduceIte, reduceCtorEq, Nat.reduceBEq, Int.reduceLT, Int.reduceToNat, Int.reducePow, Nat.reduceLeDiff, Int.reduceLE, Nat.reduceMul, Nat.reduceSub]; rfl) (by simp only [cX_flat, unOb_cX, go_sem, Nat.reduceAdd, Nat.reduceEqDiff, Nat.reduceLT, reduceIte, reduceCtorEq, Nat.reduceBEq, Int.reduceLT, Int.reduceToNat, Int.reducePow, Nat.reduceLeDiff, Int.reduceLE, Nat.reduceMul, Nat.reduceSub]) (by rw [runes_length, ol]) (lenAll_runes _) (oneV_runes _)).trans ((weak_untip 10 (by simp only [go_sem, Nat.reduceAdd, Nat.reduceEqDiff, Nat.reduceLT, reduceIte, reduceCtorEq, Nat.reduceBEq, Int.reduceLT, Int.reduceToNat, Int.reducePow, Nat.reduceLeDiff, Int.reduceLE, Nat.reduceMul, Nat.reduceSub]; rfl)).trans (weak_forget (sl1 := [(0, some (rS l none)), (9, some (.lit (.int .i64 (k : Int)))), (10, some (rS (l.take k ++ y :: x :: l.drop (k + 2)) none))]) (bx1 := []) ?_ (by simp only [go_sem, Nat.reduceAdd, Nat.reduceEqDiff, Nat.reduceLT, reduceIte, reduceCtorEq, Nat.reduceBEq, Int.reduceLT, Int.reduceToNat, Int.reducePow, Nat.reduceLeDiff, Int.reduceLE, Nat.reduceMul, Nat.reduceSub]; exact List.Sublist.refl _) (List.Sublist.refl _))), ?_⟩
    · simp only [go_sem, Nat.reduceAdd, Nat.reduceEqDiff, Nat.reduceLT, reduceIte, reduceCtorEq, Nat.reduceBEq, Int.reduceLT, Int.reduceToNat, Int.reducePow, Nat.reduceLeDiff, Int.reduceLE, Nat.reduceMul, Nat.reduceSub, slotsSub]
    · refine order_tail h32 (by omega) hsp (by simp only [go_sem, Nat.reduceAdd, Nat.reduceEqDiff, Nat.reduceLT, reduceIte, reduceCtorEq, Nat.reduceBEq, Int.reduceLT, Int.reduceToNat, Int.reducePow, Nat.reduceLeDiff, Int.reduceLE, Nat.reduceMul, Nat.reduceSub]) ?_ (by simp only [go_sem, Nat.reduceAdd, Nat.reduceEqDiff, Nat.reduceLT, reduceIte, reduceCtorEq, Nat.reduceBEq, Int.reduceLT, Int.reduceToNat, Int.reducePow, Nat.reduceLeDiff, Int.reduceLE, Nat.reduceMul, Nat.reduceSub])
      rw [htl]
      simp only [go_sem, Nat.reduceAdd, Nat.reduceEqDiff, Nat.reduceLT, reduceIte, reduceCtorEq, Nat.reduceBEq, Int.reduceLT, Int.reduceToNat, Int.reducePow, Nat.reduceLeDiff, Int.reduceLE, Nat.reduceMul, Nat.reduceSub]

theorem normOrder_any (avs : List AV) (h : Args Try.prog Try.f8.params.toList avs) : Pure Try.prog 8 avs [] (.lit (.bool true)) := by
  have hp : Try.f8.params.toList = [22, 5] := by kernel_rfl
  rw [hp] at h
  obtain ⟨av0, rest0, rfl, a0, h0⟩ := h
  obtain ⟨av1, rest1, rfl, a1, rfl⟩ := h0
  obtain ⟨z0, rfl, w0, s0⟩ := arg_ints (e := 21) (k := .i32) (by kernel_rfl) (by kernel_rfl) a0
  rw [show Try.prog.bytesOf 21 = 4 from by kernel_rfl] at s0
  obtain ⟨z1, rfl, w1⟩ := arg_int (k := .u8) (by kernel_rfl) a1
  exact normOrder_pure z0 ⟨by omega, fun n hn => by simpa [Lit.wf, IntKind.min, IntKind.max, IntKind.signed, IntKind.bits] using w0 n hn⟩ z1 (by simpa [Lit.wf, IntKind.min, IntKind.max, IntKind.signed, IntKind.bits] using w1)

set_option maxRecDepth 100000 in
theorem normOrder_lifted (os : Os) (started : os.Started) (H : Type) (enc : TypeId × Value → H) :
    ReturnsInHanded {} Try.checked os 8 .any (Rows.normOrderSpec.pre6 enc Try.prog Try.f8 Rows.normOrderRow.domain false) (Rows.normOrderSpec.post enc Try.prog Try.f8 false true false false) := by
  refine law_returns (C := Try.checked) (tb := 4) (by kernel_rfl) started (by kernel_rfl) Try.func8
    (ChangeSpec.witness6 (enc := enc) (C := Try.checked) false ⟨#[], #[.slice none 0 0, .int .u8 0], []⟩ 8 (by kernel_rfl) (by kernel_rfl) (by kernel_rfl) (by kernel_rfl))
    (by kernel_rfl) (by kernel_rfl) rfl rfl (by kernel_rfl) (by kernel_rfl) ?_ normOrder_any
  intro ds hds
  have hp : Try.f8.params.toList = [22, 5] := by kernel_rfl
  rw [hp] at hds
  match ds, hds with
  | [d0, d1], _ => exact ⟨rfl, rfl, rfl⟩

theorem normOrder_holds : Rows.NormOrderSaid :=
  OpenClaim.holds_of_wide 8 Try.f8 rfl rfl rfl rfl rfl rfl rfl ⟨rfl, rfl, rfl, rfl, rfl⟩ rfl rfl rfl rfl rfl (by kernel_rfl) Try.func8 (by kernel_rfl)
    (of_decide_eq_true (by kernel_rfl)) (by unfold Func.isWrapper; first | (rw [if_pos (by decide +kernel)]; kernel_rfl) | (rw [if_neg (by decide +kernel)]; exact ⟨rfl, rfl⟩))
    (fun os started H enc _ => normOrder_lifted os started H enc)
end Go.Proofs.Ytmhpjoadfgplgaa
