/-
Encoding, decoding and validity by the document, and the statement UtfTells. Conditions: none.
-/
import Derived.Test.YtbnaepdeakcljaaUtf17
import Derived.Test.YtbnaepdeakcljaaUtf8
set_option linter.unusedSimpArgs false
set_option linter.unusedVariables false
set_option linter.unusedSectionVars false
namespace Go.Proofs.Ytbnaepdeakcljaa
open Go Go.Ab Go.ChangeShapes Go.WideShapes Go.ChangeAt Go.RowKit
def a25 : ACode :=
  (.seq (.reg [⟨(.some 2), (.mv (.k (.slice .none 0 0))), .none⟩]) (.seq (.reg [⟨(.some 3), (.mv (.k (.slice .none 0 0))), .none⟩]) (.seq (.seq (.reg [⟨(.some 4), (.mv (.k (.int .i64 0))), .none⟩])
  (.block 0 (.loop (.seq (.seq (.reg [⟨(.some 6), (.mv (.t 4)), .none⟩, ⟨(.some 7), (.mv (.t 0)), .none⟩, ⟨(.some 8), (.len (.t 7)), .none⟩, ⟨(.some 9), (.bin .lss (.t 6) (.t 8)), .none⟩]) (.cond (.t 9)
  .skip (.exit 0))) (.seq (.block 1 (.seq (.reg [⟨(.some 12), (.mv (.t 0)), .none⟩, ⟨(.some 13), (.mv (.t 4)), .none⟩, ⟨(.some 14), (.ia 21 (.t 12) (.t 13)), .none⟩, ⟨(.some 15), (.ld .none (.t 14)),
  .none⟩, ⟨(.some 5), (.mv (.t 15)), .none⟩]) (.seq (.seq (.reg [⟨(.some 16), (.mv (.t 5)), .none⟩, ⟨(.some 17), (.call (.f 21) [(.t 16)]), .none⟩, ⟨(.some 18), (.not (.t 17)), .none⟩]) (.cond (.t 18)
  (.reg [⟨(.some 5), (.mv (.k (.int .i32 65533))), .none⟩]) .skip)) (.reg [⟨(.some 19), (.mv (.t 3)), .none⟩, ⟨(.some 20), (.mv (.t 5)), .none⟩, ⟨(.some 21), (.call (.f 40) [(.t 20)]), .none⟩, ⟨(.some
  22), (.app 5 1 (.t 19) (.t 21)), .none⟩, ⟨(.some 3), (.mv (.t 22)), .none⟩])))) (.reg [⟨(.some 10), (.mv (.t 4)), .none⟩, ⟨(.some 11), (.bin .add (.t 10) (.k (.int .i64 1))), .none⟩, ⟨(.some 4), (.mv
  (.t 11)), .none⟩])))))) (.seq (.reg [⟨(.some 23), (.mv (.t 3)), .none⟩, ⟨(.some 2), (.mv (.t 23)), .none⟩]) .ret))))
theorem c25 : Try.f25.body.bind (cCode Try.prog 24) = some a25 := by kernel_rfl
theorem r25 : Try.f25.results.toList = [(.tmp 2)] := by kernel_rfl
theorem n25 : Try.f25.ntmps = 24 := by kernel_rfl
theorem e25 : Enters Try.prog 25 := enters_of Try.func25 (by kernel_rfl) (by kernel_rfl)
def a24 : ACode :=
  (.seq (.reg [⟨(.some 2), (.mv (.k (.slice .none 0 0))), .none⟩]) (.seq (.reg [⟨(.some 6), (.mv (.t 0)), .none⟩, ⟨(.some 7), (.call (.f 23) [(.t 6)]), .none⟩, ⟨(.some 3), (.mv (.t 7)), .none⟩]) (.seq
  (.reg [⟨(.some 4), (.mv (.k (.slice .none 0 0))), .none⟩]) (.seq (.seq (.reg [⟨(.some 5), (.mv (.k (.int .i64 0))), .none⟩]) (.block 0 (.loop (.seq (.seq (.reg [⟨(.some 8), (.mv (.t 5)), .none⟩,
  ⟨(.some 9), (.mv (.t 3)), .none⟩, ⟨(.some 10), (.len (.t 9)), .none⟩, ⟨(.some 11), (.bin .lss (.t 8) (.t 10)), .none⟩]) (.cond (.t 11) .skip (.exit 0))) (.seq (.block 1 (.reg [⟨(.some 14), (.mv (.t
  4)), .none⟩, ⟨(.some 15), (.mv (.t 3)), .none⟩, ⟨(.some 16), (.mv (.t 5)), .none⟩, ⟨(.some 17), (.ia 27 (.t 15) (.t 16)), .none⟩, ⟨(.some 18), (.fa 0 (.t 17)), .none⟩, ⟨(.some 19), (.ld .none (.t
  18)), .none⟩, ⟨(.some 20), (.bs 21 1 [(.t 19)]), .none⟩, ⟨(.some 21), (.app 21 4 (.t 14) (.t 20)), .none⟩, ⟨(.some 4), (.mv (.t 21)), .none⟩])) (.reg [⟨(.some 12), (.mv (.t 5)), .none⟩, ⟨(.some 13),
  (.bin .add (.t 12) (.k (.int .i64 1))), .none⟩, ⟨(.some 5), (.mv (.t 13)), .none⟩])))))) (.seq (.reg [⟨(.some 22), (.mv (.t 4)), .none⟩, ⟨(.some 2), (.mv (.t 22)), .none⟩]) .ret)))))
theorem c24 : Try.f24.body.bind (cCode Try.prog 23) = some a24 := by kernel_rfl
theorem r24 : Try.f24.results.toList = [(.tmp 2)] := by kernel_rfl
theorem n24 : Try.f24.ntmps = 23 := by kernel_rfl
theorem e24 : Enters Try.prog 24 := enters_of Try.func24 (by kernel_rfl) (by kernel_rfl)
def a27 : ACode :=
  (.seq (.reg [⟨(.some 2), (.mv (.k (.bool false))), .none⟩]) (.seq (.dreg [⟨(.some 3), (.mv (.t 0)), .none⟩, ⟨(.some 4), (.call (.f 24) [(.t 3)]), .none⟩, ⟨(.some 5), (.call (.f 25) [(.t 4)]), .none⟩,
  ⟨(.some 6), (.cvBS (.t 5)), .none⟩, ⟨(.some 7), (.mv (.t 0)), .none⟩, ⟨(.some 8), (.cvBS (.t 7)), .none⟩, ⟨(.some 9), (.bin .eql (.t 6) (.t 8)), .none⟩, ⟨(.some 2), (.mv (.t 9)), .none⟩]) .ret))
theorem c27 : Try.f27.body.bind (cCode Try.prog 10) = some a27 := by kernel_rfl
theorem r27 : Try.f27.results.toList = [(.tmp 2)] := by kernel_rfl
theorem n27 : Try.f27.ntmps = 10 := by kernel_rfl
theorem e27 : Enters Try.prog 27 := enters_of Try.func27 (by kernel_rfl) (by kernel_rfl)
def a6 : ACode :=
  (.seq (.reg [⟨(.some 6), (.mv (.k (.bool false))), .none⟩]) (.seq (.seq (.reg [⟨(.some 8), (.mv (.t 1)), .none⟩, ⟨(.some 9), (.len (.t 8)), .none⟩, ⟨(.some 10), (.bin .gtr (.t 9) (.k (.int .i64
  500))), .none⟩, ⟨(.some 11), (.mv (.t 10)), .none⟩, ⟨(.some 12), (.mv (.t 2)), (.some (11, false))⟩, ⟨(.some 13), (.len (.t 12)), (.some (11, false))⟩, ⟨(.some 14), (.bin .gtr (.t 13) (.k (.int .i64
  300))), (.some (11, false))⟩, ⟨(.some 15), (.pick (.t 11) (.k (.bool true)) (.t 14)), .none⟩]) (.cond (.t 15) (.seq (.reg [⟨(.some 16), (.call (.f 19) []), .none⟩, ⟨(.some 6), (.mv (.t 16)), .none⟩])
  .ret) .skip)) (.seq (.reg [⟨(.some 17), (.bs 5 1 []), .none⟩, ⟨(.some 18), (.mv (.t 1)), .none⟩, ⟨(.some 19), (.app 5 1 (.t 17) (.t 18)), .none⟩, ⟨(.some 7), (.mv (.t 19)), .none⟩]) (.seq (.reg
  [⟨(.some 20), (.mv (.t 0)), .none⟩, ⟨(.some 21), (.call (.f 20) [(.t 20)]), .none⟩, ⟨(.some 22), (.mv (.t 0)), .none⟩, ⟨(.some 23), (.call (.f 21) [(.t 22)]), .none⟩, ⟨(.some 24), (.eqB false (.t 21)
  (.t 23)), .none⟩, ⟨(.some 25), (.mv (.t 24)), .none⟩, ⟨(.some 26), (.mv (.t 7)), (.some (25, true))⟩, ⟨(.some 27), (.call (.f 14) [(.t 26)]), (.some (25, true))⟩, ⟨(.some 28), (.mv (.t 1)), (.some
  (25, true))⟩, ⟨(.some 29), (.call (.f 23) [(.t 28)]), (.some (25, true))⟩, ⟨(.some 30), (.call (.f 22) [(.t 27), (.t 29)]), (.some (25, true))⟩, ⟨(.some 31), (.pick (.t 25) (.t 30) (.k (.bool
  false))), .none⟩, ⟨(.some 32), (.mv (.t 31)), .none⟩, ⟨(.some 33), (.mv (.t 7)), (.some (32, true))⟩, ⟨(.some 34), (.call (.f 15) [(.t 33)]), (.some (32, true))⟩, ⟨(.some 35), (.mv (.t 1)), (.some
  (32, true))⟩, ⟨(.some 36), (.call (.f 24) [(.t 35)]), (.some (32, true))⟩, ⟨(.some 37), (.call (.f 16) [(.t 34), (.t 36)]), (.some (32, true))⟩, ⟨(.some 38), (.pick (.t 32) (.t 37) (.k (.bool
  false))), .none⟩, ⟨(.some 39), (.mv (.t 38)), .none⟩, ⟨(.some 40), (.mv (.t 2)), (.some (39, true))⟩, ⟨(.some 41), (.call (.f 17) [(.t 40)]), (.some (39, true))⟩, ⟨(.some 42), (.mv (.t 2)), (.some
  (39, true))⟩, ⟨(.some 43), (.call (.f 25) [(.t 42)]), (.some (39, true))⟩, ⟨(.some 44), (.call (.f 18) [(.t 41), (.t 43)]), (.some (39, true))⟩, ⟨(.some 45), (.pick (.t 39) (.t 44) (.k (.bool
  false))), .none⟩, ⟨(.some 46), (.mv (.t 45)), .none⟩, ⟨(.some 47), (.mv (.t 7)), (.some (46, true))⟩, ⟨(.some 48), (.call (.f 26) [(.t 47)]), (.some (46, true))⟩, ⟨(.some 49), (.mv (.t 1)), (.some
  (46, true))⟩, ⟨(.some 50), (.call (.f 27) [(.t 49)]), (.some (46, true))⟩, ⟨(.some 51), (.eqB false (.t 48) (.t 50)), (.some (46, true))⟩, ⟨(.some 52), (.pick (.t 46) (.t 51) (.k (.bool false))),
  .none⟩, ⟨(.some 53), (.mv (.t 52)), .none⟩, ⟨(.some 54), (.mv (.t 7)), (.some (53, true))⟩, ⟨(.some 55), (.mv (.t 1)), (.some (53, true))⟩, ⟨(.some 56), (.call (.f 18) [(.t 54), (.t 55)]), (.some (53,
  true))⟩, ⟨(.some 57), (.pick (.t 53) (.t 56) (.k (.bool false))), .none⟩, ⟨(.some 58), (.mv (.t 57)), .none⟩, ⟨(.some 59), (.call (.f 19) []), (.some (58, true))⟩, ⟨(.some 60), (.pick (.t 58) (.t 59)
  (.k (.bool false))), .none⟩, ⟨(.some 6), (.mv (.t 60)), .none⟩]) .ret))))
theorem c6 : Try.f6.body.bind (cCode Try.prog 61) = some a6 := by kernel_rfl
theorem r6 : Try.f6.results.toList = [(.tmp 6)] := by kernel_rfl
theorem n6 : Try.f6.ntmps = 61 := by kernel_rfl
theorem e6 : Enters Try.prog 6 := enters_of Try.func6 (by kernel_rfl) (by kernel_rfl)

set_option maxRecDepth 10000 in
theorem refEncode_pure (l : List Int) (hl : l.length ≤ 1099511627776) : Pure Try.prog 25 [.sl 21 (runes l) none] [5] (.sl 5 (octs (encL l)) (some 0)) := by
  refine pure1 Try.func25 c25 n25 e25 r25 (by simp) ?_
  simp only [a25, astart, argSlots, go_sem, Nat.reduceAdd, Nat.reduceEqDiff, Nat.reduceLT, reduceIte, reduceCtorEq, Nat.reduceBEq, Int.reduceLT, Int.reduceToNat, Int.reducePow, Nat.reduceLeDiff, Int.reduceLE, Nat.reduceMul, Nat.reduceSub]
  refine loop_to l.length (fun i => ⟨[(0, some (.sl 21 (runes l) none)), (3, some (.sl 5 (octs (encL (l.take i))) (some 0))), (4, some (.lit (.int .i64 (i : Int))))], [], [(0, 5)], 1⟩) (fun i => i ≤ l.length)
    ((weak_nil 3 5 (by simp only [go_sem, Nat.reduceAdd, Nat.reduceEqDiff, Nat.reduceLT, reduceIte, reduceCtorEq, Nat.reduceBEq, Int.reduceLT, Int.reduceToNat, Int.reducePow, Nat.reduceLeDiff, Int.reduceLE, Nat.reduceMul, Nat.reduceSub])).trans (weak_by [0] (by simp) rfl ?_ ?_ ?_ ?_)) (Nat.zero_le _) ?_ ?_
  · simp only [go_sem, Nat.reduceAdd, Nat.reduceEqDiff, Nat.reduceLT, reduceIte, reduceCtorEq, Nat.reduceBEq, Int.reduceLT, Int.reduceToNat, Int.reducePow, Nat.reduceLeDiff, Int.reduceLE, Nat.reduceMul, Nat.reduceSub, slotsBy, boxesBy, tipsBy, rawAt, nm, AV.ren, AV.renL, AV.under, AV.underL, List.all_nil, List.all_cons, bne_self_eq_false, List.getD_cons_zero, List.getD_cons_succ, List.length_nil, List.length_cons, and_true, true_and, Int.natCast_zero]; rfl
  · trivial
  · simp only [go_sem, Nat.reduceAdd, Nat.reduceEqDiff, Nat.reduceLT, reduceIte, reduceCtorEq, Nat.reduceBEq, Int.reduceLT, Int.reduceToNat, Int.reducePow, Nat.reduceLeDiff, Int.reduceLE, Nat.reduceMul, Nat.reduceSub, slotsBy, boxesBy, tipsBy, rawAt, nm, AV.ren, AV.renL, AV.under, AV.underL, List.all_nil, List.all_cons, bne_self_eq_false, List.getD_cons_zero, List.getD_cons_succ, List.length_nil, List.length_cons, and_true, true_and, beq_self_eq_true]
  · simp
  · intro i hi _
    have hg := runes_get l i hi
    have htk := encL_take hi
    have hlen := encL_length (l.take i)
    have hel := encN_len (fixN l[i])
    have hfl := fixN_le l[i]
    have hw2 : IntKind.i64.wrap ((i : Int) + 1) = ((i + 1 : Nat) : Int) := by rw [wrap_i64 _ (by omega) (by omega)]; omega
    have hlt : (l.take i).length ≤ i := by simp; omega
    generalize l[i] = r at hg htk hel hfl
    simp only [runes_length, dec_lt hi, go_sem, Nat.reduceAdd, Nat.reduceEqDiff, Nat.reduceLT, reduceIte, reduceCtorEq, Nat.reduceBEq, Int.reduceLT, Int.reduceToNat, Int.reducePow, Nat.reduceLeDiff, Int.reduceLE, Nat.reduceMul, Nat.reduceSub, Int.natCast_nonneg, Int.toNat_natCast, hg]
    refine callGo_pure (refScalar_pure r) (by rfl) ?_
    cases hs : scalarB r with
    | true =>
      have hfx : ((fixN r : Nat) : Int) = r := by
        unfold fixN
        rw [if_pos hs]
        simp only [scalarB, Bool.and_eq_true, decide_eq_true_eq] at hs
        omega
      have hp := bytes_pure (fixN r) hfl
      rw [hfx] at hp
      simp only [go_sem, Nat.reduceAdd, Nat.reduceEqDiff, Nat.reduceLT, reduceIte, reduceCtorEq, Nat.reduceBEq, Int.reduceLT, Int.reduceToNat, Int.reducePow, Nat.reduceLeDiff, Int.reduceLE, Nat.reduceMul, Nat.reduceSub]
      refine callGo_pure hp (by rfl) ?_
      simp only [octs_length, hw2, go_sem, Nat.reduceAdd, Nat.reduceEqDiff, Nat.reduceLT, reduceIte, reduceCtorEq, Nat.reduceBEq, Int.reduceLT, Int.reduceToNat, Int.reducePow, Nat.reduceLeDiff, Int.reduceLE, Nat.reduceMul, Nat.reduceSub]
      refine ⟨by omega, weak_by [2] (by simp) rfl ?_ ?_ ?_ ?_, by omega⟩
      · simp only [go_sem, Nat.reduceAdd, Nat.reduceEqDiff, Nat.reduceLT, reduceIte, reduceCtorEq, Nat.reduceBEq, Int.reduceLT, Int.reduceToNat, Int.reducePow, Nat.reduceLeDiff, Int.reduceLE, Nat.reduceMul, Nat.reduceSub, slotsBy, boxesBy, tipsBy, rawAt, nm, AV.ren, AV.renL, AV.under, AV.underL, List.all_nil, List.all_cons, bne_self_eq_false, List.getD_cons_zero, List.getD_cons_succ, List.length_nil, List.length_cons, and_true, true_and, htk, octs_append]
      · trivial
      · simp only [go_sem, Nat.reduceAdd, Nat.reduceEqDiff, Nat.reduceLT, reduceIte, reduceCtorEq, Nat.reduceBEq, Int.reduceLT, Int.reduceToNat, Int.reducePow, Nat.reduceLeDiff, Int.reduceLE, Nat.reduceMul, Nat.reduceSub, slotsBy, boxesBy, tipsBy, rawAt, nm, AV.ren, AV.renL, AV.under, AV.underL, List.all_nil, List.all_cons, bne_self_eq_false, List.getD_cons_zero, List.getD_cons_succ, List.length_nil, List.length_cons, and_true, true_and, beq_self_eq_true]
      · simp
    | false =>
      have hfx : fixN r = 65533 := by unfold fixN; rw [if_neg (by rw [hs]; simp)]
      have hp := bytes_pure 65533 (by omega)
      rw [hfx] at htk hel
      simp only [go_sem, Nat.reduceAdd, Nat.reduceEqDiff, Nat.reduceLT, reduceIte, reduceCtorEq, Nat.reduceBEq, Int.reduceLT, Int.reduceToNat, Int.reducePow, Nat.reduceLeDiff, Int.reduceLE, Nat.reduceMul, Nat.reduceSub]
      refine callGo_pure hp (by rfl) ?_
      simp only [octs_length, hw2, go_sem, Nat.reduceAdd, Nat.reduceEqDiff, Nat.reduceLT, reduceIte, reduceCtorEq, Nat.reduceBEq, Int.reduceLT, Int.reduceToNat, Int.reducePow, Nat.reduceLeDiff, Int.reduceLE, Nat.reduceMul, Nat.reduceSub]
      refine ⟨by omega, weak_by [2] (by simp) rfl ?_ ?_ ?_ ?_, by omega⟩
      · simp only [go_sem, Nat.reduceAdd, Nat.reduceEqDiff, Nat.reduceLT, reduceIte, reduceCtorEq, Nat.reduceBEq, Int.reduceLT, Int.reduceToNat, Int.reducePow, Nat.reduceLeDiff, Int.reduceLE, Nat.reduceMul, Nat.reduceSub, slotsBy, boxesBy, tipsBy, rawAt, nm, AV.ren, AV.renL, AV.under, AV.underL, List.all_nil, List.all_cons, bne_self_eq_false, List.getD_cons_zero, List.getD_cons_succ, List.length_nil, List.length_cons, and_true, true_and, htk, octs_append]
      · trivial
      · simp only [go_sem, Nat.reduceAdd, Nat.reduceEqDiff, Nat.reduceLT, reduceIte, reduceCtorEq, Nat.reduceBEq, Int.reduceLT, Int.reduceToNat, Int.reducePow, Nat.reduceLeDiff, Int.reduceLE, Nat.reduceMul, Nat.reduceSub, slotsBy, boxesBy, tipsBy, rawAt, nm, AV.ren, AV.renL, AV.under, AV.underL, List.all_nil, List.all_cons, bne_self_eq_false, List.getD_cons_zero, List.getD_cons_succ, List.length_nil, List.length_cons, and_true, true_and, beq_self_eq_true]
      · simp
  · intro _
    simp only [runes_length, dec_irr, go_sem, Nat.reduceAdd, Nat.reduceEqDiff, Nat.reduceLT, reduceIte, reduceCtorEq, Nat.reduceBEq, Int.reduceLT, Int.reduceToNat, Int.reducePow, Nat.reduceLeDiff, Int.reduceLE, Nat.reduceMul, Nat.reduceSub]
    refine ⟨.inr rfl, 0, ?_, by simp [go_sem, Nat.reduceAdd, Nat.reduceEqDiff, Nat.reduceLT, reduceIte, reduceCtorEq, Nat.reduceBEq, Int.reduceLT, Int.reduceToNat, Int.reducePow, Nat.reduceLeDiff, Int.reduceLE, Nat.reduceMul, Nat.reduceSub]⟩
    rw [List.take_length]
    simp only [resAV, resL, resOne, go_sem, Nat.reduceAdd, Nat.reduceEqDiff, Nat.reduceLT, reduceIte, reduceCtorEq, Nat.reduceBEq, Int.reduceLT, Int.reduceToNat, Int.reducePow, Nat.reduceLeDiff, Int.reduceLE, Nat.reduceMul, Nat.reduceSub]

set_option maxRecDepth 10000 in
theorem refDecode_pure (b : List Nat) (hb : ∀ n ∈ b, n ≤ 255) (hl : b.length ≤ 1099511627776) : Pure Try.prog 24 [.sl 5 (octs b) none] [21] (.sl 21 (runes (decL b)) (some 0)) := by
  refine pure1 Try.func24 c24 n24 e24 r24 (by simp) ?_
  simp only [a24, astart, argSlots, go_sem, Nat.reduceAdd, Nat.reduceEqDiff, Nat.reduceLT, reduceIte, reduceCtorEq, Nat.reduceBEq, Int.reduceLT, Int.reduceToNat, Int.reducePow, Nat.reduceLeDiff, Int.reduceLE, Nat.reduceMul, Nat.reduceSub]
  refine callGo_pure (refCodes_pure b hb hl) (by rfl) ?_
  have hcl := cut_length 0 b
  have hdec : decL b = (cut 0 b).map fun x => ((x.1 : Nat) : Int) := rfl
  rw [hdec]
  generalize cut 0 b = L at hcl
  simp only [go_sem, Nat.reduceAdd, Nat.reduceEqDiff, Nat.reduceLT, reduceIte, reduceCtorEq, Nat.reduceBEq, Int.reduceLT, Int.reduceToNat, Int.reducePow, Nat.reduceLeDiff, Int.reduceLE, Nat.reduceMul, Nat.reduceSub]
  refine loop_to L.length (fun i => ⟨[(3, some (.sl 27 (codesC L) none)), (4, some (.sl 21 (runes ((L.take i).map fun x => ((x.1 : Nat) : Int))) (some 0))), (5, some (.lit (.int .i64 (i : Int))))], [], [(0, 21)], 1⟩) (fun i => i ≤ L.length)
    ((weak_nil 4 21 (by simp only [go_sem, Nat.reduceAdd, Nat.reduceEqDiff, Nat.reduceLT, reduceIte, reduceCtorEq, Nat.reduceBEq, Int.reduceLT, Int.reduceToNat, Int.reducePow, Nat.reduceLeDiff, Int.reduceLE, Nat.reduceMul, Nat.reduceSub])).trans ((weak_untip 3 (by simp only [go_sem, Nat.reduceAdd, Nat.reduceEqDiff, Nat.reduceLT, reduceIte, reduceCtorEq, Nat.reduceBEq, Int.reduceLT, Int.reduceToNat, Int.reducePow, Nat.reduceLeDiff, Int.reduceLE, Nat.reduceMul, Nat.reduceSub]; rfl)).trans (weak_by [1] (by simp) rfl ?_ ?_ ?_ ?_))) (Nat.zero_le _) ?_ ?_
  · simp only [go_sem, Nat.reduceAdd, Nat.reduceEqDiff, Nat.reduceLT, reduceIte, reduceCtorEq, Nat.reduceBEq, Int.reduceLT, Int.reduceToNat, Int.reducePow, Nat.reduceLeDiff, Int.reduceLE, Nat.reduceMul, Nat.reduceSub, slotsBy, boxesBy, tipsBy, rawAt, nm, AV.ren, AV.renL, AV.under, AV.underL, List.all_nil, List.all_cons, bne_self_eq_false, List.getD_cons_zero, List.getD_cons_succ, List.length_nil, List.length_cons, and_true, true_and, Int.natCast_zero]; rfl
  · trivial
  · simp only [go_sem, Nat.reduceAdd, Nat.reduceEqDiff, Nat.reduceLT, reduceIte, reduceCtorEq, Nat.reduceBEq, Int.reduceLT, Int.reduceToNat, Int.reducePow, Nat.reduceLeDiff, Int.reduceLE, Nat.reduceMul, Nat.reduceSub, slotsBy, boxesBy, tipsBy, rawAt, nm, AV.ren, AV.renL, AV.under, AV.underL, List.all_nil, List.all_cons, bne_self_eq_false, List.getD_cons_zero, List.getD_cons_succ, List.length_nil, List.length_cons, and_true, true_and, beq_self_eq_true]
  · simp
  · intro i hi _
    have hx := List.getElem?_eq_getElem hi
    have hg : (codesC L)[i]? = some (codeC L[i]) := by simp [codesC, hx]
    have htk : L.take (i + 1) = L.take i ++ [L[i]] := List.take_succ_eq_append_getElem hi
    generalize L[i] = x at hg htk
    have hw2 : IntKind.i64.wrap ((i : Int) + 1) = ((i + 1 : Nat) : Int) := by rw [wrap_i64 _ (by omega) (by omega)]; omega
    simp only [codesC_length, dec_lt hi, go_sem, Nat.reduceAdd, Nat.reduceEqDiff, Nat.reduceLT, reduceIte, reduceCtorEq, Nat.reduceBEq, Int.reduceLT, Int.reduceToNat, Int.reducePow, Nat.reduceLeDiff, Int.reduceLE, Nat.reduceMul, Nat.reduceSub, Int.natCast_nonneg, Int.toNat_natCast, hg, codeC, hw2, runes_length, List.length_map, Value.oneCell']
    refine ⟨by simp only [List.length_take]; omega, weak_by [2] (by simp) rfl ?_ ?_ ?_ ?_, by omega⟩
    · simp only [go_sem, Nat.reduceAdd, Nat.reduceEqDiff, Nat.reduceLT, reduceIte, reduceCtorEq, Nat.reduceBEq, Int.reduceLT, Int.reduceToNat, Int.reducePow, Nat.reduceLeDiff, Int.reduceLE, Nat.reduceMul, Nat.reduceSub, slotsBy, boxesBy, tipsBy, rawAt, nm, AV.ren, AV.renL, AV.under, AV.underL, List.all_nil, List.all_cons, bne_self_eq_false, List.getD_cons_zero, List.getD_cons_succ, List.length_nil, List.length_cons, and_true, true_and, htk, List.map_append, runes_append]; rfl
    · trivial
    · simp only [go_sem, Nat.reduceAdd, Nat.reduceEqDiff, Nat.reduceLT, reduceIte, reduceCtorEq, Nat.reduceBEq, Int.reduceLT, Int.reduceToNat, Int.reducePow, Nat.reduceLeDiff, Int.reduceLE, Nat.reduceMul, Nat.reduceSub, slotsBy, boxesBy, tipsBy, rawAt, nm, AV.ren, AV.renL, AV.under, AV.underL, List.all_nil, List.all_cons, bne_self_eq_false, List.getD_cons_zero, List.getD_cons_succ, List.length_nil, List.length_cons, and_true, true_and, beq_self_eq_true]
    · simp
  · intro _
    simp only [codesC_length, dec_irr, go_sem, Nat.reduceAdd, Nat.reduceEqDiff, Nat.reduceLT, reduceIte, reduceCtorEq, Nat.reduceBEq, Int.reduceLT, Int.reduceToNat, Int.reducePow, Nat.reduceLeDiff, Int.reduceLE, Nat.reduceMul, Nat.reduceSub]
    refine ⟨.inr rfl, 0, ?_, by simp [go_sem, Nat.reduceAdd, Nat.reduceEqDiff, Nat.reduceLT, reduceIte, reduceCtorEq, Nat.reduceBEq, Int.reduceLT, Int.reduceToNat, Int.reducePow, Nat.reduceLeDiff, Int.reduceLE, Nat.reduceMul, Nat.reduceSub]⟩
    rw [List.take_length]
    simp only [resAV, resL, resOne, go_sem, Nat.reduceAdd, Nat.reduceEqDiff, Nat.reduceLT, reduceIte, reduceCtorEq, Nat.reduceBEq, Int.reduceLT, Int.reduceToNat, Int.reducePow, Nat.reduceLeDiff, Int.reduceLE, Nat.reduceMul, Nat.reduceSub]

set_option maxRecDepth 10000 in
theorem refValid_pure (b : List Nat) (hb : ∀ n ∈ b, n ≤ 255) (hl : b.length ≤ 1099511627) : Pure Try.prog 27 [.sl 5 (octs b) none] [] (.lit (.bool (validL b))) := by
  have hdl := decL_length b
  refine pure0 Try.func27 c27 n27 e27 r27 (by simp) rfl ?_
  simp only [a27, astart, argSlots, go_sem, Nat.reduceAdd, Nat.reduceEqDiff, Nat.reduceLT, reduceIte, reduceCtorEq, Nat.reduceBEq, Int.reduceLT, Int.reduceToNat, Int.reducePow, Nat.reduceLeDiff, Int.reduceLE, Nat.reduceMul, Nat.reduceSub]
  refine dcallGo_pure (refDecode_pure b hb (by omega)) (by rfl) rfl ?_
  simp only [go_sem, Nat.reduceAdd, Nat.reduceEqDiff, Nat.reduceLT, reduceIte, reduceCtorEq, Nat.reduceBEq, Int.reduceLT, Int.reduceToNat, Int.reducePow, Nat.reduceLeDiff, Int.reduceLE, Nat.reduceMul, Nat.reduceSub]
  refine dcallGo_pure (refEncode_pure (decL b) (by omega)) (by rfl) rfl ?_
  simp only [go_sem, Nat.reduceAdd, Nat.reduceEqDiff, Nat.reduceLT, reduceIte, reduceCtorEq, Nat.reduceBEq, Int.reduceLT, Int.reduceToNat, Int.reducePow, Nat.reduceLeDiff, Int.reduceLE, Nat.reduceMul, Nat.reduceSub, cells_bytes _ hb, cells_bytes _ (encL_octs (decL b)), binStr]
  simp only [ByteArray.toList_mk, List.toList_toArray, bytes_inj (encL_octs (decL b)) hb, enc_dec b hb, go_sem, Nat.reduceAdd, Nat.reduceEqDiff, Nat.reduceLT, reduceIte, reduceCtorEq, Nat.reduceBEq, Int.reduceLT, Int.reduceToNat, Int.reducePow, Nat.reduceLeDiff, Int.reduceLE, Nat.reduceMul, Nat.reduceSub]
  simp only [Done, resAV, resL, resOne, look_nil, look_cons, Nat.reduceEqDiff, if_true, if_false, reduceIte, ite_true, ite_false, Nat.zero_ne_one, Nat.one_ne_zero, reduceCtorEq, true_or, or_true, true_and, Option.some.injEq, AV.lit.injEq, Value.int.injEq, Value.bool.injEq]

set_option maxRecDepth 10000 in
theorem utfTells_pure (r : Int) (_ : -2147483648 ≤ r ∧ r ≤ 2147483647) (b : List Nat) (hb : Octs b) (l : List Int) (hl : Runes l) : Pure Try.prog 6 [.lit (.int .i32 r), .sl 5 (octs b) none, .sl 21 (runes l) none] [] (.lit (.bool true)) := by
  have hb1 := hb.1
  have hl1 := hl.1
  have hoB := hb.2
  refine pure0 Try.func6 c6 n6 e6 r6 (by simp) rfl ?_
  simp only [a6, astart, argSlots, octs_length, runes_length, go_sem, Nat.reduceAdd, Nat.reduceEqDiff, Nat.reduceLT, reduceIte, reduceCtorEq, Nat.reduceBEq, Int.reduceLT, Int.reduceToNat, Int.reducePow, Nat.reduceLeDiff, Int.reduceLE, Nat.reduceMul, Nat.reduceSub]
  by_cases h5 : 500 < b.length
  · have e1 : decide ((b.length : Int) > 500) = true := by simp only [decide_eq_true_eq]; omega
    simp only [e1, go_sem, Nat.reduceAdd, Nat.reduceEqDiff, Nat.reduceLT, reduceIte, reduceCtorEq, Nat.reduceBEq, Int.reduceLT, Int.reduceToNat, Int.reducePow, Nat.reduceLeDiff, Int.reduceLE, Nat.reduceMul, Nat.reduceSub]
    refine callGo_pure awake01_pure (by rfl) ?_
    simp only [go_sem, Nat.reduceAdd, Nat.reduceEqDiff, Nat.reduceLT, reduceIte, reduceCtorEq, Nat.reduceBEq, Int.reduceLT, Int.reduceToNat, Int.reducePow, Nat.reduceLeDiff, Int.reduceLE, Nat.reduceMul, Nat.reduceSub]
    simp only [Done, resAV, resL, resOne, look_nil, look_cons, Nat.reduceEqDiff, if_true, if_false, reduceIte, ite_true, ite_false, Nat.zero_ne_one, Nat.one_ne_zero, reduceCtorEq, true_or, or_true, true_and, Option.some.injEq, AV.lit.injEq, Value.int.injEq, Value.bool.injEq]
  have e1 : decide ((b.length : Int) > 500) = false := by simp only [decide_eq_false_iff_not]; omega
  by_cases h3 : 300 < l.length
  · have e2 : decide ((l.length : Int) > 300) = true := by simp only [decide_eq_true_eq]; omega
    simp only [e1, e2, runes_length, go_sem, Nat.reduceAdd, Nat.reduceEqDiff, Nat.reduceLT, reduceIte, reduceCtorEq, Nat.reduceBEq, Int.reduceLT, Int.reduceToNat, Int.reducePow, Nat.reduceLeDiff, Int.reduceLE, Nat.reduceMul, Nat.reduceSub]
    refine callGo_pure awake01_pure (by rfl) ?_
    simp only [go_sem, Nat.reduceAdd, Nat.reduceEqDiff, Nat.reduceLT, reduceIte, reduceCtorEq, Nat.reduceBEq, Int.reduceLT, Int.reduceToNat, Int.reducePow, Nat.reduceLeDiff, Int.reduceLE, Nat.reduceMul, Nat.reduceSub]
    simp only [Done, resAV, resL, resOne, look_nil, look_cons, Nat.reduceEqDiff, if_true, if_false, reduceIte, ite_true, ite_false, Nat.zero_ne_one, Nat.one_ne_zero, reduceCtorEq, true_or, or_true, true_and, Option.some.injEq, AV.lit.injEq, Value.int.injEq, Value.bool.injEq]
  have e2 : decide ((l.length : Int) > 300) = false := by simp only [decide_eq_false_iff_not]; omega
  simp only [e1, e2, runes_length, octs_length, go_sem, Nat.reduceAdd, Nat.reduceEqDiff, Nat.reduceLT, reduceIte, reduceCtorEq, Nat.reduceBEq, Int.reduceLT, Int.reduceToNat, Int.reducePow, Nat.reduceLeDiff, Int.reduceLE, Nat.reduceMul, Nat.reduceSub]
  refine ⟨by omega, ?_⟩
  refine callGo_pure (scalar_pure r) (by rfl) ?_
  simp only [go_sem, Nat.reduceAdd, Nat.reduceEqDiff, Nat.reduceLT, reduceIte, reduceCtorEq, Nat.reduceBEq, Int.reduceLT, Int.reduceToNat, Int.reducePow, Nat.reduceLeDiff, Int.reduceLE, Nat.reduceMul, Nat.reduceSub]
  refine callGo_pure (refScalar_pure r) (by rfl) ?_
  simp only [beq_self_eq_true, go_sem, Nat.reduceAdd, Nat.reduceEqDiff, Nat.reduceLT, reduceIte, reduceCtorEq, Nat.reduceBEq, Int.reduceLT, Int.reduceToNat, Int.reducePow, Nat.reduceLeDiff, Int.reduceLE, Nat.reduceMul, Nat.reduceSub]
  refine callGo_pure (codes_pure b hoB (by omega)) (by rfl) ?_
  simp only [go_sem, Nat.reduceAdd, Nat.reduceEqDiff, Nat.reduceLT, reduceIte, reduceCtorEq, Nat.reduceBEq, Int.reduceLT, Int.reduceToNat, Int.reducePow, Nat.reduceLeDiff, Int.reduceLE, Nat.reduceMul, Nat.reduceSub]
  refine callGo_pure (refCodes_pure b hoB (by omega)) (by rfl) ?_
  have hcl := cut_length 0 b
  simp only [codesC_T, go_sem, Nat.reduceAdd, Nat.reduceEqDiff, Nat.reduceLT, reduceIte, reduceCtorEq, Nat.reduceBEq, Int.reduceLT, Int.reduceToNat, Int.reducePow, Nat.reduceLeDiff, Int.reduceLE, Nat.reduceMul, Nat.reduceSub]
  refine callGo_pure (sameCodes_pure ((cut 0 b).map trip) ((cut 0 b).map trip) (by simp only [List.length_map]; omega)) (by rfl) ?_
  simp only [beq_self_eq_true, go_sem, Nat.reduceAdd, Nat.reduceEqDiff, Nat.reduceLT, reduceIte, reduceCtorEq, Nat.reduceBEq, Int.reduceLT, Int.reduceToNat, Int.reducePow, Nat.reduceLeDiff, Int.reduceLE, Nat.reduceMul, Nat.reduceSub]
  refine callGo_pure (decode_pure b hoB (by omega)) (by rfl) ?_
  simp only [go_sem, Nat.reduceAdd, Nat.reduceEqDiff, Nat.reduceLT, reduceIte, reduceCtorEq, Nat.reduceBEq, Int.reduceLT, Int.reduceToNat, Int.reducePow, Nat.reduceLeDiff, Int.reduceLE, Nat.reduceMul, Nat.reduceSub]
  refine callGo_pure (refDecode_pure b hoB (by omega)) (by rfl) ?_
  have hdl := decL_length b
  simp only [go_sem, Nat.reduceAdd, Nat.reduceEqDiff, Nat.reduceLT, reduceIte, reduceCtorEq, Nat.reduceBEq, Int.reduceLT, Int.reduceToNat, Int.reducePow, Nat.reduceLeDiff, Int.reduceLE, Nat.reduceMul, Nat.reduceSub]
  refine callGo_pure (runesSame_pure (decL b) (decL b) (by omega)) (by rfl) ?_
  simp only [beq_self_eq_true, go_sem, Nat.reduceAdd, Nat.reduceEqDiff, Nat.reduceLT, reduceIte, reduceCtorEq, Nat.reduceBEq, Int.reduceLT, Int.reduceToNat, Int.reducePow, Nat.reduceLeDiff, Int.reduceLE, Nat.reduceMul, Nat.reduceSub]
  refine callGo_pure (encode_pure l (by omega)) (by rfl) ?_
  simp only [go_sem, Nat.reduceAdd, Nat.reduceEqDiff, Nat.reduceLT, reduceIte, reduceCtorEq, Nat.reduceBEq, Int.reduceLT, Int.reduceToNat, Int.reducePow, Nat.reduceLeDiff, Int.reduceLE, Nat.reduceMul, Nat.reduceSub]
  refine callGo_pure (refEncode_pure l (by omega)) (by rfl) ?_
  simp only [go_sem, Nat.reduceAdd, Nat.reduceEqDiff, Nat.reduceLT, reduceIte, reduceCtorEq, Nat.reduceBEq, Int.reduceLT, Int.reduceToNat, Int.reducePow, Nat.reduceLeDiff, Int.reduceLE, Nat.reduceMul, Nat.reduceSub]
  refine callGo_pure (same_pure (encL l) (encL l) (encL_octs l) (encL_octs l)) (by rfl) ?_
  simp only [beq_self_eq_true, go_sem, Nat.reduceAdd, Nat.reduceEqDiff, Nat.reduceLT, reduceIte, reduceCtorEq, Nat.reduceBEq, Int.reduceLT, Int.reduceToNat, Int.reducePow, Nat.reduceLeDiff, Int.reduceLE, Nat.reduceMul, Nat.reduceSub]
  refine callGo_pure (valid_pure b hoB (by omega)) (by rfl) ?_
  simp only [go_sem, Nat.reduceAdd, Nat.reduceEqDiff, Nat.reduceLT, reduceIte, reduceCtorEq, Nat.reduceBEq, Int.reduceLT, Int.reduceToNat, Int.reducePow, Nat.reduceLeDiff, Int.reduceLE, Nat.reduceMul, Nat.reduceSub]
  refine callGo_pure (refValid_pure b hoB (by omega)) (by rfl) ?_
  simp only [beq_self_eq_true, go_sem, Nat.reduceAdd, Nat.reduceEqDiff, Nat.reduceLT, reduceIte, reduceCtorEq, Nat.reduceBEq, Int.reduceLT, Int.reduceToNat, Int.reducePow, Nat.reduceLeDiff, Int.reduceLE, Nat.reduceMul, Nat.reduceSub]
  refine callGo_pure (same_pure b b hoB hoB) (by rfl) ?_
  simp only [beq_self_eq_true, go_sem, Nat.reduceAdd, Nat.reduceEqDiff, Nat.reduceLT, reduceIte, reduceCtorEq, Nat.reduceBEq, Int.reduceLT, Int.reduceToNat, Int.reducePow, Nat.reduceLeDiff, Int.reduceLE, Nat.reduceMul, Nat.reduceSub]
  refine callGo_pure awake01_pure (by rfl) ?_
  simp only [go_sem, Nat.reduceAdd, Nat.reduceEqDiff, Nat.reduceLT, reduceIte, reduceCtorEq, Nat.reduceBEq, Int.reduceLT, Int.reduceToNat, Int.reducePow, Nat.reduceLeDiff, Int.reduceLE, Nat.reduceMul, Nat.reduceSub]
  simp only [Done, resAV, resL, resOne, look_nil, look_cons, Nat.reduceEqDiff, if_true, if_false, reduceIte, ite_true, ite_false, Nat.zero_ne_one, Nat.one_ne_zero, reduceCtorEq, true_or, or_true, true_and, Option.some.injEq, AV.lit.injEq, Value.int.injEq, Value.bool.injEq]

theorem utfTells_any (avs : List AV) (h : Args Try.prog Try.f6.params.toList avs) : Pure Try.prog 6 avs [] (.lit (.bool true)) := by
  have hp : Try.f6.params.toList = [21, 22, 28] := by kernel_rfl
  rw [hp] at h
  obtain ⟨av0, rest0, rfl, a0, h0⟩ := h
  obtain ⟨av1, rest1, rfl, a1, h1⟩ := h0
  obtain ⟨av2, rest2, rfl, a2, rfl⟩ := h1
  obtain ⟨z0, rfl, w0⟩ := arg_int (k := .i32) (by kernel_rfl) a0
  obtain ⟨z1, rfl, w1, s1⟩ := arg_ints (e := 5) (k := .u8) (by kernel_rfl) (by kernel_rfl) a1
  rw [show Try.prog.bytesOf 5 = 1 from by kernel_rfl] at s1
  obtain ⟨y1, e1, v1, k1⟩ := octs_of z1 (fun n hn => by simpa [Lit.wf, IntKind.min, IntKind.max, IntKind.signed, IntKind.bits] using w1 n hn)
  rw [e1]
  obtain ⟨z2, rfl, w2, s2⟩ := arg_ints (e := 21) (k := .i32) (by kernel_rfl) (by kernel_rfl) a2
  rw [show Try.prog.bytesOf 21 = 4 from by kernel_rfl] at s2
  exact utfTells_pure z0 (by simpa [Lit.wf, IntKind.min, IntKind.max, IntKind.signed, IntKind.bits] using w0) y1 ⟨by omega, v1⟩ z2 ⟨by omega, fun n hn => by simpa [Lit.wf, IntKind.min, IntKind.max, IntKind.signed, IntKind.bits] using w2 n hn⟩

set_option maxRecDepth 100000 in
theorem utfTells_lifted (os : Os) (started : os.Started) (H : Type) (enc : TypeId × Value → H) :
    ReturnsInHanded {} Try.checked os 6 .any (Rows.utfTellsSpec.pre6 enc Try.prog Try.f6 Rows.utfTellsRow.domain false) (Rows.utfTellsSpec.post enc Try.prog Try.f6 false true false false) := by
  refine law_returns (C := Try.checked) (tb := 4) (by kernel_rfl) started (by kernel_rfl) Try.func6
    (ChangeSpec.witness6 (enc := enc) (C := Try.checked) false ⟨#[], #[.int .i32 0, .slice none 0 0, .slice none 0 0], []⟩ 8 (by kernel_rfl) (by kernel_rfl) (by kernel_rfl) (by kernel_rfl))
    (by kernel_rfl) (by kernel_rfl) rfl rfl (by kernel_rfl) (by kernel_rfl) ?_ utfTells_any
  intro ds hds
  have hp : Try.f6.params.toList = [21, 22, 28] := by kernel_rfl
  rw [hp] at hds
  match ds, hds with
  | [d0, d1, d2], _ => exact ⟨rfl, rfl, rfl⟩

theorem utfTells_holds : Rows.UtfTellsSaid :=
  OpenClaim.holds_of_wide 6 Try.f6 rfl rfl rfl rfl rfl rfl rfl ⟨rfl, rfl, rfl, rfl, rfl⟩ rfl rfl rfl rfl rfl (by kernel_rfl) Try.func6 (by kernel_rfl)
    (of_decide_eq_true (by kernel_rfl)) (by unfold Func.isWrapper; first | (rw [if_pos (by decide +kernel)]; kernel_rfl) | (rw [if_neg (by decide +kernel)]; exact ⟨rfl, rfl⟩))
    (fun os started H enc _ => utfTells_lifted os started H enc)
end Go.Proofs.Ytbnaepdeakcljaa
