/-
The codes of bytes, by the document. Conditions: none.
-/
import Derived.Test.YtbnaepdeakcljaaUtf15
import Derived.Test.YtbnaepdeakcljaaUtf3
set_option linter.unusedSimpArgs false
set_option linter.unusedVariables false
set_option linter.unusedSectionVars false
namespace Go.Proofs.Ytbnaepdeakcljaa
open Go Go.Ab
def a23 : ACode :=
  (.seq (.reg [⟨(.some 2), (.mv (.k (.slice .none 0 0))), .none⟩]) (.seq (.reg [⟨(.some 3), (.mv (.k (.slice .none 0 0))), .none⟩]) (.seq (.reg [⟨(.some 4), (.mv (.k (.int .i64 0))), .none⟩]) (.seq
  (.block 0 (.loop (.seq (.seq (.reg [⟨(.some 6), (.mv (.t 4)), .none⟩, ⟨(.some 7), (.mv (.t 0)), .none⟩, ⟨(.some 8), (.len (.t 7)), .none⟩, ⟨(.some 9), (.bin .lss (.t 6) (.t 8)), .none⟩]) (.cond (.t 9)
  .skip (.exit 0))) (.block 1 (.seq (.reg [⟨(.some 5), (.mv (.k (.int .i64 0))), .none⟩]) (.seq (.block 2 (.loop (.seq (.seq (.reg [⟨(.some 10), (.mv (.t 4)), .none⟩, ⟨(.some 11), (.mv (.t 5)), .none⟩,
  ⟨(.some 12), (.bin .add (.t 10) (.t 11)), .none⟩, ⟨(.some 13), (.mv (.t 0)), .none⟩, ⟨(.some 14), (.len (.t 13)), .none⟩, ⟨(.some 15), (.bin .lss (.t 12) (.t 14)), .none⟩, ⟨(.some 16), (.mv (.t 15)),
  .none⟩, ⟨(.some 17), (.mv (.t 0)), (.some (16, true))⟩, ⟨(.some 18), (.mv (.t 4)), (.some (16, true))⟩, ⟨(.some 19), (.mv (.t 4)), (.some (16, true))⟩, ⟨(.some 20), (.mv (.t 5)), (.some (16, true))⟩,
  ⟨(.some 21), (.bin .add (.t 19) (.t 20)), (.some (16, true))⟩, ⟨(.some 22), (.bin .add (.t 21) (.k (.int .i64 1))), (.some (16, true))⟩, ⟨(.some 23), (.slc 5 (.t 17) (.some (.t 18)) (.some (.t 22))),
  (.some (16, true))⟩, ⟨(.some 24), (.call (.f 37) [(.t 23)]), (.some (16, true))⟩, ⟨(.some 25), (.pick (.t 16) (.t 24) (.k (.bool false))), .none⟩]) (.cond (.t 25) .skip (.exit 2))) (.block 3 (.reg
  [⟨(.some 26), (.mv (.t 5)), .none⟩, ⟨(.some 27), (.bin .add (.t 26) (.k (.int .i64 1))), .none⟩, ⟨(.some 5), (.mv (.t 27)), .none⟩]))))) (.seq (.seq (.reg [⟨(.some 28), (.mv (.t 5)), .none⟩, ⟨(.some
  29), (.bin .gtr (.t 28) (.k (.int .i64 0))), .none⟩, ⟨(.some 30), (.mv (.t 29)), .none⟩, ⟨(.some 31), (.mv (.t 0)), (.some (30, true))⟩, ⟨(.some 32), (.mv (.t 4)), (.some (30, true))⟩, ⟨(.some 33),
  (.ia 5 (.t 31) (.t 32)), (.some (30, true))⟩, ⟨(.some 34), (.ld .none (.t 33)), (.some (30, true))⟩, ⟨(.some 35), (.call (.f 38) [(.t 34)]), (.some (30, true))⟩, ⟨(.some 36), (.mv (.t 5)), (.some (30,
  true))⟩, ⟨(.some 37), (.bin .eql (.t 35) (.t 36)), (.some (30, true))⟩, ⟨(.some 38), (.pick (.t 30) (.t 37) (.k (.bool false))), .none⟩]) (.cond (.t 38) (.seq (.reg [⟨(.some 39), (.mv (.t 3)), .none⟩,
  ⟨(.some 40), (.mv (.t 0)), .none⟩, ⟨(.some 41), (.mv (.t 4)), .none⟩, ⟨(.some 42), (.mv (.t 4)), .none⟩, ⟨(.some 43), (.mv (.t 5)), .none⟩, ⟨(.some 44), (.bin .add (.t 42) (.t 43)), .none⟩, ⟨(.some
  45), (.slc 5 (.t 40) (.some (.t 41)) (.some (.t 44))), .none⟩, ⟨(.some 46), (.mv (.t 5)), .none⟩, ⟨(.some 47), (.call (.f 39) [(.t 45), (.t 46), (.k (.int .i64 0))]), .none⟩, ⟨(.some 48), (.cvI .i32
  (.t 47)), .none⟩, ⟨(.some 49), (.mv (.t 4)), .none⟩, ⟨(.some 50), (.mv (.t 4)), .none⟩, ⟨(.some 51), (.mv (.t 5)), .none⟩, ⟨(.some 52), (.bin .add (.t 50) (.t 51)), .none⟩, ⟨(.some 53), (.bd [(.int
  .i32 0), (.int .i64 0), (.int .i64 0)] [(0, (1, (.t 48))), (1, (1, (.t 49))), (2, (1, (.t 52)))]), .none⟩, ⟨(.some 54), (.bs 27 3 [(.t 53)]), .none⟩, ⟨(.some 55), (.app 27 24 (.t 39) (.t 54)), .none⟩,
  ⟨(.some 3), (.mv (.t 55)), .none⟩]) (.seq (.reg [⟨(.some 56), (.mv (.t 4)), .none⟩, ⟨(.some 57), (.mv (.t 5)), .none⟩, ⟨(.some 58), (.bin .add (.t 56) (.t 57)), .none⟩, ⟨(.some 4), (.mv (.t 58)),
  .none⟩]) (.exit 1))) .skip)) (.seq (.seq (.reg [⟨(.some 59), (.mv (.t 5)), .none⟩, ⟨(.some 60), (.bin .eql (.t 59) (.k (.int .i64 0))), .none⟩]) (.cond (.t 60) (.reg [⟨(.some 5), (.mv (.k (.int .i64
  1))), .none⟩]) .skip)) (.seq (.reg [⟨(.some 61), (.mv (.t 3)), .none⟩, ⟨(.some 62), (.mv (.t 4)), .none⟩, ⟨(.some 63), (.mv (.t 4)), .none⟩, ⟨(.some 64), (.mv (.t 5)), .none⟩, ⟨(.some 65), (.bin .add
  (.t 63) (.t 64)), .none⟩, ⟨(.some 66), (.bd [(.int .i32 0), (.int .i64 0), (.int .i64 0)] [(0, (1, (.k (.int .i32 65533)))), (1, (1, (.t 62))), (2, (1, (.t 65)))]), .none⟩, ⟨(.some 67), (.bs 27 3 [(.t
  66)]), .none⟩, ⟨(.some 68), (.app 27 24 (.t 61) (.t 67)), .none⟩, ⟨(.some 3), (.mv (.t 68)), .none⟩]) (.reg [⟨(.some 69), (.mv (.t 4)), .none⟩, ⟨(.some 70), (.mv (.t 5)), .none⟩, ⟨(.some 71), (.bin
  .add (.t 69) (.t 70)), .none⟩, ⟨(.some 4), (.mv (.t 71)), .none⟩])))))))))) (.seq (.reg [⟨(.some 72), (.mv (.t 3)), .none⟩, ⟨(.some 2), (.mv (.t 72)), .none⟩]) .ret)))))
theorem c23 : Try.f23.body.bind (cCode Try.prog 73) = some a23 := by kernel_rfl
theorem r23 : Try.f23.results.toList = [(.tmp 2)] := by kernel_rfl
theorem n23 : Try.f23.ntmps = 73 := by kernel_rfl
theorem e23 : Enters Try.prog 23 := enters_of Try.func23 (by kernel_rfl) (by kernel_rfl)

theorem slc_part {b : List Nat} {i m : Nat} : ((octs b).take (i + m)).drop i = octs ((b.drop i).take m) := by
  rw [octs_take, octs_drop, List.drop_take]
  congr 1
  rw [Nat.add_sub_cancel_left]

set_option maxRecDepth 10000 in
set_option maxHeartbeats 4000000 in
theorem refCodes_pure (b : List Nat) (hb : ∀ n ∈ b, n ≤ 255) (hl : b.length ≤ 1099511627776) : Pure Try.prog 23 [.sl 5 (octs b) none] [27] (.sl 27 (codesC (cut 0 b)) (some 0)) := by
  refine pure1 Try.func23 c23 n23 e23 r23 (by simp) ?_
  simp only [a23, astart, argSlots, go_sem, Nat.reduceAdd, Nat.reduceEqDiff, Nat.reduceLT, reduceIte, reduceCtorEq, Nat.reduceBEq, Int.reduceLT, Int.reduceToNat, Int.reducePow, Nat.reduceLeDiff, Int.reduceLE, Nat.reduceMul, Nat.reduceSub]
  refine ⟨fun s => ∃ (i : Nat) (acc : List (Nat × Nat × Nat × Bool)), i ≤ b.length ∧ acc.length ≤ i ∧ cut 0 b = acc ++ cut i (b.drop i) ∧
      s = ⟨[(0, some (.sl 5 (octs b) none)), (3, some (.sl 27 (codesC acc) (some 0))), (4, some (.lit (.int .i64 (i : Int))))], [], [(0, 27)], 1⟩,
    fun s => b.length - cnt 4 s, ⟨_, (weak_nil 3 27 (by simp only [go_sem, Nat.reduceAdd, Nat.reduceEqDiff, Nat.reduceLT, reduceIte, reduceCtorEq, Nat.reduceBEq, Int.reduceLT, Int.reduceToNat, Int.reducePow, Nat.reduceLeDiff, Int.reduceLE, Nat.reduceMul, Nat.reduceSub])).trans (weak_by [0] (by simp) rfl ?_ ?_ ?_ ?_), 0, [], Nat.zero_le _, Nat.zero_le _, rfl, rfl⟩, ?_⟩
  · simp only [go_sem, Nat.reduceAdd, Nat.reduceEqDiff, Nat.reduceLT, reduceIte, reduceCtorEq, Nat.reduceBEq, Int.reduceLT, Int.reduceToNat, Int.reducePow, Nat.reduceLeDiff, Int.reduceLE, Nat.reduceMul, Nat.reduceSub, slotsBy, boxesBy, tipsBy, rawAt, nm, AV.ren, AV.renL, AV.under, AV.underL, List.all_nil, List.all_cons, bne_self_eq_false, List.getD_cons_zero, List.getD_cons_succ, List.length_nil, List.length_cons, and_true, true_and, Int.natCast_zero, codesC, List.map_nil]
  · trivial
  · simp only [go_sem, Nat.reduceAdd, Nat.reduceEqDiff, Nat.reduceLT, reduceIte, reduceCtorEq, Nat.reduceBEq, Int.reduceLT, Int.reduceToNat, Int.reducePow, Nat.reduceLeDiff, Int.reduceLE, Nat.reduceMul, Nat.reduceSub, slotsBy, boxesBy, tipsBy, rawAt, nm, AV.ren, AV.renL, AV.under, AV.underL, List.all_nil, List.all_cons, bne_self_eq_false, List.getD_cons_zero, List.getD_cons_succ, List.length_nil, List.length_cons, and_true, true_and, beq_self_eq_true]
  · simp
  · rintro _ ⟨i, acc, hi, hacc, hcut, rfl⟩
    simp only [go_sem, Nat.reduceAdd, Nat.reduceEqDiff, Nat.reduceLT, reduceIte, reduceCtorEq, Nat.reduceBEq, Int.reduceLT, Int.reduceToNat, Int.reducePow, Nat.reduceLeDiff, Int.reduceLE, Nat.reduceMul, Nat.reduceSub, octs_length]
    rcases Nat.lt_or_eq_of_le hi with hlt | heq
    · have hdl : (b.drop i).length = b.length - i := List.length_drop ..
      have hdc : b.drop i = b[i] :: b.drop (i + 1) := List.drop_eq_getElem_cons hlt
      have hg := octs_get b i hlt
      have hoct : ∀ n ∈ b.drop i, n ≤ 255 := fun n hn => hb n (List.mem_of_mem_drop hn)
      have hsaid := said_all (c := b[i]) (t := b.drop (i + 1)) (by rw [← hdc]; exact hoct)
      simp only [dec_lt hlt, go_sem, Nat.reduceAdd, Nat.reduceEqDiff, Nat.reduceLT, reduceIte, reduceCtorEq, Nat.reduceBEq, Int.reduceLT, Int.reduceToNat, Int.reducePow, Nat.reduceLeDiff, Int.reduceLE, Nat.reduceMul, Nat.reduceSub]
      refine ⟨fun s => ∃ k : Nat, k ≤ b.length - i ∧ (∀ j, j < k → goesB ((b.drop i).take (j + 1)) = true) ∧
          s = ⟨[(0, some (.sl 5 (octs b) none)), (3, some (.sl 27 (codesC acc) (some 0))), (4, some (.lit (.int .i64 (i : Int)))), (5, some (.lit (.int .i64 (k : Int))))], [], [(0, 27)], 1⟩,
        fun s => b.length - cnt 5 s, ⟨_, weak_by [0] (by simp) rfl ?_ ?_ ?_ ?_, 0, Nat.zero_le _, fun j hj => by omega, rfl⟩, ?_⟩
      · simp only [go_sem, Nat.reduceAdd, Nat.reduceEqDiff, Nat.reduceLT, reduceIte, reduceCtorEq, Nat.reduceBEq, Int.reduceLT, Int.reduceToNat, Int.reducePow, Nat.reduceLeDiff, Int.reduceLE, Nat.reduceMul, Nat.reduceSub, slotsBy, boxesBy, tipsBy, rawAt, nm, AV.ren, AV.renL, AV.under, AV.underL, List.all_nil, List.all_cons, bne_self_eq_false, List.getD_cons_zero, List.getD_cons_succ, List.length_nil, List.length_cons, and_true, true_and, Int.natCast_zero]
      · trivial
      · simp only [go_sem, Nat.reduceAdd, Nat.reduceEqDiff, Nat.reduceLT, reduceIte, reduceCtorEq, Nat.reduceBEq, Int.reduceLT, Int.reduceToNat, Int.reducePow, Nat.reduceLeDiff, Int.reduceLE, Nat.reduceMul, Nat.reduceSub, slotsBy, boxesBy, tipsBy, rawAt, nm, AV.ren, AV.renL, AV.under, AV.underL, List.all_nil, List.all_cons, bne_self_eq_false, List.getD_cons_zero, List.getD_cons_succ, List.length_nil, List.length_cons, and_true, true_and, beq_self_eq_true]
      · simp
      · rintro _ ⟨k, hk, hgo, rfl⟩
        have hw1 : IntKind.i64.wrap ((i : Int) + (k : Int)) = ((i + k : Nat) : Int) := by rw [wrap_i64 _ (by omega) (by omega)]; omega
        have hw2 : IntKind.i64.wrap (((i + k : Nat) : Int) + 1) = ((i + (k + 1) : Nat) : Int) := by rw [wrap_i64 _ (by omega) (by omega)]; omega
        have hw3 : IntKind.i64.wrap ((k : Int) + 1) = ((k + 1 : Nat) : Int) := by rw [wrap_i64 _ (by omega) (by omega)]; omega
        by_cases hlk : i + k < b.length
        · have hsl : (if i ≤ i + (k + 1) ∧ i + (k + 1) ≤ b.length then some (i, i + (k + 1)) else none : Option (Nat × Nat)) = some (i, i + (k + 1)) := if_pos ⟨by omega, by omega⟩
          simp only [go_sem, Nat.reduceAdd, Nat.reduceEqDiff, Nat.reduceLT, reduceIte, reduceCtorEq, Nat.reduceBEq, Int.reduceLT, Int.reduceToNat, Int.reducePow, Nat.reduceLeDiff, Int.reduceLE, Nat.reduceMul, Nat.reduceSub, octs_length, hw1, dec_lt hlk, hw2, hsl, slc_part]
          refine callGo_pure (goes_pure ((b.drop i).take (k + 1)) (fun n hn => hoct n (List.mem_of_mem_take hn)) (by simp only [List.length_take, List.length_drop]; omega)) (by rfl) ?_
          cases hgk : goesB ((b.drop i).take (k + 1)) with
          | true =>
            simp only [go_sem, Nat.reduceAdd, Nat.reduceEqDiff, Nat.reduceLT, reduceIte, reduceCtorEq, Nat.reduceBEq, Int.reduceLT, Int.reduceToNat, Int.reducePow, Nat.reduceLeDiff, Int.reduceLE, Nat.reduceMul, Nat.reduceSub, hw3]
            refine ⟨_, weak_by [0] (by simp) rfl ?_ ?_ ?_ ?_, ⟨k + 1, by omega, fun j hj => ?_, rfl⟩, ?_⟩
            · simp only [go_sem, Nat.reduceAdd, Nat.reduceEqDiff, Nat.reduceLT, reduceIte, reduceCtorEq, Nat.reduceBEq, Int.reduceLT, Int.reduceToNat, Int.reducePow, Nat.reduceLeDiff, Int.reduceLE, Nat.reduceMul, Nat.reduceSub, slotsBy, boxesBy, tipsBy, rawAt, nm, AV.ren, AV.renL, AV.under, AV.underL, List.all_nil, List.all_cons, bne_self_eq_false, List.getD_cons_zero, List.getD_cons_succ, List.length_nil, List.length_cons, and_true, true_and]
            · trivial
            · simp only [go_sem, Nat.reduceAdd, Nat.reduceEqDiff, Nat.reduceLT, reduceIte, reduceCtorEq, Nat.reduceBEq, Int.reduceLT, Int.reduceToNat, Int.reducePow, Nat.reduceLeDiff, Int.reduceLE, Nat.reduceMul, Nat.reduceSub, slotsBy, boxesBy, tipsBy, rawAt, nm, AV.ren, AV.renL, AV.under, AV.underL, List.all_nil, List.all_cons, bne_self_eq_false, List.getD_cons_zero, List.getD_cons_succ, List.length_nil, List.length_cons, and_true, true_and, beq_self_eq_true]
            · simp
            · rcases Nat.lt_succ_iff_lt_or_eq.1 hj with hj | hj
              · exact hgo j hj
              · rw [hj]; exact hgk
            · simp only [cnt, go_sem, Nat.reduceAdd, Nat.reduceEqDiff, Nat.reduceLT, reduceIte, reduceCtorEq, Nat.reduceBEq, Int.reduceLT, Int.reduceToNat, Int.reducePow, Nat.reduceLeDiff, Int.reduceLE, Nat.reduceMul, Nat.reduceSub, Int.toNat_natCast]; omega
          | false =>
            have hK : GoesTo (b[i] :: b.drop (i + 1)) k := by rw [← hdc]; exact ⟨hgo, by omega, .inr hgk⟩
            simp only [go_sem, Nat.reduceAdd, Nat.reduceEqDiff, Nat.reduceLT, reduceIte, reduceCtorEq, Nat.reduceBEq, Int.reduceLT, Int.reduceToNat, Int.reducePow, Nat.reduceLeDiff, Int.reduceLE, Nat.reduceMul, Nat.reduceSub]
            obtain ⟨K, hGK, hcase⟩ := hsaid
            have hkK : k = K := hK.uniq hGK
            subst hkK
            have hcd := cut_drop hlt
            have hlo4 := longN_le b[i]
            have hsl2 : (if i ≤ i + k ∧ i + k ≤ b.length then some (i, i + k) else none : Option (Nat × Nat)) = some (i, i + k) := if_pos ⟨by omega, by omega⟩
            rcases hcase with ⟨h0, hlong, r, hnx, hr, hr2⟩ | ⟨hno, hnx⟩
            · have hnx' : nx (b.drop i) = (r, k, true) := by rw [hdc]; exact hnx
              rw [hnx'] at hcd
              have d1 : decide ((k : Int) > 0) = true := by simp only [decide_eq_true_eq]; omega
              have htk : (b.drop i).take k = b[i] :: (b.drop (i + 1)).take (k - 1) := by
                obtain ⟨k', rfl⟩ : ∃ k', k = k' + 1 := ⟨k - 1, by omega⟩
                rw [hdc]; rfl
              have hwr : IntKind.i32.wrap (r : Int) = (r : Int) := wrap_i32 _ (by omega) (by omega)
              simp only [d1, go_sem, Nat.reduceAdd, Nat.reduceEqDiff, Nat.reduceLT, reduceIte, reduceCtorEq, Nat.reduceBEq, Int.reduceLT, Int.reduceToNat, Int.reducePow, Nat.reduceLeDiff, Int.reduceLE, Nat.reduceMul, Nat.reduceSub, Int.natCast_nonneg, Int.toNat_natCast, hg]
              refine callGo_pure (long_pure b[i]) (by rfl) ?_
              simp only [hlong, beq_self_eq_true, hw1, hsl2, octs_length, slc_part, htk, go_sem, Nat.reduceAdd, Nat.reduceEqDiff, Nat.reduceLT, reduceIte, reduceCtorEq, Nat.reduceBEq, Int.reduceLT, Int.reduceToNat, Int.reducePow, Nat.reduceLeDiff, Int.reduceLE, Nat.reduceMul, Nat.reduceSub]
              refine callGo_pure (number_pure b[i] ((b.drop (i + 1)).take (k - 1)) (hb _ (List.getElem_mem hlt)) (fun n hn => hb n (List.mem_of_mem_drop (List.mem_of_mem_take hn))) (by simp only [List.length_take, List.length_drop]; omega) k ⟨h0, by omega⟩ 0 (by omega)) (by rfl) ?_
              simp only [← hr, hwr, hw1, codesC_length, Value.oneCell', go_sem, Nat.reduceAdd, Nat.reduceEqDiff, Nat.reduceLT, reduceIte, reduceCtorEq, Nat.reduceBEq, Int.reduceLT, Int.reduceToNat, Int.reducePow, Nat.reduceLeDiff, Int.reduceLE, Nat.reduceMul, Nat.reduceSub]
              refine ⟨by omega, _, weak_by [2] (by simp) rfl ?_ ?_ ?_ ?_, ⟨i + k, acc ++ [(r, i, i + k, true)], by omega, by simp only [List.length_append, List.length_cons, List.length_nil]; omega, by rw [hcut, hcd]; simp, rfl⟩, ?_⟩
              · simp only [go_sem, Nat.reduceAdd, Nat.reduceEqDiff, Nat.reduceLT, reduceIte, reduceCtorEq, Nat.reduceBEq, Int.reduceLT, Int.reduceToNat, Int.reducePow, Nat.reduceLeDiff, Int.reduceLE, Nat.reduceMul, Nat.reduceSub, slotsBy, boxesBy, tipsBy, rawAt, nm, AV.ren, AV.renL, AV.under, AV.underL, List.all_nil, List.all_cons, bne_self_eq_false, List.getD_cons_zero, List.getD_cons_succ, List.length_nil, List.length_cons, and_true, true_and, codesC, codeC, List.map_append]
              · trivial
              · simp only [go_sem, Nat.reduceAdd, Nat.reduceEqDiff, Nat.reduceLT, reduceIte, reduceCtorEq, Nat.reduceBEq, Int.reduceLT, Int.reduceToNat, Int.reducePow, Nat.reduceLeDiff, Int.reduceLE, Nat.reduceMul, Nat.reduceSub, slotsBy, boxesBy, tipsBy, rawAt, nm, AV.ren, AV.renL, AV.under, AV.underL, List.all_nil, List.all_cons, bne_self_eq_false, List.getD_cons_zero, List.getD_cons_succ, List.length_nil, List.length_cons, and_true, true_and, beq_self_eq_true]
              · simp
              · simp only [cnt, go_sem, Nat.reduceAdd, Nat.reduceEqDiff, Nat.reduceLT, reduceIte, reduceCtorEq, Nat.reduceBEq, Int.reduceLT, Int.reduceToNat, Int.reducePow, Nat.reduceLeDiff, Int.reduceLE, Nat.reduceMul, Nat.reduceSub, Int.toNat_natCast]; omega
            · have hnx' : nx (b.drop i) = (65533, if k = 0 then 1 else k, false) := by rw [hdc]; exact hnx
              rw [hnx'] at hcd
              by_cases hk0 : k = 0
              · subst hk0
                have d1 : decide (((0 : Nat) : Int) > 0) = false := rfl
                have b1 : (((0 : Nat) : Int) == 0) = true := rfl
                have hw4 : IntKind.i64.wrap ((i : Int) + 1) = ((i + 1 : Nat) : Int) := by rw [wrap_i64 _ (by omega) (by omega)]; omega
                simp only [d1, b1, hw4, codesC_length, Value.oneCell', go_sem, Nat.reduceAdd, Nat.reduceEqDiff, Nat.reduceLT, reduceIte, reduceCtorEq, Nat.reduceBEq, Int.reduceLT, Int.reduceToNat, Int.reducePow, Nat.reduceLeDiff, Int.reduceLE, Nat.reduceMul, Nat.reduceSub]
                refine ⟨by omega, _, weak_by [2] (by simp) rfl ?_ ?_ ?_ ?_, ⟨i + 1, acc ++ [(65533, i, i + 1, false)], by omega, by simp only [List.length_append, List.length_cons, List.length_nil]; omega, by rw [hcut, hcd]; simp, rfl⟩, ?_⟩
                · simp only [go_sem, Nat.reduceAdd, Nat.reduceEqDiff, Nat.reduceLT, reduceIte, reduceCtorEq, Nat.reduceBEq, Int.reduceLT, Int.reduceToNat, Int.reducePow, Nat.reduceLeDiff, Int.reduceLE, Nat.reduceMul, Nat.reduceSub, slotsBy, boxesBy, tipsBy, rawAt, nm, AV.ren, AV.renL, AV.under, AV.underL, List.all_nil, List.all_cons, bne_self_eq_false, List.getD_cons_zero, List.getD_cons_succ, List.length_nil, List.length_cons, and_true, true_and, codesC, codeC, List.map_append]; rfl
                · trivial
                · simp only [go_sem, Nat.reduceAdd, Nat.reduceEqDiff, Nat.reduceLT, reduceIte, reduceCtorEq, Nat.reduceBEq, Int.reduceLT, Int.reduceToNat, Int.reducePow, Nat.reduceLeDiff, Int.reduceLE, Nat.reduceMul, Nat.reduceSub, slotsBy, boxesBy, tipsBy, rawAt, nm, AV.ren, AV.renL, AV.under, AV.underL, List.all_nil, List.all_cons, bne_self_eq_false, List.getD_cons_zero, List.getD_cons_succ, List.length_nil, List.length_cons, and_true, true_and, beq_self_eq_true]
                · simp
                · simp only [cnt, go_sem, Nat.reduceAdd, Nat.reduceEqDiff, Nat.reduceLT, reduceIte, reduceCtorEq, Nat.reduceBEq, Int.reduceLT, Int.reduceToNat, Int.reducePow, Nat.reduceLeDiff, Int.reduceLE, Nat.reduceMul, Nat.reduceSub, Int.toNat_natCast]; omega
              · rw [if_neg hk0] at hcd
                have d1 : decide ((k : Int) > 0) = true := by simp only [decide_eq_true_eq]; omega
                have b0 : (((longN b[i] : Nat) : Int) == (k : Int)) = false := by simp only [beq_eq_false_iff_ne, ne_eq]; omega
                have b1 : (((k : Nat) : Int) == 0) = false := by simp only [beq_eq_false_iff_ne, ne_eq]; omega
                simp only [d1, go_sem, Nat.reduceAdd, Nat.reduceEqDiff, Nat.reduceLT, reduceIte, reduceCtorEq, Nat.reduceBEq, Int.reduceLT, Int.reduceToNat, Int.reducePow, Nat.reduceLeDiff, Int.reduceLE, Nat.reduceMul, Nat.reduceSub, Int.natCast_nonneg, Int.toNat_natCast, hg]
                refine callGo_pure (long_pure b[i]) (by rfl) ?_
                simp only [b0, b1, hw1, codesC_length, Value.oneCell', go_sem, Nat.reduceAdd, Nat.reduceEqDiff, Nat.reduceLT, reduceIte, reduceCtorEq, Nat.reduceBEq, Int.reduceLT, Int.reduceToNat, Int.reducePow, Nat.reduceLeDiff, Int.reduceLE, Nat.reduceMul, Nat.reduceSub]
                refine ⟨by omega, _, weak_by [2] (by simp) rfl ?_ ?_ ?_ ?_, ⟨i + k, acc ++ [(65533, i, i + k, false)], by omega, by simp only [List.length_append, List.length_cons, List.length_nil]; omega, by rw [hcut, hcd]; simp, rfl⟩, ?_⟩
                · simp only [go_sem, Nat.reduceAdd, Nat.reduceEqDiff, Nat.reduceLT, reduceIte, reduceCtorEq, Nat.reduceBEq, Int.reduceLT, Int.reduceToNat, Int.reducePow, Nat.reduceLeDiff, Int.reduceLE, Nat.reduceMul, Nat.reduceSub, slotsBy, boxesBy, tipsBy, rawAt, nm, AV.ren, AV.renL, AV.under, AV.underL, List.all_nil, List.all_cons, bne_self_eq_false, List.getD_cons_zero, List.getD_cons_succ, List.length_nil, List.length_cons, and_true, true_and, codesC, codeC, List.map_append]; rfl
                · trivial
                · simp only [go_sem, Nat.reduceAdd, Nat.reduceEqDiff, Nat.reduceLT, reduceIte, reduceCtorEq, Nat.reduceBEq, Int.reduceLT, Int.reduceToNat, Int.reducePow, Nat.reduceLeDiff, Int.reduceLE, Nat.reduceMul, Nat.reduceSub, slotsBy, boxesBy, tipsBy, rawAt, nm, AV.ren, AV.renL, AV.under, AV.underL, List.all_nil, List.all_cons, bne_self_eq_false, List.getD_cons_zero, List.getD_cons_succ, List.length_nil, List.length_cons, and_true, true_and, beq_self_eq_true]
                · simp
                · simp only [cnt, go_sem, Nat.reduceAdd, Nat.reduceEqDiff, Nat.reduceLT, reduceIte, reduceCtorEq, Nat.reduceBEq, Int.reduceLT, Int.reduceToNat, Int.reducePow, Nat.reduceLeDiff, Int.reduceLE, Nat.reduceMul, Nat.reduceSub, Int.toNat_natCast]; omega
        · have hK : GoesTo (b[i] :: b.drop (i + 1)) k := by rw [← hdc]; exact ⟨hgo, by omega, .inl (by omega)⟩
          have hd : decide (((i + k : Nat) : Int) < (b.length : Int)) = false := by simp only [decide_eq_false_iff_not]; omega
          simp only [go_sem, Nat.reduceAdd, Nat.reduceEqDiff, Nat.reduceLT, reduceIte, reduceCtorEq, Nat.reduceBEq, Int.reduceLT, Int.reduceToNat, Int.reducePow, Nat.reduceLeDiff, Int.reduceLE, Nat.reduceMul, Nat.reduceSub, octs_length, hw1, hd]
          obtain ⟨K, hGK, hcase⟩ := hsaid
          have hkK : k = K := hK.uniq hGK
          subst hkK
          have hcd := cut_drop hlt
          have hlo4 := longN_le b[i]
          have hsl2 : (if i ≤ i + k ∧ i + k ≤ b.length then some (i, i + k) else none : Option (Nat × Nat)) = some (i, i + k) := if_pos ⟨by omega, by omega⟩
          rcases hcase with ⟨h0, hlong, r, hnx, hr, hr2⟩ | ⟨hno, hnx⟩
          · have hnx' : nx (b.drop i) = (r, k, true) := by rw [hdc]; exact hnx
            rw [hnx'] at hcd
            have d1 : decide ((k : Int) > 0) = true := by simp only [decide_eq_true_eq]; omega
            have htk : (b.drop i).take k = b[i] :: (b.drop (i + 1)).take (k - 1) := by
              obtain ⟨k', rfl⟩ : ∃ k', k = k' + 1 := ⟨k - 1, by omega⟩
              rw [hdc]; rfl
            have hwr : IntKind.i32.wrap (r : Int) = (r : Int) := wrap_i32 _ (by omega) (by omega)
            simp only [d1, go_sem, Nat.reduceAdd, Nat.reduceEqDiff, Nat.reduceLT, reduceIte, reduceCtorEq, Nat.reduceBEq, Int.reduceLT, Int.reduceToNat, Int.reducePow, Nat.reduceLeDiff, Int.reduceLE, Nat.reduceMul, Nat.reduceSub, Int.natCast_nonneg, Int.toNat_natCast, hg]
            refine callGo_pure (long_pure b[i]) (by rfl) ?_
            simp only [hlong, beq_self_eq_true, hw1, hsl2, octs_length, slc_part, htk, go_sem, Nat.reduceAdd, Nat.reduceEqDiff, Nat.reduceLT, reduceIte, reduceCtorEq, Nat.reduceBEq, Int.reduceLT, Int.reduceToNat, Int.reducePow, Nat.reduceLeDiff, Int.reduceLE, Nat.reduceMul, Nat.reduceSub]
            refine callGo_pure (number_pure b[i] ((b.drop (i + 1)).take (k - 1)) (hb _ (List.getElem_mem hlt)) (fun n hn => hb n (List.mem_of_mem_drop (List.mem_of_mem_take hn))) (by simp only [List.length_take, List.length_drop]; omega) k ⟨h0, by omega⟩ 0 (by omega)) (by rfl) ?_
            simp only [← hr, hwr, hw1, codesC_length, Value.oneCell', go_sem, Nat.reduceAdd, Nat.reduceEqDiff, Nat.reduceLT, reduceIte, reduceCtorEq, Nat.reduceBEq, Int.reduceLT, Int.reduceToNat, Int.reducePow, Nat.reduceLeDiff, Int.reduceLE, Nat.reduceMul, Nat.reduceSub]
            refine ⟨by omega, _, weak_by [2] (by simp) rfl ?_ ?_ ?_ ?_, ⟨i + k, acc ++ [(r, i, i + k, true)], by omega, by simp only [List.length_append, List.length_cons, List.length_nil]; omega, by rw [hcut, hcd]; simp, rfl⟩, ?_⟩
            · simp only [go_sem, Nat.reduceAdd, Nat.reduceEqDiff, Nat.reduceLT, reduceIte, reduceCtorEq, Nat.reduceBEq, Int.reduceLT, Int.reduceToNat, Int.reducePow, Nat.reduceLeDiff, Int.reduceLE, Nat.reduceMul, Nat.reduceSub, slotsBy, boxesBy, tipsBy, rawAt, nm, AV.ren, AV.renL, AV.under, AV.underL, List.all_nil, List.all_cons, bne_self_eq_false, List.getD_cons_zero, List.getD_cons_succ, List.length_nil, List.length_cons, and_true, true_and, codesC, codeC, List.map_append]
            · trivial
            · simp only [go_sem, Nat.reduceAdd, Nat.reduceEqDiff, Nat.reduceLT, reduceIte, reduceCtorEq, Nat.reduceBEq, Int.reduceLT, Int.reduceToNat, Int.reducePow, Nat.reduceLeDiff, Int.reduceLE, Nat.reduceMul, Nat.reduceSub, slotsBy, boxesBy, tipsBy, rawAt, nm, AV.ren, AV.renL, AV.under, AV.underL, List.all_nil, List.all_cons, bne_self_eq_false, List.getD_cons_zero, List.getD_cons_succ, List.length_nil, List.length_cons, and_true, true_and, beq_self_eq_true]
            · simp
            · simp only [cnt, go_sem, Nat.reduceAdd, Nat.reduceEqDiff, Nat.reduceLT, reduceIte, reduceCtorEq, Nat.reduceBEq, Int.reduceLT, Int.reduceToNat, Int.reducePow, Nat.reduceLeDiff, Int.reduceLE, Nat.reduceMul, Nat.reduceSub, Int.toNat_natCast]; omega
          · have hnx' : nx (b.drop i) = (65533, if k = 0 then 1 else k, false) := by rw [hdc]; exact hnx
            rw [hnx'] at hcd
            by_cases hk0 : k = 0
            · subst hk0
              have d1 : decide (((0 : Nat) : Int) > 0) = false := rfl
              have b1 : (((0 : Nat) : Int) == 0) = true := rfl
              have hw4 : IntKind.i64.wrap ((i : Int) + 1) = ((i + 1 : Nat) : Int) := by rw [wrap_i64 _ (by omega) (by omega)]; omega
              simp only [d1, b1, hw4, codesC_length, Value.oneCell', go_sem, Nat.reduceAdd, Nat.reduceEqDiff, Nat.reduceLT, reduceIte, reduceCtorEq, Nat.reduceBEq, Int.reduceLT, Int.reduceToNat, Int.reducePow, Nat.reduceLeDiff, Int.reduceLE, Nat.reduceMul, Nat.reduceSub]
              refine ⟨by omega, _, weak_by [2] (by simp) rfl ?_ ?_ ?_ ?_, ⟨i + 1, acc ++ [(65533, i, i + 1, false)], by omega, by simp only [List.length_append, List.length_cons, List.length_nil]; omega, by rw [hcut, hcd]; simp, rfl⟩, ?_⟩
              · simp only [go_sem, Nat.reduceAdd, Nat.reduceEqDiff, Nat.reduceLT, reduceIte, reduceCtorEq, Nat.reduceBEq, Int.reduceLT, Int.reduceToNat, Int.reducePow, Nat.reduceLeDiff, Int.reduceLE, Nat.reduceMul, Nat.reduceSub, slotsBy, boxesBy, tipsBy, rawAt, nm, AV.ren, AV.renL, AV.under, AV.underL, List.all_nil, List.all_cons, bne_self_eq_false, List.getD_cons_zero, List.getD_cons_succ, List.length_nil, List.length_cons, and_true, true_and, codesC, codeC, List.map_append]; rfl
              · trivial
              · simp only [go_sem, Nat.reduceAdd, Nat.reduceEqDiff, Nat.reduceLT, reduceIte, reduceCtorEq, Nat.reduceBEq, Int.reduceLT, Int.reduceToNat, Int.reducePow, Nat.reduceLeDiff, Int.reduceLE, Nat.reduceMul, Nat.reduceSub, slotsBy, boxesBy, tipsBy, rawAt, nm, AV.ren, AV.renL, AV.under, AV.underL, List.all_nil, List.all_cons, bne_self_eq_false, List.getD_cons_zero, List.getD_cons_succ, List.length_nil, List.length_cons, and_true, true_and, beq_self_eq_true]
              · simp
              · simp only [cnt, go_sem, Nat.reduceAdd, Nat.reduceEqDiff, Nat.reduceLT, reduceIte, reduceCtorEq, Nat.reduceBEq, Int.reduceLT, Int.reduceToNat, Int.reducePow, Nat.reduceLeDiff, Int.reduceLE, Nat.reduceMul, Nat.reduceSub, Int.toNat_natCast]; omega
            · rw [if_neg hk0] at hcd
              have d1 : decide ((k : Int) > 0) = true := by simp only [decide_eq_true_eq]; omega
              have b0 : (((longN b[i] : Nat) : Int) == (k : Int)) = false := by simp only [beq_eq_false_iff_ne, ne_eq]; omega
              have b1 : (((k : Nat) : Int) == 0) = false := by simp only [beq_eq_false_iff_ne, ne_eq]; omega
              simp only [d1, go_sem, Nat.reduceAdd, Nat.reduceEqDiff, Nat.reduceLT, reduceIte, reduceCtorEq, Nat.reduceBEq, Int.reduceLT, Int.reduceToNat, Int.reducePow, Nat.reduceLeDiff, Int.reduceLE, Nat.reduceMul, Nat.reduceSub, Int.natCast_nonneg, Int.toNat_natCast, hg]
              refine callGo_pure (long_pure b[i]) (by rfl) ?_
              simp only [b0, b1, hw1, codesC_length, Value.oneCell', go_sem, Nat.reduceAdd, Nat.reduceEqDiff, Nat.reduceLT, reduceIte, reduceCtorEq, Nat.reduceBEq, Int.reduceLT, Int.reduceToNat, Int.reducePow, Nat.reduceLeDiff, Int.reduceLE, Nat.reduceMul, Nat.reduceSub]
              refine ⟨by omega, _, weak_by [2] (by simp) rfl ?_ ?_ ?_ ?_, ⟨i + k, acc ++ [(65533, i, i + k, false)], by omega, by simp only [List.length_append, List.length_cons, List.length_nil]; omega, by rw [hcut, hcd]; simp, rfl⟩, ?_⟩
              · simp only [go_sem, Nat.reduceAdd, Nat.reduceEqDiff, Nat.reduceLT, reduceIte, reduceCtorEq, Nat.reduceBEq, Int.reduceLT, Int.reduceToNat, Int.reducePow, Nat.reduceLeDiff, Int.reduceLE, Nat.reduceMul, Nat.reduceSub, slotsBy, boxesBy, tipsBy, rawAt, nm, AV.ren, AV.renL, AV.under, AV.underL, List.all_nil, List.all_cons, bne_self_eq_false, List.getD_cons_zero, List.getD_cons_succ, List.length_nil, List.length_cons, and_true, true_and, codesC, codeC, List.map_append]; rfl
              · trivial
              · simp only [go_sem, Nat.reduceAdd, Nat.reduceEqDiff, Nat.reduceLT, reduceIte, reduceCtorEq, Nat.reduceBEq, Int.reduceLT, Int.reduceToNat, Int.reducePow, Nat.reduceLeDiff, Int.reduceLE, Nat.reduceMul, Nat.reduceSub, slotsBy, boxesBy, tipsBy, rawAt, nm, AV.ren, AV.renL, AV.under, AV.underL, List.all_nil, List.all_cons, bne_self_eq_false, List.getD_cons_zero, List.getD_cons_succ, List.length_nil, List.length_cons, and_true, true_and, beq_self_eq_true]
              · simp
              · simp only [cnt, go_sem, Nat.reduceAdd, Nat.reduceEqDiff, Nat.reduceLT, reduceIte, reduceCtorEq, Nat.reduceBEq, Int.reduceLT, Int.reduceToNat, Int.reducePow, Nat.reduceLeDiff, Int.reduceLE, Nat.reduceMul, Nat.reduceSub, Int.toNat_natCast]; omega
    · subst heq
      simp only [dec_irr, go_sem, Nat.reduceAdd, Nat.reduceEqDiff, Nat.reduceLT, reduceIte, reduceCtorEq, Nat.reduceBEq, Int.reduceLT, Int.reduceToNat, Int.reducePow, Nat.reduceLeDiff, Int.reduceLE, Nat.reduceMul, Nat.reduceSub]
      refine ⟨.inr rfl, 0, ?_, by simp [go_sem, Nat.reduceAdd, Nat.reduceEqDiff, Nat.reduceLT, reduceIte, reduceCtorEq, Nat.reduceBEq, Int.reduceLT, Int.reduceToNat, Int.reducePow, Nat.reduceLeDiff, Int.reduceLE, Nat.reduceMul, Nat.reduceSub]⟩
      rw [List.drop_length] at hcut
      rw [hcut]
      simp only [resAV, resL, resOne, go_sem, Nat.reduceAdd, Nat.reduceEqDiff, Nat.reduceLT, reduceIte, reduceCtorEq, Nat.reduceBEq, Int.reduceLT, Int.reduceToNat, Int.reducePow, Nat.reduceLeDiff, Int.reduceLE, Nat.reduceMul, Nat.reduceSub, cut_nil, List.append_nil]
end Go.Proofs.Ytbnaepdeakcljaa
