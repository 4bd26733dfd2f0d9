/-
The scripts of a label, told: both answers. Conditions: none.
-/
import Derived.Test.YtocaeclhmkojiaaMix4
set_option linter.unusedSimpArgs false
set_option linter.unusedVariables false
set_option linter.unusedSectionVars false
namespace Go.Proofs.Ytocaeclhmkojiaa
open Go Go.Ab
def a25 : ACode :=
  (.seq (.reg [⟨(.some 2), (.mv (.k (.slice .none 0 0))), .none⟩]) (.seq (.reg [⟨(.some 3), (.mv (.k (.slice .none 0 0))), .none⟩]) (.seq (.seq (.reg [⟨(.some 6), (.mv (.t 0)), .none⟩, ⟨(.some 7),
  (.call (.f 58) [(.t 6)]), .none⟩, ⟨(.some 8), (.mv (.k (.int .i64 0))), .none⟩]) (.block 0 (.loop (.seq (.reg [⟨(.some 9), (.bin .lss (.t 8) (.k (.int .i64 12))), .none⟩]) (.seq (.cond (.t 9) .skip
  (.exit 0)) (.seq (.block 1 (.seq (.reg [⟨(.some 10), (.mv (.t 8)), .none⟩, ⟨(.some 11), (.ixA 12 1 .none (.t 7) (.t 8)), .none⟩, ⟨(.some 4), (.mv (.t 10)), .none⟩, ⟨(.some 5), (.mv (.t 11)), .none⟩])
  (.seq (.reg [⟨(.some 12), (.mv (.t 5)), .none⟩, ⟨(.some 13), (.bin .gtr (.t 12) (.k (.int .i64 0))), .none⟩]) (.cond (.t 13) (.reg [⟨(.some 14), (.mv (.t 3)), .none⟩, ⟨(.some 15), (.mv (.t 4)),
  .none⟩, ⟨(.some 16), (.cvI .u8 (.t 15)), .none⟩, ⟨(.some 17), (.bs 5 1 [(.t 16)]), .none⟩, ⟨(.some 18), (.app 5 1 (.t 14) (.t 17)), .none⟩, ⟨(.some 3), (.mv (.t 18)), .none⟩]) .skip)))) (.reg [⟨(.some
  19), (.bin .add (.t 8) (.k (.int .i64 1))), .none⟩, ⟨(.some 8), (.mv (.t 19)), .none⟩]))))))) (.seq (.reg [⟨(.some 20), (.mv (.t 3)), .none⟩, ⟨(.some 2), (.mv (.t 20)), .none⟩]) .ret))))
theorem c25 : Try.f25.body.bind (cCode Try.prog 21) = some a25 := by kernel_rfl
theorem r25 : Try.f25.results.toList = [(.tmp 2)] := by kernel_rfl
theorem n25 : Try.f25.ntmps = 21 := by kernel_rfl
theorem e25 : Enters Try.prog 25 := enters_of Try.func25 (by kernel_rfl) (by kernel_rfl)
def a26 : ACode :=
  (.seq (.reg [⟨(.some 2), (.mv (.k (.slice .none 0 0))), .none⟩]) (.seq (.reg [⟨(.some 3), (.mv (.k (.slice .none 0 0))), .none⟩]) (.seq (.seq (.reg [⟨(.some 4), (.mv (.k (.int .u8 2))), .none⟩])
  (.block 0 (.loop (.seq (.seq (.reg [⟨(.some 5), (.mv (.t 4)), .none⟩, ⟨(.some 6), (.bin .leq (.t 5) (.k (.int .u8 11))), .none⟩]) (.cond (.t 6) .skip (.exit 0))) (.seq (.block 1 (.seq (.reg [⟨(.some
  9), (.mv (.t 0)), .none⟩, ⟨(.some 10), (.mv (.t 4)), .none⟩, ⟨(.some 11), (.call (.f 59) [(.t 9), (.t 10)]), .none⟩]) (.cond (.t 11) (.reg [⟨(.some 12), (.mv (.t 3)), .none⟩, ⟨(.some 13), (.mv (.t
  4)), .none⟩, ⟨(.some 14), (.bs 5 1 [(.t 13)]), .none⟩, ⟨(.some 15), (.app 5 1 (.t 12) (.t 14)), .none⟩, ⟨(.some 3), (.mv (.t 15)), .none⟩]) .skip))) (.reg [⟨(.some 7), (.mv (.t 4)), .none⟩, ⟨(.some
  8), (.bin .add (.t 7) (.k (.int .u8 1))), .none⟩, ⟨(.some 4), (.mv (.t 8)), .none⟩])))))) (.seq (.reg [⟨(.some 16), (.mv (.t 3)), .none⟩, ⟨(.some 2), (.mv (.t 16)), .none⟩]) .ret))))
theorem c26 : Try.f26.body.bind (cCode Try.prog 17) = some a26 := by kernel_rfl
theorem r26 : Try.f26.results.toList = [(.tmp 2)] := by kernel_rfl
theorem n26 : Try.f26.ntmps = 17 := by kernel_rfl
theorem e26 : Enters Try.prog 26 := enters_of Try.func26 (by kernel_rfl) (by kernel_rfl)

/-- Those of the first n that are counted. -/
def told (cs : List Int) (n : Nat) : List Nat := (List.range n).filter fun s => decide (0 < cs.getD s 0)
theorem told_succ (cs : List Int) (n : Nat) : told cs (n + 1) = if 0 < cs.getD n 0 then told cs n ++ [n] else told cs n := by
  simp only [told, List.range_succ, List.filter_append, List.filter_cons, List.filter_nil, decide_eq_true_eq]
  split <;> simp
theorem told_length (cs : List Int) (n : Nat) : (told cs n).length ≤ n := by
  have := List.length_filter_le (fun s => decide (0 < cs.getD s 0)) (List.range n)
  simpa [told] using this

theorem counts_length (l : List Int) : (counts l).length = 12 := by simp [counts, marked_length]

set_option maxRecDepth 10000 in
theorem scripts_pure (l : List Int) (hl : l.length ≤ 4611686018427387904) : Pure Try.prog 25 [.sl 21 (runes l) none] [5] (.sl 5 (octs (told (counts l) 12)) (some 0)) := by
  refine pure1 Try.func25 c25 n25 e25 r25 (by simp) ?_
  simp only [a25, astart, argSlots, go_sem, Nat.reduceAdd, Nat.reduceEqDiff, Nat.reduceLT, reduceIte, reduceCtorEq, Nat.reduceBEq, Int.reduceLT, Int.reduceToNat, Int.reducePow, Nat.reduceLeDiff, Int.reduceLE, Nat.reduceMul, Nat.reduceSub]
  refine callGo_pure (counted_pure l hl) (by rfl) ?_
  simp only [go_sem, Nat.reduceAdd, Nat.reduceEqDiff, Nat.reduceLT, reduceIte, reduceCtorEq, Nat.reduceBEq, Int.reduceLT, Int.reduceToNat, Int.reducePow, Nat.reduceLeDiff, Int.reduceLE, Nat.reduceMul, Nat.reduceSub, shiftL_nums]
  have hc := counts_length l
  generalize counts l = cs at hc ⊢
  refine loop_to 12 (fun i => ⟨[(3, some (.sl 5 (octs (told cs i)) (some 0))), (7, some (.ag (nums cs))), (8, some (.lit (.int .i64 i)))], [], [(0, 5)], 1⟩)
    (fun _ => True) ((weak_nil 3 5 (by simp only [go_sem, Nat.reduceAdd, Nat.reduceEqDiff, Nat.reduceLT, reduceIte, reduceCtorEq, Nat.reduceBEq, Int.reduceLT, Int.reduceToNat, Int.reducePow, Nat.reduceLeDiff, Int.reduceLE, Nat.reduceMul, Nat.reduceSub])).trans (weak_by [0] (by simp) rfl ?_ trivial ?_ (by simp))) trivial ?_ ?_
  · simp only [go_sem, Nat.reduceAdd, Nat.reduceEqDiff, Nat.reduceLT, reduceIte, reduceCtorEq, Nat.reduceBEq, Int.reduceLT, Int.reduceToNat, Int.reducePow, Nat.reduceLeDiff, Int.reduceLE, Nat.reduceMul, Nat.reduceSub, slotsBy, boxesBy, tipsBy, rawAt, nm, AV.ren, AV.renL, AV.under, AV.underL, List.all_nil, List.all_cons, bne_self_eq_false, List.getD_cons_zero, List.getD_cons_succ, List.length_nil, List.length_cons, and_true, true_and, Int.natCast_zero, nums_ren, nums_under]
    simp [told, octs]
  · simp only [go_sem, Nat.reduceAdd, Nat.reduceEqDiff, Nat.reduceLT, reduceIte, reduceCtorEq, Nat.reduceBEq, Int.reduceLT, Int.reduceToNat, Int.reducePow, Nat.reduceLeDiff, Int.reduceLE, Nat.reduceMul, Nat.reduceSub, slotsBy, boxesBy, tipsBy, rawAt, nm, AV.ren, AV.renL, AV.under, AV.underL, List.all_nil, List.all_cons, bne_self_eq_false, List.getD_cons_zero, List.getD_cons_succ, List.length_nil, List.length_cons, and_true, true_and, beq_self_eq_true]
  · intro i hi _
    have hlt : (decide ((i : Int) < 12)) = true := by simp only [decide_eq_true_eq]; omega
    have hg : cs.getD i 0 = cs[i]'(by omega) := by simp [hc, hi]
    simp only [go_sem, Nat.reduceAdd, Nat.reduceEqDiff, Nat.reduceLT, reduceIte, reduceCtorEq, Nat.reduceBEq, Int.reduceLT, Int.reduceToNat, Int.reducePow, Nat.reduceLeDiff, Int.reduceLE, Nat.reduceMul, Nat.reduceSub, hlt, Int.natCast_nonneg, Int.toNat_natCast, hi, Nat.mul_one, List.getElem?_drop, nums_at cs i (by omega)]
    by_cases h1 : 0 < cs[i]'(by omega)
    · have hb : decide (cs[i]'(by omega) > 0) = true := by simp only [decide_eq_true_eq]; exact h1
      have hts : told cs (i + 1) = told cs i ++ [i] := by rw [told_succ, hg, if_pos h1]
      have hle := told_length cs i
      simp only [hb, go_sem, Nat.reduceAdd, Nat.reduceEqDiff, Nat.reduceLT, reduceIte, reduceCtorEq, Nat.reduceBEq, Int.reduceLT, Int.reduceToNat, Int.reducePow, Nat.reduceLeDiff, Int.reduceLE, Nat.reduceMul, Nat.reduceSub]
      simp (disch := omega) only [wrap_u8]
      simp only [go_sem, Nat.reduceAdd, Nat.reduceEqDiff, Nat.reduceLT, reduceIte, reduceCtorEq, Nat.reduceBEq, Int.reduceLT, Int.reduceToNat, Int.reducePow, Nat.reduceLeDiff, Int.reduceLE, Nat.reduceMul, Nat.reduceSub, octs_length]
      refine ⟨by omega, ?_⟩
      simp (disch := omega) only [wrap_i64]
      refine weak_by [2] (by simp) rfl ?_ trivial ?_ (by simp)
      · simp only [go_sem, Nat.reduceAdd, Nat.reduceEqDiff, Nat.reduceLT, reduceIte, reduceCtorEq, Nat.reduceBEq, Int.reduceLT, Int.reduceToNat, Int.reducePow, Nat.reduceLeDiff, Int.reduceLE, Nat.reduceMul, Nat.reduceSub, slotsBy, boxesBy, tipsBy, rawAt, nm, AV.ren, AV.renL, AV.under, AV.underL, List.all_nil, List.all_cons, bne_self_eq_false, List.getD_cons_zero, List.getD_cons_succ, List.length_nil, List.length_cons, and_true, true_and, nums_ren, nums_under, hts, Int.natCast_add, Int.natCast_one]
        simp [octs]
      · simp only [go_sem, Nat.reduceAdd, Nat.reduceEqDiff, Nat.reduceLT, reduceIte, reduceCtorEq, Nat.reduceBEq, Int.reduceLT, Int.reduceToNat, Int.reducePow, Nat.reduceLeDiff, Int.reduceLE, Nat.reduceMul, Nat.reduceSub, slotsBy, boxesBy, tipsBy, rawAt, nm, AV.ren, AV.renL, AV.under, AV.underL, List.all_nil, List.all_cons, bne_self_eq_false, List.getD_cons_zero, List.getD_cons_succ, List.length_nil, List.length_cons, and_true, true_and, beq_self_eq_true]
    · have hb : decide (cs[i]'(by omega) > 0) = false := by simp only [decide_eq_false_iff_not]; exact h1
      have hts : told cs (i + 1) = told cs i := by rw [told_succ, hg, if_neg h1]
      simp only [hb, go_sem, Nat.reduceAdd, Nat.reduceEqDiff, Nat.reduceLT, reduceIte, reduceCtorEq, Nat.reduceBEq, Int.reduceLT, Int.reduceToNat, Int.reducePow, Nat.reduceLeDiff, Int.reduceLE, Nat.reduceMul, Nat.reduceSub]
      simp (disch := omega) only [wrap_i64]
      refine weak_by [0] (by simp) rfl ?_ trivial ?_ (by simp)
      · simp only [go_sem, Nat.reduceAdd, Nat.reduceEqDiff, Nat.reduceLT, reduceIte, reduceCtorEq, Nat.reduceBEq, Int.reduceLT, Int.reduceToNat, Int.reducePow, Nat.reduceLeDiff, Int.reduceLE, Nat.reduceMul, Nat.reduceSub, slotsBy, boxesBy, tipsBy, rawAt, nm, AV.ren, AV.renL, AV.under, AV.underL, List.all_nil, List.all_cons, bne_self_eq_false, List.getD_cons_zero, List.getD_cons_succ, List.length_nil, List.length_cons, and_true, true_and, nums_ren, nums_under, hts, Int.natCast_add, Int.natCast_one]
      · simp only [go_sem, Nat.reduceAdd, Nat.reduceEqDiff, Nat.reduceLT, reduceIte, reduceCtorEq, Nat.reduceBEq, Int.reduceLT, Int.reduceToNat, Int.reducePow, Nat.reduceLeDiff, Int.reduceLE, Nat.reduceMul, Nat.reduceSub, slotsBy, boxesBy, tipsBy, rawAt, nm, AV.ren, AV.renL, AV.under, AV.underL, List.all_nil, List.all_cons, bne_self_eq_false, List.getD_cons_zero, List.getD_cons_succ, List.length_nil, List.length_cons, and_true, true_and, beq_self_eq_true]
  · intro _
    have hlt : (decide (((12 : Nat) : Int) < 12)) = false := by simp
    simp only [go_sem, Nat.reduceAdd, Nat.reduceEqDiff, Nat.reduceLT, reduceIte, reduceCtorEq, Nat.reduceBEq, Int.reduceLT, Int.reduceToNat, Int.reducePow, Nat.reduceLeDiff, Int.reduceLE, Nat.reduceMul, Nat.reduceSub, hlt]
    exact ⟨.inr rfl, 0, by simp only [resAV, resL, resOne, go_sem, Nat.reduceAdd, Nat.reduceEqDiff, Nat.reduceLT, reduceIte, reduceCtorEq, Nat.reduceBEq, Int.reduceLT, Int.reduceToNat, Int.reducePow, Nat.reduceLeDiff, Int.reduceLE, Nat.reduceMul, Nat.reduceSub], by simp [go_sem, Nat.reduceAdd, Nat.reduceEqDiff, Nat.reduceLT, reduceIte, reduceCtorEq, Nat.reduceBEq, Int.reduceLT, Int.reduceToNat, Int.reducePow, Nat.reduceLeDiff, Int.reduceLE, Nat.reduceMul, Nat.reduceSub]⟩
end Go.Proofs.Ytocaeclhmkojiaa
