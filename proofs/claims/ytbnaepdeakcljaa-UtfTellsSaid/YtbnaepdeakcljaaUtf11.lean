/-
The document's own functions on bytes: how many a first one asks for, tails, the number that bytes say. Conditions: none.
-/
import Derived.Test.YtbnaepdeakcljaaBas
set_option linter.unusedSimpArgs false
set_option linter.unusedVariables false
set_option linter.unusedSectionVars false
namespace Go.Proofs.Ytbnaepdeakcljaa
open Go Go.Ab
def a38 : ACode :=
  (.seq (.reg [⟨(.some 2), (.mv (.k (.int .i64 0))), .none⟩]) (.seq (.block 0 (.seq (.reg [⟨(.some 4), (.mv (.t 0)), .none⟩, ⟨(.some 5), (.bin .lss (.t 4) (.k (.int .u8 128))), .none⟩, ⟨(.some 3), (.mv
  (.t 5)), .none⟩]) (.cond (.t 3) (.seq (.reg [⟨(.some 2), (.mv (.k (.int .i64 1))), .none⟩]) .ret) (.seq (.reg [⟨(.some 7), (.mv (.t 0)), .none⟩, ⟨(.some 8), (.bin .geq (.t 7) (.k (.int .u8 192))),
  .none⟩, ⟨(.some 9), (.mv (.t 8)), .none⟩, ⟨(.some 10), (.mv (.t 0)), (.some (9, true))⟩, ⟨(.some 11), (.bin .lss (.t 10) (.k (.int .u8 224))), (.some (9, true))⟩, ⟨(.some 12), (.pick (.t 9) (.t 11)
  (.k (.bool false))), .none⟩, ⟨(.some 6), (.mv (.t 12)), .none⟩]) (.cond (.t 6) (.seq (.reg [⟨(.some 2), (.mv (.k (.int .i64 2))), .none⟩]) .ret) (.seq (.reg [⟨(.some 14), (.mv (.t 0)), .none⟩, ⟨(.some
  15), (.bin .geq (.t 14) (.k (.int .u8 224))), .none⟩, ⟨(.some 16), (.mv (.t 15)), .none⟩, ⟨(.some 17), (.mv (.t 0)), (.some (16, true))⟩, ⟨(.some 18), (.bin .lss (.t 17) (.k (.int .u8 240))), (.some
  (16, true))⟩, ⟨(.some 19), (.pick (.t 16) (.t 18) (.k (.bool false))), .none⟩, ⟨(.some 13), (.mv (.t 19)), .none⟩]) (.cond (.t 13) (.seq (.reg [⟨(.some 2), (.mv (.k (.int .i64 3))), .none⟩]) .ret)
  (.seq (.reg [⟨(.some 21), (.mv (.t 0)), .none⟩, ⟨(.some 22), (.bin .geq (.t 21) (.k (.int .u8 240))), .none⟩, ⟨(.some 23), (.mv (.t 22)), .none⟩, ⟨(.some 24), (.mv (.t 0)), (.some (23, true))⟩,
  ⟨(.some 25), (.bin .lss (.t 24) (.k (.int .u8 248))), (.some (23, true))⟩, ⟨(.some 26), (.pick (.t 23) (.t 25) (.k (.bool false))), .none⟩, ⟨(.some 20), (.mv (.t 26)), .none⟩]) (.cond (.t 20) (.seq
  (.reg [⟨(.some 2), (.mv (.k (.int .i64 4))), .none⟩]) .ret) .skip))))))))) (.seq (.reg [⟨(.some 2), (.mv (.k (.int .i64 0))), .none⟩]) .ret)))
theorem c38 : Try.f38.body.bind (cCode Try.prog 27) = some a38 := by kernel_rfl
theorem r38 : Try.f38.results.toList = [(.tmp 2)] := by kernel_rfl
theorem n38 : Try.f38.ntmps = 27 := by kernel_rfl
theorem e38 : Enters Try.prog 38 := enters_of Try.func38 (by kernel_rfl) (by kernel_rfl)
def a61 : ACode :=
  (.seq (.reg [⟨(.some 2), (.mv (.k (.bool false))), .none⟩]) (.seq (.seq (.reg [⟨(.some 3), (.mv (.k (.int .i64 1))), .none⟩]) (.block 0 (.loop (.seq (.seq (.reg [⟨(.some 4), (.mv (.t 3)), .none⟩,
  ⟨(.some 5), (.mv (.t 0)), .none⟩, ⟨(.some 6), (.len (.t 5)), .none⟩, ⟨(.some 7), (.bin .lss (.t 4) (.t 6)), .none⟩]) (.cond (.t 7) .skip (.exit 0))) (.seq (.block 1 (.seq (.reg [⟨(.some 10), (.mv (.t
  0)), .none⟩, ⟨(.some 11), (.mv (.t 3)), .none⟩, ⟨(.some 12), (.ia 5 (.t 10) (.t 11)), .none⟩, ⟨(.some 13), (.ld .none (.t 12)), .none⟩, ⟨(.some 14), (.bin .lss (.t 13) (.k (.int .u8 128))), .none⟩,
  ⟨(.some 15), (.mv (.t 14)), .none⟩, ⟨(.some 16), (.mv (.t 0)), (.some (15, false))⟩, ⟨(.some 17), (.mv (.t 3)), (.some (15, false))⟩, ⟨(.some 18), (.ia 5 (.t 16) (.t 17)), (.some (15, false))⟩,
  ⟨(.some 19), (.ld .none (.t 18)), (.some (15, false))⟩, ⟨(.some 20), (.bin .gtr (.t 19) (.k (.int .u8 191))), (.some (15, false))⟩, ⟨(.some 21), (.pick (.t 15) (.k (.bool true)) (.t 20)), .none⟩])
  (.cond (.t 21) (.seq (.reg [⟨(.some 2), (.mv (.k (.bool false))), .none⟩]) .ret) .skip))) (.reg [⟨(.some 8), (.mv (.t 3)), .none⟩, ⟨(.some 9), (.bin .add (.t 8) (.k (.int .i64 1))), .none⟩, ⟨(.some
  3), (.mv (.t 9)), .none⟩])))))) (.seq (.reg [⟨(.some 2), (.mv (.k (.bool true))), .none⟩]) .ret)))
theorem c61 : Try.f61.body.bind (cCode Try.prog 22) = some a61 := by kernel_rfl
theorem r61 : Try.f61.results.toList = [(.tmp 2)] := by kernel_rfl
theorem n61 : Try.f61.ntmps = 22 := by kernel_rfl
theorem e61 : Enters Try.prog 61 := enters_of Try.func61 (by kernel_rfl) (by kernel_rfl)

def longN (c : Nat) : Nat := if c < 128 then 1 else if 192 ≤ c ∧ c < 224 then 2 else if 224 ≤ c ∧ c < 240 then 3 else if 240 ≤ c ∧ c < 248 then 4 else 0

set_option maxRecDepth 10000 in
theorem long_pure (c : Nat) : Pure Try.prog 38 [.lit (.int .u8 (c : Int))] [] (.lit (.int .i64 (longN c : Nat))) := by
  refine pure0 Try.func38 c38 n38 e38 r38 (by simp) rfl ?_
  simp only [a38, astart, argSlots, go_sem, Nat.reduceAdd, Nat.reduceEqDiff, Nat.reduceLT, reduceIte, reduceCtorEq, Nat.reduceBEq, Int.reduceLT, Int.reduceToNat, Int.reducePow, Nat.reduceLeDiff, Int.reduceLE, Nat.reduceMul, Nat.reduceSub]
  have a1 : decide ((c : Int) < 128) = decide (c < 128) := by simp only [decide_eq_decide]; omega
  have a2 : decide ((c : Int) ≥ 192) = decide (192 ≤ c) := by simp only [decide_eq_decide]; omega
  have a3 : decide ((c : Int) < 224) = decide (c < 224) := by simp only [decide_eq_decide]; omega
  have a4 : decide ((c : Int) ≥ 224) = decide (224 ≤ c) := by simp only [decide_eq_decide]; omega
  have a5 : decide ((c : Int) < 240) = decide (c < 240) := by simp only [decide_eq_decide]; omega
  have a6 : decide ((c : Int) ≥ 240) = decide (240 ≤ c) := by simp only [decide_eq_decide]; omega
  have a7 : decide ((c : Int) < 248) = decide (c < 248) := by simp only [decide_eq_decide]; omega
  have done : ∀ {n : Nat}, longN c = n → ∀ {s : State}, Go.Ab.look s.slots 2 = some (.lit (.int .i64 ((n : Nat) : Int))) → Done Try.prog [.tmp 2] (.lit (.int .i64 (longN c : Nat))) .ret s := by
    intro n hn s hs
    rw [hn]
    exact ⟨.inr rfl, by simp only [resAV, resL, resOne, hs, go_sem, Nat.reduceAdd, Nat.reduceEqDiff, Nat.reduceLT, reduceIte, reduceCtorEq, Nat.reduceBEq, Int.reduceLT, Int.reduceToNat, Int.reducePow, Nat.reduceLeDiff, Int.reduceLE, Nat.reduceMul, Nat.reduceSub]⟩
  have hc : c < 128 ∨ (128 ≤ c ∧ c < 192) ∨ (192 ≤ c ∧ c < 224) ∨ (224 ≤ c ∧ c < 240) ∨ (240 ≤ c ∧ c < 248) ∨ 248 ≤ c := by omega
  rcases hc with h | ⟨h, h'⟩ | ⟨h, h'⟩ | ⟨h, h'⟩ | ⟨h, h'⟩ | h
  · have b1 : decide (c < 128) = true := by simp [h]
    simp only [a1, b1, go_sem, Nat.reduceAdd, Nat.reduceEqDiff, Nat.reduceLT, reduceIte, reduceCtorEq, Nat.reduceBEq, Int.reduceLT, Int.reduceToNat, Int.reducePow, Nat.reduceLeDiff, Int.reduceLE, Nat.reduceMul, Nat.reduceSub]
    exact done (n := 1) (by unfold longN; rw [if_pos h]) rfl
  all_goals
    have b1 : decide (c < 128) = false := by simp only [decide_eq_false_iff_not]; omega
  · have b2 : decide (192 ≤ c) = false := by simp only [decide_eq_false_iff_not]; omega
    have b4 : decide (224 ≤ c) = false := by simp only [decide_eq_false_iff_not]; omega
    have b6 : decide (240 ≤ c) = false := by simp only [decide_eq_false_iff_not]; omega
    simp only [a1, a2, a4, a6, b1, b2, b4, b6, go_sem, Nat.reduceAdd, Nat.reduceEqDiff, Nat.reduceLT, reduceIte, reduceCtorEq, Nat.reduceBEq, Int.reduceLT, Int.reduceToNat, Int.reducePow, Nat.reduceLeDiff, Int.reduceLE, Nat.reduceMul, Nat.reduceSub]
    exact done (n := 0) (by unfold longN; rw [if_neg (by omega), if_neg (by omega), if_neg (by omega), if_neg (by omega)]) rfl
  · have b2 : decide (192 ≤ c) = true := by simp only [decide_eq_true_eq]; omega
    have b3 : decide (c < 224) = true := by simp only [decide_eq_true_eq]; omega
    simp only [a1, a2, a3, b1, b2, b3, go_sem, Nat.reduceAdd, Nat.reduceEqDiff, Nat.reduceLT, reduceIte, reduceCtorEq, Nat.reduceBEq, Int.reduceLT, Int.reduceToNat, Int.reducePow, Nat.reduceLeDiff, Int.reduceLE, Nat.reduceMul, Nat.reduceSub]
    exact done (n := 2) (by unfold longN; rw [if_neg (by omega), if_pos (by omega)]) rfl
  · have b2 : decide (192 ≤ c) = true := by simp only [decide_eq_true_eq]; omega
    have b3 : decide (c < 224) = false := by simp only [decide_eq_false_iff_not]; omega
    have b4 : decide (224 ≤ c) = true := by simp only [decide_eq_true_eq]; omega
    have b5 : decide (c < 240) = true := by simp only [decide_eq_true_eq]; omega
    simp only [a1, a2, a3, a4, a5, b1, b2, b3, b4, b5, go_sem, Nat.reduceAdd, Nat.reduceEqDiff, Nat.reduceLT, reduceIte, reduceCtorEq, Nat.reduceBEq, Int.reduceLT, Int.reduceToNat, Int.reducePow, Nat.reduceLeDiff, Int.reduceLE, Nat.reduceMul, Nat.reduceSub]
    exact done (n := 3) (by unfold longN; rw [if_neg (by omega), if_neg (by omega), if_pos (by omega)]) rfl
  · have b2 : decide (192 ≤ c) = true := by simp only [decide_eq_true_eq]; omega
    have b3 : decide (c < 224) = false := by simp only [decide_eq_false_iff_not]; omega
    have b4 : decide (224 ≤ c) = true := by simp only [decide_eq_true_eq]; omega
    have b5 : decide (c < 240) = false := by simp only [decide_eq_false_iff_not]; omega
    have b6 : decide (240 ≤ c) = true := by simp only [decide_eq_true_eq]; omega
    have b7 : decide (c < 248) = true := by simp only [decide_eq_true_eq]; omega
    simp only [a1, a2, a3, a4, a5, a6, a7, b1, b2, b3, b4, b5, b6, b7, go_sem, Nat.reduceAdd, Nat.reduceEqDiff, Nat.reduceLT, reduceIte, reduceCtorEq, Nat.reduceBEq, Int.reduceLT, Int.reduceToNat, Int.reducePow, Nat.reduceLeDiff, Int.reduceLE, Nat.reduceMul, Nat.reduceSub]
    exact done (n := 4) (by unfold longN; rw [if_neg (by omega), if_neg (by omega), if_neg (by omega), if_pos (by omega)]) rfl
  · have b2 : decide (192 ≤ c) = true := by simp only [decide_eq_true_eq]; omega
    have b3 : decide (c < 224) = false := by simp only [decide_eq_false_iff_not]; omega
    have b4 : decide (224 ≤ c) = true := by simp only [decide_eq_true_eq]; omega
    have b5 : decide (c < 240) = false := by simp only [decide_eq_false_iff_not]; omega
    have b6 : decide (240 ≤ c) = true := by simp only [decide_eq_true_eq]; omega
    have b7 : decide (c < 248) = false := by simp only [decide_eq_false_iff_not]; omega
    simp only [a1, a2, a3, a4, a5, a6, a7, b1, b2, b3, b4, b5, b6, b7, go_sem, Nat.reduceAdd, Nat.reduceEqDiff, Nat.reduceLT, reduceIte, reduceCtorEq, Nat.reduceBEq, Int.reduceLT, Int.reduceToNat, Int.reducePow, Nat.reduceLeDiff, Int.reduceLE, Nat.reduceMul, Nat.reduceSub]
    exact done (n := 0) (by unfold longN; rw [if_neg (by omega), if_neg (by omega), if_neg (by omega), if_neg (by omega)]) rfl

def isTail (b : Nat) : Bool := decide (128 ≤ b) && decide (b ≤ 191)

set_option maxRecDepth 10000 in
theorem tails_pure (l : List Nat) (hl : l.length ≤ 4611686018427387904) : Pure Try.prog 61 [.sl 5 (octs l) none] [] (.lit (.bool ((l.drop 1).all isTail))) := by
  refine pure0 Try.func61 c61 n61 e61 r61 (by simp) rfl ?_
  simp only [a61, astart, argSlots, go_sem, Nat.reduceAdd, Nat.reduceEqDiff, Nat.reduceLT, reduceIte, reduceCtorEq, Nat.reduceBEq, Int.reduceLT, Int.reduceToNat, Int.reducePow, Nat.reduceLeDiff, Int.reduceLE, Nat.reduceMul, Nat.reduceSub]
  refine ⟨fun s => ∃ i : Nat, 1 ≤ i ∧ ((l.take i).drop 1).all isTail = true ∧ s = ⟨[(0, some (.sl 5 (octs l) none)), (3, some (.lit (.int .i64 i)))], [], [], 0⟩, fun s => l.length - cnt 3 s,
    ⟨_, weak_by [] List.nodup_nil rfl ?_ ?_ ?_ ?_, 1, by omega, ?_, rfl⟩, ?_⟩
  · simp only [go_sem, Nat.reduceAdd, Nat.reduceEqDiff, Nat.reduceLT, reduceIte, reduceCtorEq, Nat.reduceBEq, Int.reduceLT, Int.reduceToNat, Int.reducePow, Nat.reduceLeDiff, Int.reduceLE, Nat.reduceMul, Nat.reduceSub, slotsBy, boxesBy, tipsBy, rawAt, nm, AV.ren, AV.renL, AV.under, AV.underL, List.all_nil, List.all_cons, bne_self_eq_false, List.getD_cons_zero, List.getD_cons_succ, List.length_nil, List.length_cons, and_true, true_and, Int.natCast_one]
  · trivial
  · trivial
  · simp
  · cases l <;> simp
  · rintro _ ⟨i, hi, hall, rfl⟩
    simp only [go_sem, Nat.reduceAdd, Nat.reduceEqDiff, Nat.reduceLT, reduceIte, reduceCtorEq, Nat.reduceBEq, Int.reduceLT, Int.reduceToNat, Int.reducePow, Nat.reduceLeDiff, Int.reduceLE, Nat.reduceMul, Nat.reduceSub, octs_length]
    by_cases hlt : i < l.length
    · have hg := octs_get l i hlt
      have htk : (l.take (i + 1)).drop 1 = (l.take i).drop 1 ++ [l[i]] := by
        rw [List.take_succ_eq_append_getElem hlt, List.drop_append_of_le_length (by simp; omega)]
      have hdr : l.drop 1 = (l.take i).drop 1 ++ (l[i] :: l.drop (i + 1)) := by
        conv => lhs; rw [← List.take_append_drop i l]
        rw [List.drop_append_of_le_length (by simp; omega), List.drop_eq_getElem_cons hlt]
      generalize l[i] = x at hg htk hdr
      have hw2 : IntKind.i64.wrap ((i : Int) + 1) = ((i + 1 : Nat) : Int) := by rw [wrap_i64 _ (by omega) (by omega)]; omega
      simp only [dec_lt hlt, go_sem, Nat.reduceAdd, Nat.reduceEqDiff, Nat.reduceLT, reduceIte, reduceCtorEq, Nat.reduceBEq, Int.reduceLT, Int.reduceToNat, Int.reducePow, Nat.reduceLeDiff, Int.reduceLE, Nat.reduceMul, Nat.reduceSub, Int.natCast_nonneg, Int.toNat_natCast, hg]
      by_cases h1 : x < 128
      · have b1 : decide ((x : Int) < 128) = true := by simp only [decide_eq_true_eq]; omega
        have hf : (l.drop 1).all isTail = false := by
          rw [hdr, List.all_append, List.all_cons]; simp only [isTail, show decide (128 ≤ x) = false by simp only [decide_eq_false_iff_not]; omega, Bool.false_and, Bool.and_false]
        simp only [b1, go_sem, Nat.reduceAdd, Nat.reduceEqDiff, Nat.reduceLT, reduceIte, reduceCtorEq, Nat.reduceBEq, Int.reduceLT, Int.reduceToNat, Int.reducePow, Nat.reduceLeDiff, Int.reduceLE, Nat.reduceMul, Nat.reduceSub]
        rw [hf]
        simp only [Done, resAV, resL, resOne, look_nil, look_cons, Nat.reduceEqDiff, if_true, if_false, reduceIte, ite_true, ite_false, Nat.zero_ne_one, Nat.one_ne_zero, reduceCtorEq, true_or, or_true, true_and, Option.some.injEq, AV.lit.injEq, Value.int.injEq, Value.bool.injEq]
      · have b1 : decide ((x : Int) < 128) = false := by simp only [decide_eq_false_iff_not]; omega
        by_cases h2 : 191 < x
        · have b2 : decide ((x : Int) > 191) = true := by simp only [decide_eq_true_eq]; omega
          have hf : (l.drop 1).all isTail = false := by
            rw [hdr, List.all_append, List.all_cons]; simp only [isTail, show decide (x ≤ 191) = false by simp only [decide_eq_false_iff_not]; omega, Bool.false_and, Bool.and_false]
          simp only [b1, b2, go_sem, Nat.reduceAdd, Nat.reduceEqDiff, Nat.reduceLT, reduceIte, reduceCtorEq, Nat.reduceBEq, Int.reduceLT, Int.reduceToNat, Int.reducePow, Nat.reduceLeDiff, Int.reduceLE, Nat.reduceMul, Nat.reduceSub, Int.natCast_nonneg, Int.toNat_natCast, hg]
          rw [hf]
          simp only [Done, resAV, resL, resOne, look_nil, look_cons, Nat.reduceEqDiff, if_true, if_false, reduceIte, ite_true, ite_false, Nat.zero_ne_one, Nat.one_ne_zero, reduceCtorEq, true_or, or_true, true_and, Option.some.injEq, AV.lit.injEq, Value.int.injEq, Value.bool.injEq]
        · have b2 : decide ((x : Int) > 191) = false := by simp only [decide_eq_false_iff_not]; omega
          have hx : isTail x = true := by simp only [isTail, Bool.and_eq_true, decide_eq_true_eq]; omega
          simp only [b1, b2, hw2, go_sem, Nat.reduceAdd, Nat.reduceEqDiff, Nat.reduceLT, reduceIte, reduceCtorEq, Nat.reduceBEq, Int.reduceLT, Int.reduceToNat, Int.reducePow, Nat.reduceLeDiff, Int.reduceLE, Nat.reduceMul, Nat.reduceSub, Int.natCast_nonneg, Int.toNat_natCast, hg]
          refine ⟨_, weak_by [] List.nodup_nil rfl ?_ ?_ ?_ ?_, ⟨i + 1, by omega, by rw [htk, List.all_append, hall, List.all_cons, hx]; rfl, rfl⟩, ?_⟩
          · simp only [go_sem, Nat.reduceAdd, Nat.reduceEqDiff, Nat.reduceLT, reduceIte, reduceCtorEq, Nat.reduceBEq, Int.reduceLT, Int.reduceToNat, Int.reducePow, Nat.reduceLeDiff, Int.reduceLE, Nat.reduceMul, Nat.reduceSub, slotsBy, boxesBy, tipsBy, rawAt, nm, AV.ren, AV.renL, AV.under, AV.underL, List.all_nil, List.all_cons, bne_self_eq_false, List.getD_cons_zero, List.getD_cons_succ, List.length_nil, List.length_cons, and_true, true_and]
          · trivial
          · trivial
          · simp
          · simp only [cnt, go_sem, Nat.reduceAdd, Nat.reduceEqDiff, Nat.reduceLT, reduceIte, reduceCtorEq, Nat.reduceBEq, Int.reduceLT, Int.reduceToNat, Int.reducePow, Nat.reduceLeDiff, Int.reduceLE, Nat.reduceMul, Nat.reduceSub, Int.toNat_natCast]; omega
    · have hd : decide ((i : Int) < (l.length : Int)) = false := by simp only [decide_eq_false_iff_not]; omega
      rw [List.take_of_length_le (by omega)] at hall
      rw [hall]
      simp only [hd, go_sem, Nat.reduceAdd, Nat.reduceEqDiff, Nat.reduceLT, reduceIte, reduceCtorEq, Nat.reduceBEq, Int.reduceLT, Int.reduceToNat, Int.reducePow, Nat.reduceLeDiff, Int.reduceLE, Nat.reduceMul, Nat.reduceSub]
      simp only [Done, resAV, resL, resOne, look_nil, look_cons, Nat.reduceEqDiff, if_true, if_false, reduceIte, ite_true, ite_false, Nat.zero_ne_one, Nat.one_ne_zero, reduceCtorEq, true_or, or_true, true_and, Option.some.injEq, AV.lit.injEq, Value.int.injEq, Value.bool.injEq]
end Go.Proofs.Ytbnaepdeakcljaa
