/-
The document's codes of bytes. Conditions: none.
-/
import Derived.Test.YteekelelcbfekaaSafM1
import Derived.Test.YteekelelcbfekaaSafM2
set_option linter.unusedSimpArgs false
set_option linter.unusedVariables false
set_option linter.unusedSectionVars false

/-! ## Utf11 -/

namespace Go.Proofs.Yteekelelcbfekaa
open Go Go.Ab
def a45 : ACode :=
  (.seq (.reg [⟨(.some 2), (.mv (.k (.int .i64 0))), .none⟩]) (.seq (.block 0 (.seq (.reg [⟨(.some 4), (.mv (.t 0)), .none⟩, ⟨(.some 5), (.bin .lss (.t 4) (.k (.int .u8 128))), .none⟩, ⟨(.some 3), (.mv
  (.t 5)), .none⟩]) (.cond (.t 3) (.seq (.reg [⟨(.some 2), (.mv (.k (.int .i64 1))), .none⟩]) .ret) (.seq (.reg [⟨(.some 7), (.mv (.t 0)), .none⟩, ⟨(.some 8), (.bin .geq (.t 7) (.k (.int .u8 192))),
  .none⟩, ⟨(.some 9), (.mv (.t 8)), .none⟩, ⟨(.some 10), (.mv (.t 0)), (.some (9, true))⟩, ⟨(.some 11), (.bin .lss (.t 10) (.k (.int .u8 224))), (.some (9, true))⟩, ⟨(.some 12), (.pick (.t 9) (.t 11)
  (.k (.bool false))), .none⟩, ⟨(.some 6), (.mv (.t 12)), .none⟩]) (.cond (.t 6) (.seq (.reg [⟨(.some 2), (.mv (.k (.int .i64 2))), .none⟩]) .ret) (.seq (.reg [⟨(.some 14), (.mv (.t 0)), .none⟩, ⟨(.some
  15), (.bin .geq (.t 14) (.k (.int .u8 224))), .none⟩, ⟨(.some 16), (.mv (.t 15)), .none⟩, ⟨(.some 17), (.mv (.t 0)), (.some (16, true))⟩, ⟨(.some 18), (.bin .lss (.t 17) (.k (.int .u8 240))), (.some
  (16, true))⟩, ⟨(.some 19), (.pick (.t 16) (.t 18) (.k (.bool false))), .none⟩, ⟨(.some 13), (.mv (.t 19)), .none⟩]) (.cond (.t 13) (.seq (.reg [⟨(.some 2), (.mv (.k (.int .i64 3))), .none⟩]) .ret)
  (.seq (.reg [⟨(.some 21), (.mv (.t 0)), .none⟩, ⟨(.some 22), (.bin .geq (.t 21) (.k (.int .u8 240))), .none⟩, ⟨(.some 23), (.mv (.t 22)), .none⟩, ⟨(.some 24), (.mv (.t 0)), (.some (23, true))⟩,
  ⟨(.some 25), (.bin .lss (.t 24) (.k (.int .u8 248))), (.some (23, true))⟩, ⟨(.some 26), (.pick (.t 23) (.t 25) (.k (.bool false))), .none⟩, ⟨(.some 20), (.mv (.t 26)), .none⟩]) (.cond (.t 20) (.seq
  (.reg [⟨(.some 2), (.mv (.k (.int .i64 4))), .none⟩]) .ret) .skip))))))))) (.seq (.reg [⟨(.some 2), (.mv (.k (.int .i64 0))), .none⟩]) .ret)))
theorem c45 : Try.f45.body.bind (cCode Try.prog 27) = some a45 := by kernel_rfl
theorem r45 : Try.f45.results.toList = [(.tmp 2)] := by kernel_rfl
theorem n45 : Try.f45.ntmps = 27 := by kernel_rfl
theorem e45 : Enters Try.prog 45 := enters_of Try.func45 (by kernel_rfl) (by kernel_rfl)
def a60 : ACode :=
  (.seq (.reg [⟨(.some 2), (.mv (.k (.bool false))), .none⟩]) (.seq (.seq (.reg [⟨(.some 3), (.mv (.k (.int .i64 1))), .none⟩]) (.block 0 (.loop (.seq (.seq (.reg [⟨(.some 4), (.mv (.t 3)), .none⟩,
  ⟨(.some 5), (.mv (.t 0)), .none⟩, ⟨(.some 6), (.len (.t 5)), .none⟩, ⟨(.some 7), (.bin .lss (.t 4) (.t 6)), .none⟩]) (.cond (.t 7) .skip (.exit 0))) (.seq (.block 1 (.seq (.reg [⟨(.some 10), (.mv (.t
  0)), .none⟩, ⟨(.some 11), (.mv (.t 3)), .none⟩, ⟨(.some 12), (.ia 5 (.t 10) (.t 11)), .none⟩, ⟨(.some 13), (.ld .none (.t 12)), .none⟩, ⟨(.some 14), (.bin .lss (.t 13) (.k (.int .u8 128))), .none⟩,
  ⟨(.some 15), (.mv (.t 14)), .none⟩, ⟨(.some 16), (.mv (.t 0)), (.some (15, false))⟩, ⟨(.some 17), (.mv (.t 3)), (.some (15, false))⟩, ⟨(.some 18), (.ia 5 (.t 16) (.t 17)), (.some (15, false))⟩,
  ⟨(.some 19), (.ld .none (.t 18)), (.some (15, false))⟩, ⟨(.some 20), (.bin .gtr (.t 19) (.k (.int .u8 191))), (.some (15, false))⟩, ⟨(.some 21), (.pick (.t 15) (.k (.bool true)) (.t 20)), .none⟩])
  (.cond (.t 21) (.seq (.reg [⟨(.some 2), (.mv (.k (.bool false))), .none⟩]) .ret) .skip))) (.reg [⟨(.some 8), (.mv (.t 3)), .none⟩, ⟨(.some 9), (.bin .add (.t 8) (.k (.int .i64 1))), .none⟩, ⟨(.some
  3), (.mv (.t 9)), .none⟩])))))) (.seq (.reg [⟨(.some 2), (.mv (.k (.bool true))), .none⟩]) .ret)))
theorem c60 : Try.f60.body.bind (cCode Try.prog 22) = some a60 := by kernel_rfl
theorem r60 : Try.f60.results.toList = [(.tmp 2)] := by kernel_rfl
theorem n60 : Try.f60.ntmps = 22 := by kernel_rfl
theorem e60 : Enters Try.prog 60 := enters_of Try.func60 (by kernel_rfl) (by kernel_rfl)

def longN (c : Nat) : Nat := if c < 128 then 1 else if 192 ≤ c ∧ c < 224 then 2 else if 224 ≤ c ∧ c < 240 then 3 else if 240 ≤ c ∧ c < 248 then 4 else 0

set_option maxRecDepth 10000 in
theorem long_pure (c : Nat) : Pure Try.prog 45 [.lit (.int .u8 (c : Int))] [] (.lit (.int .i64 (longN c : Nat))) := by
  refine pure0 Try.func45 c45 n45 e45 r45 (by simp) rfl ?_
  simp only [a45, astart, argSlots, go_sem, Nat.reduceAdd, Nat.reduceEqDiff, Nat.reduceLT, reduceIte, reduceCtorEq, Nat.reduceBEq, Int.reduceLT, Int.reduceToNat, Int.reducePow, Nat.reduceLeDiff, Int.reduceLE, Nat.reduceMul, Nat.reduceSub]
  have a1 : decide ((c : Int) < 128) = decide (c < 128) := by simp only [decide_eq_decide]; omega
  have a2 : decide ((c : Int) ≥ 192) = decide (192 ≤ c) := by simp only [decide_eq_decide]; omega
  have a3 : decide ((c : Int) < 224) = decide (c < 224) := by simp only [decide_eq_decide]; omega
  have a4 : decide ((c : Int) ≥ 224) = decide (224 ≤ c) := by simp only [decide_eq_decide]; omega
  have a5 : decide ((c : Int) < 240) = decide (c < 240) := by simp only [decide_eq_decide]; omega
  have a6 : decide ((c : Int) ≥ 240) = decide (240 ≤ c) := by simp only [decide_eq_decide]; omega
  have a7 : decide ((c : Int) < 248) = decide (c < 248) := by simp only [decide_eq_decide]; omega
  have done : ∀ {n : Nat}, longN c = n → ∀ {s : State}, Go.Ab.look s.slots 2 = some (.lit (.int .i64 ((n : Nat) : Int))) → Done Try.prog [.tmp 2] (.lit (.int .i64 (longN c : Nat))) .ret s := by
    intro n hn s hs
    rw [hn]
    exact ⟨.inr rfl, by simp only [resAV, resL, resOne, hs, go_sem, Nat.reduceAdd, Nat.reduceEqDiff, Nat.reduceLT, reduceIte, reduceCtorEq, Nat.reduceBEq, Int.reduceLT, Int.reduceToNat, Int.reducePow, Nat.reduceLeDiff, Int.reduceLE, Nat.reduceMul, Nat.reduceSub]⟩
  have hc : c < 128 ∨ (128 ≤ c ∧ c < 192) ∨ (192 ≤ c ∧ c < 224) ∨ (224 ≤ c ∧ c < 240) ∨ (240 ≤ c ∧ c < 248) ∨ 248 ≤ c := by omega
  rcases hc with h | ⟨h, h'⟩ | ⟨h, h'⟩ | ⟨h, h'⟩ | ⟨h, h'⟩ | h
  · have b1 : decide (c < 128) = true := by simp [h]
    simp only [a1, b1, go_sem, Nat.reduceAdd, Nat.reduceEqDiff, Nat.reduceLT, reduceIte, reduceCtorEq, Nat.reduceBEq, Int.reduceLT, Int.reduceToNat, Int.reducePow, Nat.reduceLeDiff, Int.reduceLE, Nat.reduceMul, Nat.reduceSub]
    exact done (n := 1) (by unfold longN; rw [if_pos h]) rfl
  all_goals
    have b1 : decide (c < 128) = false := by simp only [decide_eq_false_iff_not]; omega
  · have b2 : decide (192 ≤ c) = false := by simp only [decide_eq_false_iff_not]; omega
    have b4 : decide (224 ≤ c) = false := by simp only [decide_eq_false_iff_not]; omega
    have b6 : decide (240 ≤ c) = false := by simp only [decide_eq_false_iff_not]; omega
    simp only [a1, a2, a4, a6, b1, b2, b4, b6, go_sem, Nat.reduceAdd, Nat.reduceEqDiff, Nat.reduceLT, reduceIte, reduceCtorEq, Nat.reduceBEq, Int.reduceLT, Int.reduceToNat, Int.reducePow, Nat.reduceLeDiff, Int.reduceLE, Nat.reduceMul, Nat.reduceSub]
    exact done (n := 0) (by unfold longN; rw [if_neg (by omega), if_neg (by omega), if_neg (by omega), if_neg (by omega)]) rfl
  · have b2 : decide (192 ≤ c) = true := by simp only [decide_eq_true_eq]; omega
    have b3 : decide (c < 224) = true := by simp only [decide_eq_true_eq]; omega
    simp only [a1, a2, a3, b1, b2, b3, go_sem, Nat.reduceAdd, Nat.reduceEqDiff, Nat.reduceLT, reduceIte, reduceCtorEq, Nat.reduceBEq, Int.reduceLT, Int.reduceToNat, Int.reducePow, Nat.reduceLeDiff, Int.reduceLE, Nat.reduceMul, Nat.reduceSub]
    exact done (n := 2) (by unfold longN; rw [if_neg (by omega), if_pos (by omega)]) rfl
  · have b2 : decide (192 ≤ c) = true := by simp only [decide_eq_true_eq]; omega
    have b3 : decide (c < 224) = false := by simp only [decide_eq_false_iff_not]; omega
    have b4 : decide (224 ≤ c) = true := by simp only [decide_eq_true_eq]; omega
    have b5 : decide (c < 240) = true := by simp only [decide_eq_true_eq]; omega
    simp only [a1, a2, a3, a4, a5, b1, b2, b3, b4, b5, go_sem, Nat.reduceAdd, Nat.reduceEqDiff, Nat.reduceLT, reduceIte, reduceCtorEq, Nat.reduceBEq, Int.reduceLT, Int.reduceToNat, Int.reducePow, Nat.reduceLeDiff, Int.reduceLE, Nat.reduceMul, Nat.reduceSub]
    exact done (n := 3) (by unfold longN; rw [if_neg (by omega), if_neg (by omega), if_pos (by omega)]) rfl
  · have b2 : decide (192 ≤ c) = true := by simp only [decide_eq_true_eq]; omega
    have b3 : decide (c < 224) = false := by simp only [decide_eq_false_iff_not]; omega
    have b4 : decide (224 ≤ c) = true := by simp only [decide_eq_true_eq]; omega
    have b5 : decide (c < 240) = false := by simp only [decide_eq_false_iff_not]; omega
    have b6 : decide (240 ≤ c) = true := by simp only [decide_eq_true_eq]; omega
    have b7 : decide (c < 248) = true := by simp only [decide_eq_true_eq]; omega
    simp only [a1, a2, a3, a4, a5, a6, a7, b1, b2, b3, b4, b5, b6, b7, go_sem, Nat.reduceAdd, Nat.reduceEqDiff, Nat.reduceLT, reduceIte, reduceCtorEq, Nat.reduceBEq, Int.reduceLT, Int.reduceToNat, Int.reducePow, Nat.reduceLeDiff, Int.reduceLE, Nat.reduceMul, Nat.reduceSub]
    exact done (n := 4) (by unfold longN; rw [if_neg (by omega), if_neg (by omega), if_neg (by omega), if_pos (by omega)]) rfl
  · have b2 : decide (192 ≤ c) = true := by simp only [decide_eq_true_eq]; omega
    have b3 : decide (c < 224) = false := by simp only [decide_eq_false_iff_not]; omega
    have b4 : decide (224 ≤ c) = true := by simp only [decide_eq_true_eq]; omega
    have b5 : decide (c < 240) = false := by simp only [decide_eq_false_iff_not]; omega
    have b6 : decide (240 ≤ c) = true := by simp only [decide_eq_true_eq]; omega
    have b7 : decide (c < 248) = false := by simp only [decide_eq_false_iff_not]; omega
    simp only [a1, a2, a3, a4, a5, a6, a7, b1, b2, b3, b4, b5, b6, b7, go_sem, Nat.reduceAdd, Nat.reduceEqDiff, Nat.reduceLT, reduceIte, reduceCtorEq, Nat.reduceBEq, Int.reduceLT, Int.reduceToNat, Int.reducePow, Nat.reduceLeDiff, Int.reduceLE, Nat.reduceMul, Nat.reduceSub]
    exact done (n := 0) (by unfold longN; rw [if_neg (by omega), if_neg (by omega), if_neg (by omega), if_neg (by omega)]) rfl

def isTail (b : Nat) : Bool := decide (128 ≤ b) && decide (b ≤ 191)

set_option maxRecDepth 10000 in
theorem tails_pure (l : List Nat) (hl : l.length ≤ 4611686018427387904) : Pure Try.prog 60 [.sl 5 (octs l) none] [] (.lit (.bool ((l.drop 1).all isTail))) := by
  refine pure0 Try.func60 c60 n60 e60 r60 (by simp) rfl ?_
  simp only [a60, astart, argSlots, go_sem, Nat.reduceAdd, Nat.reduceEqDiff, Nat.reduceLT, reduceIte, reduceCtorEq, Nat.reduceBEq, Int.reduceLT, Int.reduceToNat, Int.reducePow, Nat.reduceLeDiff, Int.reduceLE, Nat.reduceMul, Nat.reduceSub]
  refine ⟨fun s => ∃ i : Nat, 1 ≤ i ∧ ((l.take i).drop 1).all isTail = true ∧ s = ⟨[(0, some (.sl 5 (octs l) none)), (3, some (.lit (.int .i64 i)))], [], [], 0⟩, fun s => l.length - cnt 3 s,
    ⟨_, weak_by [] List.nodup_nil rfl ?_ ?_ ?_ ?_, 1, by omega, ?_, rfl⟩, ?_⟩
  · simp only [go_sem, Nat.reduceAdd, Nat.reduceEqDiff, Nat.reduceLT, reduceIte, reduceCtorEq, Nat.reduceBEq, Int.reduceLT, Int.reduceToNat, Int.reducePow, Nat.reduceLeDiff, Int.reduceLE, Nat.reduceMul, Nat.reduceSub, slotsBy, boxesBy, tipsBy, rawAt, nm, AV.ren, AV.renL, AV.under, AV.underL, List.all_nil, List.all_cons, bne_self_eq_false, List.getD_cons_zero, List.getD_cons_succ, List.length_nil, List.length_cons, and_true, true_and, Int.natCast_one]
  · trivial
  · trivial
  · simp
  · cases l <;> simp
  · rintro _ ⟨i, hi, hall, rfl⟩
    simp only [go_sem, Nat.reduceAdd, Nat.reduceEqDiff, Nat.reduceLT, reduceIte, reduceCtorEq, Nat.reduceBEq, Int.reduceLT, Int.reduceToNat, Int.reducePow, Nat.reduceLeDiff, Int.reduceLE, Nat.reduceMul, Nat.reduceSub, octs_length]
    by_cases hlt : i < l.length
    · have hg := octs_get l i hlt
      have htk : (l.take (i + 1)).drop 1 = (l.take i).drop 1 ++ [l[i]] := by
        rw [List.take_succ_eq_append_getElem hlt, List.drop_append_of_le_length (by simp; omega)]
      have hdr : l.drop 1 = (l.take i).drop 1 ++ (l[i] :: l.drop (i + 1)) := by
        conv => lhs; rw [← List.take_append_drop i l]
        rw [List.drop_append_of_le_length (by simp; omega), List.drop_eq_getElem_cons hlt]
      generalize l[i] = x at hg htk hdr
      have hw2 : IntKind.i64.wrap ((i : Int) + 1) = ((i + 1 : Nat) : Int) := by rw [wrap_i64 _ (by omega) (by omega)]; omega
      simp only [dec_lt hlt, go_sem, Nat.reduceAdd, Nat.reduceEqDiff, Nat.reduceLT, reduceIte, reduceCtorEq, Nat.reduceBEq, Int.reduceLT, Int.reduceToNat, Int.reducePow, Nat.reduceLeDiff, Int.reduceLE, Nat.reduceMul, Nat.reduceSub, Int.natCast_nonneg, Int.toNat_natCast, hg]
      by_cases h1 : x < 128
      · have b1 : decide ((x : Int) < 128) = true := by simp only [decide_eq_true_eq]; omega
        have hf : (l.drop 1).all isTail = false := by
          rw [hdr, List.all_append, List.all_cons]; simp only [isTail, show decide (128 ≤ x) = false by simp only [decide_eq_false_iff_not]; omega, Bool.false_and, Bool.and_false]
        simp only [b1, go_sem, Nat.reduceAdd, Nat.reduceEqDiff, Nat.reduceLT, reduceIte, reduceCtorEq, Nat.reduceBEq, Int.reduceLT, Int.reduceToNat, Int.reducePow, Nat.reduceLeDiff, Int.reduceLE, Nat.reduceMul, Nat.reduceSub]
        rw [hf]
        simp only [Done, resAV, resL, resOne, look_nil, look_cons, Nat.reduceEqDiff, if_true, if_false, reduceIte, ite_true, ite_false, Nat.zero_ne_one, Nat.one_ne_zero, reduceCtorEq, true_or, or_true, true_and, Option.some.injEq, AV.lit.injEq, Value.int.injEq, Value.bool.injEq]
      · have b1 : decide ((x : Int) < 128) = false := by simp only [decide_eq_false_iff_not]; omega
        by_cases h2 : 191 < x
        · have b2 : decide ((x : Int) > 191) = true := by simp only [decide_eq_true_eq]; omega
          have hf : (l.drop 1).all isTail = false := by
            rw [hdr, List.all_append, List.all_cons]; simp only [isTail, show decide (x ≤ 191) = false by simp only [decide_eq_false_iff_not]; omega, Bool.false_and, Bool.and_false]
          simp only [b1, b2, go_sem, Nat.reduceAdd, Nat.reduceEqDiff, Nat.reduceLT, reduceIte, reduceCtorEq, Nat.reduceBEq, Int.reduceLT, Int.reduceToNat, Int.reducePow, Nat.reduceLeDiff, Int.reduceLE, Nat.reduceMul, Nat.reduceSub, Int.natCast_nonneg, Int.toNat_natCast, hg]
          rw [hf]
          simp only [Done, resAV, resL, resOne, look_nil, look_cons, Nat.reduceEqDiff, if_true, if_false, reduceIte, ite_true, ite_false, Nat.zero_ne_one, Nat.one_ne_zero, reduceCtorEq, true_or, or_true, true_and, Option.some.injEq, AV.lit.injEq, Value.int.injEq, Value.bool.injEq]
        · have b2 : decide ((x : Int) > 191) = false := by simp only [decide_eq_false_iff_not]; omega
          have hx : isTail x = true := by simp only [isTail, Bool.and_eq_true, decide_eq_true_eq]; omega
          simp only [b1, b2, hw2, go_sem, Nat.reduceAdd, Nat.reduceEqDiff, Nat.reduceLT, reduceIte, reduceCtorEq, Nat.reduceBEq, Int.reduceLT, Int.reduceToNat, Int.reducePow, Nat.reduceLeDiff, Int.reduceLE, Nat.reduceMul, Nat.reduceSub, Int.natCast_nonneg, Int.toNat_natCast, hg]
          refine ⟨_, weak_by [] List.nodup_nil rfl ?_ ?_ ?_ ?_, ⟨i + 1, by omega, by rw [htk, List.all_append, hall, List.all_cons, hx]; rfl, rfl⟩, ?_⟩
          · simp only [go_sem, Nat.reduceAdd, Nat.reduceEqDiff, Nat.reduceLT, reduceIte, reduceCtorEq, Nat.reduceBEq, Int.reduceLT, Int.reduceToNat, Int.reducePow, Nat.reduceLeDiff, Int.reduceLE, Nat.reduceMul, Nat.reduceSub, slotsBy, boxesBy, tipsBy, rawAt, nm, AV.ren, AV.renL, AV.under, AV.underL, List.all_nil, List.all_cons, bne_self_eq_false, List.getD_cons_zero, List.getD_cons_succ, List.length_nil, List.length_cons, and_true, true_and]
          · trivial
          · trivial
          · simp
          · simp only [cnt, go_sem, Nat.reduceAdd, Nat.reduceEqDiff, Nat.reduceLT, reduceIte, reduceCtorEq, Nat.reduceBEq, Int.reduceLT, Int.reduceToNat, Int.reducePow, Nat.reduceLeDiff, Int.reduceLE, Nat.reduceMul, Nat.reduceSub, Int.toNat_natCast]; omega
    · have hd : decide ((i : Int) < (l.length : Int)) = false := by simp only [decide_eq_false_iff_not]; omega
      rw [List.take_of_length_le (by omega)] at hall
      rw [hall]
      simp only [hd, go_sem, Nat.reduceAdd, Nat.reduceEqDiff, Nat.reduceLT, reduceIte, reduceCtorEq, Nat.reduceBEq, Int.reduceLT, Int.reduceToNat, Int.reducePow, Nat.reduceLeDiff, Int.reduceLE, Nat.reduceMul, Nat.reduceSub]
      simp only [Done, resAV, resL, resOne, look_nil, look_cons, Nat.reduceEqDiff, if_true, if_false, reduceIte, ite_true, ite_false, Nat.zero_ne_one, Nat.one_ne_zero, reduceCtorEq, true_or, or_true, true_and, Option.some.injEq, AV.lit.injEq, Value.int.injEq, Value.bool.injEq]
end Go.Proofs.Yteekelelcbfekaa

/-! ## Utf12 -/

namespace Go.Proofs.Yteekelelcbfekaa
open Go Go.Ab
def a46 : ACode :=
  (.seq (.reg [⟨(.some 6), (.mv (.k (.int .i64 0))), .none⟩]) (.seq (.reg [⟨(.some 10), (.mv (.t 0)), .none⟩, ⟨(.some 11), (.ia 5 (.t 10) (.k (.int .i64 0))), .none⟩, ⟨(.some 12), (.ld .none (.t 11)),
  .none⟩, ⟨(.some 13), (.cvI .i64 (.t 12)), .none⟩, ⟨(.some 7), (.mv (.t 13)), .none⟩]) (.seq (.seq (.reg [⟨(.some 14), (.mv (.t 1)), .none⟩]) (.block 0 (.seq (.reg [⟨(.some 16), (.bin .eql (.t 14) (.k
  (.int .i64 2))), .none⟩, ⟨(.some 15), (.mv (.t 16)), .none⟩]) (.cond (.t 15) (.reg [⟨(.some 17), (.mv (.t 7)), .none⟩, ⟨(.some 18), (.bin .sub (.t 17) (.k (.int .i64 192))), .none⟩, ⟨(.some 7), (.mv
  (.t 18)), .none⟩]) (.seq (.reg [⟨(.some 20), (.bin .eql (.t 14) (.k (.int .i64 3))), .none⟩, ⟨(.some 19), (.mv (.t 20)), .none⟩]) (.cond (.t 19) (.reg [⟨(.some 21), (.mv (.t 7)), .none⟩, ⟨(.some 22),
  (.bin .sub (.t 21) (.k (.int .i64 224))), .none⟩, ⟨(.some 7), (.mv (.t 22)), .none⟩]) (.seq (.reg [⟨(.some 24), (.bin .eql (.t 14) (.k (.int .i64 4))), .none⟩, ⟨(.some 23), (.mv (.t 24)), .none⟩])
  (.cond (.t 23) (.reg [⟨(.some 25), (.mv (.t 7)), .none⟩, ⟨(.some 26), (.bin .sub (.t 25) (.k (.int .i64 240))), .none⟩, ⟨(.some 7), (.mv (.t 26)), .none⟩]) .skip)))))))) (.seq (.seq (.reg [⟨(.some 8),
  (.mv (.k (.int .i64 1))), .none⟩]) (.block 1 (.loop (.seq (.seq (.reg [⟨(.some 27), (.mv (.t 8)), .none⟩, ⟨(.some 28), (.mv (.t 1)), .none⟩, ⟨(.some 29), (.bin .lss (.t 27) (.t 28)), .none⟩]) (.cond
  (.t 29) .skip (.exit 1))) (.seq (.block 2 (.seq (.reg [⟨(.some 32), (.mv (.t 2)), .none⟩, ⟨(.some 9), (.mv (.t 32)), .none⟩]) (.seq (.seq (.reg [⟨(.some 33), (.mv (.t 8)), .none⟩, ⟨(.some 34), (.mv
  (.t 0)), .none⟩, ⟨(.some 35), (.len (.t 34)), .none⟩, ⟨(.some 36), (.bin .lss (.t 33) (.t 35)), .none⟩]) (.cond (.t 36) (.reg [⟨(.some 37), (.mv (.t 0)), .none⟩, ⟨(.some 38), (.mv (.t 8)), .none⟩,
  ⟨(.some 39), (.ia 5 (.t 37) (.t 38)), .none⟩, ⟨(.some 40), (.ld .none (.t 39)), .none⟩, ⟨(.some 41), (.cvI .i64 (.t 40)), .none⟩, ⟨(.some 42), (.bin .sub (.t 41) (.k (.int .i64 128))), .none⟩, ⟨(.some
  9), (.mv (.t 42)), .none⟩]) .skip)) (.reg [⟨(.some 43), (.mv (.t 7)), .none⟩, ⟨(.some 44), (.bin .mul (.k (.int .i64 64)) (.t 43)), .none⟩, ⟨(.some 45), (.mv (.t 9)), .none⟩, ⟨(.some 46), (.bin .add
  (.t 44) (.t 45)), .none⟩, ⟨(.some 7), (.mv (.t 46)), .none⟩])))) (.reg [⟨(.some 30), (.mv (.t 8)), .none⟩, ⟨(.some 31), (.bin .add (.t 30) (.k (.int .i64 1))), .none⟩, ⟨(.some 8), (.mv (.t 31)),
  .none⟩])))))) (.seq (.reg [⟨(.some 47), (.mv (.t 7)), .none⟩, ⟨(.some 6), (.mv (.t 47)), .none⟩]) .ret)))))
theorem c46 : Try.f46.body.bind (cCode Try.prog 48) = some a46 := by kernel_rfl
theorem r46 : Try.f46.results.toList = [(.tmp 6)] := by kernel_rfl
theorem n46 : Try.f46.ntmps = 48 := by kernel_rfl
theorem e46 : Enters Try.prog 46 := enters_of Try.func46 (by kernel_rfl) (by kernel_rfl)

def numI (f : Int) : Nat → Int → List Nat → Int
  | 0, x, _ => x
  | m + 1, x, [] => numI f m (64 * x + f) []
  | m + 1, x, y :: t => numI f m (64 * x + ((y : Int) - 128)) t
def digit (f : Int) (t : List Nat) (m : Nat) : Int := match t[m]? with
  | some y => (y : Int) - 128
  | none => f
theorem numI_snoc (f : Int) : ∀ (m : Nat) (x : Int) (t : List Nat), numI f (m + 1) x t = 64 * numI f m x t + digit f t m
  | 0, x, [] => rfl
  | 0, x, y :: t => rfl
  | m + 1, x, [] => by
    rw [numI, numI_snoc f m]; rfl
  | m + 1, x, y :: t => by
    rw [numI, numI_snoc f m]
    simp only [numI, digit, List.getElem?_cons_succ]
theorem numI_bound {f : Int} (hf : 0 ≤ f ∧ f ≤ 63) {t : List Nat} (ht : ∀ y ∈ t, y ≤ 255) {x : Int} (hx : -256 ≤ x ∧ x ≤ 256) : ∀ m : Nat, m ≤ 3 → -100000000 ≤ numI f m x t ∧ numI f m x t ≤ 100000000 := by
  have hd : ∀ m, -128 ≤ digit f t m ∧ digit f t m ≤ 127 := by
    intro m
    unfold digit
    split
    · rename_i y hy
      have := ht y (List.mem_of_getElem? hy)
      omega
    · omega
  have e0 : numI f 0 x t = x := rfl
  have e1 := numI_snoc f 0 x t
  have e2 := numI_snoc f 1 x t
  have e3 := numI_snoc f 2 x t
  have d0 := hd 0
  have d1 := hd 1
  have d2 := hd 2
  intro m hm
  have : m = 0 ∨ m = 1 ∨ m = 2 ∨ m = 3 := by omega
  rcases this with rfl | rfl | rfl | rfl <;> simp only [Nat.zero_add, Nat.reduceAdd] at * <;> omega

def subN (n c : Nat) : Int := if n = 2 then (c : Int) - 192 else if n = 3 then (c : Int) - 224 else if n = 4 then (c : Int) - 240 else (c : Int)

set_option maxRecDepth 10000 in
theorem number_pure (c : Nat) (t : List Nat) (hc : c ≤ 255) (ht : ∀ y ∈ t, y ≤ 255) (hl : t.length ≤ 1099511627776) (n : Nat) (hn : 1 ≤ n ∧ n ≤ 4) (f : Int) (hf : 0 ≤ f ∧ f ≤ 63) :
    Pure Try.prog 46 [.sl 5 (octs (c :: t)) none, .lit (.int .i64 n), .lit (.int .i64 f)] [] (.lit (.int .i64 (numI f (n - 1) (subN n c) t))) := by
  refine pure0 Try.func46 c46 n46 e46 r46 (by simp) rfl ?_
  have hg0 : (octs (c :: t))[0]? = some [.int .u8 (c : Int)] := rfl
  have hwc : IntKind.i64.wrap (c : Int) = (c : Int) := wrap_i64 _ (by omega) (by omega)
  have hws : ∀ k : Int, 0 ≤ k → k ≤ 255 → IntKind.i64.wrap ((c : Int) - k) = (c : Int) - k := fun k h1 h2 => wrap_i64 _ (by omega) (by omega)
  have hxs : -256 ≤ subN n c ∧ subN n c ≤ 256 := by unfold subN; (repeat' split) <;> omega
  simp only [a46, astart, argSlots, go_sem, Nat.reduceAdd, Nat.reduceEqDiff, Nat.reduceLT, reduceIte, reduceCtorEq, Nat.reduceBEq, Int.reduceLT, Int.reduceToNat, Int.reducePow, Nat.reduceLeDiff, Int.reduceLE, Nat.reduceMul, Nat.reduceSub, hg0, hwc]
  have hN : n = 1 ∨ n = 2 ∨ n = 3 ∨ n = 4 := by omega
  have hbn := numI_bound hf ht hxs
  rcases hN with rfl | rfl | rfl | rfl
  · have e1 : (((1 : Nat) : Int)) = 1 := rfl
    have hsub : subN 1 c = (c : Int) := rfl
    simp only [e1, go_sem, Nat.reduceAdd, Nat.reduceEqDiff, Nat.reduceLT, reduceIte, reduceCtorEq, Nat.reduceBEq, Int.reduceLT, Int.reduceToNat, Int.reducePow, Nat.reduceLeDiff, Int.reduceLE, Nat.reduceMul, Nat.reduceSub, Int.reduceBEq]
    refine loop_to 0 (fun j => ⟨[(0, some (.sl 5 (octs (c :: t)) none)), (1, some (.lit (.int .i64 1))), (2, some (.lit (.int .i64 f))), (7, some (.lit (.int .i64 (numI f j (subN 1 c) t)))), (8, some (.lit (.int .i64 ((j + 1 : Nat) : Int))))], [], [], 0⟩) (fun j => j ≤ 0)
      (weak_by [] (by simp) rfl ?_ ?_ ?_ ?_) (Nat.zero_le _) ?_ ?_
    · simp only [go_sem, Nat.reduceAdd, Nat.reduceEqDiff, Nat.reduceLT, reduceIte, reduceCtorEq, Nat.reduceBEq, Int.reduceLT, Int.reduceToNat, Int.reducePow, Nat.reduceLeDiff, Int.reduceLE, Nat.reduceMul, Nat.reduceSub, slotsBy, boxesBy, tipsBy, rawAt, nm, AV.ren, AV.renL, AV.under, AV.underL, List.all_nil, List.all_cons, bne_self_eq_false, List.getD_cons_zero, List.getD_cons_succ, List.length_nil, List.length_cons, and_true, true_and, numI, hsub, Nat.zero_add, Int.natCast_one]
    · trivial
    · trivial
    · simp
    · intro j hj _
      have hw2 : IntKind.i64.wrap (((j + 1 : Nat) : Int) + 1) = ((j + 1 + 1 : Nat) : Int) := by rw [wrap_i64 _ (by omega) (by omega)]; omega
      have hb1 := hbn j (by omega)
      have hb2 := hbn (j + 1) (by omega)
      have hsn := numI_snoc f j (subN 1 c) t
      have hlo : (octs (c :: t)).length = t.length + 1 := by simp [octs]
      have h64 : IntKind.i64.wrap (64 * numI f j (subN 1 c) t) = 64 * numI f j (subN 1 c) t := wrap_i64 _ (by omega) (by omega)
      have hd0 : decide (((j + 1 : Nat) : Int) < 1) = true := by simp only [decide_eq_true_eq]; omega
      simp only [hd0, go_sem, Nat.reduceAdd, Nat.reduceEqDiff, Nat.reduceLT, reduceIte, reduceCtorEq, Nat.reduceBEq, Int.reduceLT, Int.reduceToNat, Int.reducePow, Nat.reduceLeDiff, Int.reduceLE, Nat.reduceMul, Nat.reduceSub, hlo]
      by_cases hjt : j < t.length
      · have hx := List.getElem?_eq_getElem hjt
        have hy := ht _ (List.getElem_mem hjt)
        have hgj : (octs (c :: t))[j + 1]? = some [.int .u8 (t[j] : Int)] := by simp [octs, hx]
        have hdg : digit f t j = (t[j] : Int) - 128 := by unfold digit; rw [hx]
        generalize t[j] = y at hgj hdg hy
        have hd1 : decide (((j + 1 : Nat) : Int) < ((t.length + 1 : Nat) : Int)) = true := by simp only [decide_eq_true_eq]; omega
        have hwy : IntKind.i64.wrap (y : Int) = (y : Int) := wrap_i64 _ (by omega) (by omega)
        have hwy2 : IntKind.i64.wrap ((y : Int) - 128) = (y : Int) - 128 := wrap_i64 _ (by omega) (by omega)
        have hfin : IntKind.i64.wrap (64 * numI f j (subN 1 c) t + ((y : Int) - 128)) = numI f (j + 1) (subN 1 c) t := by rw [hsn, hdg, wrap_i64 _ (by omega) (by omega)]
        simp only [hd1, hgj, hwy, hwy2, h64, hfin, hw2, go_sem, Nat.reduceAdd, Nat.reduceEqDiff, Nat.reduceLT, reduceIte, reduceCtorEq, Nat.reduceBEq, Int.reduceLT, Int.reduceToNat, Int.reducePow, Nat.reduceLeDiff, Int.reduceLE, Nat.reduceMul, Nat.reduceSub, Int.natCast_nonneg, Int.toNat_natCast]
        refine ⟨weak_by [] (by simp) rfl ?_ ?_ ?_ ?_, by omega⟩
        · simp only [go_sem, Nat.reduceAdd, Nat.reduceEqDiff, Nat.reduceLT, reduceIte, reduceCtorEq, Nat.reduceBEq, Int.reduceLT, Int.reduceToNat, Int.reducePow, Nat.reduceLeDiff, Int.reduceLE, Nat.reduceMul, Nat.reduceSub, slotsBy, boxesBy, tipsBy, rawAt, nm, AV.ren, AV.renL, AV.under, AV.underL, List.all_nil, List.all_cons, bne_self_eq_false, List.getD_cons_zero, List.getD_cons_succ, List.length_nil, List.length_cons, and_true, true_and]
        · trivial
        · trivial
        · simp
      · have hdg : digit f t j = f := by unfold digit; rw [List.getElem?_eq_none (by omega)]
        have hd1 : decide (((j + 1 : Nat) : Int) < ((t.length + 1 : Nat) : Int)) = false := by simp only [decide_eq_false_iff_not]; omega
        have hfin : IntKind.i64.wrap (64 * numI f j (subN 1 c) t + f) = numI f (j + 1) (subN 1 c) t := by rw [hsn, hdg, wrap_i64 _ (by omega) (by omega)]
        simp only [hd1, h64, hfin, hw2, go_sem, Nat.reduceAdd, Nat.reduceEqDiff, Nat.reduceLT, reduceIte, reduceCtorEq, Nat.reduceBEq, Int.reduceLT, Int.reduceToNat, Int.reducePow, Nat.reduceLeDiff, Int.reduceLE, Nat.reduceMul, Nat.reduceSub]
        refine ⟨weak_by [] (by simp) rfl ?_ ?_ ?_ ?_, by omega⟩
        · simp only [go_sem, Nat.reduceAdd, Nat.reduceEqDiff, Nat.reduceLT, reduceIte, reduceCtorEq, Nat.reduceBEq, Int.reduceLT, Int.reduceToNat, Int.reducePow, Nat.reduceLeDiff, Int.reduceLE, Nat.reduceMul, Nat.reduceSub, slotsBy, boxesBy, tipsBy, rawAt, nm, AV.ren, AV.renL, AV.under, AV.underL, List.all_nil, List.all_cons, bne_self_eq_false, List.getD_cons_zero, List.getD_cons_succ, List.length_nil, List.length_cons, and_true, true_and]
        · trivial
        · trivial
        · simp
    · intro _
      have hd : decide (((0 + 1 : Nat) : Int) < 1) = false := rfl
      simp only [hd, go_sem, Nat.reduceAdd, Nat.reduceEqDiff, Nat.reduceLT, reduceIte, reduceCtorEq, Nat.reduceBEq, Int.reduceLT, Int.reduceToNat, Int.reducePow, Nat.reduceLeDiff, Int.reduceLE, Nat.reduceMul, Nat.reduceSub]
      simp only [Done, resAV, resL, resOne, look_nil, look_cons, Nat.reduceEqDiff, if_true, if_false, reduceIte, ite_true, ite_false, Nat.zero_ne_one, Nat.one_ne_zero, reduceCtorEq, true_or, or_true, true_and, Option.some.injEq, AV.lit.injEq, Value.int.injEq, Value.bool.injEq]
  · have e1 : (((2 : Nat) : Int)) = 2 := rfl
    have hsub : subN 2 c = (c : Int) - 192 := rfl
    have hw := hws 192 (by omega) (by omega)
    simp only [e1, go_sem, Nat.reduceAdd, Nat.reduceEqDiff, Nat.reduceLT, reduceIte, reduceCtorEq, Nat.reduceBEq, Int.reduceLT, Int.reduceToNat, Int.reducePow, Nat.reduceLeDiff, Int.reduceLE, Nat.reduceMul, Nat.reduceSub, Int.reduceBEq, hw]
    rw [← hsub]
    refine loop_to 1 (fun j => ⟨[(0, some (.sl 5 (octs (c :: t)) none)), (1, some (.lit (.int .i64 2))), (2, some (.lit (.int .i64 f))), (7, some (.lit (.int .i64 (numI f j (subN 2 c) t)))), (8, some (.lit (.int .i64 ((j + 1 : Nat) : Int))))], [], [], 0⟩) (fun j => j ≤ 1)
      (weak_by [] (by simp) rfl ?_ ?_ ?_ ?_) (Nat.zero_le _) ?_ ?_
    · simp only [go_sem, Nat.reduceAdd, Nat.reduceEqDiff, Nat.reduceLT, reduceIte, reduceCtorEq, Nat.reduceBEq, Int.reduceLT, Int.reduceToNat, Int.reducePow, Nat.reduceLeDiff, Int.reduceLE, Nat.reduceMul, Nat.reduceSub, slotsBy, boxesBy, tipsBy, rawAt, nm, AV.ren, AV.renL, AV.under, AV.underL, List.all_nil, List.all_cons, bne_self_eq_false, List.getD_cons_zero, List.getD_cons_succ, List.length_nil, List.length_cons, and_true, true_and, numI, Nat.zero_add, Int.natCast_one]
    · trivial
    · trivial
    · simp
    · intro j hj _
      have hw2 : IntKind.i64.wrap (((j + 1 : Nat) : Int) + 1) = ((j + 1 + 1 : Nat) : Int) := by rw [wrap_i64 _ (by omega) (by omega)]; omega
      have hb1 := hbn j (by omega)
      have hb2 := hbn (j + 1) (by omega)
      have hsn := numI_snoc f j (subN 2 c) t
      have hlo : (octs (c :: t)).length = t.length + 1 := by simp [octs]
      have h64 : IntKind.i64.wrap (64 * numI f j (subN 2 c) t) = 64 * numI f j (subN 2 c) t := wrap_i64 _ (by omega) (by omega)
      have hd0 : decide (((j + 1 : Nat) : Int) < 2) = true := by simp only [decide_eq_true_eq]; omega
      simp only [hd0, go_sem, Nat.reduceAdd, Nat.reduceEqDiff, Nat.reduceLT, reduceIte, reduceCtorEq, Nat.reduceBEq, Int.reduceLT, Int.reduceToNat, Int.reducePow, Nat.reduceLeDiff, Int.reduceLE, Nat.reduceMul, Nat.reduceSub, hlo]
      by_cases hjt : j < t.length
      · have hx := List.getElem?_eq_getElem hjt
        have hy := ht _ (List.getElem_mem hjt)
        have hgj : (octs (c :: t))[j + 1]? = some [.int .u8 (t[j] : Int)] := by simp [octs, hx]
        have hdg : digit f t j = (t[j] : Int) - 128 := by unfold digit; rw [hx]
        generalize t[j] = y at hgj hdg hy
        have hd1 : decide (((j + 1 : Nat) : Int) < ((t.length + 1 : Nat) : Int)) = true := by simp only [decide_eq_true_eq]; omega
        have hwy : IntKind.i64.wrap (y : Int) = (y : Int) := wrap_i64 _ (by omega) (by omega)
        have hwy2 : IntKind.i64.wrap ((y : Int) - 128) = (y : Int) - 128 := wrap_i64 _ (by omega) (by omega)
        have hfin : IntKind.i64.wrap (64 * numI f j (subN 2 c) t + ((y : Int) - 128)) = numI f (j + 1) (subN 2 c) t := by rw [hsn, hdg, wrap_i64 _ (by omega) (by omega)]
        simp only [hd1, hgj, hwy, hwy2, h64, hfin, hw2, go_sem, Nat.reduceAdd, Nat.reduceEqDiff, Nat.reduceLT, reduceIte, reduceCtorEq, Nat.reduceBEq, Int.reduceLT, Int.reduceToNat, Int.reducePow, Nat.reduceLeDiff, Int.reduceLE, Nat.reduceMul, Nat.reduceSub, Int.natCast_nonneg, Int.toNat_natCast]
        refine ⟨weak_by [] (by simp) rfl ?_ ?_ ?_ ?_, by omega⟩
        · simp only [go_sem, Nat.reduceAdd, Nat.reduceEqDiff, Nat.reduceLT, reduceIte, reduceCtorEq, Nat.reduceBEq, Int.reduceLT, Int.reduceToNat, Int.reducePow, Nat.reduceLeDiff, Int.reduceLE, Nat.reduceMul, Nat.reduceSub, slotsBy, boxesBy, tipsBy, rawAt, nm, AV.ren, AV.renL, AV.under, AV.underL, List.all_nil, List.all_cons, bne_self_eq_false, List.getD_cons_zero, List.getD_cons_succ, List.length_nil, List.length_cons, and_true, true_and]
        · trivial
        · trivial
        · simp
      · have hdg : digit f t j = f := by unfold digit; rw [List.getElem?_eq_none (by omega)]
        have hd1 : decide (((j + 1 : Nat) : Int) < ((t.length + 1 : Nat) : Int)) = false := by simp only [decide_eq_false_iff_not]; omega
        have hfin : IntKind.i64.wrap (64 * numI f j (subN 2 c) t + f) = numI f (j + 1) (subN 2 c) t := by rw [hsn, hdg, wrap_i64 _ (by omega) (by omega)]
        simp only [hd1, h64, hfin, hw2, go_sem, Nat.reduceAdd, Nat.reduceEqDiff, Nat.reduceLT, reduceIte, reduceCtorEq, Nat.reduceBEq, Int.reduceLT, Int.reduceToNat, Int.reducePow, Nat.reduceLeDiff, Int.reduceLE, Nat.reduceMul, Nat.reduceSub]
        refine ⟨weak_by [] (by simp) rfl ?_ ?_ ?_ ?_, by omega⟩
        · simp only [go_sem, Nat.reduceAdd, Nat.reduceEqDiff, Nat.reduceLT, reduceIte, reduceCtorEq, Nat.reduceBEq, Int.reduceLT, Int.reduceToNat, Int.reducePow, Nat.reduceLeDiff, Int.reduceLE, Nat.reduceMul, Nat.reduceSub, slotsBy, boxesBy, tipsBy, rawAt, nm, AV.ren, AV.renL, AV.under, AV.underL, List.all_nil, List.all_cons, bne_self_eq_false, List.getD_cons_zero, List.getD_cons_succ, List.length_nil, List.length_cons, and_true, true_and]
        · trivial
        · trivial
        · simp
    · intro _
      have hd : decide (((1 + 1 : Nat) : Int) < 2) = false := rfl
      simp only [hd, go_sem, Nat.reduceAdd, Nat.reduceEqDiff, Nat.reduceLT, reduceIte, reduceCtorEq, Nat.reduceBEq, Int.reduceLT, Int.reduceToNat, Int.reducePow, Nat.reduceLeDiff, Int.reduceLE, Nat.reduceMul, Nat.reduceSub]
      simp only [Done, resAV, resL, resOne, look_nil, look_cons, Nat.reduceEqDiff, if_true, if_false, reduceIte, ite_true, ite_false, Nat.zero_ne_one, Nat.one_ne_zero, reduceCtorEq, true_or, or_true, true_and, Option.some.injEq, AV.lit.injEq, Value.int.injEq, Value.bool.injEq]
  · have e1 : (((3 : Nat) : Int)) = 3 := rfl
    have hsub : subN 3 c = (c : Int) - 224 := rfl
    have hw := hws 224 (by omega) (by omega)
    simp only [e1, go_sem, Nat.reduceAdd, Nat.reduceEqDiff, Nat.reduceLT, reduceIte, reduceCtorEq, Nat.reduceBEq, Int.reduceLT, Int.reduceToNat, Int.reducePow, Nat.reduceLeDiff, Int.reduceLE, Nat.reduceMul, Nat.reduceSub, Int.reduceBEq, hw]
    rw [← hsub]
    refine loop_to 2 (fun j => ⟨[(0, some (.sl 5 (octs (c :: t)) none)), (1, some (.lit (.int .i64 3))), (2, some (.lit (.int .i64 f))), (7, some (.lit (.int .i64 (numI f j (subN 3 c) t)))), (8, some (.lit (.int .i64 ((j + 1 : Nat) : Int))))], [], [], 0⟩) (fun j => j ≤ 2)
      (weak_by [] (by simp) rfl ?_ ?_ ?_ ?_) (Nat.zero_le _) ?_ ?_
    · simp only [go_sem, Nat.reduceAdd, Nat.reduceEqDiff, Nat.reduceLT, reduceIte, reduceCtorEq, Nat.reduceBEq, Int.reduceLT, Int.reduceToNat, Int.reducePow, Nat.reduceLeDiff, Int.reduceLE, Nat.reduceMul, Nat.reduceSub, slotsBy, boxesBy, tipsBy, rawAt, nm, AV.ren, AV.renL, AV.under, AV.underL, List.all_nil, List.all_cons, bne_self_eq_false, List.getD_cons_zero, List.getD_cons_succ, List.length_nil, List.length_cons, and_true, true_and, numI, Nat.zero_add, Int.natCast_one]
    · trivial
    · trivial
    · simp
    · intro j hj _
      have hw2 : IntKind.i64.wrap (((j + 1 : Nat) : Int) + 1) = ((j + 1 + 1 : Nat) : Int) := by rw [wrap_i64 _ (by omega) (by omega)]; omega
      have hb1 := hbn j (by omega)
      have hb2 := hbn (j + 1) (by omega)
      have hsn := numI_snoc f j (subN 3 c) t
      have hlo : (octs (c :: t)).length = t.length + 1 := by simp [octs]
      have h64 : IntKind.i64.wrap (64 * numI f j (subN 3 c) t) = 64 * numI f j (subN 3 c) t := wrap_i64 _ (by omega) (by omega)
      have hd0 : decide (((j + 1 : Nat) : Int) < 3) = true := by simp only [decide_eq_true_eq]; omega
      simp only [hd0, go_sem, Nat.reduceAdd, Nat.reduceEqDiff, Nat.reduceLT, reduceIte, reduceCtorEq, Nat.reduceBEq, Int.reduceLT, Int.reduceToNat, Int.reducePow, Nat.reduceLeDiff, Int.reduceLE, Nat.reduceMul, Nat.reduceSub, hlo]
      by_cases hjt : j < t.length
      · have hx := List.getElem?_eq_getElem hjt
        have hy := ht _ (List.getElem_mem hjt)
        have hgj : (octs (c :: t))[j + 1]? = some [.int .u8 (t[j] : Int)] := by simp [octs, hx]
        have hdg : digit f t j = (t[j] : Int) - 128 := by unfold digit; rw [hx]
        generalize t[j] = y at hgj hdg hy
        have hd1 : decide (((j + 1 : Nat) : Int) < ((t.length + 1 : Nat) : Int)) = true := by simp only [decide_eq_true_eq]; omega
        have hwy : IntKind.i64.wrap (y : Int) = (y : Int) := wrap_i64 _ (by omega) (by omega)
        have hwy2 : IntKind.i64.wrap ((y : Int) - 128) = (y : Int) - 128 := wrap_i64 _ (by omega) (by omega)
        have hfin : IntKind.i64.wrap (64 * numI f j (subN 3 c) t + ((y : Int) - 128)) = numI f (j + 1) (subN 3 c) t := by rw [hsn, hdg, wrap_i64 _ (by omega) (by omega)]
        simp only [hd1, hgj, hwy, hwy2, h64, hfin, hw2, go_sem, Nat.reduceAdd, Nat.reduceEqDiff, Nat.reduceLT, reduceIte, reduceCtorEq, Nat.reduceBEq, Int.reduceLT, Int.reduceToNat, Int.reducePow, Nat.reduceLeDiff, Int.reduceLE, Nat.reduceMul, Nat.reduceSub, Int.natCast_nonneg, Int.toNat_natCast]
        refine ⟨weak_by [] (by simp) rfl ?_ ?_ ?_ ?_, by omega⟩
        · simp only [go_sem, Nat.reduceAdd, Nat.reduceEqDiff, Nat.reduceLT, reduceIte, reduceCtorEq, Nat.reduceBEq, Int.reduceLT, Int.reduceToNat, Int.reducePow, Nat.reduceLeDiff, Int.reduceLE, Nat.reduceMul, Nat.reduceSub, slotsBy, boxesBy, tipsBy, rawAt, nm, AV.ren, AV.renL, AV.under, AV.underL, List.all_nil, List.all_cons, bne_self_eq_false, List.getD_cons_zero, List.getD_cons_succ, List.length_nil, List.length_cons, and_true, true_and]
        · trivial
        · trivial
        · simp
      · have hdg : digit f t j = f := by unfold digit; rw [List.getElem?_eq_none (by omega)]
        have hd1 : decide (((j + 1 : Nat) : Int) < ((t.length + 1 : Nat) : Int)) = false := by simp only [decide_eq_false_iff_not]; omega
        have hfin : IntKind.i64.wrap (64 * numI f j (subN 3 c) t + f) = numI f (j + 1) (subN 3 c) t := by rw [hsn, hdg, wrap_i64 _ (by omega) (by omega)]
        simp only [hd1, h64, hfin, hw2, go_sem, Nat.reduceAdd, Nat.reduceEqDiff, Nat.reduceLT, reduceIte, reduceCtorEq, Nat.reduceBEq, Int.reduceLT, Int.reduceToNat, Int.reducePow, Nat.reduceLeDiff, Int.reduceLE, Nat.reduceMul, Nat.reduceSub]
        refine ⟨weak_by [] (by simp) rfl ?_ ?_ ?_ ?_, by omega⟩
        · simp only [go_sem, Nat.reduceAdd, Nat.reduceEqDiff, Nat.reduceLT, reduceIte, reduceCtorEq, Nat.reduceBEq, Int.reduceLT, Int.reduceToNat, Int.reducePow, Nat.reduceLeDiff, Int.reduceLE, Nat.reduceMul, Nat.reduceSub, slotsBy, boxesBy, tipsBy, rawAt, nm, AV.ren, AV.renL, AV.under, AV.underL, List.all_nil, List.all_cons, bne_self_eq_false, List.getD_cons_zero, List.getD_cons_succ, List.length_nil, List.length_cons, and_true, true_and]
        · trivial
        · trivial
        · simp
    · intro _
      have hd : decide (((2 + 1 : Nat) : Int) < 3) = false := rfl
      simp only [hd, go_sem, Nat.reduceAdd, Nat.reduceEqDiff, Nat.reduceLT, reduceIte, reduceCtorEq, Nat.reduceBEq, Int.reduceLT, Int.reduceToNat, Int.reducePow, Nat.reduceLeDiff, Int.reduceLE, Nat.reduceMul, Nat.reduceSub]
      simp only [Done, resAV, resL, resOne, look_nil, look_cons, Nat.reduceEqDiff, if_true, if_false, reduceIte, ite_true, ite_false, Nat.zero_ne_one, Nat.one_ne_zero, reduceCtorEq, true_or, or_true, true_and, Option.some.injEq, AV.lit.injEq, Value.int.injEq, Value.bool.injEq]
  · have e1 : (((4 : Nat) : Int)) = 4 := rfl
    have hsub : subN 4 c = (c : Int) - 240 := rfl
    have hw := hws 240 (by omega) (by omega)
    simp only [e1, go_sem, Nat.reduceAdd, Nat.reduceEqDiff, Nat.reduceLT, reduceIte, reduceCtorEq, Nat.reduceBEq, Int.reduceLT, Int.reduceToNat, Int.reducePow, Nat.reduceLeDiff, Int.reduceLE, Nat.reduceMul, Nat.reduceSub, Int.reduceBEq, hw]
    rw [← hsub]
    refine loop_to 3 (fun j => ⟨[(0, some (.sl 5 (octs (c :: t)) none)), (1, some (.lit (.int .i64 4))), (2, some (.lit (.int .i64 f))), (7, some (.lit (.int .i64 (numI f j (subN 4 c) t)))), (8, some (.lit (.int .i64 ((j + 1 : Nat) : Int))))], [], [], 0⟩) (fun j => j ≤ 3)
      (weak_by [] (by simp) rfl ?_ ?_ ?_ ?_) (Nat.zero_le _) ?_ ?_
    · simp only [go_sem, Nat.reduceAdd, Nat.reduceEqDiff, Nat.reduceLT, reduceIte, reduceCtorEq, Nat.reduceBEq, Int.reduceLT, Int.reduceToNat, Int.reducePow, Nat.reduceLeDiff, Int.reduceLE, Nat.reduceMul, Nat.reduceSub, slotsBy, boxesBy, tipsBy, rawAt, nm, AV.ren, AV.renL, AV.under, AV.underL, List.all_nil, List.all_cons, bne_self_eq_false, List.getD_cons_zero, List.getD_cons_succ, List.length_nil, List.length_cons, and_true, true_and, numI, Nat.zero_add, Int.natCast_one]
    · trivial
    · trivial
    · simp
    · intro j hj _
      have hw2 : IntKind.i64.wrap (((j + 1 : Nat) : Int) + 1) = ((j + 1 + 1 : Nat) : Int) := by rw [wrap_i64 _ (by omega) (by omega)]; omega
      have hb1 := hbn j (by omega)
      have hb2 := hbn (j + 1) (by omega)
      have hsn := numI_snoc f j (subN 4 c) t
      have hlo : (octs (c :: t)).length = t.length + 1 := by simp [octs]
      have h64 : IntKind.i64.wrap (64 * numI f j (subN 4 c) t) = 64 * numI f j (subN 4 c) t := wrap_i64 _ (by omega) (by omega)
      have hd0 : decide (((j + 1 : Nat) : Int) < 4) = true := by simp only [decide_eq_true_eq]; omega
      simp only [hd0, go_sem, Nat.reduceAdd, Nat.reduceEqDiff, Nat.reduceLT, reduceIte, reduceCtorEq, Nat.reduceBEq, Int.reduceLT, Int.reduceToNat, Int.reducePow, Nat.reduceLeDiff, Int.reduceLE, Nat.reduceMul, Nat.reduceSub, hlo]
      by_cases hjt : j < t.length
      · have hx := List.getElem?_eq_getElem hjt
        have hy := ht _ (List.getElem_mem hjt)
        have hgj : (octs (c :: t))[j + 1]? = some [.int .u8 (t[j] : Int)] := by simp [octs, hx]
        have hdg : digit f t j = (t[j] : Int) - 128 := by unfold digit; rw [hx]
        generalize t[j] = y at hgj hdg hy
        have hd1 : decide (((j + 1 : Nat) : Int) < ((t.length + 1 : Nat) : Int)) = true := by simp only [decide_eq_true_eq]; omega
        have hwy : IntKind.i64.wrap (y : Int) = (y : Int) := wrap_i64 _ (by omega) (by omega)
        have hwy2 : IntKind.i64.wrap ((y : Int) - 128) = (y : Int) - 128 := wrap_i64 _ (by omega) (by omega)
        have hfin : IntKind.i64.wrap (64 * numI f j (subN 4 c) t + ((y : Int) - 128)) = numI f (j + 1) (subN 4 c) t := by rw [hsn, hdg, wrap_i64 _ (by omega) (by omega)]
        simp only [hd1, hgj, hwy, hwy2, h64, hfin, hw2, go_sem, Nat.reduceAdd, Nat.reduceEqDiff, Nat.reduceLT, reduceIte, reduceCtorEq, Nat.reduceBEq, Int.reduceLT, Int.reduceToNat, Int.reducePow, Nat.reduceLeDiff, Int.reduceLE, Nat.reduceMul, Nat.reduceSub, Int.natCast_nonneg, Int.toNat_natCast]
        refine ⟨weak_by [] (by simp) rfl ?_ ?_ ?_ ?_, by omega⟩
        · simp only [go_sem, Nat.reduceAdd, Nat.reduceEqDiff, Nat.reduceLT, reduceIte, reduceCtorEq, Nat.reduceBEq, Int.reduceLT, Int.reduceToNat, Int.reducePow, Nat.reduceLeDiff, Int.reduceLE, Nat.reduceMul, Nat.reduceSub, slotsBy, boxesBy, tipsBy, rawAt, nm, AV.ren, AV.renL, AV.under, AV.underL, List.all_nil, List.all_cons, bne_self_eq_false, List.getD_cons_zero, List.getD_cons_succ, List.length_nil, List.length_cons, and_true, true_and]
        · trivial
        · trivial
        · simp
      · have hdg : digit f t j = f := by unfold digit; rw [List.getElem?_eq_none (by omega)]
        have hd1 : decide (((j + 1 : Nat) : Int) < ((t.length + 1 : Nat) : Int)) = false := by simp only [decide_eq_false_iff_not]; omega
        have hfin : IntKind.i64.wrap (64 * numI f j (subN 4 c) t + f) = numI f (j + 1) (subN 4 c) t := by rw [hsn, hdg, wrap_i64 _ (by omega) (by omega)]
        simp only [hd1, h64, hfin, hw2, go_sem, Nat.reduceAdd, Nat.reduceEqDiff, Nat.reduceLT, reduceIte, reduceCtorEq, Nat.reduceBEq, Int.reduceLT, Int.reduceToNat, Int.reducePow, Nat.reduceLeDiff, Int.reduceLE, Nat.reduceMul, Nat.reduceSub]
        refine ⟨weak_by [] (by simp) rfl ?_ ?_ ?_ ?_, by omega⟩
        · simp only [go_sem, Nat.reduceAdd, Nat.reduceEqDiff, Nat.reduceLT, reduceIte, reduceCtorEq, Nat.reduceBEq, Int.reduceLT, Int.reduceToNat, Int.reducePow, Nat.reduceLeDiff, Int.reduceLE, Nat.reduceMul, Nat.reduceSub, slotsBy, boxesBy, tipsBy, rawAt, nm, AV.ren, AV.renL, AV.under, AV.underL, List.all_nil, List.all_cons, bne_self_eq_false, List.getD_cons_zero, List.getD_cons_succ, List.length_nil, List.length_cons, and_true, true_and]
        · trivial
        · trivial
        · simp
    · intro _
      have hd : decide (((3 + 1 : Nat) : Int) < 4) = false := rfl
      simp only [hd, go_sem, Nat.reduceAdd, Nat.reduceEqDiff, Nat.reduceLT, reduceIte, reduceCtorEq, Nat.reduceBEq, Int.reduceLT, Int.reduceToNat, Int.reducePow, Nat.reduceLeDiff, Int.reduceLE, Nat.reduceMul, Nat.reduceSub]
      simp only [Done, resAV, resL, resOne, look_nil, look_cons, Nat.reduceEqDiff, if_true, if_false, reduceIte, ite_true, ite_false, Nat.zero_ne_one, Nat.one_ne_zero, reduceCtorEq, true_or, or_true, true_and, Option.some.injEq, AV.lit.injEq, Value.int.injEq, Value.bool.injEq]
end Go.Proofs.Yteekelelcbfekaa

/-! ## Utf13 -/

namespace Go.Proofs.Yteekelelcbfekaa
open Go Go.Ab
def a44 : ACode :=
  (.seq (.reg [⟨(.some 2), (.mv (.k (.bool false))), .none⟩]) (.seq (.seq (.reg [⟨(.some 7), (.mv (.t 0)), .none⟩, ⟨(.some 8), (.len (.t 7)), .none⟩, ⟨(.some 9), (.bin .eql (.t 8) (.k (.int .i64 0))),
  .none⟩]) (.cond (.t 9) (.seq (.reg [⟨(.some 2), (.mv (.k (.bool false))), .none⟩]) .ret) .skip)) (.seq (.reg [⟨(.some 10), (.mv (.t 0)), .none⟩, ⟨(.some 11), (.ia 5 (.t 10) (.k (.int .i64 0))),
  .none⟩, ⟨(.some 12), (.ld .none (.t 11)), .none⟩, ⟨(.some 13), (.call (.f 45) [(.t 12)]), .none⟩, ⟨(.some 3), (.mv (.t 13)), .none⟩]) (.seq (.seq (.reg [⟨(.some 14), (.mv (.t 3)), .none⟩, ⟨(.some 15),
  (.bin .eql (.t 14) (.k (.int .i64 0))), .none⟩, ⟨(.some 16), (.mv (.t 15)), .none⟩, ⟨(.some 17), (.mv (.t 0)), (.some (16, false))⟩, ⟨(.some 18), (.len (.t 17)), (.some (16, false))⟩, ⟨(.some 19),
  (.mv (.t 3)), (.some (16, false))⟩, ⟨(.some 20), (.bin .gtr (.t 18) (.t 19)), (.some (16, false))⟩, ⟨(.some 21), (.pick (.t 16) (.k (.bool true)) (.t 20)), .none⟩, ⟨(.some 22), (.mv (.t 21)), .none⟩,
  ⟨(.some 23), (.mv (.t 0)), (.some (22, false))⟩, ⟨(.some 24), (.call (.f 60) [(.t 23)]), (.some (22, false))⟩, ⟨(.some 25), (.not (.t 24)), (.some (22, false))⟩, ⟨(.some 26), (.pick (.t 22) (.k (.bool
  true)) (.t 25)), .none⟩]) (.cond (.t 26) (.seq (.reg [⟨(.some 2), (.mv (.k (.bool false))), .none⟩]) .ret) .skip)) (.seq (.reg [⟨(.some 27), (.mv (.t 0)), .none⟩, ⟨(.some 28), (.mv (.t 3)), .none⟩,
  ⟨(.some 29), (.call (.f 46) [(.t 27), (.t 28), (.k (.int .i64 0))]), .none⟩, ⟨(.some 30), (.mv (.t 0)), .none⟩, ⟨(.some 31), (.mv (.t 3)), .none⟩, ⟨(.some 32), (.call (.f 46) [(.t 30), (.t 31), (.k
  (.int .i64 63))]), .none⟩, ⟨(.some 4), (.mv (.t 29)), .none⟩, ⟨(.some 5), (.mv (.t 32)), .none⟩]) (.seq (.reg [⟨(.some 6), (.mv (.k (.int .i64 0))), .none⟩]) (.seq (.seq (.reg [⟨(.some 33), (.mv (.t
  3)), .none⟩]) (.block 0 (.seq (.reg [⟨(.some 35), (.bin .eql (.t 33) (.k (.int .i64 2))), .none⟩, ⟨(.some 34), (.mv (.t 35)), .none⟩]) (.cond (.t 34) (.reg [⟨(.some 6), (.mv (.k (.int .i64 128))),
  .none⟩]) (.seq (.reg [⟨(.some 37), (.bin .eql (.t 33) (.k (.int .i64 3))), .none⟩, ⟨(.some 36), (.mv (.t 37)), .none⟩]) (.cond (.t 36) (.reg [⟨(.some 6), (.mv (.k (.int .i64 2048))), .none⟩]) (.seq
  (.reg [⟨(.some 39), (.bin .eql (.t 33) (.k (.int .i64 4))), .none⟩, ⟨(.some 38), (.mv (.t 39)), .none⟩]) (.cond (.t 38) (.reg [⟨(.some 6), (.mv (.k (.int .i64 65536))), .none⟩]) .skip)))))))) (.seq
  (.seq (.reg [⟨(.some 40), (.mv (.t 4)), .none⟩, ⟨(.some 41), (.mv (.t 6)), .none⟩, ⟨(.some 42), (.bin .lss (.t 40) (.t 41)), .none⟩]) (.cond (.t 42) (.reg [⟨(.some 43), (.mv (.t 6)), .none⟩, ⟨(.some
  4), (.mv (.t 43)), .none⟩]) .skip)) (.seq (.seq (.reg [⟨(.some 44), (.mv (.t 5)), .none⟩, ⟨(.some 45), (.bin .gtr (.t 44) (.k (.int .i64 1114111))), .none⟩]) (.cond (.t 45) (.reg [⟨(.some 5), (.mv (.k
  (.int .i64 1114111))), .none⟩]) .skip)) (.seq (.seq (.reg [⟨(.some 46), (.mv (.t 4)), .none⟩, ⟨(.some 47), (.bin .geq (.t 46) (.k (.int .i64 55296))), .none⟩, ⟨(.some 48), (.mv (.t 47)), .none⟩,
  ⟨(.some 49), (.mv (.t 4)), (.some (48, true))⟩, ⟨(.some 50), (.bin .leq (.t 49) (.k (.int .i64 57343))), (.some (48, true))⟩, ⟨(.some 51), (.pick (.t 48) (.t 50) (.k (.bool false))), .none⟩]) (.cond
  (.t 51) (.reg [⟨(.some 4), (.mv (.k (.int .i64 57344))), .none⟩]) .skip)) (.seq (.reg [⟨(.some 52), (.mv (.t 4)), .none⟩, ⟨(.some 53), (.mv (.t 5)), .none⟩, ⟨(.some 54), (.bin .leq (.t 52) (.t 53)),
  .none⟩, ⟨(.some 2), (.mv (.t 54)), .none⟩]) .ret)))))))))))
theorem c44 : Try.f44.body.bind (cCode Try.prog 55) = some a44 := by kernel_rfl
theorem r44 : Try.f44.results.toList = [(.tmp 2)] := by kernel_rfl
theorem n44 : Try.f44.ntmps = 55 := by kernel_rfl
theorem e44 : Enters Try.prog 44 := enters_of Try.func44 (by kernel_rfl) (by kernel_rfl)

def gapI (x : Int) : Int := if 55296 ≤ x ∧ x ≤ 57343 then 57344 else x
def clampLo (f l : Int) : Int := gapI (if l < f then f else l)
def clampHi (t : Int) : Int := if t > 1114111 then 1114111 else t
def fromI (n : Nat) : Int := if n = 2 then 128 else if n = 3 then 2048 else if n = 4 then 65536 else 0
def goesB : List Nat → Bool
  | [] => false
  | c :: t => if longN c = 0 ∨ longN c < t.length + 1 ∨ t.all isTail = false then false else
    decide (clampLo (fromI (longN c)) (numI 0 (longN c - 1) (subN (longN c) c) t) ≤ clampHi (numI 63 (longN c - 1) (subN (longN c) c) t))
theorem longN_le (c : Nat) : longN c ≤ 4 := by unfold longN; (repeat' split) <;> omega

set_option maxRecDepth 10000 in
set_option maxHeartbeats 4000000 in
theorem goes_pure (b : List Nat) (hb : ∀ x ∈ b, x ≤ 255) (hl : b.length ≤ 1099511627776) : Pure Try.prog 44 [.sl 5 (octs b) none] [] (.lit (.bool (goesB b))) := by
  refine pure0 Try.func44 c44 n44 e44 r44 (by simp) rfl ?_
  match b, hb, hl with
  | [], _, _ =>
    have e0 : (((0 : Nat) : Int) == 0) = true := rfl
    have e00 : (octs []).length = 0 := rfl
    simp only [a44, astart, argSlots, go_sem, Nat.reduceAdd, Nat.reduceEqDiff, Nat.reduceLT, reduceIte, reduceCtorEq, Nat.reduceBEq, Int.reduceLT, Int.reduceToNat, Int.reducePow, Nat.reduceLeDiff, Int.reduceLE, Nat.reduceMul, Nat.reduceSub, e00, e0]
    simp only [Done, resAV, resL, resOne, look_nil, look_cons, Nat.reduceEqDiff, if_true, if_false, reduceIte, ite_true, ite_false, Nat.zero_ne_one, Nat.one_ne_zero, reduceCtorEq, true_or, or_true, true_and, Option.some.injEq, AV.lit.injEq, Value.int.injEq, Value.bool.injEq]
    rfl
  | c :: t, hb, hl =>
    have hc := hb c (List.mem_cons_self ..)
    have ht : ∀ y ∈ t, y ≤ 255 := fun y hy => hb y (List.mem_cons_of_mem _ hy)
    have hl2 : t.length ≤ 1099511627776 := by simp only [List.length_cons] at hl; omega
    have hlo : (octs (c :: t)).length = t.length + 1 := by simp [octs]
    have e0 : (((t.length + 1 : Nat) : Int) == 0) = false := by simp only [beq_eq_false_iff_ne, ne_eq]; omega
    have hg0 : (octs (c :: t))[0]? = some [.int .u8 (c : Int)] := rfl
    have hn4 := longN_le c
    simp only [a44, astart, argSlots, go_sem, Nat.reduceAdd, Nat.reduceEqDiff, Nat.reduceLT, reduceIte, reduceCtorEq, Nat.reduceBEq, Int.reduceLT, Int.reduceToNat, Int.reducePow, Nat.reduceLeDiff, Int.reduceLE, Nat.reduceMul, Nat.reduceSub, hlo, e0, hg0]
    refine callGo_pure (long_pure c) (by rfl) ?_
    have hgo : goesB (c :: t) = if longN c = 0 ∨ longN c < t.length + 1 ∨ t.all isTail = false then false else decide (clampLo (fromI (longN c)) (numI 0 (longN c - 1) (subN (longN c) c) t) ≤ clampHi (numI 63 (longN c - 1) (subN (longN c) c) t)) := rfl
    have hnum : ∀ f : Int, 0 ≤ f ∧ f ≤ 63 → 1 ≤ longN c → Pure Try.prog 46 [.sl 5 (octs (c :: t)) none, .lit (.int .i64 (longN c : Nat)), .lit (.int .i64 f)] [] (.lit (.int .i64 (numI f (longN c - 1) (subN (longN c) c) t))) :=
      fun f hf h1 => number_pure c t hc ht hl2 (longN c) ⟨h1, hn4⟩ f hf
    generalize longN c = n at hn4 hgo hnum
    by_cases hn0 : n = 0
    · have e1 : (((n : Nat) : Int) == 0) = true := by rw [hn0]; rfl
      rw [if_pos (.inl hn0)] at hgo
      rw [hgo]
      simp only [e1, go_sem, Nat.reduceAdd, Nat.reduceEqDiff, Nat.reduceLT, reduceIte, reduceCtorEq, Nat.reduceBEq, Int.reduceLT, Int.reduceToNat, Int.reducePow, Nat.reduceLeDiff, Int.reduceLE, Nat.reduceMul, Nat.reduceSub]
      simp only [Done, resAV, resL, resOne, look_nil, look_cons, Nat.reduceEqDiff, if_true, if_false, reduceIte, ite_true, ite_false, Nat.zero_ne_one, Nat.one_ne_zero, reduceCtorEq, true_or, or_true, true_and, Option.some.injEq, AV.lit.injEq, Value.int.injEq, Value.bool.injEq]
    have e1 : (((n : Nat) : Int) == 0) = false := by simp only [beq_eq_false_iff_ne, ne_eq]; omega
    by_cases hlen : n < t.length + 1
    · have e2 : decide (((t.length + 1 : Nat) : Int) > (n : Int)) = true := by simp only [decide_eq_true_eq]; omega
      rw [if_pos (.inr (.inl hlen))] at hgo
      rw [hgo]
      simp only [e1, e2, hlo, go_sem, Nat.reduceAdd, Nat.reduceEqDiff, Nat.reduceLT, reduceIte, reduceCtorEq, Nat.reduceBEq, Int.reduceLT, Int.reduceToNat, Int.reducePow, Nat.reduceLeDiff, Int.reduceLE, Nat.reduceMul, Nat.reduceSub]
      simp only [Done, resAV, resL, resOne, look_nil, look_cons, Nat.reduceEqDiff, if_true, if_false, reduceIte, ite_true, ite_false, Nat.zero_ne_one, Nat.one_ne_zero, reduceCtorEq, true_or, or_true, true_and, Option.some.injEq, AV.lit.injEq, Value.int.injEq, Value.bool.injEq]
    have e2 : decide (((t.length + 1 : Nat) : Int) > (n : Int)) = false := by simp only [decide_eq_false_iff_not]; omega
    simp only [e1, e2, hlo, go_sem, Nat.reduceAdd, Nat.reduceEqDiff, Nat.reduceLT, reduceIte, reduceCtorEq, Nat.reduceBEq, Int.reduceLT, Int.reduceToNat, Int.reducePow, Nat.reduceLeDiff, Int.reduceLE, Nat.reduceMul, Nat.reduceSub]
    refine callGo_pure (tails_pure (c :: t) (by simp only [List.length_cons]; omega)) (by rfl) ?_
    have htd : (c :: t).drop 1 = t := rfl
    rw [htd]
    by_cases hta : t.all isTail = false
    · rw [if_pos (.inr (.inr hta))] at hgo
      rw [hgo]
      simp only [hta, go_sem, Nat.reduceAdd, Nat.reduceEqDiff, Nat.reduceLT, reduceIte, reduceCtorEq, Nat.reduceBEq, Int.reduceLT, Int.reduceToNat, Int.reducePow, Nat.reduceLeDiff, Int.reduceLE, Nat.reduceMul, Nat.reduceSub]
      simp only [Done, resAV, resL, resOne, look_nil, look_cons, Nat.reduceEqDiff, if_true, if_false, reduceIte, ite_true, ite_false, Nat.zero_ne_one, Nat.one_ne_zero, reduceCtorEq, true_or, or_true, true_and, Option.some.injEq, AV.lit.injEq, Value.int.injEq, Value.bool.injEq]
    rw [if_neg (by intro h; rcases h with h | h | h; exact hn0 h; exact hlen h; exact hta h)] at hgo
    rw [Bool.not_eq_false] at hta
    simp only [hta, go_sem, Nat.reduceAdd, Nat.reduceEqDiff, Nat.reduceLT, reduceIte, reduceCtorEq, Nat.reduceBEq, Int.reduceLT, Int.reduceToNat, Int.reducePow, Nat.reduceLeDiff, Int.reduceLE, Nat.reduceMul, Nat.reduceSub]
    refine callGo_pure (hnum 0 (by omega) (by omega)) (by rfl) ?_
    simp only [go_sem, Nat.reduceAdd, Nat.reduceEqDiff, Nat.reduceLT, reduceIte, reduceCtorEq, Nat.reduceBEq, Int.reduceLT, Int.reduceToNat, Int.reducePow, Nat.reduceLeDiff, Int.reduceLE, Nat.reduceMul, Nat.reduceSub]
    refine callGo_pure (hnum 63 (by omega) (by omega)) (by rfl) ?_
    generalize numI 0 (n - 1) (subN n c) t = L at hgo
    generalize numI 63 (n - 1) (subN n c) t = T at hgo
    have hN : n = 1 ∨ n = 2 ∨ n = 3 ∨ n = 4 := by omega
    clear hnum
    rcases hN with rfl | rfl | rfl | rfl
    · have e3 : (((1 : Nat) : Int)) = 1 := rfl
      have hfr : fromI 1 = 0 := rfl
      rw [hfr] at hgo
      simp only [e3, go_sem, Nat.reduceAdd, Nat.reduceEqDiff, Nat.reduceLT, reduceIte, reduceCtorEq, Nat.reduceBEq, Int.reduceLT, Int.reduceToNat, Int.reducePow, Nat.reduceLeDiff, Int.reduceLE, Nat.reduceMul, Nat.reduceSub, Int.reduceBEq]
      refine cGo_split (fun hA => ?_) (fun hA => ?_) <;> (try simp only [decide_eq_true_eq, decide_eq_false_iff_not] at hA)
      · simp only [go_sem, Nat.reduceAdd, Nat.reduceEqDiff, Nat.reduceLT, reduceIte, reduceCtorEq, Nat.reduceBEq, Int.reduceLT, Int.reduceToNat, Int.reducePow, Nat.reduceLeDiff, Int.reduceLE, Nat.reduceMul, Nat.reduceSub]
        refine cGo_split (fun hB => ?_) (fun hB => ?_) <;> (try simp only [decide_eq_true_eq, decide_eq_false_iff_not] at hB)
        · simp only [go_sem, Nat.reduceAdd, Nat.reduceEqDiff, Nat.reduceLT, reduceIte, reduceCtorEq, Nat.reduceBEq, Int.reduceLT, Int.reduceToNat, Int.reducePow, Nat.reduceLeDiff, Int.reduceLE, Nat.reduceMul, Nat.reduceSub, Int.reduceLE, Int.reduceGE, ge_iff_le]
          have k1 : clampLo 0 L = 0 := by unfold clampLo gapI; (repeat' split) <;> omega
          have k2 : clampHi T = 1114111 := by unfold clampHi; split <;> omega
          rw [hgo, k1, k2]
          simp only [Done, resAV, resL, resOne, look_nil, look_cons, Nat.reduceEqDiff, if_true, if_false, reduceIte, ite_true, ite_false, Nat.zero_ne_one, Nat.one_ne_zero, reduceCtorEq, true_or, or_true, true_and, Option.some.injEq, AV.lit.injEq, Value.int.injEq, Value.bool.injEq]
          all_goals rfl
        · simp only [go_sem, Nat.reduceAdd, Nat.reduceEqDiff, Nat.reduceLT, reduceIte, reduceCtorEq, Nat.reduceBEq, Int.reduceLT, Int.reduceToNat, Int.reducePow, Nat.reduceLeDiff, Int.reduceLE, Nat.reduceMul, Nat.reduceSub, Int.reduceLE, Int.reduceGE, ge_iff_le]
          have k1 : clampLo 0 L = 0 := by unfold clampLo gapI; (repeat' split) <;> omega
          have k2 : clampHi T = T := by unfold clampHi; split <;> omega
          rw [hgo, k1, k2]
          simp only [Done, resAV, resL, resOne, look_nil, look_cons, Nat.reduceEqDiff, if_true, if_false, reduceIte, ite_true, ite_false, Nat.zero_ne_one, Nat.one_ne_zero, reduceCtorEq, true_or, or_true, true_and, Option.some.injEq, AV.lit.injEq, Value.int.injEq, Value.bool.injEq]
          all_goals rfl
      · simp only [go_sem, Nat.reduceAdd, Nat.reduceEqDiff, Nat.reduceLT, reduceIte, reduceCtorEq, Nat.reduceBEq, Int.reduceLT, Int.reduceToNat, Int.reducePow, Nat.reduceLeDiff, Int.reduceLE, Nat.reduceMul, Nat.reduceSub]
        refine cGo_split (fun hB => ?_) (fun hB => ?_) <;> (try simp only [decide_eq_true_eq, decide_eq_false_iff_not] at hB)
        · simp only [go_sem, Nat.reduceAdd, Nat.reduceEqDiff, Nat.reduceLT, reduceIte, reduceCtorEq, Nat.reduceBEq, Int.reduceLT, Int.reduceToNat, Int.reducePow, Nat.reduceLeDiff, Int.reduceLE, Nat.reduceMul, Nat.reduceSub]
          refine gGo_splitT (fun hC => ?_) (fun hC => ?_) <;> simp only [hC, go_sem, Nat.reduceAdd, Nat.reduceEqDiff, Nat.reduceLT, reduceIte, reduceCtorEq, Nat.reduceBEq, Int.reduceLT, Int.reduceToNat, Int.reducePow, Nat.reduceLeDiff, Int.reduceLE, Nat.reduceMul, Nat.reduceSub] <;> (try simp only [decide_eq_true_eq, decide_eq_false_iff_not] at hC)
          · refine cGo_split (fun hD => ?_) (fun hD => ?_) <;> (try simp only [decide_eq_true_eq, decide_eq_false_iff_not] at hD)
            · simp only [go_sem, Nat.reduceAdd, Nat.reduceEqDiff, Nat.reduceLT, reduceIte, reduceCtorEq, Nat.reduceBEq, Int.reduceLT, Int.reduceToNat, Int.reducePow, Nat.reduceLeDiff, Int.reduceLE, Nat.reduceMul, Nat.reduceSub]
              have k1 : clampLo 0 L = 57344 := by unfold clampLo gapI; (repeat' split) <;> omega
              have k2 : clampHi T = 1114111 := by unfold clampHi; split <;> omega
              rw [hgo, k1, k2]
              simp only [Done, resAV, resL, resOne, look_nil, look_cons, Nat.reduceEqDiff, if_true, if_false, reduceIte, ite_true, ite_false, Nat.zero_ne_one, Nat.one_ne_zero, reduceCtorEq, true_or, or_true, true_and, Option.some.injEq, AV.lit.injEq, Value.int.injEq, Value.bool.injEq]
              all_goals rfl
            · simp only [go_sem, Nat.reduceAdd, Nat.reduceEqDiff, Nat.reduceLT, reduceIte, reduceCtorEq, Nat.reduceBEq, Int.reduceLT, Int.reduceToNat, Int.reducePow, Nat.reduceLeDiff, Int.reduceLE, Nat.reduceMul, Nat.reduceSub]
              have k1 : clampLo 0 L = L := by unfold clampLo gapI; (repeat' split) <;> omega
              have k2 : clampHi T = 1114111 := by unfold clampHi; split <;> omega
              rw [hgo, k1, k2]
              simp only [Done, resAV, resL, resOne, look_nil, look_cons, Nat.reduceEqDiff, if_true, if_false, reduceIte, ite_true, ite_false, Nat.zero_ne_one, Nat.one_ne_zero, reduceCtorEq, true_or, or_true, true_and, Option.some.injEq, AV.lit.injEq, Value.int.injEq, Value.bool.injEq]
              all_goals rfl
          · have k1 : clampLo 0 L = L := by unfold clampLo gapI; (repeat' split) <;> omega
            have k2 : clampHi T = 1114111 := by unfold clampHi; split <;> omega
            rw [hgo, k1, k2]
            simp only [Done, resAV, resL, resOne, look_nil, look_cons, Nat.reduceEqDiff, if_true, if_false, reduceIte, ite_true, ite_false, Nat.zero_ne_one, Nat.one_ne_zero, reduceCtorEq, true_or, or_true, true_and, Option.some.injEq, AV.lit.injEq, Value.int.injEq, Value.bool.injEq]
            all_goals rfl
        · simp only [go_sem, Nat.reduceAdd, Nat.reduceEqDiff, Nat.reduceLT, reduceIte, reduceCtorEq, Nat.reduceBEq, Int.reduceLT, Int.reduceToNat, Int.reducePow, Nat.reduceLeDiff, Int.reduceLE, Nat.reduceMul, Nat.reduceSub]
          refine gGo_splitT (fun hC => ?_) (fun hC => ?_) <;> simp only [hC, go_sem, Nat.reduceAdd, Nat.reduceEqDiff, Nat.reduceLT, reduceIte, reduceCtorEq, Nat.reduceBEq, Int.reduceLT, Int.reduceToNat, Int.reducePow, Nat.reduceLeDiff, Int.reduceLE, Nat.reduceMul, Nat.reduceSub] <;> (try simp only [decide_eq_true_eq, decide_eq_false_iff_not] at hC)
          · refine cGo_split (fun hD => ?_) (fun hD => ?_) <;> (try simp only [decide_eq_true_eq, decide_eq_false_iff_not] at hD)
            · simp only [go_sem, Nat.reduceAdd, Nat.reduceEqDiff, Nat.reduceLT, reduceIte, reduceCtorEq, Nat.reduceBEq, Int.reduceLT, Int.reduceToNat, Int.reducePow, Nat.reduceLeDiff, Int.reduceLE, Nat.reduceMul, Nat.reduceSub]
              have k1 : clampLo 0 L = 57344 := by unfold clampLo gapI; (repeat' split) <;> omega
              have k2 : clampHi T = T := by unfold clampHi; split <;> omega
              rw [hgo, k1, k2]
              simp only [Done, resAV, resL, resOne, look_nil, look_cons, Nat.reduceEqDiff, if_true, if_false, reduceIte, ite_true, ite_false, Nat.zero_ne_one, Nat.one_ne_zero, reduceCtorEq, true_or, or_true, true_and, Option.some.injEq, AV.lit.injEq, Value.int.injEq, Value.bool.injEq]
              all_goals rfl
            · simp only [go_sem, Nat.reduceAdd, Nat.reduceEqDiff, Nat.reduceLT, reduceIte, reduceCtorEq, Nat.reduceBEq, Int.reduceLT, Int.reduceToNat, Int.reducePow, Nat.reduceLeDiff, Int.reduceLE, Nat.reduceMul, Nat.reduceSub]
              have k1 : clampLo 0 L = L := by unfold clampLo gapI; (repeat' split) <;> omega
              have k2 : clampHi T = T := by unfold clampHi; split <;> omega
              rw [hgo, k1, k2]
              simp only [Done, resAV, resL, resOne, look_nil, look_cons, Nat.reduceEqDiff, if_true, if_false, reduceIte, ite_true, ite_false, Nat.zero_ne_one, Nat.one_ne_zero, reduceCtorEq, true_or, or_true, true_and, Option.some.injEq, AV.lit.injEq, Value.int.injEq, Value.bool.injEq]
              all_goals rfl
          · have k1 : clampLo 0 L = L := by unfold clampLo gapI; (repeat' split) <;> omega
            have k2 : clampHi T = T := by unfold clampHi; split <;> omega
            rw [hgo, k1, k2]
            simp only [Done, resAV, resL, resOne, look_nil, look_cons, Nat.reduceEqDiff, if_true, if_false, reduceIte, ite_true, ite_false, Nat.zero_ne_one, Nat.one_ne_zero, reduceCtorEq, true_or, or_true, true_and, Option.some.injEq, AV.lit.injEq, Value.int.injEq, Value.bool.injEq]
            all_goals rfl
    · have e3 : (((2 : Nat) : Int)) = 2 := rfl
      have hfr : fromI 2 = 128 := rfl
      rw [hfr] at hgo
      simp only [e3, go_sem, Nat.reduceAdd, Nat.reduceEqDiff, Nat.reduceLT, reduceIte, reduceCtorEq, Nat.reduceBEq, Int.reduceLT, Int.reduceToNat, Int.reducePow, Nat.reduceLeDiff, Int.reduceLE, Nat.reduceMul, Nat.reduceSub, Int.reduceBEq]
      refine cGo_split (fun hA => ?_) (fun hA => ?_) <;> (try simp only [decide_eq_true_eq, decide_eq_false_iff_not] at hA)
      · simp only [go_sem, Nat.reduceAdd, Nat.reduceEqDiff, Nat.reduceLT, reduceIte, reduceCtorEq, Nat.reduceBEq, Int.reduceLT, Int.reduceToNat, Int.reducePow, Nat.reduceLeDiff, Int.reduceLE, Nat.reduceMul, Nat.reduceSub]
        refine cGo_split (fun hB => ?_) (fun hB => ?_) <;> (try simp only [decide_eq_true_eq, decide_eq_false_iff_not] at hB)
        · simp only [go_sem, Nat.reduceAdd, Nat.reduceEqDiff, Nat.reduceLT, reduceIte, reduceCtorEq, Nat.reduceBEq, Int.reduceLT, Int.reduceToNat, Int.reducePow, Nat.reduceLeDiff, Int.reduceLE, Nat.reduceMul, Nat.reduceSub, Int.reduceLE, Int.reduceGE, ge_iff_le]
          have k1 : clampLo 128 L = 128 := by unfold clampLo gapI; (repeat' split) <;> omega
          have k2 : clampHi T = 1114111 := by unfold clampHi; split <;> omega
          rw [hgo, k1, k2]
          simp only [Done, resAV, resL, resOne, look_nil, look_cons, Nat.reduceEqDiff, if_true, if_false, reduceIte, ite_true, ite_false, Nat.zero_ne_one, Nat.one_ne_zero, reduceCtorEq, true_or, or_true, true_and, Option.some.injEq, AV.lit.injEq, Value.int.injEq, Value.bool.injEq]
          all_goals rfl
        · simp only [go_sem, Nat.reduceAdd, Nat.reduceEqDiff, Nat.reduceLT, reduceIte, reduceCtorEq, Nat.reduceBEq, Int.reduceLT, Int.reduceToNat, Int.reducePow, Nat.reduceLeDiff, Int.reduceLE, Nat.reduceMul, Nat.reduceSub, Int.reduceLE, Int.reduceGE, ge_iff_le]
          have k1 : clampLo 128 L = 128 := by unfold clampLo gapI; (repeat' split) <;> omega
          have k2 : clampHi T = T := by unfold clampHi; split <;> omega
          rw [hgo, k1, k2]
          simp only [Done, resAV, resL, resOne, look_nil, look_cons, Nat.reduceEqDiff, if_true, if_false, reduceIte, ite_true, ite_false, Nat.zero_ne_one, Nat.one_ne_zero, reduceCtorEq, true_or, or_true, true_and, Option.some.injEq, AV.lit.injEq, Value.int.injEq, Value.bool.injEq]
          all_goals rfl
      · simp only [go_sem, Nat.reduceAdd, Nat.reduceEqDiff, Nat.reduceLT, reduceIte, reduceCtorEq, Nat.reduceBEq, Int.reduceLT, Int.reduceToNat, Int.reducePow, Nat.reduceLeDiff, Int.reduceLE, Nat.reduceMul, Nat.reduceSub]
        refine cGo_split (fun hB => ?_) (fun hB => ?_) <;> (try simp only [decide_eq_true_eq, decide_eq_false_iff_not] at hB)
        · simp only [go_sem, Nat.reduceAdd, Nat.reduceEqDiff, Nat.reduceLT, reduceIte, reduceCtorEq, Nat.reduceBEq, Int.reduceLT, Int.reduceToNat, Int.reducePow, Nat.reduceLeDiff, Int.reduceLE, Nat.reduceMul, Nat.reduceSub]
          refine gGo_splitT (fun hC => ?_) (fun hC => ?_) <;> simp only [hC, go_sem, Nat.reduceAdd, Nat.reduceEqDiff, Nat.reduceLT, reduceIte, reduceCtorEq, Nat.reduceBEq, Int.reduceLT, Int.reduceToNat, Int.reducePow, Nat.reduceLeDiff, Int.reduceLE, Nat.reduceMul, Nat.reduceSub] <;> (try simp only [decide_eq_true_eq, decide_eq_false_iff_not] at hC)
          · refine cGo_split (fun hD => ?_) (fun hD => ?_) <;> (try simp only [decide_eq_true_eq, decide_eq_false_iff_not] at hD)
            · simp only [go_sem, Nat.reduceAdd, Nat.reduceEqDiff, Nat.reduceLT, reduceIte, reduceCtorEq, Nat.reduceBEq, Int.reduceLT, Int.reduceToNat, Int.reducePow, Nat.reduceLeDiff, Int.reduceLE, Nat.reduceMul, Nat.reduceSub]
              have k1 : clampLo 128 L = 57344 := by unfold clampLo gapI; (repeat' split) <;> omega
              have k2 : clampHi T = 1114111 := by unfold clampHi; split <;> omega
              rw [hgo, k1, k2]
              simp only [Done, resAV, resL, resOne, look_nil, look_cons, Nat.reduceEqDiff, if_true, if_false, reduceIte, ite_true, ite_false, Nat.zero_ne_one, Nat.one_ne_zero, reduceCtorEq, true_or, or_true, true_and, Option.some.injEq, AV.lit.injEq, Value.int.injEq, Value.bool.injEq]
              all_goals rfl
            · simp only [go_sem, Nat.reduceAdd, Nat.reduceEqDiff, Nat.reduceLT, reduceIte, reduceCtorEq, Nat.reduceBEq, Int.reduceLT, Int.reduceToNat, Int.reducePow, Nat.reduceLeDiff, Int.reduceLE, Nat.reduceMul, Nat.reduceSub]
              have k1 : clampLo 128 L = L := by unfold clampLo gapI; (repeat' split) <;> omega
              have k2 : clampHi T = 1114111 := by unfold clampHi; split <;> omega
              rw [hgo, k1, k2]
              simp only [Done, resAV, resL, resOne, look_nil, look_cons, Nat.reduceEqDiff, if_true, if_false, reduceIte, ite_true, ite_false, Nat.zero_ne_one, Nat.one_ne_zero, reduceCtorEq, true_or, or_true, true_and, Option.some.injEq, AV.lit.injEq, Value.int.injEq, Value.bool.injEq]
              all_goals rfl
          · have k1 : clampLo 128 L = L := by unfold clampLo gapI; (repeat' split) <;> omega
            have k2 : clampHi T = 1114111 := by unfold clampHi; split <;> omega
            rw [hgo, k1, k2]
            simp only [Done, resAV, resL, resOne, look_nil, look_cons, Nat.reduceEqDiff, if_true, if_false, reduceIte, ite_true, ite_false, Nat.zero_ne_one, Nat.one_ne_zero, reduceCtorEq, true_or, or_true, true_and, Option.some.injEq, AV.lit.injEq, Value.int.injEq, Value.bool.injEq]
            all_goals rfl
        · simp only [go_sem, Nat.reduceAdd, Nat.reduceEqDiff, Nat.reduceLT, reduceIte, reduceCtorEq, Nat.reduceBEq, Int.reduceLT, Int.reduceToNat, Int.reducePow, Nat.reduceLeDiff, Int.reduceLE, Nat.reduceMul, Nat.reduceSub]
          refine gGo_splitT (fun hC => ?_) (fun hC => ?_) <;> simp only [hC, go_sem, Nat.reduceAdd, Nat.reduceEqDiff, Nat.reduceLT, reduceIte, reduceCtorEq, Nat.reduceBEq, Int.reduceLT, Int.reduceToNat, Int.reducePow, Nat.reduceLeDiff, Int.reduceLE, Nat.reduceMul, Nat.reduceSub] <;> (try simp only [decide_eq_true_eq, decide_eq_false_iff_not] at hC)
          · refine cGo_split (fun hD => ?_) (fun hD => ?_) <;> (try simp only [decide_eq_true_eq, decide_eq_false_iff_not] at hD)
            · simp only [go_sem, Nat.reduceAdd, Nat.reduceEqDiff, Nat.reduceLT, reduceIte, reduceCtorEq, Nat.reduceBEq, Int.reduceLT, Int.reduceToNat, Int.reducePow, Nat.reduceLeDiff, Int.reduceLE, Nat.reduceMul, Nat.reduceSub]
              have k1 : clampLo 128 L = 57344 := by unfold clampLo gapI; (repeat' split) <;> omega
              have k2 : clampHi T = T := by unfold clampHi; split <;> omega
              rw [hgo, k1, k2]
              simp only [Done, resAV, resL, resOne, look_nil, look_cons, Nat.reduceEqDiff, if_true, if_false, reduceIte, ite_true, ite_false, Nat.zero_ne_one, Nat.one_ne_zero, reduceCtorEq, true_or, or_true, true_and, Option.some.injEq, AV.lit.injEq, Value.int.injEq, Value.bool.injEq]
              all_goals rfl
            · simp only [go_sem, Nat.reduceAdd, Nat.reduceEqDiff, Nat.reduceLT, reduceIte, reduceCtorEq, Nat.reduceBEq, Int.reduceLT, Int.reduceToNat, Int.reducePow, Nat.reduceLeDiff, Int.reduceLE, Nat.reduceMul, Nat.reduceSub]
              have k1 : clampLo 128 L = L := by unfold clampLo gapI; (repeat' split) <;> omega
              have k2 : clampHi T = T := by unfold clampHi; split <;> omega
              rw [hgo, k1, k2]
              simp only [Done, resAV, resL, resOne, look_nil, look_cons, Nat.reduceEqDiff, if_true, if_false, reduceIte, ite_true, ite_false, Nat.zero_ne_one, Nat.one_ne_zero, reduceCtorEq, true_or, or_true, true_and, Option.some.injEq, AV.lit.injEq, Value.int.injEq, Value.bool.injEq]
              all_goals rfl
          · have k1 : clampLo 128 L = L := by unfold clampLo gapI; (repeat' split) <;> omega
            have k2 : clampHi T = T := by unfold clampHi; split <;> omega
            rw [hgo, k1, k2]
            simp only [Done, resAV, resL, resOne, look_nil, look_cons, Nat.reduceEqDiff, if_true, if_false, reduceIte, ite_true, ite_false, Nat.zero_ne_one, Nat.one_ne_zero, reduceCtorEq, true_or, or_true, true_and, Option.some.injEq, AV.lit.injEq, Value.int.injEq, Value.bool.injEq]
            all_goals rfl
    · have e3 : (((3 : Nat) : Int)) = 3 := rfl
      have hfr : fromI 3 = 2048 := rfl
      rw [hfr] at hgo
      simp only [e3, go_sem, Nat.reduceAdd, Nat.reduceEqDiff, Nat.reduceLT, reduceIte, reduceCtorEq, Nat.reduceBEq, Int.reduceLT, Int.reduceToNat, Int.reducePow, Nat.reduceLeDiff, Int.reduceLE, Nat.reduceMul, Nat.reduceSub, Int.reduceBEq]
      refine cGo_split (fun hA => ?_) (fun hA => ?_) <;> (try simp only [decide_eq_true_eq, decide_eq_false_iff_not] at hA)
      · simp only [go_sem, Nat.reduceAdd, Nat.reduceEqDiff, Nat.reduceLT, reduceIte, reduceCtorEq, Nat.reduceBEq, Int.reduceLT, Int.reduceToNat, Int.reducePow, Nat.reduceLeDiff, Int.reduceLE, Nat.reduceMul, Nat.reduceSub]
        refine cGo_split (fun hB => ?_) (fun hB => ?_) <;> (try simp only [decide_eq_true_eq, decide_eq_false_iff_not] at hB)
        · simp only [go_sem, Nat.reduceAdd, Nat.reduceEqDiff, Nat.reduceLT, reduceIte, reduceCtorEq, Nat.reduceBEq, Int.reduceLT, Int.reduceToNat, Int.reducePow, Nat.reduceLeDiff, Int.reduceLE, Nat.reduceMul, Nat.reduceSub, Int.reduceLE, Int.reduceGE, ge_iff_le]
          have k1 : clampLo 2048 L = 2048 := by unfold clampLo gapI; (repeat' split) <;> omega
          have k2 : clampHi T = 1114111 := by unfold clampHi; split <;> omega
          rw [hgo, k1, k2]
          simp only [Done, resAV, resL, resOne, look_nil, look_cons, Nat.reduceEqDiff, if_true, if_false, reduceIte, ite_true, ite_false, Nat.zero_ne_one, Nat.one_ne_zero, reduceCtorEq, true_or, or_true, true_and, Option.some.injEq, AV.lit.injEq, Value.int.injEq, Value.bool.injEq]
          all_goals rfl
        · simp only [go_sem, Nat.reduceAdd, Nat.reduceEqDiff, Nat.reduceLT, reduceIte, reduceCtorEq, Nat.reduceBEq, Int.reduceLT, Int.reduceToNat, Int.reducePow, Nat.reduceLeDiff, Int.reduceLE, Nat.reduceMul, Nat.reduceSub, Int.reduceLE, Int.reduceGE, ge_iff_le]
          have k1 : clampLo 2048 L = 2048 := by unfold clampLo gapI; (repeat' split) <;> omega
          have k2 : clampHi T = T := by unfold clampHi; split <;> omega
          rw [hgo, k1, k2]
          simp only [Done, resAV, resL, resOne, look_nil, look_cons, Nat.reduceEqDiff, if_true, if_false, reduceIte, ite_true, ite_false, Nat.zero_ne_one, Nat.one_ne_zero, reduceCtorEq, true_or, or_true, true_and, Option.some.injEq, AV.lit.injEq, Value.int.injEq, Value.bool.injEq]
          all_goals rfl
      · simp only [go_sem, Nat.reduceAdd, Nat.reduceEqDiff, Nat.reduceLT, reduceIte, reduceCtorEq, Nat.reduceBEq, Int.reduceLT, Int.reduceToNat, Int.reducePow, Nat.reduceLeDiff, Int.reduceLE, Nat.reduceMul, Nat.reduceSub]
        refine cGo_split (fun hB => ?_) (fun hB => ?_) <;> (try simp only [decide_eq_true_eq, decide_eq_false_iff_not] at hB)
        · simp only [go_sem, Nat.reduceAdd, Nat.reduceEqDiff, Nat.reduceLT, reduceIte, reduceCtorEq, Nat.reduceBEq, Int.reduceLT, Int.reduceToNat, Int.reducePow, Nat.reduceLeDiff, Int.reduceLE, Nat.reduceMul, Nat.reduceSub]
          refine gGo_splitT (fun hC => ?_) (fun hC => ?_) <;> simp only [hC, go_sem, Nat.reduceAdd, Nat.reduceEqDiff, Nat.reduceLT, reduceIte, reduceCtorEq, Nat.reduceBEq, Int.reduceLT, Int.reduceToNat, Int.reducePow, Nat.reduceLeDiff, Int.reduceLE, Nat.reduceMul, Nat.reduceSub] <;> (try simp only [decide_eq_true_eq, decide_eq_false_iff_not] at hC)
          · refine cGo_split (fun hD => ?_) (fun hD => ?_) <;> (try simp only [decide_eq_true_eq, decide_eq_false_iff_not] at hD)
            · simp only [go_sem, Nat.reduceAdd, Nat.reduceEqDiff, Nat.reduceLT, reduceIte, reduceCtorEq, Nat.reduceBEq, Int.reduceLT, Int.reduceToNat, Int.reducePow, Nat.reduceLeDiff, Int.reduceLE, Nat.reduceMul, Nat.reduceSub]
              have k1 : clampLo 2048 L = 57344 := by unfold clampLo gapI; (repeat' split) <;> omega
              have k2 : clampHi T = 1114111 := by unfold clampHi; split <;> omega
              rw [hgo, k1, k2]
              simp only [Done, resAV, resL, resOne, look_nil, look_cons, Nat.reduceEqDiff, if_true, if_false, reduceIte, ite_true, ite_false, Nat.zero_ne_one, Nat.one_ne_zero, reduceCtorEq, true_or, or_true, true_and, Option.some.injEq, AV.lit.injEq, Value.int.injEq, Value.bool.injEq]
              all_goals rfl
            · simp only [go_sem, Nat.reduceAdd, Nat.reduceEqDiff, Nat.reduceLT, reduceIte, reduceCtorEq, Nat.reduceBEq, Int.reduceLT, Int.reduceToNat, Int.reducePow, Nat.reduceLeDiff, Int.reduceLE, Nat.reduceMul, Nat.reduceSub]
              have k1 : clampLo 2048 L = L := by unfold clampLo gapI; (repeat' split) <;> omega
              have k2 : clampHi T = 1114111 := by unfold clampHi; split <;> omega
              rw [hgo, k1, k2]
              simp only [Done, resAV, resL, resOne, look_nil, look_cons, Nat.reduceEqDiff, if_true, if_false, reduceIte, ite_true, ite_false, Nat.zero_ne_one, Nat.one_ne_zero, reduceCtorEq, true_or, or_true, true_and, Option.some.injEq, AV.lit.injEq, Value.int.injEq, Value.bool.injEq]
              all_goals rfl
          · have k1 : clampLo 2048 L = L := by unfold clampLo gapI; (repeat' split) <;> omega
            have k2 : clampHi T = 1114111 := by unfold clampHi; split <;> omega
            rw [hgo, k1, k2]
            simp only [Done, resAV, resL, resOne, look_nil, look_cons, Nat.reduceEqDiff, if_true, if_false, reduceIte, ite_true, ite_false, Nat.zero_ne_one, Nat.one_ne_zero, reduceCtorEq, true_or, or_true, true_and, Option.some.injEq, AV.lit.injEq, Value.int.injEq, Value.bool.injEq]
            all_goals rfl
        · simp only [go_sem, Nat.reduceAdd, Nat.reduceEqDiff, Nat.reduceLT, reduceIte, reduceCtorEq, Nat.reduceBEq, Int.reduceLT, Int.reduceToNat, Int.reducePow, Nat.reduceLeDiff, Int.reduceLE, Nat.reduceMul, Nat.reduceSub]
          refine gGo_splitT (fun hC => ?_) (fun hC => ?_) <;> simp only [hC, go_sem, Nat.reduceAdd, Nat.reduceEqDiff, Nat.reduceLT, reduceIte, reduceCtorEq, Nat.reduceBEq, Int.reduceLT, Int.reduceToNat, Int.reducePow, Nat.reduceLeDiff, Int.reduceLE, Nat.reduceMul, Nat.reduceSub] <;> (try simp only [decide_eq_true_eq, decide_eq_false_iff_not] at hC)
          · refine cGo_split (fun hD => ?_) (fun hD => ?_) <;> (try simp only [decide_eq_true_eq, decide_eq_false_iff_not] at hD)
            · simp only [go_sem, Nat.reduceAdd, Nat.reduceEqDiff, Nat.reduceLT, reduceIte, reduceCtorEq, Nat.reduceBEq, Int.reduceLT, Int.reduceToNat, Int.reducePow, Nat.reduceLeDiff, Int.reduceLE, Nat.reduceMul, Nat.reduceSub]
              have k1 : clampLo 2048 L = 57344 := by unfold clampLo gapI; (repeat' split) <;> omega
              have k2 : clampHi T = T := by unfold clampHi; split <;> omega
              rw [hgo, k1, k2]
              simp only [Done, resAV, resL, resOne, look_nil, look_cons, Nat.reduceEqDiff, if_true, if_false, reduceIte, ite_true, ite_false, Nat.zero_ne_one, Nat.one_ne_zero, reduceCtorEq, true_or, or_true, true_and, Option.some.injEq, AV.lit.injEq, Value.int.injEq, Value.bool.injEq]
              all_goals rfl
            · simp only [go_sem, Nat.reduceAdd, Nat.reduceEqDiff, Nat.reduceLT, reduceIte, reduceCtorEq, Nat.reduceBEq, Int.reduceLT, Int.reduceToNat, Int.reducePow, Nat.reduceLeDiff, Int.reduceLE, Nat.reduceMul, Nat.reduceSub]
              have k1 : clampLo 2048 L = L := by unfold clampLo gapI; (repeat' split) <;> omega
              have k2 : clampHi T = T := by unfold clampHi; split <;> omega
              rw [hgo, k1, k2]
              simp only [Done, resAV, resL, resOne, look_nil, look_cons, Nat.reduceEqDiff, if_true, if_false, reduceIte, ite_true, ite_false, Nat.zero_ne_one, Nat.one_ne_zero, reduceCtorEq, true_or, or_true, true_and, Option.some.injEq, AV.lit.injEq, Value.int.injEq, Value.bool.injEq]
              all_goals rfl
          · have k1 : clampLo 2048 L = L := by unfold clampLo gapI; (repeat' split) <;> omega
            have k2 : clampHi T = T := by unfold clampHi; split <;> omega
            rw [hgo, k1, k2]
            simp only [Done, resAV, resL, resOne, look_nil, look_cons, Nat.reduceEqDiff, if_true, if_false, reduceIte, ite_true, ite_false, Nat.zero_ne_one, Nat.one_ne_zero, reduceCtorEq, true_or, or_true, true_and, Option.some.injEq, AV.lit.injEq, Value.int.injEq, Value.bool.injEq]
            all_goals rfl
    · have e3 : (((4 : Nat) : Int)) = 4 := rfl
      have hfr : fromI 4 = 65536 := rfl
      rw [hfr] at hgo
      simp only [e3, go_sem, Nat.reduceAdd, Nat.reduceEqDiff, Nat.reduceLT, reduceIte, reduceCtorEq, Nat.reduceBEq, Int.reduceLT, Int.reduceToNat, Int.reducePow, Nat.reduceLeDiff, Int.reduceLE, Nat.reduceMul, Nat.reduceSub, Int.reduceBEq]
      refine cGo_split (fun hA => ?_) (fun hA => ?_) <;> (try simp only [decide_eq_true_eq, decide_eq_false_iff_not] at hA)
      · simp only [go_sem, Nat.reduceAdd, Nat.reduceEqDiff, Nat.reduceLT, reduceIte, reduceCtorEq, Nat.reduceBEq, Int.reduceLT, Int.reduceToNat, Int.reducePow, Nat.reduceLeDiff, Int.reduceLE, Nat.reduceMul, Nat.reduceSub]
        refine cGo_split (fun hB => ?_) (fun hB => ?_) <;> (try simp only [decide_eq_true_eq, decide_eq_false_iff_not] at hB)
        · simp only [go_sem, Nat.reduceAdd, Nat.reduceEqDiff, Nat.reduceLT, reduceIte, reduceCtorEq, Nat.reduceBEq, Int.reduceLT, Int.reduceToNat, Int.reducePow, Nat.reduceLeDiff, Int.reduceLE, Nat.reduceMul, Nat.reduceSub, Int.reduceLE, Int.reduceGE, ge_iff_le]
          have k1 : clampLo 65536 L = 65536 := by unfold clampLo gapI; (repeat' split) <;> omega
          have k2 : clampHi T = 1114111 := by unfold clampHi; split <;> omega
          rw [hgo, k1, k2]
          simp only [Done, resAV, resL, resOne, look_nil, look_cons, Nat.reduceEqDiff, if_true, if_false, reduceIte, ite_true, ite_false, Nat.zero_ne_one, Nat.one_ne_zero, reduceCtorEq, true_or, or_true, true_and, Option.some.injEq, AV.lit.injEq, Value.int.injEq, Value.bool.injEq]
          all_goals rfl
        · simp only [go_sem, Nat.reduceAdd, Nat.reduceEqDiff, Nat.reduceLT, reduceIte, reduceCtorEq, Nat.reduceBEq, Int.reduceLT, Int.reduceToNat, Int.reducePow, Nat.reduceLeDiff, Int.reduceLE, Nat.reduceMul, Nat.reduceSub, Int.reduceLE, Int.reduceGE, ge_iff_le]
          have k1 : clampLo 65536 L = 65536 := by unfold clampLo gapI; (repeat' split) <;> omega
          have k2 : clampHi T = T := by unfold clampHi; split <;> omega
          rw [hgo, k1, k2]
          simp only [Done, resAV, resL, resOne, look_nil, look_cons, Nat.reduceEqDiff, if_true, if_false, reduceIte, ite_true, ite_false, Nat.zero_ne_one, Nat.one_ne_zero, reduceCtorEq, true_or, or_true, true_and, Option.some.injEq, AV.lit.injEq, Value.int.injEq, Value.bool.injEq]
          all_goals rfl
      · simp only [go_sem, Nat.reduceAdd, Nat.reduceEqDiff, Nat.reduceLT, reduceIte, reduceCtorEq, Nat.reduceBEq, Int.reduceLT, Int.reduceToNat, Int.reducePow, Nat.reduceLeDiff, Int.reduceLE, Nat.reduceMul, Nat.reduceSub]
        refine cGo_split (fun hB => ?_) (fun hB => ?_) <;> (try simp only [decide_eq_true_eq, decide_eq_false_iff_not] at hB)
        · simp only [go_sem, Nat.reduceAdd, Nat.reduceEqDiff, Nat.reduceLT, reduceIte, reduceCtorEq, Nat.reduceBEq, Int.reduceLT, Int.reduceToNat, Int.reducePow, Nat.reduceLeDiff, Int.reduceLE, Nat.reduceMul, Nat.reduceSub]
          refine gGo_splitT (fun hC => ?_) (fun hC => ?_) <;> simp only [hC, go_sem, Nat.reduceAdd, Nat.reduceEqDiff, Nat.reduceLT, reduceIte, reduceCtorEq, Nat.reduceBEq, Int.reduceLT, Int.reduceToNat, Int.reducePow, Nat.reduceLeDiff, Int.reduceLE, Nat.reduceMul, Nat.reduceSub] <;> (try simp only [decide_eq_true_eq, decide_eq_false_iff_not] at hC)
          · refine cGo_split (fun hD => ?_) (fun hD => ?_) <;> (try simp only [decide_eq_true_eq, decide_eq_false_iff_not] at hD)
            · simp only [go_sem, Nat.reduceAdd, Nat.reduceEqDiff, Nat.reduceLT, reduceIte, reduceCtorEq, Nat.reduceBEq, Int.reduceLT, Int.reduceToNat, Int.reducePow, Nat.reduceLeDiff, Int.reduceLE, Nat.reduceMul, Nat.reduceSub]
              have k1 : clampLo 65536 L = 57344 := by unfold clampLo gapI; (repeat' split) <;> omega
              have k2 : clampHi T = 1114111 := by unfold clampHi; split <;> omega
              rw [hgo, k1, k2]
              simp only [Done, resAV, resL, resOne, look_nil, look_cons, Nat.reduceEqDiff, if_true, if_false, reduceIte, ite_true, ite_false, Nat.zero_ne_one, Nat.one_ne_zero, reduceCtorEq, true_or, or_true, true_and, Option.some.injEq, AV.lit.injEq, Value.int.injEq, Value.bool.injEq]
              all_goals rfl
            · simp only [go_sem, Nat.reduceAdd, Nat.reduceEqDiff, Nat.reduceLT, reduceIte, reduceCtorEq, Nat.reduceBEq, Int.reduceLT, Int.reduceToNat, Int.reducePow, Nat.reduceLeDiff, Int.reduceLE, Nat.reduceMul, Nat.reduceSub]
              have k1 : clampLo 65536 L = L := by unfold clampLo gapI; (repeat' split) <;> omega
              have k2 : clampHi T = 1114111 := by unfold clampHi; split <;> omega
              rw [hgo, k1, k2]
              simp only [Done, resAV, resL, resOne, look_nil, look_cons, Nat.reduceEqDiff, if_true, if_false, reduceIte, ite_true, ite_false, Nat.zero_ne_one, Nat.one_ne_zero, reduceCtorEq, true_or, or_true, true_and, Option.some.injEq, AV.lit.injEq, Value.int.injEq, Value.bool.injEq]
              all_goals rfl
          · have k1 : clampLo 65536 L = L := by unfold clampLo gapI; (repeat' split) <;> omega
            have k2 : clampHi T = 1114111 := by unfold clampHi; split <;> omega
            rw [hgo, k1, k2]
            simp only [Done, resAV, resL, resOne, look_nil, look_cons, Nat.reduceEqDiff, if_true, if_false, reduceIte, ite_true, ite_false, Nat.zero_ne_one, Nat.one_ne_zero, reduceCtorEq, true_or, or_true, true_and, Option.some.injEq, AV.lit.injEq, Value.int.injEq, Value.bool.injEq]
            all_goals rfl
        · simp only [go_sem, Nat.reduceAdd, Nat.reduceEqDiff, Nat.reduceLT, reduceIte, reduceCtorEq, Nat.reduceBEq, Int.reduceLT, Int.reduceToNat, Int.reducePow, Nat.reduceLeDiff, Int.reduceLE, Nat.reduceMul, Nat.reduceSub]
          refine gGo_splitT (fun hC => ?_) (fun hC => ?_) <;> simp only [hC, go_sem, Nat.reduceAdd, Nat.reduceEqDiff, Nat.reduceLT, reduceIte, reduceCtorEq, Nat.reduceBEq, Int.reduceLT, Int.reduceToNat, Int.reducePow, Nat.reduceLeDiff, Int.reduceLE, Nat.reduceMul, Nat.reduceSub] <;> (try simp only [decide_eq_true_eq, decide_eq_false_iff_not] at hC)
          · refine cGo_split (fun hD => ?_) (fun hD => ?_) <;> (try simp only [decide_eq_true_eq, decide_eq_false_iff_not] at hD)
            · simp only [go_sem, Nat.reduceAdd, Nat.reduceEqDiff, Nat.reduceLT, reduceIte, reduceCtorEq, Nat.reduceBEq, Int.reduceLT, Int.reduceToNat, Int.reducePow, Nat.reduceLeDiff, Int.reduceLE, Nat.reduceMul, Nat.reduceSub]
              have k1 : clampLo 65536 L = 57344 := by unfold clampLo gapI; (repeat' split) <;> omega
              have k2 : clampHi T = T := by unfold clampHi; split <;> omega
              rw [hgo, k1, k2]
              simp only [Done, resAV, resL, resOne, look_nil, look_cons, Nat.reduceEqDiff, if_true, if_false, reduceIte, ite_true, ite_false, Nat.zero_ne_one, Nat.one_ne_zero, reduceCtorEq, true_or, or_true, true_and, Option.some.injEq, AV.lit.injEq, Value.int.injEq, Value.bool.injEq]
              all_goals rfl
            · simp only [go_sem, Nat.reduceAdd, Nat.reduceEqDiff, Nat.reduceLT, reduceIte, reduceCtorEq, Nat.reduceBEq, Int.reduceLT, Int.reduceToNat, Int.reducePow, Nat.reduceLeDiff, Int.reduceLE, Nat.reduceMul, Nat.reduceSub]
              have k1 : clampLo 65536 L = L := by unfold clampLo gapI; (repeat' split) <;> omega
              have k2 : clampHi T = T := by unfold clampHi; split <;> omega
              rw [hgo, k1, k2]
              simp only [Done, resAV, resL, resOne, look_nil, look_cons, Nat.reduceEqDiff, if_true, if_false, reduceIte, ite_true, ite_false, Nat.zero_ne_one, Nat.one_ne_zero, reduceCtorEq, true_or, or_true, true_and, Option.some.injEq, AV.lit.injEq, Value.int.injEq, Value.bool.injEq]
              all_goals rfl
          · have k1 : clampLo 65536 L = L := by unfold clampLo gapI; (repeat' split) <;> omega
            have k2 : clampHi T = T := by unfold clampHi; split <;> omega
            rw [hgo, k1, k2]
            simp only [Done, resAV, resL, resOne, look_nil, look_cons, Nat.reduceEqDiff, if_true, if_false, reduceIte, ite_true, ite_false, Nat.zero_ne_one, Nat.one_ne_zero, reduceCtorEq, true_or, or_true, true_and, Option.some.injEq, AV.lit.injEq, Value.int.injEq, Value.bool.injEq]
            all_goals rfl
end Go.Proofs.Yteekelelcbfekaa

/-! ## Utf14 -/

namespace Go.Proofs.Yteekelelcbfekaa
open Go Go.Ab

theorem goesB_cons (c : Nat) (t : List Nat) : goesB (c :: t) = if longN c = 0 ∨ longN c < t.length + 1 ∨ t.all isTail = false then false else
    decide (clampLo (fromI (longN c)) (numI 0 (longN c - 1) (subN (longN c) c) t) ≤ clampHi (numI 63 (longN c - 1) (subN (longN c) c) t)) := rfl
theorem goes1_all : ((List.range 256).all fun c => goesB [c] == leadB c) = true := by kernel_rfl
theorem goes2_all : ((List.range 256).all fun c => !leadB c || (behindOf c == 0 || (List.range 256).all fun x => goesB [c, x] == (decide (lowOf c ≤ x) && decide (x ≤ topOf c)))) = true := by kernel_rfl
theorem long_all : ((List.range 256).all fun c => !leadB c || longN c == behindOf c + 1) = true := by kernel_rfl
theorem goes1 {c : Nat} (hc : c ≤ 255) : goesB [c] = leadB c := by
  have := List.all_eq_true.1 goes1_all c (List.mem_range.2 (by omega))
  simpa using this
theorem long_lead {c : Nat} (h : leadB c = true) : longN c = behindOf c + 1 := by
  have hc : c ≤ 255 := by
    simp only [leadB, Bool.or_eq_true, Bool.and_eq_true, decide_eq_true_eq] at h
    omega
  have := List.all_eq_true.1 long_all c (List.mem_range.2 (by omega))
  simpa [h] using this
theorem goes2 {c x : Nat} (h : leadB c = true) (h0 : 0 < behindOf c) (hx : x ≤ 255) : goesB [c, x] = (decide (lowOf c ≤ x) && decide (x ≤ topOf c)) := by
  have hc : c ≤ 255 := by
    simp only [leadB, Bool.or_eq_true, Bool.and_eq_true, decide_eq_true_eq] at h
    omega
  have h1 := List.all_eq_true.1 goes2_all c (List.mem_range.2 (by omega))
  have hb : (behindOf c == 0) = false := by simp only [beq_eq_false_iff_ne, ne_eq]; omega
  rw [h, hb, Bool.not_true, Bool.false_or, Bool.false_or] at h1
  have := List.all_eq_true.1 h1 x (List.mem_range.2 (by omega))
  simpa using this
theorem goes_long {c : Nat} {t : List Nat} (h : longN c < t.length + 1) : goesB (c :: t) = false := by
  rw [goesB_cons, if_pos (.inr (.inl h))]
theorem goes_tail {c : Nat} {t : List Nat} (h : t.all isTail = false) : goesB (c :: t) = false := by
  rw [goesB_cons, if_pos (.inr (.inr h))]
/-- Behind the second byte tails go on. -/
theorem goes3 {c x : Nat} {t : List Nat} (h : leadB c = true) (hx : lowOf c ≤ x ∧ x ≤ topOf c) (ht : t.all isTail = true) (hl : t.length + 1 ≤ behindOf c) : goesB (c :: x :: t) = true := by
  have hL := long_lead h
  have hx2 := first_facts h
  have hxt : isTail x = true := by simp only [isTail, Bool.and_eq_true, decide_eq_true_eq]; omega
  rw [goesB_cons, if_neg (by rintro (h1 | h1 | h1); omega; simp only [List.length_cons] at h1; omega; rw [List.all_cons, hxt, ht] at h1; cases h1), decide_eq_true_eq]
  rcases lead_cases h with h1 | ⟨h1, h2⟩ | ⟨h1, h2⟩ | ⟨h1, h2⟩
  · obtain ⟨e1, e2, e3, e4⟩ := f1 h1; omega
  · obtain ⟨e1, e2, e3, e4⟩ := f2 h1 h2
    have : t = [] := List.eq_nil_of_length_eq_zero (by omega)
    subst this
    rw [hL, e1]
    simp only [fromI, subN, numI, Nat.reduceAdd, Nat.reduceSub, if_true]
    unfold clampLo clampHi gapI
    rw [e3, e4] at hx
    (repeat' split) <;> omega
  · obtain ⟨e1, e2, e3, e4⟩ := f3 h1 h2
    rw [hL, e1]
    rw [e3, e4] at hx
    match t, ht, hl with
    | [], _, _ =>
      simp only [fromI, subN, numI, Nat.reduceAdd, Nat.reduceSub, Nat.reduceEqDiff, if_true, if_false]
      unfold clampLo clampHi gapI
      (repeat' split at hx) <;> (repeat' split) <;> omega
    | [y], ht, _ =>
      simp only [List.all_cons, List.all_nil, Bool.and_true, isTail, Bool.and_eq_true, decide_eq_true_eq] at ht
      simp only [fromI, subN, numI, Nat.reduceAdd, Nat.reduceSub, Nat.reduceEqDiff, if_true, if_false]
      unfold clampLo clampHi gapI
      (repeat' split at hx) <;> (repeat' split) <;> omega
    | y :: z :: t, _, hl => simp only [List.length_cons] at hl; omega
  · obtain ⟨e1, e2, e3, e4⟩ := f4 h1 h2
    rw [hL, e1]
    rw [e3, e4] at hx
    match t, ht, hl with
    | [], _, _ =>
      simp only [fromI, subN, numI, Nat.reduceAdd, Nat.reduceSub, Nat.reduceEqDiff, if_true, if_false]
      unfold clampLo clampHi gapI
      (repeat' split at hx) <;> (repeat' split) <;> omega
    | [y], ht, _ =>
      simp only [List.all_cons, List.all_nil, Bool.and_true, isTail, Bool.and_eq_true, decide_eq_true_eq] at ht
      simp only [fromI, subN, numI, Nat.reduceAdd, Nat.reduceSub, Nat.reduceEqDiff, if_true, if_false]
      unfold clampLo clampHi gapI
      (repeat' split at hx) <;> (repeat' split) <;> omega
    | [y, z], ht, _ =>
      simp only [List.all_cons, List.all_nil, Bool.and_true, isTail, Bool.and_eq_true, decide_eq_true_eq] at ht
      simp only [fromI, subN, numI, Nat.reduceAdd, Nat.reduceSub, Nat.reduceEqDiff, if_true, if_false]
      unfold clampLo clampHi gapI
      (repeat' split at hx) <;> (repeat' split) <;> omega
    | y :: z :: v :: t, _, hl => simp only [List.length_cons] at hl; omega
end Go.Proofs.Yteekelelcbfekaa

/-! ## Utf15 -/

namespace Go.Proofs.Yteekelelcbfekaa
open Go Go.Ab

/-- As many bytes go on as may. -/
def GoesTo (b : List Nat) (K : Nat) : Prop := (∀ j, j < K → goesB (b.take (j + 1)) = true) ∧ K ≤ b.length ∧ (K = b.length ∨ goesB (b.take (K + 1)) = false)
theorem GoesTo.uniq {b : List Nat} {k K : Nat} (h : GoesTo b k) (h' : GoesTo b K) : k = K := by
  obtain ⟨a1, a2, a3⟩ := h
  obtain ⟨b1, b2, b3⟩ := h'
  rcases Nat.lt_trichotomy k K with hl | hl | hl
  · rcases a3 with a3 | a3
    · omega
    · rw [b1 k hl] at a3; cases a3
  · exact hl
  · rcases b3 with b3 | b3
    · omega
    · rw [a1 K hl] at b3; cases b3

/-- What the first code of bytes is, told by who goes on. -/
def Said (c : Nat) (t : List Nat) : Prop := ∃ K, GoesTo (c :: t) K ∧
  ((0 < K ∧ longN c = K ∧ ∃ r : Nat, nx (c :: t) = (r, K, true) ∧ (r : Int) = numI 0 (K - 1) (subN K c) (t.take (K - 1)) ∧ r < 2097152) ∨
   (¬(0 < K ∧ longN c = K) ∧ nx (c :: t) = (65533, if K = 0 then 1 else K, false)))

theorem said_bad {c : Nat} {t : List Nat} (hc : c ≤ 255) (h : leadB c = false) : Said c t := by
  refine ⟨0, ⟨fun j hj => by omega, Nat.zero_le _, .inr ?_⟩, .inr ⟨by omega, ?_⟩⟩
  · show goesB [c] = false
    rw [goes1 hc, h]
  · simp only [nx, h, Bool.false_eq_true, if_false, if_true]

theorem all_lt2 {p : Nat → Prop} (h0 : p 0) (h1 : p 1) : ∀ j, j < 2 → p j
  | 0, _ => h0
  | 1, _ => h1
theorem all_lt3 {p : Nat → Prop} (h0 : p 0) (h1 : p 1) (h2 : p 2) : ∀ j, j < 3 → p j
  | 0, _ => h0
  | 1, _ => h1
  | 2, _ => h2
theorem all_lt4 {p : Nat → Prop} (h0 : p 0) (h1 : p 1) (h2 : p 2) (h3 : p 3) : ∀ j, j < 4 → p j
  | 0, _ => h0
  | 1, _ => h1
  | 2, _ => h2
  | 3, _ => h3

theorem nx_lead {c : Nat} {t : List Nat} (h : leadB c = true) : nx (c :: t) = goOn (behindOf c) (lowOf c) (topOf c) (bitsOf c) 1 t := by simp only [nx, h, if_true]
theorem tail_iff (x : Nat) : isTail x = true ↔ 128 ≤ x ∧ x ≤ 191 := by simp only [isTail, Bool.and_eq_true, decide_eq_true_eq]

theorem gOk {n lo hi r k x : Nat} {t : List Nat} (h : ¬(x < lo ∨ hi < x)) : goOn (n + 1) lo hi r k (x :: t) = goOn n 128 191 (r * 64 + x % 64) (k + 1) t := by rw [goOn, if_neg h]
theorem gBad {n lo hi r k x : Nat} {t : List Nat} (h : x < lo ∨ hi < x) : goOn (n + 1) lo hi r k (x :: t) = (65533, k, false) := by rw [goOn, if_pos h]
theorem gZero (lo hi r k : Nat) (t : List Nat) : goOn 0 lo hi r k t = (r, k, true) := by cases t <;> rfl
theorem gNil (n lo hi r k : Nat) : goOn (n + 1) lo hi r k [] = (65533, k, false) := rfl
theorem not_tail {y : Nat} (h : isTail y = false) : y < 128 ∨ 191 < y := by
  rcases Nat.lt_or_ge y 128 with h1 | h1
  · exact .inl h1
  · rcases Nat.lt_or_ge 191 y with h2 | h2
    · exact .inr h2
    · rw [(tail_iff y).2 ⟨h1, h2⟩] at h; cases h

theorem said_lead {c : Nat} {t : List Nat} (hc : c ≤ 255) (ht : ∀ y ∈ t, y ≤ 255) (h : leadB c = true) : Said c t := by
  have hL := long_lead h
  have hff := first_facts h
  have g1 : goesB [c] = true := by rw [goes1 hc, h]
  by_cases h0 : behindOf c = 0
  · have h128 : c ≤ 127 := by
      rcases lead_cases h with h1 | ⟨h1, h2⟩ | ⟨h1, h2⟩ | ⟨h1, h2⟩
      · exact h1
      · have := (f2 h1 h2).1; omega
      · have := (f3 h1 h2).1; omega
      · have := (f4 h1 h2).1; omega
    refine ⟨1, ⟨fun j hj => by obtain rfl : j = 0 := by omega
                               exact g1, by simp, ?_⟩, .inl ⟨by omega, by omega, c, ?_, ?_, by omega⟩⟩
    · cases t with
      | nil => exact .inl rfl
      | cons y t => exact .inr (goes_long (by simp only [List.length_cons, List.take_succ_cons, List.take_zero, List.length_nil]; omega))
    · rw [nx_lead h, h0, (f1 h128).2.1]; cases t <;> rfl
    · rfl
  have hb0 : 0 < behindOf c := by omega
  cases t with
  | nil =>
    refine ⟨1, ⟨fun j hj => by obtain rfl : j = 0 := by omega
                               exact g1, by simp, .inl rfl⟩, .inr ⟨by omega, ?_⟩⟩
    rw [nx_lead h, goOn_nil hb0]; rfl
  | cons x t =>
    have hx := ht x (List.mem_cons_self ..)
    have g2 := goes2 h hb0 hx
    by_cases hxo : lowOf c ≤ x ∧ x ≤ topOf c
    · have g2t : goesB [c, x] = true := by rw [g2, decide_eq_true hxo.1, decide_eq_true hxo.2]; rfl
      have hxn : ¬(x < lowOf c ∨ topOf c < x) := by omega
      have hm : behindOf c = 1 ∨ behindOf c = 2 ∨ behindOf c = 3 := by omega
      rcases hm with hm | hm | hm
      · have hcr : 194 ≤ c ∧ c ≤ 223 := by
          rcases lead_cases h with h1 | ⟨h1, h2⟩ | ⟨h1, h2⟩ | ⟨h1, h2⟩
          · have := (f1 h1).1; omega
          · exact ⟨h1, h2⟩
          · have := (f3 h1 h2).1; omega
          · have := (f4 h1 h2).1; omega
        obtain ⟨e1, e2, e3, e4⟩ := f2 hcr.1 hcr.2
        refine ⟨2, ⟨all_lt2 g1 g2t, by simp, ?_⟩, .inl ⟨by omega, by omega, bitsOf c * 64 + x % 64, ?_, ?_, by omega⟩⟩
        · cases t with
          | nil => exact .inl rfl
          | cons y t => exact .inr (goes_long (by simp only [List.length_cons, List.take_succ_cons, List.take_zero, List.length_nil]; omega))
        · rw [nx_lead h, hm, gOk hxn, gZero]
        · show _ = 64 * (subN 2 c) + ((x : Int) - 128)
          have : subN 2 c = (c : Int) - 192 := rfl
          omega
      · have hcr : 224 ≤ c ∧ c ≤ 239 := by
          rcases lead_cases h with h1 | ⟨h1, h2⟩ | ⟨h1, h2⟩ | ⟨h1, h2⟩
          · have := (f1 h1).1; omega
          · have := (f2 h1 h2).1; omega
          · exact ⟨h1, h2⟩
          · have := (f4 h1 h2).1; omega
        obtain ⟨e1, e2, e3, e4⟩ := f3 hcr.1 hcr.2
        cases t with
        | nil =>
          refine ⟨2, ⟨all_lt2 g1 g2t, by simp, .inl rfl⟩, .inr ⟨by omega, ?_⟩⟩
          rw [nx_lead h, hm, gOk hxn, gNil]; rfl
        | cons y t =>
          cases hy : isTail y with
          | false =>
            refine ⟨2, ⟨all_lt2 g1 g2t, by simp, .inr (goes_tail (by show [x, y].all isTail = false; simp [hy]))⟩, .inr ⟨by omega, ?_⟩⟩
            rw [nx_lead h, hm, gOk hxn, gBad (not_tail hy)]; rfl
          | true =>
            have hyt := (tail_iff y).1 hy
            have g3 : goesB [c, x, y] = true := goes3 h hxo (by simp [hy]) (by simp only [List.length_cons, List.length_nil]; omega)
            refine ⟨3, ⟨all_lt3 g1 g2t g3, by simp, ?_⟩, .inl ⟨by omega, by omega, (bitsOf c * 64 + x % 64) * 64 + y % 64, ?_, ?_, by omega⟩⟩
            · cases t with
              | nil => exact .inl rfl
              | cons z t => exact .inr (goes_long (by simp only [List.length_cons, List.take_succ_cons, List.take_zero, List.length_nil]; omega))
            · rw [nx_lead h, hm, gOk hxn, gOk (by omega), gZero]
            · show _ = 64 * (64 * (subN 3 c) + ((x : Int) - 128)) + ((y : Int) - 128)
              have : subN 3 c = (c : Int) - 224 := rfl
              omega
      · have hcr : 240 ≤ c ∧ c ≤ 244 := by
          rcases lead_cases h with h1 | ⟨h1, h2⟩ | ⟨h1, h2⟩ | ⟨h1, h2⟩
          · have := (f1 h1).1; omega
          · have := (f2 h1 h2).1; omega
          · have := (f3 h1 h2).1; omega
          · exact ⟨h1, h2⟩
        obtain ⟨e1, e2, e3, e4⟩ := f4 hcr.1 hcr.2
        cases t with
        | nil =>
          refine ⟨2, ⟨all_lt2 g1 g2t, by simp, .inl rfl⟩, .inr ⟨by omega, ?_⟩⟩
          rw [nx_lead h, hm, gOk hxn, gNil]; rfl
        | cons y t =>
          cases hy : isTail y with
          | false =>
            refine ⟨2, ⟨all_lt2 g1 g2t, by simp, .inr (goes_tail (by show [x, y].all isTail = false; simp [hy]))⟩, .inr ⟨by omega, ?_⟩⟩
            rw [nx_lead h, hm, gOk hxn, gBad (not_tail hy)]; rfl
          | true =>
            have hyt := (tail_iff y).1 hy
            have g3 : goesB [c, x, y] = true := goes3 h hxo (by simp [hy]) (by simp only [List.length_cons, List.length_nil]; omega)
            cases t with
            | nil =>
              refine ⟨3, ⟨all_lt3 g1 g2t g3, by simp, .inl rfl⟩, .inr ⟨by omega, ?_⟩⟩
              rw [nx_lead h, hm, gOk hxn, gOk (by omega), gNil]; rfl
            | cons z t =>
              cases hz : isTail z with
              | false =>
                refine ⟨3, ⟨all_lt3 g1 g2t g3, by simp, .inr (goes_tail (by show [x, y, z].all isTail = false; simp [hz]))⟩, .inr ⟨by omega, ?_⟩⟩
                rw [nx_lead h, hm, gOk hxn, gOk (by omega), gBad (not_tail hz)]; rfl
              | true =>
                have hzt := (tail_iff z).1 hz
                have g4 : goesB [c, x, y, z] = true := goes3 h hxo (by simp [hy, hz]) (by simp only [List.length_cons, List.length_nil]; omega)
                refine ⟨4, ⟨all_lt4 g1 g2t g3 g4, by simp, ?_⟩, .inl ⟨by omega, by omega, ((bitsOf c * 64 + x % 64) * 64 + y % 64) * 64 + z % 64, ?_, ?_, by omega⟩⟩
                · cases t with
                  | nil => exact .inl rfl
                  | cons v t => exact .inr (goes_long (by simp only [List.length_cons, List.take_succ_cons, List.take_zero, List.length_nil]; omega))
                · rw [nx_lead h, hm, gOk hxn, gOk (by omega), gOk (by omega), gZero]
                · show _ = 64 * (64 * (64 * (subN 4 c) + ((x : Int) - 128)) + ((y : Int) - 128)) + ((z : Int) - 128)
                  have : subN 4 c = (c : Int) - 240 := rfl
                  omega
    · have g2f : goesB [c, x] = false := by
        rw [g2, Bool.and_eq_false_iff, decide_eq_false_iff_not, decide_eq_false_iff_not]
        by_cases hl : lowOf c ≤ x
        · exact .inr fun hh => hxo ⟨hl, hh⟩
        · exact .inl hl
      refine ⟨1, ⟨fun j hj => by obtain rfl : j = 0 := by omega
                                 exact g1, by simp, .inr g2f⟩, .inr ⟨by omega, ?_⟩⟩
      rw [nx_lead h, goOn_bad hb0 (by omega)]; rfl

theorem said_all {c : Nat} {t : List Nat} (h : ∀ y ∈ c :: t, y ≤ 255) : Said c t := by
  have hc := h c (List.mem_cons_self ..)
  cases hl : leadB c with
  | false => exact said_bad hc hl
  | true => exact said_lead hc (fun y hy => h y (List.mem_cons_of_mem _ hy)) hl
end Go.Proofs.Yteekelelcbfekaa

/-! ## Utf16 -/

namespace Go.Proofs.Yteekelelcbfekaa
open Go Go.Ab
def a26 : ACode :=
  (.seq (.reg [⟨(.some 2), (.mv (.k (.slice .none 0 0))), .none⟩]) (.seq (.reg [⟨(.some 3), (.mv (.k (.slice .none 0 0))), .none⟩]) (.seq (.reg [⟨(.some 4), (.mv (.k (.int .i64 0))), .none⟩]) (.seq
  (.block 0 (.loop (.seq (.seq (.reg [⟨(.some 6), (.mv (.t 4)), .none⟩, ⟨(.some 7), (.mv (.t 0)), .none⟩, ⟨(.some 8), (.len (.t 7)), .none⟩, ⟨(.some 9), (.bin .lss (.t 6) (.t 8)), .none⟩]) (.cond (.t 9)
  .skip (.exit 0))) (.block 1 (.seq (.reg [⟨(.some 5), (.mv (.k (.int .i64 0))), .none⟩]) (.seq (.block 2 (.loop (.seq (.seq (.reg [⟨(.some 10), (.mv (.t 4)), .none⟩, ⟨(.some 11), (.mv (.t 5)), .none⟩,
  ⟨(.some 12), (.bin .add (.t 10) (.t 11)), .none⟩, ⟨(.some 13), (.mv (.t 0)), .none⟩, ⟨(.some 14), (.len (.t 13)), .none⟩, ⟨(.some 15), (.bin .lss (.t 12) (.t 14)), .none⟩, ⟨(.some 16), (.mv (.t 15)),
  .none⟩, ⟨(.some 17), (.mv (.t 0)), (.some (16, true))⟩, ⟨(.some 18), (.mv (.t 4)), (.some (16, true))⟩, ⟨(.some 19), (.mv (.t 4)), (.some (16, true))⟩, ⟨(.some 20), (.mv (.t 5)), (.some (16, true))⟩,
  ⟨(.some 21), (.bin .add (.t 19) (.t 20)), (.some (16, true))⟩, ⟨(.some 22), (.bin .add (.t 21) (.k (.int .i64 1))), (.some (16, true))⟩, ⟨(.some 23), (.slc 5 (.t 17) (.some (.t 18)) (.some (.t 22))),
  (.some (16, true))⟩, ⟨(.some 24), (.call (.f 44) [(.t 23)]), (.some (16, true))⟩, ⟨(.some 25), (.pick (.t 16) (.t 24) (.k (.bool false))), .none⟩]) (.cond (.t 25) .skip (.exit 2))) (.block 3 (.reg
  [⟨(.some 26), (.mv (.t 5)), .none⟩, ⟨(.some 27), (.bin .add (.t 26) (.k (.int .i64 1))), .none⟩, ⟨(.some 5), (.mv (.t 27)), .none⟩]))))) (.seq (.seq (.reg [⟨(.some 28), (.mv (.t 5)), .none⟩, ⟨(.some
  29), (.bin .gtr (.t 28) (.k (.int .i64 0))), .none⟩, ⟨(.some 30), (.mv (.t 29)), .none⟩, ⟨(.some 31), (.mv (.t 0)), (.some (30, true))⟩, ⟨(.some 32), (.mv (.t 4)), (.some (30, true))⟩, ⟨(.some 33),
  (.ia 5 (.t 31) (.t 32)), (.some (30, true))⟩, ⟨(.some 34), (.ld .none (.t 33)), (.some (30, true))⟩, ⟨(.some 35), (.call (.f 45) [(.t 34)]), (.some (30, true))⟩, ⟨(.some 36), (.mv (.t 5)), (.some (30,
  true))⟩, ⟨(.some 37), (.bin .eql (.t 35) (.t 36)), (.some (30, true))⟩, ⟨(.some 38), (.pick (.t 30) (.t 37) (.k (.bool false))), .none⟩]) (.cond (.t 38) (.seq (.reg [⟨(.some 39), (.mv (.t 3)), .none⟩,
  ⟨(.some 40), (.mv (.t 0)), .none⟩, ⟨(.some 41), (.mv (.t 4)), .none⟩, ⟨(.some 42), (.mv (.t 4)), .none⟩, ⟨(.some 43), (.mv (.t 5)), .none⟩, ⟨(.some 44), (.bin .add (.t 42) (.t 43)), .none⟩, ⟨(.some
  45), (.slc 5 (.t 40) (.some (.t 41)) (.some (.t 44))), .none⟩, ⟨(.some 46), (.mv (.t 5)), .none⟩, ⟨(.some 47), (.call (.f 46) [(.t 45), (.t 46), (.k (.int .i64 0))]), .none⟩, ⟨(.some 48), (.cvI .i32
  (.t 47)), .none⟩, ⟨(.some 49), (.mv (.t 4)), .none⟩, ⟨(.some 50), (.mv (.t 4)), .none⟩, ⟨(.some 51), (.mv (.t 5)), .none⟩, ⟨(.some 52), (.bin .add (.t 50) (.t 51)), .none⟩, ⟨(.some 53), (.bd [(.int
  .i32 0), (.int .i64 0), (.int .i64 0)] [(0, (1, (.t 48))), (1, (1, (.t 49))), (2, (1, (.t 52)))]), .none⟩, ⟨(.some 54), (.bs 35 3 [(.t 53)]), .none⟩, ⟨(.some 55), (.app 35 24 (.t 39) (.t 54)), .none⟩,
  ⟨(.some 3), (.mv (.t 55)), .none⟩]) (.seq (.reg [⟨(.some 56), (.mv (.t 4)), .none⟩, ⟨(.some 57), (.mv (.t 5)), .none⟩, ⟨(.some 58), (.bin .add (.t 56) (.t 57)), .none⟩, ⟨(.some 4), (.mv (.t 58)),
  .none⟩]) (.exit 1))) .skip)) (.seq (.seq (.reg [⟨(.some 59), (.mv (.t 5)), .none⟩, ⟨(.some 60), (.bin .eql (.t 59) (.k (.int .i64 0))), .none⟩]) (.cond (.t 60) (.reg [⟨(.some 5), (.mv (.k (.int .i64
  1))), .none⟩]) .skip)) (.seq (.reg [⟨(.some 61), (.mv (.t 3)), .none⟩, ⟨(.some 62), (.mv (.t 4)), .none⟩, ⟨(.some 63), (.mv (.t 4)), .none⟩, ⟨(.some 64), (.mv (.t 5)), .none⟩, ⟨(.some 65), (.bin .add
  (.t 63) (.t 64)), .none⟩, ⟨(.some 66), (.bd [(.int .i32 0), (.int .i64 0), (.int .i64 0)] [(0, (1, (.k (.int .i32 65533)))), (1, (1, (.t 62))), (2, (1, (.t 65)))]), .none⟩, ⟨(.some 67), (.bs 35 3 [(.t
  66)]), .none⟩, ⟨(.some 68), (.app 35 24 (.t 61) (.t 67)), .none⟩, ⟨(.some 3), (.mv (.t 68)), .none⟩]) (.reg [⟨(.some 69), (.mv (.t 4)), .none⟩, ⟨(.some 70), (.mv (.t 5)), .none⟩, ⟨(.some 71), (.bin
  .add (.t 69) (.t 70)), .none⟩, ⟨(.some 4), (.mv (.t 71)), .none⟩])))))))))) (.seq (.reg [⟨(.some 72), (.mv (.t 3)), .none⟩, ⟨(.some 2), (.mv (.t 72)), .none⟩]) .ret)))))
theorem c26 : Try.f26.body.bind (cCode Try.prog 73) = some a26 := by kernel_rfl
theorem r26 : Try.f26.results.toList = [(.tmp 2)] := by kernel_rfl
theorem n26 : Try.f26.ntmps = 73 := by kernel_rfl
theorem e26 : Enters Try.prog 26 := enters_of Try.func26 (by kernel_rfl) (by kernel_rfl)

theorem slc_part {b : List Nat} {i m : Nat} : ((octs b).take (i + m)).drop i = octs ((b.drop i).take m) := by
  rw [octs_take, octs_drop, List.drop_take]
  congr 1
  rw [Nat.add_sub_cancel_left]

set_option maxRecDepth 10000 in
set_option maxHeartbeats 4000000 in
theorem refCodes_pure (b : List Nat) (hb : ∀ n ∈ b, n ≤ 255) (hl : b.length ≤ 1099511627776) : Pure Try.prog 26 [.sl 5 (octs b) none] [35] (.sl 35 (codesC (cut 0 b)) (some 0)) := by
  refine pure1 Try.func26 c26 n26 e26 r26 (by simp) ?_
  simp only [a26, astart, argSlots, go_sem, Nat.reduceAdd, Nat.reduceEqDiff, Nat.reduceLT, reduceIte, reduceCtorEq, Nat.reduceBEq, Int.reduceLT, Int.reduceToNat, Int.reducePow, Nat.reduceLeDiff, Int.reduceLE, Nat.reduceMul, Nat.reduceSub]
  refine ⟨fun s => ∃ (i : Nat) (acc : List (Nat × Nat × Nat × Bool)), i ≤ b.length ∧ acc.length ≤ i ∧ cut 0 b = acc ++ cut i (b.drop i) ∧
      s = ⟨[(0, some (.sl 5 (octs b) none)), (3, some (.sl 35 (codesC acc) (some 0))), (4, some (.lit (.int .i64 (i : Int))))], [], [(0, 35)], 1⟩,
    fun s => b.length - cnt 4 s, ⟨_, (weak_nil 3 35 (by simp only [go_sem, Nat.reduceAdd, Nat.reduceEqDiff, Nat.reduceLT, reduceIte, reduceCtorEq, Nat.reduceBEq, Int.reduceLT, Int.reduceToNat, Int.reducePow, Nat.reduceLeDiff, Int.reduceLE, Nat.reduceMul, Nat.reduceSub])).trans (weak_by [0] (by simp) rfl ?_ ?_ ?_ ?_), 0, [], Nat.zero_le _, Nat.zero_le _, rfl, rfl⟩, ?_⟩
  · simp only [go_sem, Nat.reduceAdd, Nat.reduceEqDiff, Nat.reduceLT, reduceIte, reduceCtorEq, Nat.reduceBEq, Int.reduceLT, Int.reduceToNat, Int.reducePow, Nat.reduceLeDiff, Int.reduceLE, Nat.reduceMul, Nat.reduceSub, slotsBy, boxesBy, tipsBy, rawAt, nm, AV.ren, AV.renL, AV.under, AV.underL, List.all_nil, List.all_cons, bne_self_eq_false, List.getD_cons_zero, List.getD_cons_succ, List.length_nil, List.length_cons, and_true, true_and, Int.natCast_zero, codesC, List.map_nil]
  · trivial
  · simp only [go_sem, Nat.reduceAdd, Nat.reduceEqDiff, Nat.reduceLT, reduceIte, reduceCtorEq, Nat.reduceBEq, Int.reduceLT, Int.reduceToNat, Int.reducePow, Nat.reduceLeDiff, Int.reduceLE, Nat.reduceMul, Nat.reduceSub, slotsBy, boxesBy, tipsBy, rawAt, nm, AV.ren, AV.renL, AV.under, AV.underL, List.all_nil, List.all_cons, bne_self_eq_false, List.getD_cons_zero, List.getD_cons_succ, List.length_nil, List.length_cons, and_true, true_and, beq_self_eq_true]
  · simp
  · rintro _ ⟨i, acc, hi, hacc, hcut, rfl⟩
    simp only [go_sem, Nat.reduceAdd, Nat.reduceEqDiff, Nat.reduceLT, reduceIte, reduceCtorEq, Nat.reduceBEq, Int.reduceLT, Int.reduceToNat, Int.reducePow, Nat.reduceLeDiff, Int.reduceLE, Nat.reduceMul, Nat.reduceSub, octs_length]
    rcases Nat.lt_or_eq_of_le hi with hlt | heq
    · have hdl : (b.drop i).length = b.length - i := List.length_drop ..
      have hdc : b.drop i = b[i] :: b.drop (i + 1) := List.drop_eq_getElem_cons hlt
      have hg := octs_get b i hlt
      have hoct : ∀ n ∈ b.drop i, n ≤ 255 := fun n hn => hb n (List.mem_of_mem_drop hn)
      have hsaid := said_all (c := b[i]) (t := b.drop (i + 1)) (by rw [← hdc]; exact hoct)
      simp only [dec_lt hlt, go_sem, Nat.reduceAdd, Nat.reduceEqDiff, Nat.reduceLT, reduceIte, reduceCtorEq, Nat.reduceBEq, Int.reduceLT, Int.reduceToNat, Int.reducePow, Nat.reduceLeDiff, Int.reduceLE, Nat.reduceMul, Nat.reduceSub]
      refine ⟨fun s => ∃ k : Nat, k ≤ b.length - i ∧ (∀ j, j < k → goesB ((b.drop i).take (j + 1)) = true) ∧
          s = ⟨[(0, some (.sl 5 (octs b) none)), (3, some (.sl 35 (codesC acc) (some 0))), (4, some (.lit (.int .i64 (i : Int)))), (5, some (.lit (.int .i64 (k : Int))))], [], [(0, 35)], 1⟩,
        fun s => b.length - cnt 5 s, ⟨_, weak_by [0] (by simp) rfl ?_ ?_ ?_ ?_, 0, Nat.zero_le _, fun j hj => by omega, rfl⟩, ?_⟩
      · simp only [go_sem, Nat.reduceAdd, Nat.reduceEqDiff, Nat.reduceLT, reduceIte, reduceCtorEq, Nat.reduceBEq, Int.reduceLT, Int.reduceToNat, Int.reducePow, Nat.reduceLeDiff, Int.reduceLE, Nat.reduceMul, Nat.reduceSub, slotsBy, boxesBy, tipsBy, rawAt, nm, AV.ren, AV.renL, AV.under, AV.underL, List.all_nil, List.all_cons, bne_self_eq_false, List.getD_cons_zero, List.getD_cons_succ, List.length_nil, List.length_cons, and_true, true_and, Int.natCast_zero]
      · trivial
      · simp only [go_sem, Nat.reduceAdd, Nat.reduceEqDiff, Nat.reduceLT, reduceIte, reduceCtorEq, Nat.reduceBEq, Int.reduceLT, Int.reduceToNat, Int.reducePow, Nat.reduceLeDiff, Int.reduceLE, Nat.reduceMul, Nat.reduceSub, slotsBy, boxesBy, tipsBy, rawAt, nm, AV.ren, AV.renL, AV.under, AV.underL, List.all_nil, List.all_cons, bne_self_eq_false, List.getD_cons_zero, List.getD_cons_succ, List.length_nil, List.length_cons, and_true, true_and, beq_self_eq_true]
      · simp
      · rintro _ ⟨k, hk, hgo, rfl⟩
        have hw1 : IntKind.i64.wrap ((i : Int) + (k : Int)) = ((i + k : Nat) : Int) := by rw [wrap_i64 _ (by omega) (by omega)]; omega
        have hw2 : IntKind.i64.wrap (((i + k : Nat) : Int) + 1) = ((i + (k + 1) : Nat) : Int) := by rw [wrap_i64 _ (by omega) (by omega)]; omega
        have hw3 : IntKind.i64.wrap ((k : Int) + 1) = ((k + 1 : Nat) : Int) := by rw [wrap_i64 _ (by omega) (by omega)]; omega
        by_cases hlk : i + k < b.length
        · have hsl : (if i ≤ i + (k + 1) ∧ i + (k + 1) ≤ b.length then some (i, i + (k + 1)) else none : Option (Nat × Nat)) = some (i, i + (k + 1)) := if_pos ⟨by omega, by omega⟩
          simp only [go_sem, Nat.reduceAdd, Nat.reduceEqDiff, Nat.reduceLT, reduceIte, reduceCtorEq, Nat.reduceBEq, Int.reduceLT, Int.reduceToNat, Int.reducePow, Nat.reduceLeDiff, Int.reduceLE, Nat.reduceMul, Nat.reduceSub, octs_length, hw1, dec_lt hlk, hw2, hsl, slc_part]
          refine callGo_pure (goes_pure ((b.drop i).take (k + 1)) (fun n hn => hoct n (List.mem_of_mem_take hn)) (by simp only [List.length_take, List.length_drop]; omega)) (by rfl) ?_
          cases hgk : goesB ((b.drop i).take (k + 1)) with
          | true =>
            simp only [go_sem, Nat.reduceAdd, Nat.reduceEqDiff, Nat.reduceLT, reduceIte, reduceCtorEq, Nat.reduceBEq, Int.reduceLT, Int.reduceToNat, Int.reducePow, Nat.reduceLeDiff, Int.reduceLE, Nat.reduceMul, Nat.reduceSub, hw3]
            refine ⟨_, weak_by [0] (by simp) rfl ?_ ?_ ?_ ?_, ⟨k + 1, by omega, fun j hj => ?_, rfl⟩, ?_⟩
            · simp only [go_sem, Nat.reduceAdd, Nat.reduceEqDiff, Nat.reduceLT, reduceIte, reduceCtorEq, Nat.reduceBEq, Int.reduceLT, Int.reduceToNat, Int.reducePow, Nat.reduceLeDiff, Int.reduceLE, Nat.reduceMul, Nat.reduceSub, slotsBy, boxesBy, tipsBy, rawAt, nm, AV.ren, AV.renL, AV.under, AV.underL, List.all_nil, List.all_cons, bne_self_eq_false, List.getD_cons_zero, List.getD_cons_succ, List.length_nil, List.length_cons, and_true, true_and]
            · trivial
            · simp only [go_sem, Nat.reduceAdd, Nat.reduceEqDiff, Nat.reduceLT, reduceIte, reduceCtorEq, Nat.reduceBEq, Int.reduceLT, Int.reduceToNat, Int.reducePow, Nat.reduceLeDiff, Int.reduceLE, Nat.reduceMul, Nat.reduceSub, slotsBy, boxesBy, tipsBy, rawAt, nm, AV.ren, AV.renL, AV.under, AV.underL, List.all_nil, List.all_cons, bne_self_eq_false, List.getD_cons_zero, List.getD_cons_succ, List.length_nil, List.length_cons, and_true, true_and, beq_self_eq_true]
            · simp
            · rcases Nat.lt_succ_iff_lt_or_eq.1 hj with hj | hj
              · exact hgo j hj
              · rw [hj]; exact hgk
            · simp only [cnt, go_sem, Nat.reduceAdd, Nat.reduceEqDiff, Nat.reduceLT, reduceIte, reduceCtorEq, Nat.reduceBEq, Int.reduceLT, Int.reduceToNat, Int.reducePow, Nat.reduceLeDiff, Int.reduceLE, Nat.reduceMul, Nat.reduceSub, Int.toNat_natCast]; omega
          | false =>
            have hK : GoesTo (b[i] :: b.drop (i + 1)) k := by rw [← hdc]; exact ⟨hgo, by omega, .inr hgk⟩
            simp only [go_sem, Nat.reduceAdd, Nat.reduceEqDiff, Nat.reduceLT, reduceIte, reduceCtorEq, Nat.reduceBEq, Int.reduceLT, Int.reduceToNat, Int.reducePow, Nat.reduceLeDiff, Int.reduceLE, Nat.reduceMul, Nat.reduceSub]
            obtain ⟨K, hGK, hcase⟩ := hsaid
            have hkK : k = K := hK.uniq hGK
            subst hkK
            have hcd := cut_drop hlt
            have hlo4 := longN_le b[i]
            have hsl2 : (if i ≤ i + k ∧ i + k ≤ b.length then some (i, i + k) else none : Option (Nat × Nat)) = some (i, i + k) := if_pos ⟨by omega, by omega⟩
            rcases hcase with ⟨h0, hlong, r, hnx, hr, hr2⟩ | ⟨hno, hnx⟩
            · have hnx' : nx (b.drop i) = (r, k, true) := by rw [hdc]; exact hnx
              rw [hnx'] at hcd
              have d1 : decide ((k : Int) > 0) = true := by simp only [decide_eq_true_eq]; omega
              have htk : (b.drop i).take k = b[i] :: (b.drop (i + 1)).take (k - 1) := by
                obtain ⟨k', rfl⟩ : ∃ k', k = k' + 1 := ⟨k - 1, by omega⟩
                rw [hdc]; rfl
              have hwr : IntKind.i32.wrap (r : Int) = (r : Int) := wrap_i32 _ (by omega) (by omega)
              simp only [d1, go_sem, Nat.reduceAdd, Nat.reduceEqDiff, Nat.reduceLT, reduceIte, reduceCtorEq, Nat.reduceBEq, Int.reduceLT, Int.reduceToNat, Int.reducePow, Nat.reduceLeDiff, Int.reduceLE, Nat.reduceMul, Nat.reduceSub, Int.natCast_nonneg, Int.toNat_natCast, hg]
              refine callGo_pure (long_pure b[i]) (by rfl) ?_
              simp only [hlong, beq_self_eq_true, hw1, hsl2, octs_length, slc_part, htk, go_sem, Nat.reduceAdd, Nat.reduceEqDiff, Nat.reduceLT, reduceIte, reduceCtorEq, Nat.reduceBEq, Int.reduceLT, Int.reduceToNat, Int.reducePow, Nat.reduceLeDiff, Int.reduceLE, Nat.reduceMul, Nat.reduceSub]
              refine callGo_pure (number_pure b[i] ((b.drop (i + 1)).take (k - 1)) (hb _ (List.getElem_mem hlt)) (fun n hn => hb n (List.mem_of_mem_drop (List.mem_of_mem_take hn))) (by simp only [List.length_take, List.length_drop]; omega) k ⟨h0, by omega⟩ 0 (by omega)) (by rfl) ?_
              simp only [← hr, hwr, hw1, codesC_length, Value.oneCell', go_sem, Nat.reduceAdd, Nat.reduceEqDiff, Nat.reduceLT, reduceIte, reduceCtorEq, Nat.reduceBEq, Int.reduceLT, Int.reduceToNat, Int.reducePow, Nat.reduceLeDiff, Int.reduceLE, Nat.reduceMul, Nat.reduceSub]
              refine ⟨by omega, _, weak_by [2] (by simp) rfl ?_ ?_ ?_ ?_, ⟨i + k, acc ++ [(r, i, i + k, true)], by omega, by simp only [List.length_append, List.length_cons, List.length_nil]; omega, by rw [hcut, hcd]; simp, rfl⟩, ?_⟩
              · simp only [go_sem, Nat.reduceAdd, Nat.reduceEqDiff, Nat.reduceLT, reduceIte, reduceCtorEq, Nat.reduceBEq, Int.reduceLT, Int.reduceToNat, Int.reducePow, Nat.reduceLeDiff, Int.reduceLE, Nat.reduceMul, Nat.reduceSub, slotsBy, boxesBy, tipsBy, rawAt, nm, AV.ren, AV.renL, AV.under, AV.underL, List.all_nil, List.all_cons, bne_self_eq_false, List.getD_cons_zero, List.getD_cons_succ, List.length_nil, List.length_cons, and_true, true_and, codesC, codeC, List.map_append]
              · trivial
              · simp only [go_sem, Nat.reduceAdd, Nat.reduceEqDiff, Nat.reduceLT, reduceIte, reduceCtorEq, Nat.reduceBEq, Int.reduceLT, Int.reduceToNat, Int.reducePow, Nat.reduceLeDiff, Int.reduceLE, Nat.reduceMul, Nat.reduceSub, slotsBy, boxesBy, tipsBy, rawAt, nm, AV.ren, AV.renL, AV.under, AV.underL, List.all_nil, List.all_cons, bne_self_eq_false, List.getD_cons_zero, List.getD_cons_succ, List.length_nil, List.length_cons, and_true, true_and, beq_self_eq_true]
              · simp
              · simp only [cnt, go_sem, Nat.reduceAdd, Nat.reduceEqDiff, Nat.reduceLT, reduceIte, reduceCtorEq, Nat.reduceBEq, Int.reduceLT, Int.reduceToNat, Int.reducePow, Nat.reduceLeDiff, Int.reduceLE, Nat.reduceMul, Nat.reduceSub, Int.toNat_natCast]; omega
            · have hnx' : nx (b.drop i) = (65533, if k = 0 then 1 else k, false) := by rw [hdc]; exact hnx
              rw [hnx'] at hcd
              by_cases hk0 : k = 0
              · subst hk0
                have d1 : decide (((0 : Nat) : Int) > 0) = false := rfl
                have b1 : (((0 : Nat) : Int) == 0) = true := rfl
                have hw4 : IntKind.i64.wrap ((i : Int) + 1) = ((i + 1 : Nat) : Int) := by rw [wrap_i64 _ (by omega) (by omega)]; omega
                simp only [d1, b1, hw4, codesC_length, Value.oneCell', go_sem, Nat.reduceAdd, Nat.reduceEqDiff, Nat.reduceLT, reduceIte, reduceCtorEq, Nat.reduceBEq, Int.reduceLT, Int.reduceToNat, Int.reducePow, Nat.reduceLeDiff, Int.reduceLE, Nat.reduceMul, Nat.reduceSub]
                refine ⟨by omega, _, weak_by [2] (by simp) rfl ?_ ?_ ?_ ?_, ⟨i + 1, acc ++ [(65533, i, i + 1, false)], by omega, by simp only [List.length_append, List.length_cons, List.length_nil]; omega, by rw [hcut, hcd]; simp, rfl⟩, ?_⟩
                · simp only [go_sem, Nat.reduceAdd, Nat.reduceEqDiff, Nat.reduceLT, reduceIte, reduceCtorEq, Nat.reduceBEq, Int.reduceLT, Int.reduceToNat, Int.reducePow, Nat.reduceLeDiff, Int.reduceLE, Nat.reduceMul, Nat.reduceSub, slotsBy, boxesBy, tipsBy, rawAt, nm, AV.ren, AV.renL, AV.under, AV.underL, List.all_nil, List.all_cons, bne_self_eq_false, List.getD_cons_zero, List.getD_cons_succ, List.length_nil, List.length_cons, and_true, true_and, codesC, codeC, List.map_append]; rfl
                · trivial
                · simp only [go_sem, Nat.reduceAdd, Nat.reduceEqDiff, Nat.reduceLT, reduceIte, reduceCtorEq, Nat.reduceBEq, Int.reduceLT, Int.reduceToNat, Int.reducePow, Nat.reduceLeDiff, Int.reduceLE, Nat.reduceMul, Nat.reduceSub, slotsBy, boxesBy, tipsBy, rawAt, nm, AV.ren, AV.renL, AV.under, AV.underL, List.all_nil, List.all_cons, bne_self_eq_false, List.getD_cons_zero, List.getD_cons_succ, List.length_nil, List.length_cons, and_true, true_and, beq_self_eq_true]
                · simp
                · simp only [cnt, go_sem, Nat.reduceAdd, Nat.reduceEqDiff, Nat.reduceLT, reduceIte, reduceCtorEq, Nat.reduceBEq, Int.reduceLT, Int.reduceToNat, Int.reducePow, Nat.reduceLeDiff, Int.reduceLE, Nat.reduceMul, Nat.reduceSub, Int.toNat_natCast]; omega
              · rw [if_neg hk0] at hcd
                have d1 : decide ((k : Int) > 0) = true := by simp only [decide_eq_true_eq]; omega
                have b0 : (((longN b[i] : Nat) : Int) == (k : Int)) = false := by simp only [beq_eq_false_iff_ne, ne_eq]; omega
                have b1 : (((k : Nat) : Int) == 0) = false := by simp only [beq_eq_false_iff_ne, ne_eq]; omega
                simp only [d1, go_sem, Nat.reduceAdd, Nat.reduceEqDiff, Nat.reduceLT, reduceIte, reduceCtorEq, Nat.reduceBEq, Int.reduceLT, Int.reduceToNat, Int.reducePow, Nat.reduceLeDiff, Int.reduceLE, Nat.reduceMul, Nat.reduceSub, Int.natCast_nonneg, Int.toNat_natCast, hg]
                refine callGo_pure (long_pure b[i]) (by rfl) ?_
                simp only [b0, b1, hw1, codesC_length, Value.oneCell', go_sem, Nat.reduceAdd, Nat.reduceEqDiff, Nat.reduceLT, reduceIte, reduceCtorEq, Nat.reduceBEq, Int.reduceLT, Int.reduceToNat, Int.reducePow, Nat.reduceLeDiff, Int.reduceLE, Nat.reduceMul, Nat.reduceSub]
                refine ⟨by omega, _, weak_by [2] (by simp) rfl ?_ ?_ ?_ ?_, ⟨i + k, acc ++ [(65533, i, i + k, false)], by omega, by simp only [List.length_append, List.length_cons, List.length_nil]; omega, by rw [hcut, hcd]; simp, rfl⟩, ?_⟩
                · simp only [go_sem, Nat.reduceAdd, Nat.reduceEqDiff, Nat.reduceLT, reduceIte, reduceCtorEq, Nat.reduceBEq, Int.reduceLT, Int.reduceToNat, Int.reducePow, Nat.reduceLeDiff, Int.reduceLE, Nat.reduceMul, Nat.reduceSub, slotsBy, boxesBy, tipsBy, rawAt, nm, AV.ren, AV.renL, AV.under, AV.underL, List.all_nil, List.all_cons, bne_self_eq_false, List.getD_cons_zero, List.getD_cons_succ, List.length_nil, List.length_cons, and_true, true_and, codesC, codeC, List.map_append]; rfl
                · trivial
                · simp only [go_sem, Nat.reduceAdd, Nat.reduceEqDiff, Nat.reduceLT, reduceIte, reduceCtorEq, Nat.reduceBEq, Int.reduceLT, Int.reduceToNat, Int.reducePow, Nat.reduceLeDiff, Int.reduceLE, Nat.reduceMul, Nat.reduceSub, slotsBy, boxesBy, tipsBy, rawAt, nm, AV.ren, AV.renL, AV.under, AV.underL, List.all_nil, List.all_cons, bne_self_eq_false, List.getD_cons_zero, List.getD_cons_succ, List.length_nil, List.length_cons, and_true, true_and, beq_self_eq_true]
                · simp
                · simp only [cnt, go_sem, Nat.reduceAdd, Nat.reduceEqDiff, Nat.reduceLT, reduceIte, reduceCtorEq, Nat.reduceBEq, Int.reduceLT, Int.reduceToNat, Int.reducePow, Nat.reduceLeDiff, Int.reduceLE, Nat.reduceMul, Nat.reduceSub, Int.toNat_natCast]; omega
        · have hK : GoesTo (b[i] :: b.drop (i + 1)) k := by rw [← hdc]; exact ⟨hgo, by omega, .inl (by omega)⟩
          have hd : decide (((i + k : Nat) : Int) < (b.length : Int)) = false := by simp only [decide_eq_false_iff_not]; omega
          simp only [go_sem, Nat.reduceAdd, Nat.reduceEqDiff, Nat.reduceLT, reduceIte, reduceCtorEq, Nat.reduceBEq, Int.reduceLT, Int.reduceToNat, Int.reducePow, Nat.reduceLeDiff, Int.reduceLE, Nat.reduceMul, Nat.reduceSub, octs_length, hw1, hd]
          obtain ⟨K, hGK, hcase⟩ := hsaid
          have hkK : k = K := hK.uniq hGK
          subst hkK
          have hcd := cut_drop hlt
          have hlo4 := longN_le b[i]
          have hsl2 : (if i ≤ i + k ∧ i + k ≤ b.length then some (i, i + k) else none : Option (Nat × Nat)) = some (i, i + k) := if_pos ⟨by omega, by omega⟩
          rcases hcase with ⟨h0, hlong, r, hnx, hr, hr2⟩ | ⟨hno, hnx⟩
          · have hnx' : nx (b.drop i) = (r, k, true) := by rw [hdc]; exact hnx
            rw [hnx'] at hcd
            have d1 : decide ((k : Int) > 0) = true := by simp only [decide_eq_true_eq]; omega
            have htk : (b.drop i).take k = b[i] :: (b.drop (i + 1)).take (k - 1) := by
              obtain ⟨k', rfl⟩ : ∃ k', k = k' + 1 := ⟨k - 1, by omega⟩
              rw [hdc]; rfl
            have hwr : IntKind.i32.wrap (r : Int) = (r : Int) := wrap_i32 _ (by omega) (by omega)
            simp only [d1, go_sem, Nat.reduceAdd, Nat.reduceEqDiff, Nat.reduceLT, reduceIte, reduceCtorEq, Nat.reduceBEq, Int.reduceLT, Int.reduceToNat, Int.reducePow, Nat.reduceLeDiff, Int.reduceLE, Nat.reduceMul, Nat.reduceSub, Int.natCast_nonneg, Int.toNat_natCast, hg]
            refine callGo_pure (long_pure b[i]) (by rfl) ?_
            simp only [hlong, beq_self_eq_true, hw1, hsl2, octs_length, slc_part, htk, go_sem, Nat.reduceAdd, Nat.reduceEqDiff, Nat.reduceLT, reduceIte, reduceCtorEq, Nat.reduceBEq, Int.reduceLT, Int.reduceToNat, Int.reducePow, Nat.reduceLeDiff, Int.reduceLE, Nat.reduceMul, Nat.reduceSub]
            refine callGo_pure (number_pure b[i] ((b.drop (i + 1)).take (k - 1)) (hb _ (List.getElem_mem hlt)) (fun n hn => hb n (List.mem_of_mem_drop (List.mem_of_mem_take hn))) (by simp only [List.length_take, List.length_drop]; omega) k ⟨h0, by omega⟩ 0 (by omega)) (by rfl) ?_
            simp only [← hr, hwr, hw1, codesC_length, Value.oneCell', go_sem, Nat.reduceAdd, Nat.reduceEqDiff, Nat.reduceLT, reduceIte, reduceCtorEq, Nat.reduceBEq, Int.reduceLT, Int.reduceToNat, Int.reducePow, Nat.reduceLeDiff, Int.reduceLE, Nat.reduceMul, Nat.reduceSub]
            refine ⟨by omega, _, weak_by [2] (by simp) rfl ?_ ?_ ?_ ?_, ⟨i + k, acc ++ [(r, i, i + k, true)], by omega, by simp only [List.length_append, List.length_cons, List.length_nil]; omega, by rw [hcut, hcd]; simp, rfl⟩, ?_⟩
            · simp only [go_sem, Nat.reduceAdd, Nat.reduceEqDiff, Nat.reduceLT, reduceIte, reduceCtorEq, Nat.reduceBEq, Int.reduceLT, Int.reduceToNat, Int.reducePow, Nat.reduceLeDiff, Int.reduceLE, Nat.reduceMul, Nat.reduceSub, slotsBy, boxesBy, tipsBy, rawAt, nm, AV.ren, AV.renL, AV.under, AV.underL, List.all_nil, List.all_cons, bne_self_eq_false, List.getD_cons_zero, List.getD_cons_succ, List.length_nil, List.length_cons, and_true, true_and, codesC, codeC, List.map_append]
            · trivial
            · simp only [go_sem, Nat.reduceAdd, Nat.reduceEqDiff, Nat.reduceLT, reduceIte, reduceCtorEq, Nat.reduceBEq, Int.reduceLT, Int.reduceToNat, Int.reducePow, Nat.reduceLeDiff, Int.reduceLE, Nat.reduceMul, Nat.reduceSub, slotsBy, boxesBy, tipsBy, rawAt, nm, AV.ren, AV.renL, AV.under, AV.underL, List.all_nil, List.all_cons, bne_self_eq_false, List.getD_cons_zero, List.getD_cons_succ, List.length_nil, List.length_cons, and_true, true_and, beq_self_eq_true]
            · simp
            · simp only [cnt, go_sem, Nat.reduceAdd, Nat.reduceEqDiff, Nat.reduceLT, reduceIte, reduceCtorEq, Nat.reduceBEq, Int.reduceLT, Int.reduceToNat, Int.reducePow, Nat.reduceLeDiff, Int.reduceLE, Nat.reduceMul, Nat.reduceSub, Int.toNat_natCast]; omega
          · have hnx' : nx (b.drop i) = (65533, if k = 0 then 1 else k, false) := by rw [hdc]; exact hnx
            rw [hnx'] at hcd
            by_cases hk0 : k = 0
            · subst hk0
              have d1 : decide (((0 : Nat) : Int) > 0) = false := rfl
              have b1 : (((0 : Nat) : Int) == 0) = true := rfl
              have hw4 : IntKind.i64.wrap ((i : Int) + 1) = ((i + 1 : Nat) : Int) := by rw [wrap_i64 _ (by omega) (by omega)]; omega
              simp only [d1, b1, hw4, codesC_length, Value.oneCell', go_sem, Nat.reduceAdd, Nat.reduceEqDiff, Nat.reduceLT, reduceIte, reduceCtorEq, Nat.reduceBEq, Int.reduceLT, Int.reduceToNat, Int.reducePow, Nat.reduceLeDiff, Int.reduceLE, Nat.reduceMul, Nat.reduceSub]
              refine ⟨by omega, _, weak_by [2] (by simp) rfl ?_ ?_ ?_ ?_, ⟨i + 1, acc ++ [(65533, i, i + 1, false)], by omega, by simp only [List.length_append, List.length_cons, List.length_nil]; omega, by rw [hcut, hcd]; simp, rfl⟩, ?_⟩
              · simp only [go_sem, Nat.reduceAdd, Nat.reduceEqDiff, Nat.reduceLT, reduceIte, reduceCtorEq, Nat.reduceBEq, Int.reduceLT, Int.reduceToNat, Int.reducePow, Nat.reduceLeDiff, Int.reduceLE, Nat.reduceMul, Nat.reduceSub, slotsBy, boxesBy, tipsBy, rawAt, nm, AV.ren, AV.renL, AV.under, AV.underL, List.all_nil, List.all_cons, bne_self_eq_false, List.getD_cons_zero, List.getD_cons_succ, List.length_nil, List.length_cons, and_true, true_and, codesC, codeC, List.map_append]; rfl
              · trivial
              · simp only [go_sem, Nat.reduceAdd, Nat.reduceEqDiff, Nat.reduceLT, reduceIte, reduceCtorEq, Nat.reduceBEq, Int.reduceLT, Int.reduceToNat, Int.reducePow, Nat.reduceLeDiff, Int.reduceLE, Nat.reduceMul, Nat.reduceSub, slotsBy, boxesBy, tipsBy, rawAt, nm, AV.ren, AV.renL, AV.under, AV.underL, List.all_nil, List.all_cons, bne_self_eq_false, List.getD_cons_zero, List.getD_cons_succ, List.length_nil, List.length_cons, and_true, true_and, beq_self_eq_true]
              · simp
              · simp only [cnt, go_sem, Nat.reduceAdd, Nat.reduceEqDiff, Nat.reduceLT, reduceIte, reduceCtorEq, Nat.reduceBEq, Int.reduceLT, Int.reduceToNat, Int.reducePow, Nat.reduceLeDiff, Int.reduceLE, Nat.reduceMul, Nat.reduceSub, Int.toNat_natCast]; omega
            · rw [if_neg hk0] at hcd
              have d1 : decide ((k : Int) > 0) = true := by simp only [decide_eq_true_eq]; omega
              have b0 : (((longN b[i] : Nat) : Int) == (k : Int)) = false := by simp only [beq_eq_false_iff_ne, ne_eq]; omega
              have b1 : (((k : Nat) : Int) == 0) = false := by simp only [beq_eq_false_iff_ne, ne_eq]; omega
              simp only [d1, go_sem, Nat.reduceAdd, Nat.reduceEqDiff, Nat.reduceLT, reduceIte, reduceCtorEq, Nat.reduceBEq, Int.reduceLT, Int.reduceToNat, Int.reducePow, Nat.reduceLeDiff, Int.reduceLE, Nat.reduceMul, Nat.reduceSub, Int.natCast_nonneg, Int.toNat_natCast, hg]
              refine callGo_pure (long_pure b[i]) (by rfl) ?_
              simp only [b0, b1, hw1, codesC_length, Value.oneCell', go_sem, Nat.reduceAdd, Nat.reduceEqDiff, Nat.reduceLT, reduceIte, reduceCtorEq, Nat.reduceBEq, Int.reduceLT, Int.reduceToNat, Int.reducePow, Nat.reduceLeDiff, Int.reduceLE, Nat.reduceMul, Nat.reduceSub]
              refine ⟨by omega, _, weak_by [2] (by simp) rfl ?_ ?_ ?_ ?_, ⟨i + k, acc ++ [(65533, i, i + k, false)], by omega, by simp only [List.length_append, List.length_cons, List.length_nil]; omega, by rw [hcut, hcd]; simp, rfl⟩, ?_⟩
              · simp only [go_sem, Nat.reduceAdd, Nat.reduceEqDiff, Nat.reduceLT, reduceIte, reduceCtorEq, Nat.reduceBEq, Int.reduceLT, Int.reduceToNat, Int.reducePow, Nat.reduceLeDiff, Int.reduceLE, Nat.reduceMul, Nat.reduceSub, slotsBy, boxesBy, tipsBy, rawAt, nm, AV.ren, AV.renL, AV.under, AV.underL, List.all_nil, List.all_cons, bne_self_eq_false, List.getD_cons_zero, List.getD_cons_succ, List.length_nil, List.length_cons, and_true, true_and, codesC, codeC, List.map_append]; rfl
              · trivial
              · simp only [go_sem, Nat.reduceAdd, Nat.reduceEqDiff, Nat.reduceLT, reduceIte, reduceCtorEq, Nat.reduceBEq, Int.reduceLT, Int.reduceToNat, Int.reducePow, Nat.reduceLeDiff, Int.reduceLE, Nat.reduceMul, Nat.reduceSub, slotsBy, boxesBy, tipsBy, rawAt, nm, AV.ren, AV.renL, AV.under, AV.underL, List.all_nil, List.all_cons, bne_self_eq_false, List.getD_cons_zero, List.getD_cons_succ, List.length_nil, List.length_cons, and_true, true_and, beq_self_eq_true]
              · simp
              · simp only [cnt, go_sem, Nat.reduceAdd, Nat.reduceEqDiff, Nat.reduceLT, reduceIte, reduceCtorEq, Nat.reduceBEq, Int.reduceLT, Int.reduceToNat, Int.reducePow, Nat.reduceLeDiff, Int.reduceLE, Nat.reduceMul, Nat.reduceSub, Int.toNat_natCast]; omega
    · subst heq
      simp only [dec_irr, go_sem, Nat.reduceAdd, Nat.reduceEqDiff, Nat.reduceLT, reduceIte, reduceCtorEq, Nat.reduceBEq, Int.reduceLT, Int.reduceToNat, Int.reducePow, Nat.reduceLeDiff, Int.reduceLE, Nat.reduceMul, Nat.reduceSub]
      refine ⟨.inr rfl, 0, ?_, by simp [go_sem, Nat.reduceAdd, Nat.reduceEqDiff, Nat.reduceLT, reduceIte, reduceCtorEq, Nat.reduceBEq, Int.reduceLT, Int.reduceToNat, Int.reducePow, Nat.reduceLeDiff, Int.reduceLE, Nat.reduceMul, Nat.reduceSub]⟩
      rw [List.drop_length] at hcut
      rw [hcut]
      simp only [resAV, resL, resOne, go_sem, Nat.reduceAdd, Nat.reduceEqDiff, Nat.reduceLT, reduceIte, reduceCtorEq, Nat.reduceBEq, Int.reduceLT, Int.reduceToNat, Int.reducePow, Nat.reduceLeDiff, Int.reduceLE, Nat.reduceMul, Nat.reduceSub, cut_nil, List.append_nil]
end Go.Proofs.Yteekelelcbfekaa
