/-
The first bytes of codes, and the code that bytes begin with. Conditions: none.
-/
import Derived.Test.YtbnaepdeakcljaaBas
set_option linter.unusedSimpArgs false
set_option linter.unusedVariables false
set_option linter.unusedSectionVars false
namespace Go.Proofs.Ytbnaepdeakcljaa
open Go Go.Ab
def a63 : ACode :=
  (.seq (.reg [⟨(.some 2), (.alc 85 [(.int .i64 0), (.int .u8 0), (.int .u8 0), (.int .u8 0)]), .none⟩]) (.seq (.block 0 (.seq (.reg [⟨(.some 4), (.mv (.t 0)), .none⟩, ⟨(.some 5), (.bin .leq (.t 4) (.k
  (.int .u8 127))), .none⟩, ⟨(.some 3), (.mv (.t 5)), .none⟩]) (.cond (.t 3) (.seq (.reg [⟨(.some 6), (.mv (.t 0)), .none⟩, ⟨(.some 7), (.bd [(.int .i64 0), (.int .u8 0), (.int .u8 0), (.int .u8 0)]
  [(0, (1, (.k (.int .i64 0)))), (1, (1, (.t 6))), (2, (1, (.k (.int .u8 128)))), (3, (1, (.k (.int .u8 191))))]), .none⟩, ⟨.none, (.st 4 (.t 2) (.t 7)), .none⟩]) .ret) (.seq (.reg [⟨(.some 9), (.mv (.t
  0)), .none⟩, ⟨(.some 10), (.bin .geq (.t 9) (.k (.int .u8 194))), .none⟩, ⟨(.some 11), (.mv (.t 10)), .none⟩, ⟨(.some 12), (.mv (.t 0)), (.some (11, true))⟩, ⟨(.some 13), (.bin .leq (.t 12) (.k (.int
  .u8 223))), (.some (11, true))⟩, ⟨(.some 14), (.pick (.t 11) (.t 13) (.k (.bool false))), .none⟩, ⟨(.some 8), (.mv (.t 14)), .none⟩]) (.cond (.t 8) (.seq (.reg [⟨(.some 15), (.mv (.t 0)), .none⟩,
  ⟨(.some 16), (.bin .and (.t 15) (.k (.int .u8 31))), .none⟩, ⟨(.some 17), (.bd [(.int .i64 0), (.int .u8 0), (.int .u8 0), (.int .u8 0)] [(0, (1, (.k (.int .i64 1)))), (1, (1, (.t 16))), (2, (1, (.k
  (.int .u8 128)))), (3, (1, (.k (.int .u8 191))))]), .none⟩, ⟨.none, (.st 4 (.t 2) (.t 17)), .none⟩]) .ret) (.seq (.reg [⟨(.some 19), (.mv (.t 0)), .none⟩, ⟨(.some 20), (.bin .eql (.t 19) (.k (.int .u8
  224))), .none⟩, ⟨(.some 18), (.mv (.t 20)), .none⟩]) (.cond (.t 18) (.seq (.reg [⟨(.some 21), (.bd [(.int .i64 0), (.int .u8 0), (.int .u8 0), (.int .u8 0)] [(0, (1, (.k (.int .i64 2)))), (1, (1, (.k
  (.int .u8 0)))), (2, (1, (.k (.int .u8 160)))), (3, (1, (.k (.int .u8 191))))]), .none⟩, ⟨.none, (.st 4 (.t 2) (.t 21)), .none⟩]) .ret) (.seq (.reg [⟨(.some 23), (.mv (.t 0)), .none⟩, ⟨(.some 24),
  (.bin .eql (.t 23) (.k (.int .u8 237))), .none⟩, ⟨(.some 22), (.mv (.t 24)), .none⟩]) (.cond (.t 22) (.seq (.reg [⟨(.some 25), (.bd [(.int .i64 0), (.int .u8 0), (.int .u8 0), (.int .u8 0)] [(0, (1,
  (.k (.int .i64 2)))), (1, (1, (.k (.int .u8 13)))), (2, (1, (.k (.int .u8 128)))), (3, (1, (.k (.int .u8 159))))]), .none⟩, ⟨.none, (.st 4 (.t 2) (.t 25)), .none⟩]) .ret) (.seq (.reg [⟨(.some 27),
  (.mv (.t 0)), .none⟩, ⟨(.some 28), (.bin .geq (.t 27) (.k (.int .u8 225))), .none⟩, ⟨(.some 29), (.mv (.t 28)), .none⟩, ⟨(.some 30), (.mv (.t 0)), (.some (29, true))⟩, ⟨(.some 31), (.bin .leq (.t 30)
  (.k (.int .u8 239))), (.some (29, true))⟩, ⟨(.some 32), (.pick (.t 29) (.t 31) (.k (.bool false))), .none⟩, ⟨(.some 26), (.mv (.t 32)), .none⟩]) (.cond (.t 26) (.seq (.reg [⟨(.some 33), (.mv (.t 0)),
  .none⟩, ⟨(.some 34), (.bin .and (.t 33) (.k (.int .u8 15))), .none⟩, ⟨(.some 35), (.bd [(.int .i64 0), (.int .u8 0), (.int .u8 0), (.int .u8 0)] [(0, (1, (.k (.int .i64 2)))), (1, (1, (.t 34))), (2,
  (1, (.k (.int .u8 128)))), (3, (1, (.k (.int .u8 191))))]), .none⟩, ⟨.none, (.st 4 (.t 2) (.t 35)), .none⟩]) .ret) (.seq (.reg [⟨(.some 37), (.mv (.t 0)), .none⟩, ⟨(.some 38), (.bin .eql (.t 37) (.k
  (.int .u8 240))), .none⟩, ⟨(.some 36), (.mv (.t 38)), .none⟩]) (.cond (.t 36) (.seq (.reg [⟨(.some 39), (.bd [(.int .i64 0), (.int .u8 0), (.int .u8 0), (.int .u8 0)] [(0, (1, (.k (.int .i64 3)))),
  (1, (1, (.k (.int .u8 0)))), (2, (1, (.k (.int .u8 144)))), (3, (1, (.k (.int .u8 191))))]), .none⟩, ⟨.none, (.st 4 (.t 2) (.t 39)), .none⟩]) .ret) (.seq (.reg [⟨(.some 41), (.mv (.t 0)), .none⟩,
  ⟨(.some 42), (.bin .eql (.t 41) (.k (.int .u8 244))), .none⟩, ⟨(.some 40), (.mv (.t 42)), .none⟩]) (.cond (.t 40) (.seq (.reg [⟨(.some 43), (.bd [(.int .i64 0), (.int .u8 0), (.int .u8 0), (.int .u8
  0)] [(0, (1, (.k (.int .i64 3)))), (1, (1, (.k (.int .u8 4)))), (2, (1, (.k (.int .u8 128)))), (3, (1, (.k (.int .u8 143))))]), .none⟩, ⟨.none, (.st 4 (.t 2) (.t 43)), .none⟩]) .ret) (.seq (.reg
  [⟨(.some 45), (.mv (.t 0)), .none⟩, ⟨(.some 46), (.bin .geq (.t 45) (.k (.int .u8 241))), .none⟩, ⟨(.some 47), (.mv (.t 46)), .none⟩, ⟨(.some 48), (.mv (.t 0)), (.some (47, true))⟩, ⟨(.some 49), (.bin
  .leq (.t 48) (.k (.int .u8 243))), (.some (47, true))⟩, ⟨(.some 50), (.pick (.t 47) (.t 49) (.k (.bool false))), .none⟩, ⟨(.some 44), (.mv (.t 50)), .none⟩]) (.cond (.t 44) (.seq (.reg [⟨(.some 51),
  (.mv (.t 0)), .none⟩, ⟨(.some 52), (.bin .and (.t 51) (.k (.int .u8 7))), .none⟩, ⟨(.some 53), (.bd [(.int .i64 0), (.int .u8 0), (.int .u8 0), (.int .u8 0)] [(0, (1, (.k (.int .i64 3)))), (1, (1, (.t
  52))), (2, (1, (.k (.int .u8 128)))), (3, (1, (.k (.int .u8 191))))]), .none⟩, ⟨.none, (.st 4 (.t 2) (.t 53)), .none⟩]) .ret) .skip))))))))))))))))) (.seq (.reg [⟨(.some 54), (.bd [(.int .i64 0),
  (.int .u8 0), (.int .u8 0), (.int .u8 0)] []), .none⟩, ⟨.none, (.st 4 (.t 2) (.t 54)), .none⟩]) .ret)))
theorem c63 : Try.f63.body.bind (cCode Try.prog 55) = some a63 := by kernel_rfl
theorem r63 : Try.f63.results.toList = [(.cell 2 85)] := by kernel_rfl
theorem n63 : Try.f63.ntmps = 55 := by kernel_rfl
theorem e63 : Enters Try.prog 63 := enters_of Try.func63 (by kernel_rfl) (by kernel_rfl)

/-- What a first byte asks for: how many behind it, its own bits, from where to where the next one may be. -/
def behindOf (c : Nat) : Nat := if c ≤ 127 then 0 else if 194 ≤ c ∧ c ≤ 223 then 1 else if 224 ≤ c ∧ c ≤ 239 then 2 else if 240 ≤ c ∧ c ≤ 244 then 3 else 0
def bitsOf (c : Nat) : Nat := if c ≤ 127 then c else if 194 ≤ c ∧ c ≤ 223 then c - 192 else if 224 ≤ c ∧ c ≤ 239 then c - 224 else if 240 ≤ c ∧ c ≤ 244 then c - 240 else 0
def leadB (c : Nat) : Bool := decide (c ≤ 127) || (decide (194 ≤ c) && decide (c ≤ 244))
def lowOf (c : Nat) : Nat := if leadB c = false then 0 else if c = 224 then 160 else if c = 240 then 144 else 128
def topOf (c : Nat) : Nat := if leadB c = false then 0 else if c = 237 then 159 else if c = 244 then 143 else 191
def firstC (c : Nat) : List AV := [.lit (.int .i64 (behindOf c : Nat)), .lit (.int .u8 (bitsOf c : Nat)), .lit (.int .u8 (lowOf c : Nat)), .lit (.int .u8 (topOf c : Nat))]

theorem first_info : (Try.prog.info? 85).map (·.size) = some 4 := by kernel_rfl
theorem first_agg : aggB Try.prog 85 = true := by kernel_rfl

theorem andI_31 (c : Nat) (hc : c < 256) : andI .u8 c 31 = ((c % 32 : Nat) : Int) := by have := andI_u8 c 31 hc (by omega); rw [and_31] at this; exact this
theorem andI_15 (c : Nat) (hc : c < 256) : andI .u8 c 15 = ((c % 16 : Nat) : Int) := by have := andI_u8 c 15 hc (by omega); rw [and_15] at this; exact this
theorem andI_7 (c : Nat) (hc : c < 256) : andI .u8 c 7 = ((c % 8 : Nat) : Int) := by have := andI_u8 c 7 hc (by omega); rw [and_7] at this; exact this
theorem andI_63 (c : Nat) (hc : c < 256) : andI .u8 c 63 = ((c % 64 : Nat) : Int) := by have := andI_u8 c 63 hc (by omega); rw [and_63] at this; exact this

theorem firstC_under (c : Nat) : (AV.ag (firstC c)).under 0 = true := by simp [firstC, AV.under, AV.underL]

theorem first_done {c : Nat} {s : State} (b k l t : Nat) (h : Go.Ab.look s.slots 2 = some (.bp 0 0)) (hb : boxAt s.boxes 0 = some [.lit (.int .i64 b), .lit (.int .u8 k), .lit (.int .u8 l), .lit (.int .u8 t)])
    (e : behindOf c = b ∧ bitsOf c = k ∧ lowOf c = l ∧ topOf c = t) : Done Try.prog [.cell 2 85] (.ag (firstC c)) .ret s := by
  obtain ⟨rfl, rfl, rfl, rfl⟩ := e
  exact ⟨.inr rfl, resAV_one (resOne_ag (id := 0) first_info first_agg h hb rfl)⟩

theorem lead_t {c : Nat} (h : c ≤ 127 ∨ 194 ≤ c ∧ c ≤ 244) : leadB c = true := by simp only [leadB, Bool.or_eq_true, Bool.and_eq_true, decide_eq_true_eq]; exact h
theorem lead_f {c : Nat} (h : ¬(c ≤ 127 ∨ 194 ≤ c ∧ c ≤ 244)) : leadB c = false := by rw [Bool.eq_false_iff]; simp only [leadB, ne_eq, Bool.or_eq_true, Bool.and_eq_true, decide_eq_true_eq]; exact h
theorem f1 {c : Nat} (h : c ≤ 127) : behindOf c = 0 ∧ bitsOf c = c ∧ lowOf c = 128 ∧ topOf c = 191 := by
  have := lead_t (.inl h)
  simp only [behindOf, bitsOf, lowOf, topOf, this, if_pos h, Bool.true_eq_false, if_false]
  rw [if_neg (by omega), if_neg (by omega), if_neg (by omega), if_neg (by omega)]; simp
theorem f2 {c : Nat} (h1 : 194 ≤ c) (h2 : c ≤ 223) : behindOf c = 1 ∧ bitsOf c = c % 32 ∧ lowOf c = 128 ∧ topOf c = 191 := by
  have := lead_t (c := c) (.inr ⟨h1, by omega⟩)
  simp only [behindOf, bitsOf, lowOf, topOf, this, if_neg (show ¬ c ≤ 127 by omega), if_pos (show 194 ≤ c ∧ c ≤ 223 from ⟨h1, h2⟩), Bool.true_eq_false, if_false]
  rw [if_neg (by omega), if_neg (by omega), if_neg (by omega), if_neg (by omega)]; refine ⟨trivial, by omega, rfl, rfl⟩
theorem f3 {c : Nat} (h1 : 224 ≤ c) (h2 : c ≤ 239) : behindOf c = 2 ∧ bitsOf c = c % 16 ∧ lowOf c = (if c = 224 then 160 else 128) ∧ topOf c = (if c = 237 then 159 else 191) := by
  have := lead_t (c := c) (.inr ⟨by omega, by omega⟩)
  simp only [behindOf, bitsOf, lowOf, topOf, this, if_neg (show ¬ c ≤ 127 by omega), if_neg (show ¬ (194 ≤ c ∧ c ≤ 223) by omega), if_pos (show 224 ≤ c ∧ c ≤ 239 from ⟨h1, h2⟩), Bool.true_eq_false, if_false]
  rw [if_neg (show ¬ c = 240 by omega), if_neg (show ¬ c = 244 by omega)]; refine ⟨trivial, by omega, rfl, rfl⟩
theorem f4 {c : Nat} (h1 : 240 ≤ c) (h2 : c ≤ 244) : behindOf c = 3 ∧ bitsOf c = c % 8 ∧ lowOf c = (if c = 240 then 144 else 128) ∧ topOf c = (if c = 244 then 143 else 191) := by
  have := lead_t (c := c) (.inr ⟨by omega, by omega⟩)
  simp only [behindOf, bitsOf, lowOf, topOf, this, if_neg (show ¬ c ≤ 127 by omega), if_neg (show ¬ (194 ≤ c ∧ c ≤ 223) by omega), if_neg (show ¬ (224 ≤ c ∧ c ≤ 239) by omega), if_pos (show 240 ≤ c ∧ c ≤ 244 from ⟨h1, h2⟩), Bool.true_eq_false, if_false]
  rw [if_neg (show ¬ c = 224 by omega), if_neg (show ¬ c = 237 by omega)]; refine ⟨trivial, by omega, rfl, rfl⟩
theorem f5 {c : Nat} (h : ¬(c ≤ 127 ∨ 194 ≤ c ∧ c ≤ 244)) : behindOf c = 0 ∧ bitsOf c = 0 ∧ lowOf c = 0 ∧ topOf c = 0 := by
  have := lead_f h
  simp only [behindOf, bitsOf, lowOf, topOf, this, if_neg (show ¬ c ≤ 127 by omega), if_neg (show ¬ (194 ≤ c ∧ c ≤ 223) by omega), if_neg (show ¬ (224 ≤ c ∧ c ≤ 239) by omega), if_neg (show ¬ (240 ≤ c ∧ c ≤ 244) by omega), if_true]
  simp

set_option maxRecDepth 10000 in
theorem of_pure (c : Nat) (hc : c ≤ 255) : Pure Try.prog 63 [.lit (.int .u8 (c : Int))] [] (.ag (firstC c)) := by
  refine pure0 Try.func63 c63 n63 e63 r63 (by simp) (firstC_under c) ?_
  simp only [a63, astart, argSlots, go_sem, Nat.reduceAdd, Nat.reduceEqDiff, Nat.reduceLT, reduceIte, reduceCtorEq, Nat.reduceBEq, Int.reduceLT, Int.reduceToNat, Int.reducePow, Nat.reduceLeDiff, Int.reduceLE, Nat.reduceMul, Nat.reduceSub]
  refine cGo_split (fun h => ?_) (fun h0 => ?_)
  · simp only [decide_eq_true_eq] at h
    simp only [go_sem, Nat.reduceAdd, Nat.reduceEqDiff, Nat.reduceLT, reduceIte, reduceCtorEq, Nat.reduceBEq, Int.reduceLT, Int.reduceToNat, Int.reducePow, Nat.reduceLeDiff, Int.reduceLE, Nat.reduceMul, Nat.reduceSub]
    exact first_done 0 c 128 191 rfl rfl (f1 (by omega))
  simp only [decide_eq_false_iff_not] at h0
  simp only [go_sem, Nat.reduceAdd, Nat.reduceEqDiff, Nat.reduceLT, reduceIte, reduceCtorEq, Nat.reduceBEq, Int.reduceLT, Int.reduceToNat, Int.reducePow, Nat.reduceLeDiff, Int.reduceLE, Nat.reduceMul, Nat.reduceSub]
  refine gGo_splitT (fun h => ?_) (fun h => ?_) <;> (try simp only [decide_eq_true_eq, decide_eq_false_iff_not] at h)
  · simp only [h, go_sem, Nat.reduceAdd, Nat.reduceEqDiff, Nat.reduceLT, reduceIte, reduceCtorEq, Nat.reduceBEq, Int.reduceLT, Int.reduceToNat, Int.reducePow, Nat.reduceLeDiff, Int.reduceLE, Nat.reduceMul, Nat.reduceSub]
    refine cGo_split (fun h1 => ?_) (fun h1 => ?_) <;> (try simp only [decide_eq_true_eq, decide_eq_false_iff_not] at h1)
    · simp only [go_sem, Nat.reduceAdd, Nat.reduceEqDiff, Nat.reduceLT, reduceIte, reduceCtorEq, Nat.reduceBEq, Int.reduceLT, Int.reduceToNat, Int.reducePow, Nat.reduceLeDiff, Int.reduceLE, Nat.reduceMul, Nat.reduceSub, andI_31 c (by omega)]
      exact first_done 1 (c % 32) 128 191 rfl rfl (f2 (by omega) (by omega))
    simp only [go_sem, Nat.reduceAdd, Nat.reduceEqDiff, Nat.reduceLT, reduceIte, reduceCtorEq, Nat.reduceBEq, Int.reduceLT, Int.reduceToNat, Int.reducePow, Nat.reduceLeDiff, Int.reduceLE, Nat.reduceMul, Nat.reduceSub]
    refine cGo_split (fun h2 => ?_) (fun h2 => ?_) <;> (try simp only [beq_iff_eq, beq_eq_false_iff_ne, ne_eq] at h2)
    · simp only [go_sem, Nat.reduceAdd, Nat.reduceEqDiff, Nat.reduceLT, reduceIte, reduceCtorEq, Nat.reduceBEq, Int.reduceLT, Int.reduceToNat, Int.reducePow, Nat.reduceLeDiff, Int.reduceLE, Nat.reduceMul, Nat.reduceSub]
      have e : c = 224 := by omega
      subst e
      exact first_done 2 0 160 191 rfl rfl (f3 (by omega) (by omega))
    simp only [go_sem, Nat.reduceAdd, Nat.reduceEqDiff, Nat.reduceLT, reduceIte, reduceCtorEq, Nat.reduceBEq, Int.reduceLT, Int.reduceToNat, Int.reducePow, Nat.reduceLeDiff, Int.reduceLE, Nat.reduceMul, Nat.reduceSub]
    refine cGo_split (fun h3 => ?_) (fun h3 => ?_) <;> (try simp only [beq_iff_eq, beq_eq_false_iff_ne, ne_eq] at h3)
    · simp only [go_sem, Nat.reduceAdd, Nat.reduceEqDiff, Nat.reduceLT, reduceIte, reduceCtorEq, Nat.reduceBEq, Int.reduceLT, Int.reduceToNat, Int.reducePow, Nat.reduceLeDiff, Int.reduceLE, Nat.reduceMul, Nat.reduceSub]
      have e : c = 237 := by omega
      subst e
      exact first_done 2 13 128 159 rfl rfl (f3 (by omega) (by omega))
    simp only [go_sem, Nat.reduceAdd, Nat.reduceEqDiff, Nat.reduceLT, reduceIte, reduceCtorEq, Nat.reduceBEq, Int.reduceLT, Int.reduceToNat, Int.reducePow, Nat.reduceLeDiff, Int.reduceLE, Nat.reduceMul, Nat.reduceSub]
    have g4 : decide ((c : Int) ≥ 225) = true := by simp only [decide_eq_true_eq]; omega
    simp only [g4, go_sem, Nat.reduceAdd, Nat.reduceEqDiff, Nat.reduceLT, reduceIte, reduceCtorEq, Nat.reduceBEq, Int.reduceLT, Int.reduceToNat, Int.reducePow, Nat.reduceLeDiff, Int.reduceLE, Nat.reduceMul, Nat.reduceSub]
    refine cGo_split (fun h5 => ?_) (fun h5 => ?_) <;> (try simp only [decide_eq_true_eq, decide_eq_false_iff_not] at h5)
    · simp only [go_sem, Nat.reduceAdd, Nat.reduceEqDiff, Nat.reduceLT, reduceIte, reduceCtorEq, Nat.reduceBEq, Int.reduceLT, Int.reduceToNat, Int.reducePow, Nat.reduceLeDiff, Int.reduceLE, Nat.reduceMul, Nat.reduceSub, andI_15 c (by omega)]
      have e := f3 (c := c) (by omega) (by omega)
      rw [if_neg (by omega), if_neg (by omega)] at e
      exact first_done 2 (c % 16) 128 191 rfl rfl e
    simp only [go_sem, Nat.reduceAdd, Nat.reduceEqDiff, Nat.reduceLT, reduceIte, reduceCtorEq, Nat.reduceBEq, Int.reduceLT, Int.reduceToNat, Int.reducePow, Nat.reduceLeDiff, Int.reduceLE, Nat.reduceMul, Nat.reduceSub]
    refine cGo_split (fun h6 => ?_) (fun h6 => ?_) <;> (try simp only [beq_iff_eq, beq_eq_false_iff_ne, ne_eq] at h6)
    · simp only [go_sem, Nat.reduceAdd, Nat.reduceEqDiff, Nat.reduceLT, reduceIte, reduceCtorEq, Nat.reduceBEq, Int.reduceLT, Int.reduceToNat, Int.reducePow, Nat.reduceLeDiff, Int.reduceLE, Nat.reduceMul, Nat.reduceSub]
      have e : c = 240 := by omega
      subst e
      exact first_done 3 0 144 191 rfl rfl (f4 (by omega) (by omega))
    simp only [go_sem, Nat.reduceAdd, Nat.reduceEqDiff, Nat.reduceLT, reduceIte, reduceCtorEq, Nat.reduceBEq, Int.reduceLT, Int.reduceToNat, Int.reducePow, Nat.reduceLeDiff, Int.reduceLE, Nat.reduceMul, Nat.reduceSub]
    refine cGo_split (fun h7 => ?_) (fun h7 => ?_) <;> (try simp only [beq_iff_eq, beq_eq_false_iff_ne, ne_eq] at h7)
    · simp only [go_sem, Nat.reduceAdd, Nat.reduceEqDiff, Nat.reduceLT, reduceIte, reduceCtorEq, Nat.reduceBEq, Int.reduceLT, Int.reduceToNat, Int.reducePow, Nat.reduceLeDiff, Int.reduceLE, Nat.reduceMul, Nat.reduceSub]
      have e : c = 244 := by omega
      subst e
      exact first_done 3 4 128 143 rfl rfl (f4 (by omega) (by omega))
    simp only [go_sem, Nat.reduceAdd, Nat.reduceEqDiff, Nat.reduceLT, reduceIte, reduceCtorEq, Nat.reduceBEq, Int.reduceLT, Int.reduceToNat, Int.reducePow, Nat.reduceLeDiff, Int.reduceLE, Nat.reduceMul, Nat.reduceSub]
    have g8 : decide ((c : Int) ≥ 241) = true := by simp only [decide_eq_true_eq]; omega
    simp only [g8, go_sem, Nat.reduceAdd, Nat.reduceEqDiff, Nat.reduceLT, reduceIte, reduceCtorEq, Nat.reduceBEq, Int.reduceLT, Int.reduceToNat, Int.reducePow, Nat.reduceLeDiff, Int.reduceLE, Nat.reduceMul, Nat.reduceSub]
    refine cGo_split (fun h9 => ?_) (fun h9 => ?_) <;> (try simp only [decide_eq_true_eq, decide_eq_false_iff_not] at h9)
    · simp only [go_sem, Nat.reduceAdd, Nat.reduceEqDiff, Nat.reduceLT, reduceIte, reduceCtorEq, Nat.reduceBEq, Int.reduceLT, Int.reduceToNat, Int.reducePow, Nat.reduceLeDiff, Int.reduceLE, Nat.reduceMul, Nat.reduceSub, andI_7 c (by omega)]
      have e := f4 (c := c) (by omega) (by omega)
      rw [if_neg (by omega), if_neg (by omega)] at e
      exact first_done 3 (c % 8) 128 191 rfl rfl e
    · simp only [go_sem, Nat.reduceAdd, Nat.reduceEqDiff, Nat.reduceLT, reduceIte, reduceCtorEq, Nat.reduceBEq, Int.reduceLT, Int.reduceToNat, Int.reducePow, Nat.reduceLeDiff, Int.reduceLE, Nat.reduceMul, Nat.reduceSub]
      exact first_done 0 0 0 0 rfl rfl (f5 (by omega))
  · have g2 : ((c : Int) == 224) = false := by simp only [beq_eq_false_iff_ne, ne_eq]; omega
    have g3 : ((c : Int) == 237) = false := by simp only [beq_eq_false_iff_ne, ne_eq]; omega
    have g4 : decide ((c : Int) ≥ 225) = false := by simp only [decide_eq_false_iff_not]; omega
    have g6 : ((c : Int) == 240) = false := by simp only [beq_eq_false_iff_ne, ne_eq]; omega
    have g7 : ((c : Int) == 244) = false := by simp only [beq_eq_false_iff_ne, ne_eq]; omega
    have g8 : decide ((c : Int) ≥ 241) = false := by simp only [decide_eq_false_iff_not]; omega
    have g1 : decide ((c : Int) ≥ 194) = false := by simp only [decide_eq_false_iff_not]; omega
    simp only [g1, g2, g3, g4, g6, g7, g8, go_sem, Nat.reduceAdd, Nat.reduceEqDiff, Nat.reduceLT, reduceIte, reduceCtorEq, Nat.reduceBEq, Int.reduceLT, Int.reduceToNat, Int.reducePow, Nat.reduceLeDiff, Int.reduceLE, Nat.reduceMul, Nat.reduceSub]
    exact first_done 0 0 0 0 rfl rfl (f5 (by omega))

/-- What is behind a first byte: the number, how many bytes there are, and whether they are a scalar's. -/
def goOn : Nat → Nat → Nat → Nat → Nat → List Nat → Nat × Nat × Bool
  | 0, _, _, r, k, _ => (r, k, true)
  | _ + 1, _, _, _, k, [] => (65533, k, false)
  | n + 1, lo, hi, r, k, x :: t => if x < lo ∨ hi < x then (65533, k, false) else goOn n 128 191 (r * 64 + x % 64) (k + 1) t

/-- The code that bytes begin with. -/
def nx : List Nat → Nat × Nat × Bool
  | [] => (65533, 1, false)
  | c :: t => if leadB c = true then goOn (behindOf c) (lowOf c) (topOf c) (bitsOf c) 1 t else (65533, 1, false)

theorem goOn_nil {n lo hi r k : Nat} (hn : 0 < n) : goOn n lo hi r k [] = (65533, k, false) := by
  cases n with
  | zero => omega
  | succ n => rfl
theorem goOn_bad {n lo hi r k x : Nat} {t : List Nat} (hn : 0 < n) (h : x < lo ∨ hi < x) : goOn n lo hi r k (x :: t) = (65533, k, false) := by
  cases n with
  | zero => omega
  | succ n => simp only [goOn, if_pos h]
theorem goOn_fine {n lo hi r k x : Nat} {t : List Nat} (hn : 0 < n) (h : ¬(x < lo ∨ hi < x)) : goOn n lo hi r k (x :: t) = goOn (n - 1) 128 191 (r * 64 + x % 64) (k + 1) t := by
  cases n with
  | zero => omega
  | succ n => simp only [goOn, if_neg h, Nat.add_sub_cancel]

theorem lead_first {c : Nat} (h : leadB c = false) : firstC c = [.lit (.int .i64 0), .lit (.int .u8 0), .lit (.int .u8 0), .lit (.int .u8 0)] := by
  have h' : ¬(c ≤ 127 ∨ 194 ≤ c ∧ c ≤ 244) := fun hh => by rw [lead_t hh] at h; cases h
  obtain ⟨e1, e2, e3, e4⟩ := f5 h'
  simp only [firstC, e1, e2, e3, e4]
  rfl
theorem lead_cases {c : Nat} (h : leadB c = true) : c ≤ 127 ∨ (194 ≤ c ∧ c ≤ 223) ∨ (224 ≤ c ∧ c ≤ 239) ∨ (240 ≤ c ∧ c ≤ 244) := by
  simp only [leadB, Bool.or_eq_true, Bool.and_eq_true, decide_eq_true_eq] at h
  omega
/-- What a first byte asks for, by its kind. -/
theorem first_facts {c : Nat} (h : leadB c = true) : topOf c ≤ 191 ∧ 143 ≤ topOf c ∧ 128 ≤ lowOf c ∧ lowOf c ≤ 160 ∧ behindOf c ≤ 3 ∧ bitsOf c < 128 ∧ (behindOf c = 0 ∨ bitsOf c < 32) := by
  rcases lead_cases h with h | ⟨h1, h2⟩ | ⟨h1, h2⟩ | ⟨h1, h2⟩
  · obtain ⟨e1, e2, e3, e4⟩ := f1 h; omega
  · obtain ⟨e1, e2, e3, e4⟩ := f2 h1 h2; omega
  · obtain ⟨e1, e2, e3, e4⟩ := f3 h1 h2
    rw [e1, e2, e3, e4]; refine ⟨?_, ?_, ?_, ?_, ?_, ?_, ?_⟩ <;> (try split) <;> omega
  · obtain ⟨e1, e2, e3, e4⟩ := f4 h1 h2
    rw [e1, e2, e3, e4]; refine ⟨?_, ?_, ?_, ?_, ?_, ?_, ?_⟩ <;> (try split) <;> omega
end Go.Proofs.Ytbnaepdeakcljaa
