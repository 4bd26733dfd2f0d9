/-
Codes of bytes. Conditions: none.
-/
import Derived.Test.YteekelelcbfekaaDoorSaMa
set_option linter.unusedSimpArgs false
set_option linter.unusedVariables false
set_option linter.unusedSectionVars false

/-! ## Utf1D -/

namespace Go.Proofs.YteekelelcbfekaaDoor
open Go Go.Ab
def a81 : ACode :=
  (.seq (.reg [⟨(.some 2), (.alc 126 [(.int .i64 0), (.int .u8 0), (.int .u8 0), (.int .u8 0)]), .none⟩]) (.seq (.block 0 (.seq (.reg [⟨(.some 4), (.mv (.t 0)), .none⟩, ⟨(.some 5), (.bin .leq (.t 4) (.k
  (.int .u8 127))), .none⟩, ⟨(.some 3), (.mv (.t 5)), .none⟩]) (.cond (.t 3) (.seq (.reg [⟨(.some 6), (.mv (.t 0)), .none⟩, ⟨(.some 7), (.bd [(.int .i64 0), (.int .u8 0), (.int .u8 0), (.int .u8 0)]
  [(0, (1, (.k (.int .i64 0)))), (1, (1, (.t 6))), (2, (1, (.k (.int .u8 128)))), (3, (1, (.k (.int .u8 191))))]), .none⟩, ⟨.none, (.st 4 (.t 2) (.t 7)), .none⟩]) .ret) (.seq (.reg [⟨(.some 9), (.mv (.t
  0)), .none⟩, ⟨(.some 10), (.bin .geq (.t 9) (.k (.int .u8 194))), .none⟩, ⟨(.some 11), (.mv (.t 10)), .none⟩, ⟨(.some 12), (.mv (.t 0)), (.some (11, true))⟩, ⟨(.some 13), (.bin .leq (.t 12) (.k (.int
  .u8 223))), (.some (11, true))⟩, ⟨(.some 14), (.pick (.t 11) (.t 13) (.k (.bool false))), .none⟩, ⟨(.some 8), (.mv (.t 14)), .none⟩]) (.cond (.t 8) (.seq (.reg [⟨(.some 15), (.mv (.t 0)), .none⟩,
  ⟨(.some 16), (.bin .and (.t 15) (.k (.int .u8 31))), .none⟩, ⟨(.some 17), (.bd [(.int .i64 0), (.int .u8 0), (.int .u8 0), (.int .u8 0)] [(0, (1, (.k (.int .i64 1)))), (1, (1, (.t 16))), (2, (1, (.k
  (.int .u8 128)))), (3, (1, (.k (.int .u8 191))))]), .none⟩, ⟨.none, (.st 4 (.t 2) (.t 17)), .none⟩]) .ret) (.seq (.reg [⟨(.some 19), (.mv (.t 0)), .none⟩, ⟨(.some 20), (.bin .eql (.t 19) (.k (.int .u8
  224))), .none⟩, ⟨(.some 18), (.mv (.t 20)), .none⟩]) (.cond (.t 18) (.seq (.reg [⟨(.some 21), (.bd [(.int .i64 0), (.int .u8 0), (.int .u8 0), (.int .u8 0)] [(0, (1, (.k (.int .i64 2)))), (1, (1, (.k
  (.int .u8 0)))), (2, (1, (.k (.int .u8 160)))), (3, (1, (.k (.int .u8 191))))]), .none⟩, ⟨.none, (.st 4 (.t 2) (.t 21)), .none⟩]) .ret) (.seq (.reg [⟨(.some 23), (.mv (.t 0)), .none⟩, ⟨(.some 24),
  (.bin .eql (.t 23) (.k (.int .u8 237))), .none⟩, ⟨(.some 22), (.mv (.t 24)), .none⟩]) (.cond (.t 22) (.seq (.reg [⟨(.some 25), (.bd [(.int .i64 0), (.int .u8 0), (.int .u8 0), (.int .u8 0)] [(0, (1,
  (.k (.int .i64 2)))), (1, (1, (.k (.int .u8 13)))), (2, (1, (.k (.int .u8 128)))), (3, (1, (.k (.int .u8 159))))]), .none⟩, ⟨.none, (.st 4 (.t 2) (.t 25)), .none⟩]) .ret) (.seq (.reg [⟨(.some 27),
  (.mv (.t 0)), .none⟩, ⟨(.some 28), (.bin .geq (.t 27) (.k (.int .u8 225))), .none⟩, ⟨(.some 29), (.mv (.t 28)), .none⟩, ⟨(.some 30), (.mv (.t 0)), (.some (29, true))⟩, ⟨(.some 31), (.bin .leq (.t 30)
  (.k (.int .u8 239))), (.some (29, true))⟩, ⟨(.some 32), (.pick (.t 29) (.t 31) (.k (.bool false))), .none⟩, ⟨(.some 26), (.mv (.t 32)), .none⟩]) (.cond (.t 26) (.seq (.reg [⟨(.some 33), (.mv (.t 0)),
  .none⟩, ⟨(.some 34), (.bin .and (.t 33) (.k (.int .u8 15))), .none⟩, ⟨(.some 35), (.bd [(.int .i64 0), (.int .u8 0), (.int .u8 0), (.int .u8 0)] [(0, (1, (.k (.int .i64 2)))), (1, (1, (.t 34))), (2,
  (1, (.k (.int .u8 128)))), (3, (1, (.k (.int .u8 191))))]), .none⟩, ⟨.none, (.st 4 (.t 2) (.t 35)), .none⟩]) .ret) (.seq (.reg [⟨(.some 37), (.mv (.t 0)), .none⟩, ⟨(.some 38), (.bin .eql (.t 37) (.k
  (.int .u8 240))), .none⟩, ⟨(.some 36), (.mv (.t 38)), .none⟩]) (.cond (.t 36) (.seq (.reg [⟨(.some 39), (.bd [(.int .i64 0), (.int .u8 0), (.int .u8 0), (.int .u8 0)] [(0, (1, (.k (.int .i64 3)))),
  (1, (1, (.k (.int .u8 0)))), (2, (1, (.k (.int .u8 144)))), (3, (1, (.k (.int .u8 191))))]), .none⟩, ⟨.none, (.st 4 (.t 2) (.t 39)), .none⟩]) .ret) (.seq (.reg [⟨(.some 41), (.mv (.t 0)), .none⟩,
  ⟨(.some 42), (.bin .eql (.t 41) (.k (.int .u8 244))), .none⟩, ⟨(.some 40), (.mv (.t 42)), .none⟩]) (.cond (.t 40) (.seq (.reg [⟨(.some 43), (.bd [(.int .i64 0), (.int .u8 0), (.int .u8 0), (.int .u8
  0)] [(0, (1, (.k (.int .i64 3)))), (1, (1, (.k (.int .u8 4)))), (2, (1, (.k (.int .u8 128)))), (3, (1, (.k (.int .u8 143))))]), .none⟩, ⟨.none, (.st 4 (.t 2) (.t 43)), .none⟩]) .ret) (.seq (.reg
  [⟨(.some 45), (.mv (.t 0)), .none⟩, ⟨(.some 46), (.bin .geq (.t 45) (.k (.int .u8 241))), .none⟩, ⟨(.some 47), (.mv (.t 46)), .none⟩, ⟨(.some 48), (.mv (.t 0)), (.some (47, true))⟩, ⟨(.some 49), (.bin
  .leq (.t 48) (.k (.int .u8 243))), (.some (47, true))⟩, ⟨(.some 50), (.pick (.t 47) (.t 49) (.k (.bool false))), .none⟩, ⟨(.some 44), (.mv (.t 50)), .none⟩]) (.cond (.t 44) (.seq (.reg [⟨(.some 51),
  (.mv (.t 0)), .none⟩, ⟨(.some 52), (.bin .and (.t 51) (.k (.int .u8 7))), .none⟩, ⟨(.some 53), (.bd [(.int .i64 0), (.int .u8 0), (.int .u8 0), (.int .u8 0)] [(0, (1, (.k (.int .i64 3)))), (1, (1, (.t
  52))), (2, (1, (.k (.int .u8 128)))), (3, (1, (.k (.int .u8 191))))]), .none⟩, ⟨.none, (.st 4 (.t 2) (.t 53)), .none⟩]) .ret) .skip))))))))))))))))) (.seq (.reg [⟨(.some 54), (.bd [(.int .i64 0),
  (.int .u8 0), (.int .u8 0), (.int .u8 0)] []), .none⟩, ⟨.none, (.st 4 (.t 2) (.t 54)), .none⟩]) .ret)))
theorem c81 : Tryd.f81.body.bind (cCode Tryd.prog 55) = some a81 := by kernel_rfl
theorem r81 : Tryd.f81.results.toList = [(.cell 2 126)] := by kernel_rfl
theorem n81 : Tryd.f81.ntmps = 55 := by kernel_rfl
theorem e81 : Enters Tryd.prog 81 := Go.Ab.enters_of Tryd.func81 (by kernel_rfl) (by kernel_rfl)

/-- What a first byte asks for: how many behind it, its own bits, from where to where the next one may be. -/
def behindOf (c : Nat) : Nat := if c ≤ 127 then 0 else if 194 ≤ c ∧ c ≤ 223 then 1 else if 224 ≤ c ∧ c ≤ 239 then 2 else if 240 ≤ c ∧ c ≤ 244 then 3 else 0
def bitsOf (c : Nat) : Nat := if c ≤ 127 then c else if 194 ≤ c ∧ c ≤ 223 then c - 192 else if 224 ≤ c ∧ c ≤ 239 then c - 224 else if 240 ≤ c ∧ c ≤ 244 then c - 240 else 0
def leadB (c : Nat) : Bool := decide (c ≤ 127) || (decide (194 ≤ c) && decide (c ≤ 244))
def lowOf (c : Nat) : Nat := if leadB c = false then 0 else if c = 224 then 160 else if c = 240 then 144 else 128
def topOf (c : Nat) : Nat := if leadB c = false then 0 else if c = 237 then 159 else if c = 244 then 143 else 191
def firstC (c : Nat) : List AV := [.lit (.int .i64 (behindOf c : Nat)), .lit (.int .u8 (bitsOf c : Nat)), .lit (.int .u8 (lowOf c : Nat)), .lit (.int .u8 (topOf c : Nat))]

theorem first_info : (Tryd.prog.info? 126).map (·.size) = some 4 := by kernel_rfl
theorem first_agg : aggB Tryd.prog 126 = true := by kernel_rfl

theorem andI_31 (c : Nat) (hc : c < 256) : andI .u8 c 31 = ((c % 32 : Nat) : Int) := by have := andI_u8 c 31 hc (by omega); rw [and_31] at this; exact this
theorem andI_15 (c : Nat) (hc : c < 256) : andI .u8 c 15 = ((c % 16 : Nat) : Int) := by have := andI_u8 c 15 hc (by omega); rw [and_15] at this; exact this
theorem andI_7 (c : Nat) (hc : c < 256) : andI .u8 c 7 = ((c % 8 : Nat) : Int) := by have := andI_u8 c 7 hc (by omega); rw [and_7] at this; exact this
theorem andI_63 (c : Nat) (hc : c < 256) : andI .u8 c 63 = ((c % 64 : Nat) : Int) := by have := andI_u8 c 63 hc (by omega); rw [and_63] at this; exact this

theorem firstC_under (c : Nat) : (AV.ag (firstC c)).under 0 = true := by simp [firstC, AV.under, AV.underL]

theorem first_done {c : Nat} {s : State} (b k l t : Nat) (h : Go.Ab.look s.slots 2 = some (.bp 0 0)) (hb : boxAt s.boxes 0 = some [.lit (.int .i64 b), .lit (.int .u8 k), .lit (.int .u8 l), .lit (.int .u8 t)])
    (e : behindOf c = b ∧ bitsOf c = k ∧ lowOf c = l ∧ topOf c = t) : Done Tryd.prog [.cell 2 126] (.ag (firstC c)) .ret s := by
  obtain ⟨rfl, rfl, rfl, rfl⟩ := e
  exact ⟨.inr rfl, resAV_one (resOne_ag (id := 0) first_info first_agg h hb rfl)⟩

theorem lead_t {c : Nat} (h : c ≤ 127 ∨ 194 ≤ c ∧ c ≤ 244) : leadB c = true := by simp only [leadB, Bool.or_eq_true, Bool.and_eq_true, decide_eq_true_eq]; exact h
theorem lead_f {c : Nat} (h : ¬(c ≤ 127 ∨ 194 ≤ c ∧ c ≤ 244)) : leadB c = false := by rw [Bool.eq_false_iff]; simp only [leadB, ne_eq, Bool.or_eq_true, Bool.and_eq_true, decide_eq_true_eq]; exact h
theorem f1 {c : Nat} (h : c ≤ 127) : behindOf c = 0 ∧ bitsOf c = c ∧ lowOf c = 128 ∧ topOf c = 191 := by
  have := lead_t (.inl h)
  simp only [behindOf, bitsOf, lowOf, topOf, this, if_pos h, Bool.true_eq_false, if_false]
  rw [if_neg (by omega), if_neg (by omega), if_neg (by omega), if_neg (by omega)]; simp
theorem f2 {c : Nat} (h1 : 194 ≤ c) (h2 : c ≤ 223) : behindOf c = 1 ∧ bitsOf c = c % 32 ∧ lowOf c = 128 ∧ topOf c = 191 := by
  have := lead_t (c := c) (.inr ⟨h1, by omega⟩)
  simp only [behindOf, bitsOf, lowOf, topOf, this, if_neg (show ¬ c ≤ 127 by omega), if_pos (show 194 ≤ c ∧ c ≤ 223 from ⟨h1, h2⟩), Bool.true_eq_false, if_false]
  rw [if_neg (by omega), if_neg (by omega), if_neg (by omega), if_neg (by omega)]; refine ⟨trivial, by omega, rfl, rfl⟩
theorem f3 {c : Nat} (h1 : 224 ≤ c) (h2 : c ≤ 239) : behindOf c = 2 ∧ bitsOf c = c % 16 ∧ lowOf c = (if c = 224 then 160 else 128) ∧ topOf c = (if c = 237 then 159 else 191) := by
  have := lead_t (c := c) (.inr ⟨by omega, by omega⟩)
  simp only [behindOf, bitsOf, lowOf, topOf, this, if_neg (show ¬ c ≤ 127 by omega), if_neg (show ¬ (194 ≤ c ∧ c ≤ 223) by omega), if_pos (show 224 ≤ c ∧ c ≤ 239 from ⟨h1, h2⟩), Bool.true_eq_false, if_false]
  rw [if_neg (show ¬ c = 240 by omega), if_neg (show ¬ c = 244 by omega)]; refine ⟨trivial, by omega, rfl, rfl⟩
theorem f4 {c : Nat} (h1 : 240 ≤ c) (h2 : c ≤ 244) : behindOf c = 3 ∧ bitsOf c = c % 8 ∧ lowOf c = (if c = 240 then 144 else 128) ∧ topOf c = (if c = 244 then 143 else 191) := by
  have := lead_t (c := c) (.inr ⟨by omega, by omega⟩)
  simp only [behindOf, bitsOf, lowOf, topOf, this, if_neg (show ¬ c ≤ 127 by omega), if_neg (show ¬ (194 ≤ c ∧ c ≤ 223) by omega), if_neg (show ¬ (224 ≤ c ∧ c ≤ 239) by omega), if_pos (show 240 ≤ c ∧ c ≤ 244 from ⟨h1, h2⟩), Bool.true_eq_false, if_false]
  rw [if_neg (show ¬ c = 224 by omega), if_neg (show ¬ c = 237 by omega)]; refine ⟨trivial, by omega, rfl, rfl⟩
theorem f5 {c : Nat} (h : ¬(c ≤ 127 ∨ 194 ≤ c ∧ c ≤ 244)) : behindOf c = 0 ∧ bitsOf c = 0 ∧ lowOf c = 0 ∧ topOf c = 0 := by
  have := lead_f h
  simp only [behindOf, bitsOf, lowOf, topOf, this, if_neg (show ¬ c ≤ 127 by omega), if_neg (show ¬ (194 ≤ c ∧ c ≤ 223) by omega), if_neg (show ¬ (224 ≤ c ∧ c ≤ 239) by omega), if_neg (show ¬ (240 ≤ c ∧ c ≤ 244) by omega), if_true]
  simp

set_option maxRecDepth 10000 in
theorem utfOf_pure (c : Nat) (hc : c ≤ 255) : Pure Tryd.prog 81 [.lit (.int .u8 (c : Int))] [] (.ag (firstC c)) := by
  refine pure0 Tryd.func81 c81 n81 e81 r81 (by simp) (firstC_under c) ?_
  simp only [a81, astart, argSlots, go_sem, Nat.reduceAdd, Nat.reduceEqDiff, Nat.reduceLT, reduceIte, reduceCtorEq, Nat.reduceBEq, Int.reduceLT, Int.reduceToNat, Int.reducePow, Nat.reduceLeDiff, Int.reduceLE, Nat.reduceMul, Nat.reduceSub]
  refine cGo_split (fun h => ?_) (fun h0 => ?_)
  · simp only [decide_eq_true_eq] at h
    simp only [go_sem, Nat.reduceAdd, Nat.reduceEqDiff, Nat.reduceLT, reduceIte, reduceCtorEq, Nat.reduceBEq, Int.reduceLT, Int.reduceToNat, Int.reducePow, Nat.reduceLeDiff, Int.reduceLE, Nat.reduceMul, Nat.reduceSub]
    exact first_done 0 c 128 191 rfl rfl (f1 (by omega))
  simp only [decide_eq_false_iff_not] at h0
  simp only [go_sem, Nat.reduceAdd, Nat.reduceEqDiff, Nat.reduceLT, reduceIte, reduceCtorEq, Nat.reduceBEq, Int.reduceLT, Int.reduceToNat, Int.reducePow, Nat.reduceLeDiff, Int.reduceLE, Nat.reduceMul, Nat.reduceSub]
  refine gGo_splitT (fun h => ?_) (fun h => ?_) <;> (try simp only [decide_eq_true_eq, decide_eq_false_iff_not] at h)
  · simp only [h, go_sem, Nat.reduceAdd, Nat.reduceEqDiff, Nat.reduceLT, reduceIte, reduceCtorEq, Nat.reduceBEq, Int.reduceLT, Int.reduceToNat, Int.reducePow, Nat.reduceLeDiff, Int.reduceLE, Nat.reduceMul, Nat.reduceSub]
    refine cGo_split (fun h1 => ?_) (fun h1 => ?_) <;> (try simp only [decide_eq_true_eq, decide_eq_false_iff_not] at h1)
    · simp only [go_sem, Nat.reduceAdd, Nat.reduceEqDiff, Nat.reduceLT, reduceIte, reduceCtorEq, Nat.reduceBEq, Int.reduceLT, Int.reduceToNat, Int.reducePow, Nat.reduceLeDiff, Int.reduceLE, Nat.reduceMul, Nat.reduceSub, andI_31 c (by omega)]
      exact first_done 1 (c % 32) 128 191 rfl rfl (f2 (by omega) (by omega))
    simp only [go_sem, Nat.reduceAdd, Nat.reduceEqDiff, Nat.reduceLT, reduceIte, reduceCtorEq, Nat.reduceBEq, Int.reduceLT, Int.reduceToNat, Int.reducePow, Nat.reduceLeDiff, Int.reduceLE, Nat.reduceMul, Nat.reduceSub]
    refine cGo_split (fun h2 => ?_) (fun h2 => ?_) <;> (try simp only [beq_iff_eq, beq_eq_false_iff_ne, ne_eq] at h2)
    · simp only [go_sem, Nat.reduceAdd, Nat.reduceEqDiff, Nat.reduceLT, reduceIte, reduceCtorEq, Nat.reduceBEq, Int.reduceLT, Int.reduceToNat, Int.reducePow, Nat.reduceLeDiff, Int.reduceLE, Nat.reduceMul, Nat.reduceSub]
      have e : c = 224 := by omega
      subst e
      exact first_done 2 0 160 191 rfl rfl (f3 (by omega) (by omega))
    simp only [go_sem, Nat.reduceAdd, Nat.reduceEqDiff, Nat.reduceLT, reduceIte, reduceCtorEq, Nat.reduceBEq, Int.reduceLT, Int.reduceToNat, Int.reducePow, Nat.reduceLeDiff, Int.reduceLE, Nat.reduceMul, Nat.reduceSub]
    refine cGo_split (fun h3 => ?_) (fun h3 => ?_) <;> (try simp only [beq_iff_eq, beq_eq_false_iff_ne, ne_eq] at h3)
    · simp only [go_sem, Nat.reduceAdd, Nat.reduceEqDiff, Nat.reduceLT, reduceIte, reduceCtorEq, Nat.reduceBEq, Int.reduceLT, Int.reduceToNat, Int.reducePow, Nat.reduceLeDiff, Int.reduceLE, Nat.reduceMul, Nat.reduceSub]
      have e : c = 237 := by omega
      subst e
      exact first_done 2 13 128 159 rfl rfl (f3 (by omega) (by omega))
    simp only [go_sem, Nat.reduceAdd, Nat.reduceEqDiff, Nat.reduceLT, reduceIte, reduceCtorEq, Nat.reduceBEq, Int.reduceLT, Int.reduceToNat, Int.reducePow, Nat.reduceLeDiff, Int.reduceLE, Nat.reduceMul, Nat.reduceSub]
    have g4 : decide ((c : Int) ≥ 225) = true := by simp only [decide_eq_true_eq]; omega
    simp only [g4, go_sem, Nat.reduceAdd, Nat.reduceEqDiff, Nat.reduceLT, reduceIte, reduceCtorEq, Nat.reduceBEq, Int.reduceLT, Int.reduceToNat, Int.reducePow, Nat.reduceLeDiff, Int.reduceLE, Nat.reduceMul, Nat.reduceSub]
    refine cGo_split (fun h5 => ?_) (fun h5 => ?_) <;> (try simp only [decide_eq_true_eq, decide_eq_false_iff_not] at h5)
    · simp only [go_sem, Nat.reduceAdd, Nat.reduceEqDiff, Nat.reduceLT, reduceIte, reduceCtorEq, Nat.reduceBEq, Int.reduceLT, Int.reduceToNat, Int.reducePow, Nat.reduceLeDiff, Int.reduceLE, Nat.reduceMul, Nat.reduceSub, andI_15 c (by omega)]
      have e := f3 (c := c) (by omega) (by omega)
      rw [if_neg (by omega), if_neg (by omega)] at e
      exact first_done 2 (c % 16) 128 191 rfl rfl e
    simp only [go_sem, Nat.reduceAdd, Nat.reduceEqDiff, Nat.reduceLT, reduceIte, reduceCtorEq, Nat.reduceBEq, Int.reduceLT, Int.reduceToNat, Int.reducePow, Nat.reduceLeDiff, Int.reduceLE, Nat.reduceMul, Nat.reduceSub]
    refine cGo_split (fun h6 => ?_) (fun h6 => ?_) <;> (try simp only [beq_iff_eq, beq_eq_false_iff_ne, ne_eq] at h6)
    · simp only [go_sem, Nat.reduceAdd, Nat.reduceEqDiff, Nat.reduceLT, reduceIte, reduceCtorEq, Nat.reduceBEq, Int.reduceLT, Int.reduceToNat, Int.reducePow, Nat.reduceLeDiff, Int.reduceLE, Nat.reduceMul, Nat.reduceSub]
      have e : c = 240 := by omega
      subst e
      exact first_done 3 0 144 191 rfl rfl (f4 (by omega) (by omega))
    simp only [go_sem, Nat.reduceAdd, Nat.reduceEqDiff, Nat.reduceLT, reduceIte, reduceCtorEq, Nat.reduceBEq, Int.reduceLT, Int.reduceToNat, Int.reducePow, Nat.reduceLeDiff, Int.reduceLE, Nat.reduceMul, Nat.reduceSub]
    refine cGo_split (fun h7 => ?_) (fun h7 => ?_) <;> (try simp only [beq_iff_eq, beq_eq_false_iff_ne, ne_eq] at h7)
    · simp only [go_sem, Nat.reduceAdd, Nat.reduceEqDiff, Nat.reduceLT, reduceIte, reduceCtorEq, Nat.reduceBEq, Int.reduceLT, Int.reduceToNat, Int.reducePow, Nat.reduceLeDiff, Int.reduceLE, Nat.reduceMul, Nat.reduceSub]
      have e : c = 244 := by omega
      subst e
      exact first_done 3 4 128 143 rfl rfl (f4 (by omega) (by omega))
    simp only [go_sem, Nat.reduceAdd, Nat.reduceEqDiff, Nat.reduceLT, reduceIte, reduceCtorEq, Nat.reduceBEq, Int.reduceLT, Int.reduceToNat, Int.reducePow, Nat.reduceLeDiff, Int.reduceLE, Nat.reduceMul, Nat.reduceSub]
    have g8 : decide ((c : Int) ≥ 241) = true := by simp only [decide_eq_true_eq]; omega
    simp only [g8, go_sem, Nat.reduceAdd, Nat.reduceEqDiff, Nat.reduceLT, reduceIte, reduceCtorEq, Nat.reduceBEq, Int.reduceLT, Int.reduceToNat, Int.reducePow, Nat.reduceLeDiff, Int.reduceLE, Nat.reduceMul, Nat.reduceSub]
    refine cGo_split (fun h9 => ?_) (fun h9 => ?_) <;> (try simp only [decide_eq_true_eq, decide_eq_false_iff_not] at h9)
    · simp only [go_sem, Nat.reduceAdd, Nat.reduceEqDiff, Nat.reduceLT, reduceIte, reduceCtorEq, Nat.reduceBEq, Int.reduceLT, Int.reduceToNat, Int.reducePow, Nat.reduceLeDiff, Int.reduceLE, Nat.reduceMul, Nat.reduceSub, andI_7 c (by omega)]
      have e := f4 (c := c) (by omega) (by omega)
      rw [if_neg (by omega), if_neg (by omega)] at e
      exact first_done 3 (c % 8) 128 191 rfl rfl e
    · simp only [go_sem, Nat.reduceAdd, Nat.reduceEqDiff, Nat.reduceLT, reduceIte, reduceCtorEq, Nat.reduceBEq, Int.reduceLT, Int.reduceToNat, Int.reducePow, Nat.reduceLeDiff, Int.reduceLE, Nat.reduceMul, Nat.reduceSub]
      exact first_done 0 0 0 0 rfl rfl (f5 (by omega))
  · have g2 : ((c : Int) == 224) = false := by simp only [beq_eq_false_iff_ne, ne_eq]; omega
    have g3 : ((c : Int) == 237) = false := by simp only [beq_eq_false_iff_ne, ne_eq]; omega
    have g4 : decide ((c : Int) ≥ 225) = false := by simp only [decide_eq_false_iff_not]; omega
    have g6 : ((c : Int) == 240) = false := by simp only [beq_eq_false_iff_ne, ne_eq]; omega
    have g7 : ((c : Int) == 244) = false := by simp only [beq_eq_false_iff_ne, ne_eq]; omega
    have g8 : decide ((c : Int) ≥ 241) = false := by simp only [decide_eq_false_iff_not]; omega
    have g1 : decide ((c : Int) ≥ 194) = false := by simp only [decide_eq_false_iff_not]; omega
    simp only [g1, g2, g3, g4, g6, g7, g8, go_sem, Nat.reduceAdd, Nat.reduceEqDiff, Nat.reduceLT, reduceIte, reduceCtorEq, Nat.reduceBEq, Int.reduceLT, Int.reduceToNat, Int.reducePow, Nat.reduceLeDiff, Int.reduceLE, Nat.reduceMul, Nat.reduceSub]
    exact first_done 0 0 0 0 rfl rfl (f5 (by omega))

/-- What is behind a first byte: the number, how many bytes there are, and whether they are a scalar's. -/
def goOn : Nat → Nat → Nat → Nat → Nat → List Nat → Nat × Nat × Bool
  | 0, _, _, r, k, _ => (r, k, true)
  | _ + 1, _, _, _, k, [] => (65533, k, false)
  | n + 1, lo, hi, r, k, x :: t => if x < lo ∨ hi < x then (65533, k, false) else goOn n 128 191 (r * 64 + x % 64) (k + 1) t

/-- The code that bytes begin with. -/
def nx : List Nat → Nat × Nat × Bool
  | [] => (65533, 1, false)
  | c :: t => if leadB c = true then goOn (behindOf c) (lowOf c) (topOf c) (bitsOf c) 1 t else (65533, 1, false)

theorem goOn_nil {n lo hi r k : Nat} (hn : 0 < n) : goOn n lo hi r k [] = (65533, k, false) := by
  cases n with
  | zero => omega
  | succ n => rfl
theorem goOn_bad {n lo hi r k x : Nat} {t : List Nat} (hn : 0 < n) (h : x < lo ∨ hi < x) : goOn n lo hi r k (x :: t) = (65533, k, false) := by
  cases n with
  | zero => omega
  | succ n => simp only [goOn, if_pos h]
theorem goOn_fine {n lo hi r k x : Nat} {t : List Nat} (hn : 0 < n) (h : ¬(x < lo ∨ hi < x)) : goOn n lo hi r k (x :: t) = goOn (n - 1) 128 191 (r * 64 + x % 64) (k + 1) t := by
  cases n with
  | zero => omega
  | succ n => simp only [goOn, if_neg h, Nat.add_sub_cancel]

theorem lead_first {c : Nat} (h : leadB c = false) : firstC c = [.lit (.int .i64 0), .lit (.int .u8 0), .lit (.int .u8 0), .lit (.int .u8 0)] := by
  have h' : ¬(c ≤ 127 ∨ 194 ≤ c ∧ c ≤ 244) := fun hh => by rw [lead_t hh] at h; cases h
  obtain ⟨e1, e2, e3, e4⟩ := f5 h'
  simp only [firstC, e1, e2, e3, e4]
  rfl
theorem lead_cases {c : Nat} (h : leadB c = true) : c ≤ 127 ∨ (194 ≤ c ∧ c ≤ 223) ∨ (224 ≤ c ∧ c ≤ 239) ∨ (240 ≤ c ∧ c ≤ 244) := by
  simp only [leadB, Bool.or_eq_true, Bool.and_eq_true, decide_eq_true_eq] at h
  omega
/-- What a first byte asks for, by its kind. -/
theorem first_facts {c : Nat} (h : leadB c = true) : topOf c ≤ 191 ∧ 143 ≤ topOf c ∧ 128 ≤ lowOf c ∧ lowOf c ≤ 160 ∧ behindOf c ≤ 3 ∧ bitsOf c < 128 ∧ (behindOf c = 0 ∨ bitsOf c < 32) := by
  rcases lead_cases h with h | ⟨h1, h2⟩ | ⟨h1, h2⟩ | ⟨h1, h2⟩
  · obtain ⟨e1, e2, e3, e4⟩ := f1 h; omega
  · obtain ⟨e1, e2, e3, e4⟩ := f2 h1 h2; omega
  · obtain ⟨e1, e2, e3, e4⟩ := f3 h1 h2
    rw [e1, e2, e3, e4]; refine ⟨?_, ?_, ?_, ?_, ?_, ?_, ?_⟩ <;> (try split) <;> omega
  · obtain ⟨e1, e2, e3, e4⟩ := f4 h1 h2
    rw [e1, e2, e3, e4]; refine ⟨?_, ?_, ?_, ?_, ?_, ?_, ?_⟩ <;> (try split) <;> omega
end Go.Proofs.YteekelelcbfekaaDoor

/-! ## Utf2D -/

namespace Go.Proofs.YteekelelcbfekaaDoor
open Go Go.Ab
def a80 : ACode :=
  (.seq (.reg [⟨(.some 2), (.mv (.k (.int .i32 0))), .none⟩, ⟨(.some 3), (.mv (.k (.int .i64 0))), .none⟩]) (.seq (.reg [⟨(.some 7), (.mv (.t 0)), .none⟩, ⟨(.some 8), (.ia 5 (.t 7) (.k (.int .i64 0))),
  .none⟩, ⟨(.some 9), (.ld .none (.t 8)), .none⟩, ⟨(.some 10), (.call (.f 81) [(.t 9)]), .none⟩, ⟨(.some 4), (.alc 126 [(.int .i64 0), (.int .u8 0), (.int .u8 0), (.int .u8 0)]), .none⟩, ⟨.none, (.st 4
  (.t 4) (.t 10)), .none⟩]) (.seq (.seq (.reg [⟨(.some 11), (.ld (.some 4) (.t 4)), .none⟩, ⟨(.some 12), (.bd [(.int .i64 0), (.int .u8 0), (.int .u8 0), (.int .u8 0)] []), .none⟩, ⟨(.some 13), (.eqg
  false [.int, .int, .int, .int] (.t 11) (.t 12)), .none⟩]) (.cond (.t 13) (.seq (.reg [⟨(.some 2), (.mv (.k (.int .i32 65533))), .none⟩, ⟨(.some 3), (.mv (.k (.int .i64 1))), .none⟩]) .ret) .skip))
  (.seq (.reg [⟨(.some 14), (.fa 1 (.t 4)), .none⟩, ⟨(.some 15), (.ld .none (.t 14)), .none⟩, ⟨(.some 16), (.cvI .i32 (.t 15)), .none⟩, ⟨(.some 5), (.mv (.t 16)), .none⟩]) (.seq (.seq (.reg [⟨(.some
  17), (.fa 0 (.t 4)), .none⟩, ⟨(.some 18), (.ld .none (.t 17)), .none⟩, ⟨(.some 19), (.mv (.k (.int .i64 0))), .none⟩]) (.block 0 (.loop (.seq (.reg [⟨(.some 20), (.bin .lss (.t 19) (.t 18)), .none⟩])
  (.seq (.cond (.t 20) .skip (.exit 0)) (.seq (.block 1 (.seq (.reg [⟨(.some 21), (.mv (.t 19)), .none⟩, ⟨(.some 6), (.mv (.t 21)), .none⟩]) (.seq (.seq (.dreg [⟨(.some 22), (.mv (.t 6)), .none⟩,
  ⟨(.some 23), (.bin .add (.t 22) (.k (.int .i64 1))), .none⟩, ⟨(.some 24), (.mv (.t 0)), .none⟩, ⟨(.some 25), (.len (.t 24)), .none⟩, ⟨(.some 26), (.bin .geq (.t 23) (.t 25)), .none⟩, ⟨(.some 27), (.mv
  (.t 26)), .none⟩, ⟨(.some 28), (.mv (.t 0)), (.some (27, false))⟩, ⟨(.some 29), (.mv (.t 6)), (.some (27, false))⟩, ⟨(.some 30), (.bin .add (.t 29) (.k (.int .i64 1))), (.some (27, false))⟩, ⟨(.some
  31), (.ia 5 (.t 28) (.t 30)), (.some (27, false))⟩, ⟨(.some 32), (.ld .none (.t 31)), (.some (27, false))⟩, ⟨(.some 33), (.fa 2 (.t 4)), (.some (27, false))⟩, ⟨(.some 34), (.ld .none (.t 33)), (.some
  (27, false))⟩, ⟨(.some 35), (.bin .lss (.t 32) (.t 34)), (.some (27, false))⟩, ⟨(.some 36), (.pick (.t 27) (.k (.bool true)) (.t 35)), .none⟩, ⟨(.some 37), (.mv (.t 36)), .none⟩, ⟨(.some 38), (.mv (.t
  0)), (.some (37, false))⟩, ⟨(.some 39), (.mv (.t 6)), (.some (37, false))⟩, ⟨(.some 40), (.bin .add (.t 39) (.k (.int .i64 1))), (.some (37, false))⟩, ⟨(.some 41), (.ia 5 (.t 38) (.t 40)), (.some (37,
  false))⟩, ⟨(.some 42), (.ld .none (.t 41)), (.some (37, false))⟩, ⟨(.some 43), (.fa 3 (.t 4)), (.some (37, false))⟩, ⟨(.some 44), (.ld .none (.t 43)), (.some (37, false))⟩, ⟨(.some 45), (.bin .gtr (.t
  42) (.t 44)), (.some (37, false))⟩, ⟨(.some 46), (.pick (.t 37) (.k (.bool true)) (.t 45)), .none⟩]) (.cond (.t 46) (.seq (.reg [⟨(.some 47), (.mv (.t 6)), .none⟩, ⟨(.some 48), (.bin .add (.t 47) (.k
  (.int .i64 1))), .none⟩, ⟨(.some 2), (.mv (.k (.int .i32 65533))), .none⟩, ⟨(.some 3), (.mv (.t 48)), .none⟩]) .ret) .skip)) (.seq (.reg [⟨(.some 49), (.mv (.t 5)), .none⟩, ⟨(.some 50), (.bin .shl (.t
  49) (.k (.int .u64 6))), .none⟩, ⟨(.some 51), (.mv (.t 0)), .none⟩, ⟨(.some 52), (.mv (.t 6)), .none⟩, ⟨(.some 53), (.bin .add (.t 52) (.k (.int .i64 1))), .none⟩, ⟨(.some 54), (.ia 5 (.t 51) (.t
  53)), .none⟩, ⟨(.some 55), (.ld .none (.t 54)), .none⟩, ⟨(.some 56), (.bin .and (.t 55) (.k (.int .u8 63))), .none⟩, ⟨(.some 57), (.cvI .i32 (.t 56)), .none⟩, ⟨(.some 58), (.bin .or (.t 50) (.t 57)),
  .none⟩, ⟨(.some 5), (.mv (.t 58)), .none⟩]) (.reg [⟨(.some 59), (.fa 2 (.t 4)), .none⟩, ⟨.none, (.st 1 (.t 59) (.k (.int .u8 128))), .none⟩, ⟨(.some 60), (.fa 3 (.t 4)), .none⟩, ⟨.none, (.st 1 (.t 60)
  (.k (.int .u8 191))), .none⟩]))))) (.reg [⟨(.some 61), (.bin .add (.t 19) (.k (.int .i64 1))), .none⟩, ⟨(.some 19), (.mv (.t 61)), .none⟩]))))))) (.seq (.dreg [⟨(.some 62), (.mv (.t 5)), .none⟩,
  ⟨(.some 63), (.fa 0 (.t 4)), .none⟩, ⟨(.some 64), (.ld .none (.t 63)), .none⟩, ⟨(.some 65), (.bin .add (.k (.int .i64 1)) (.t 64)), .none⟩, ⟨(.some 2), (.mv (.t 62)), .none⟩, ⟨(.some 3), (.mv (.t
  65)), .none⟩]) .ret))))))
theorem c80 : Tryd.f80.body.bind (cCode Tryd.prog 66) = some a80 := by kernel_rfl
theorem r80 : Tryd.f80.results.toList = [(.tmp 2), (.tmp 3)] := by kernel_rfl
theorem n80 : Tryd.f80.ntmps = 66 := by kernel_rfl
theorem e80 : Enters Tryd.prog 80 := Go.Ab.enters_of Tryd.func80 (by kernel_rfl) (by kernel_rfl)
def a5 : ACode :=
  (.seq (.reg [⟨(.some 2), (.mv (.k (.bool false))), .none⟩]) (.seq (.reg [⟨(.some 3), (.mv (.t 0)), .none⟩, ⟨(.some 4), (.bin .geq (.t 3) (.k (.int .i32 0))), .none⟩, ⟨(.some 5), (.mv (.t 4)), .none⟩,
  ⟨(.some 6), (.mv (.t 0)), (.some (5, true))⟩, ⟨(.some 7), (.bin .leq (.t 6) (.k (.int .i32 1114111))), (.some (5, true))⟩, ⟨(.some 8), (.pick (.t 5) (.t 7) (.k (.bool false))), .none⟩, ⟨(.some 9),
  (.mv (.t 8)), .none⟩, ⟨(.some 10), (.mv (.t 0)), (.some (9, true))⟩, ⟨(.some 11), (.bin .lss (.t 10) (.k (.int .i32 55296))), (.some (9, true))⟩, ⟨(.some 12), (.mv (.t 11)), (.some (9, true))⟩,
  ⟨(.some 13), (.mv (.t 0)), (.some (12, false))⟩, ⟨(.some 14), (.bin .gtr (.t 13) (.k (.int .i32 57343))), (.some (12, false))⟩, ⟨(.some 15), (.pick (.t 12) (.k (.bool true)) (.t 14)), (.some (9,
  true))⟩, ⟨(.some 16), (.pick (.t 9) (.t 15) (.k (.bool false))), .none⟩, ⟨(.some 2), (.mv (.t 16)), .none⟩]) .ret))
theorem c5 : Tryd.f5.body.bind (cCode Tryd.prog 17) = some a5 := by kernel_rfl
theorem r5 : Tryd.f5.results.toList = [(.tmp 2)] := by kernel_rfl
theorem n5 : Tryd.f5.ntmps = 17 := by kernel_rfl
theorem e5 : Enters Tryd.prog 5 := Go.Ab.enters_of Tryd.func5 (by kernel_rfl) (by kernel_rfl)

theorem nx_cons {c : Nat} {t : List Nat} (h : leadB c = true) : nx (c :: t) = goOn (behindOf c) (lowOf c) (topOf c) (bitsOf c) 1 t := by simp only [nx, h, if_true]

/-- Whether a byte is one of those that may come next. -/
def lo' (c i : Nat) : Nat := if i = 0 then lowOf c else 128
def hi' (c i : Nat) : Nat := if i = 0 then topOf c else 191

theorem shl6 (r : Nat) (h : r < 33554432) : IntKind.i32.wrap ((r : Int) * 64) = ((r * 64 : Nat) : Int) := by
  have e : (r : Int) * 64 = ((r * 64 : Nat) : Int) := by simp
  rw [e]; exact wrap_i32 _ (by omega) (by omega)

theorem cast_u8_i32 (n : Nat) (h : n < 256) : IntKind.i32.wrap (n : Int) = n := wrap_i32 _ (by omega) (by omega)

set_option maxRecDepth 10000 in
theorem next_pure (c : Nat) (t : List Nat) (hb : ∀ n ∈ c :: t, n ≤ 255) (hl : t.length ≤ 4611686018427387904) : Pure Tryd.prog 80 [.sl 5 (octs (c :: t)) none] [] (.tu [.lit (.int .i32 (nx (c :: t)).1), .lit (.int .i64 (nx (c :: t)).2.1)]) := by
  have hc : c ≤ 255 := hb c (by simp)
  have ht : ∀ n ∈ t, n ≤ 255 := fun n hn => hb n (by simp [hn])
  refine pure0 Tryd.func80 c80 n80 e80 r80 (by simp) rfl ?_
  simp only [a80, astart, argSlots, go_sem, Nat.reduceAdd, Nat.reduceEqDiff, Nat.reduceLT, reduceIte, reduceCtorEq, Nat.reduceBEq, Int.reduceLT, Int.reduceToNat, Int.reducePow, Nat.reduceLeDiff, Int.reduceLE, Nat.reduceMul, Nat.reduceSub]
  have g0 : (octs (c :: t))[0]? = some [.int .u8 (c : Int)] := rfl
  simp only [g0, go_sem, Nat.reduceAdd, Nat.reduceEqDiff, Nat.reduceLT, reduceIte, reduceCtorEq, Nat.reduceBEq, Int.reduceLT, Int.reduceToNat, Int.reducePow, Nat.reduceLeDiff, Int.reduceLE, Nat.reduceMul, Nat.reduceSub]
  refine callGo_pure (utfOf_pure c hc) (by rfl) ?_
  by_cases hL : leadB c = false
  · simp only [lead_first hL, go_sem, Nat.reduceAdd, Nat.reduceEqDiff, Nat.reduceLT, reduceIte, reduceCtorEq, Nat.reduceBEq, Int.reduceLT, Int.reduceToNat, Int.reducePow, Nat.reduceLeDiff, Int.reduceLE, Nat.reduceMul, Nat.reduceSub, beq_self_eq_true]
    have e : nx (c :: t) = (65533, 1, false) := by simp [nx, hL]
    rw [e]
    simp only [Done, resAV, resL, resOne, look_nil, look_cons, Nat.reduceEqDiff, if_true, if_false, reduceIte, ite_true, ite_false, Nat.zero_ne_one, Nat.one_ne_zero, reduceCtorEq, true_or, or_true, true_and, Option.some.injEq, AV.lit.injEq, Value.int.injEq, Value.bool.injEq]
    rfl
  have hL : leadB c = true := by simpa using hL
  have hne : ((((behindOf c : Nat) : Int) == 0) && ((((bitsOf c : Nat) : Int) == 0) && ((((lowOf c : Nat) : Int) == 0) && (((topOf c : Nat) : Int) == 0)))) = false := by
    have := first_facts hL
    have : (((topOf c : Nat) : Int) == 0) = false := by simp only [beq_eq_false_iff_ne, ne_eq]; omega
    rw [this]; simp
  obtain ⟨k1, k2, k3, k4, k5, k6, k7⟩ := first_facts hL
  have hw : IntKind.i32.wrap ((bitsOf c : Nat) : Int) = (bitsOf c : Nat) := cast_u8_i32 _ (by omega)
  simp only [firstC, go_sem, Nat.reduceAdd, Nat.reduceEqDiff, Nat.reduceLT, reduceIte, reduceCtorEq, Nat.reduceBEq, Int.reduceLT, Int.reduceToNat, Int.reducePow, Nat.reduceLeDiff, Int.reduceLE, Nat.reduceMul, Nat.reduceSub, hne, hw]
  refine ⟨fun s => ∃ i r : Nat, i ≤ behindOf c ∧ i ≤ t.length ∧ nx (c :: t) = goOn (behindOf c - i) (lo' c i) (hi' c i) r (1 + i) (t.drop i) ∧ (behindOf c = 0 ∨ r < 32 * 64 ^ i) ∧ r < 33554432 ∧
      s = ⟨[(0, some (.sl 5 (octs (c :: t)) none)), (4, some (.bp 0 0)), (5, some (.lit (.int .i32 (r : Int)))), (18, some (.lit (.int .i64 ((behindOf c : Nat) : Int)))), (19, some (.lit (.int .i64 (i : Int))))],
        [(0, [.lit (.int .i64 ((behindOf c : Nat) : Int)), .lit (.int .u8 ((bitsOf c : Nat) : Int)), .lit (.int .u8 ((lo' c i : Nat) : Int)), .lit (.int .u8 ((hi' c i : Nat) : Int))])], [], 1⟩,
    fun s => behindOf c - cnt 19 s, ⟨_, weak_by (tp1 := []) [0] (by simp) rfl ?_ ?_ trivial (by simp), 0, bitsOf c, Nat.zero_le _, Nat.zero_le _, ?_, by omega, by omega, rfl⟩, ?_⟩
  · simp only [go_sem, Nat.reduceAdd, Nat.reduceEqDiff, Nat.reduceLT, reduceIte, reduceCtorEq, Nat.reduceBEq, Int.reduceLT, Int.reduceToNat, Int.reducePow, Nat.reduceLeDiff, Int.reduceLE, Nat.reduceMul, Nat.reduceSub, slotsBy, boxesBy, tipsBy, rawAt, nm, AV.ren, AV.renL, AV.under, AV.underL, List.all_nil, List.all_cons, bne_self_eq_false, List.getD_cons_zero, List.getD_cons_succ, List.length_nil, List.length_cons, and_true, true_and, Int.natCast_zero]
  · simp only [go_sem, Nat.reduceAdd, Nat.reduceEqDiff, Nat.reduceLT, reduceIte, reduceCtorEq, Nat.reduceBEq, Int.reduceLT, Int.reduceToNat, Int.reducePow, Nat.reduceLeDiff, Int.reduceLE, Nat.reduceMul, Nat.reduceSub, slotsBy, boxesBy, tipsBy, rawAt, nm, AV.ren, AV.renL, AV.under, AV.underL, List.all_nil, List.all_cons, bne_self_eq_false, List.getD_cons_zero, List.getD_cons_succ, List.length_nil, List.length_cons, and_true, true_and, lo', hi']
  · rw [nx_cons hL]; simp only [lo', hi', if_true, Nat.sub_zero, Nat.add_zero, List.drop_zero]
  · rintro _ ⟨i, r, hi, hit, hnx, hr1, hr2, rfl⟩
    simp only [go_sem, Nat.reduceAdd, Nat.reduceEqDiff, Nat.reduceLT, reduceIte, reduceCtorEq, Nat.reduceBEq, Int.reduceLT, Int.reduceToNat, Int.reducePow, Nat.reduceLeDiff, Int.reduceLE, Nat.reduceMul, Nat.reduceSub]
    rcases Nat.lt_or_eq_of_le hi with hlt | heq
    · have hlt' : decide ((i : Int) < ((behindOf c : Nat) : Int)) = true := dec_lt hlt
      simp only [hlt', go_sem, Nat.reduceAdd, Nat.reduceEqDiff, Nat.reduceLT, reduceIte, reduceCtorEq, Nat.reduceBEq, Int.reduceLT, Int.reduceToNat, Int.reducePow, Nat.reduceLeDiff, Int.reduceLE, Nat.reduceMul, Nat.reduceSub]
      have hw1 : IntKind.i64.wrap ((i : Int) + 1) = ((i + 1 : Nat) : Int) := by rw [wrap_i64 _ (by omega) (by omega)]; omega
      have hbnd : r * 64 + 63 < 33554432 * 64 := by omega
      simp only [hw1, List.length_cons, go_sem, Nat.reduceAdd, Nat.reduceEqDiff, Nat.reduceLT, reduceIte, reduceCtorEq, Nat.reduceBEq, Int.reduceLT, Int.reduceToNat, Int.reducePow, Nat.reduceLeDiff, Int.reduceLE, Nat.reduceMul, Nat.reduceSub]
      by_cases hend : t.length = i
      · have hd : decide (((i + 1 : Nat) : Int) ≥ ((t.length + 1 : Nat) : Int)) = true := by simp only [decide_eq_true_eq]; omega
        simp only [hd, hw1, go_sem, Nat.reduceAdd, Nat.reduceEqDiff, Nat.reduceLT, reduceIte, reduceCtorEq, Nat.reduceBEq, Int.reduceLT, Int.reduceToNat, Int.reducePow, Nat.reduceLeDiff, Int.reduceLE, Nat.reduceMul, Nat.reduceSub]
        rw [List.drop_eq_nil_of_le (by omega), goOn_nil (by omega)] at hnx
        rw [hnx]
        simp only [Done, resAV, resL, resOne, look_nil, look_cons, Nat.reduceEqDiff, if_true, if_false, reduceIte, ite_true, ite_false, Nat.zero_ne_one, Nat.one_ne_zero, reduceCtorEq, true_or, or_true, true_and, Option.some.injEq, AV.lit.injEq, Value.int.injEq, Value.bool.injEq]
        simp only [AV.tu.injEq, List.cons.injEq, AV.lit.injEq, Value.int.injEq, true_and, and_true]; omega
      · have hd : decide (((i + 1 : Nat) : Int) ≥ ((t.length + 1 : Nat) : Int)) = false := by simp only [decide_eq_false_iff_not]; omega
        have hti : i < t.length := by omega
        have hg : (octs (c :: t))[i + 1]? = some [.int .u8 (t[i] : Int)] := by simp [octs, hti]
        have hx := ht t[i] (List.getElem_mem hti)
        rw [List.drop_eq_getElem_cons hti] at hnx
        generalize t[i] = x at hnx hg hx
        simp only [hd, hw1, hg, go_sem, Nat.reduceAdd, Nat.reduceEqDiff, Nat.reduceLT, reduceIte, reduceCtorEq, Nat.reduceBEq, Int.reduceLT, Int.reduceToNat, Int.reducePow, Nat.reduceLeDiff, Int.reduceLE, Nat.reduceMul, Nat.reduceSub]
        by_cases hlo : x < lo' c i
        · have d1 : decide ((x : Int) < ((lo' c i : Nat) : Int)) = true := dec_lt hlo
          simp only [d1, hw1, go_sem, Nat.reduceAdd, Nat.reduceEqDiff, Nat.reduceLT, reduceIte, reduceCtorEq, Nat.reduceBEq, Int.reduceLT, Int.reduceToNat, Int.reducePow, Nat.reduceLeDiff, Int.reduceLE, Nat.reduceMul, Nat.reduceSub]
          rw [goOn_bad (by omega) (.inl hlo)] at hnx
          rw [hnx]
          simp only [Done, resAV, resL, resOne, look_nil, look_cons, Nat.reduceEqDiff, if_true, if_false, reduceIte, ite_true, ite_false, Nat.zero_ne_one, Nat.one_ne_zero, reduceCtorEq, true_or, or_true, true_and, Option.some.injEq, AV.lit.injEq, Value.int.injEq, Value.bool.injEq]
          simp only [AV.tu.injEq, List.cons.injEq, AV.lit.injEq, Value.int.injEq, true_and, and_true]; omega
        · have d1 : decide ((x : Int) < ((lo' c i : Nat) : Int)) = false := by simp only [decide_eq_false_iff_not]; omega
          simp only [d1, hw1, hg, go_sem, Nat.reduceAdd, Nat.reduceEqDiff, Nat.reduceLT, reduceIte, reduceCtorEq, Nat.reduceBEq, Int.reduceLT, Int.reduceToNat, Int.reducePow, Nat.reduceLeDiff, Int.reduceLE, Nat.reduceMul, Nat.reduceSub]
          by_cases hhi : hi' c i < x
          · have d2 : decide ((x : Int) > ((hi' c i : Nat) : Int)) = true := by simp only [decide_eq_true_eq]; omega
            simp only [d2, hw1, go_sem, Nat.reduceAdd, Nat.reduceEqDiff, Nat.reduceLT, reduceIte, reduceCtorEq, Nat.reduceBEq, Int.reduceLT, Int.reduceToNat, Int.reducePow, Nat.reduceLeDiff, Int.reduceLE, Nat.reduceMul, Nat.reduceSub]
            rw [goOn_bad (by omega) (.inr hhi)] at hnx
            rw [hnx]
            simp only [Done, resAV, resL, resOne, look_nil, look_cons, Nat.reduceEqDiff, if_true, if_false, reduceIte, ite_true, ite_false, Nat.zero_ne_one, Nat.one_ne_zero, reduceCtorEq, true_or, or_true, true_and, Option.some.injEq, AV.lit.injEq, Value.int.injEq, Value.bool.injEq]
            simp only [AV.tu.injEq, List.cons.injEq, AV.lit.injEq, Value.int.injEq, true_and, and_true]; omega
          · have d2 : decide ((x : Int) > ((hi' c i : Nat) : Int)) = false := by simp only [decide_eq_false_iff_not]; omega
            rw [goOn_fine (by omega) (by omega)] at hnx
            have hi3 : i = 0 ∨ i = 1 ∨ i = 2 := by omega
            have hrr : r < 524288 := by
              rcases hr1 with h | h
              · omega
              · rcases hi3 with rfl | rfl | rfl <;> simp at h <;> omega
            have hor : orI .i32 ((r * 64 : Nat) : Int) (((x % 64 : Nat)) : Int) = ((r * 64 + x % 64 : Nat) : Int) := by
              rw [orI_i32 _ _ (by omega) (by omega), or_64 _ _ (Nat.mod_lt _ (by omega))]
            have e6 : (min (6 : Int).toNat 32) = 6 := rfl
            simp only [d2, hw1, hg, go_sem, Nat.reduceAdd, Nat.reduceEqDiff, Nat.reduceLT, reduceIte, reduceCtorEq, Nat.reduceBEq, Int.reduceLT, Int.reduceToNat, Int.reducePow, Nat.reduceLeDiff, Int.reduceLE, Nat.reduceMul, Nat.reduceSub, andI_63 x (by omega), cast_u8_i32 (x % 64) (by omega), shl6 r hr2, hor]
            refine ⟨_, weak_by (tp1 := []) [0] (by simp) rfl ?_ ?_ trivial (by simp), ⟨i + 1, r * 64 + x % 64, by omega, by omega, ?_, ?_, by omega, rfl⟩, ?_⟩
            · simp only [go_sem, Nat.reduceAdd, Nat.reduceEqDiff, Nat.reduceLT, reduceIte, reduceCtorEq, Nat.reduceBEq, Int.reduceLT, Int.reduceToNat, Int.reducePow, Nat.reduceLeDiff, Int.reduceLE, Nat.reduceMul, Nat.reduceSub, slotsBy, boxesBy, tipsBy, rawAt, nm, AV.ren, AV.renL, AV.under, AV.underL, List.all_nil, List.all_cons, bne_self_eq_false, List.getD_cons_zero, List.getD_cons_succ, List.length_nil, List.length_cons, and_true, true_and]
            · simp only [go_sem, Nat.reduceAdd, Nat.reduceEqDiff, Nat.reduceLT, reduceIte, reduceCtorEq, Nat.reduceBEq, Int.reduceLT, Int.reduceToNat, Int.reducePow, Nat.reduceLeDiff, Int.reduceLE, Nat.reduceMul, Nat.reduceSub, slotsBy, boxesBy, tipsBy, rawAt, nm, AV.ren, AV.renL, AV.under, AV.underL, List.all_nil, List.all_cons, bne_self_eq_false, List.getD_cons_zero, List.getD_cons_succ, List.length_nil, List.length_cons, and_true, true_and, lo', hi', Nat.succ_ne_zero, if_false]
              simp
            · rw [hnx]
              simp only [lo', hi', Nat.succ_ne_zero, if_false]
              rw [show behindOf c - i - 1 = behindOf c - (i + 1) by omega, show 1 + i + 1 = 1 + (i + 1) by omega]
            · rcases hr1 with h | h
              · exact .inl h
              · right; rw [Nat.pow_succ]; omega
            · simp only [cnt, go_sem, Nat.reduceAdd, Nat.reduceEqDiff, Nat.reduceLT, reduceIte, reduceCtorEq, Nat.reduceBEq, Int.reduceLT, Int.reduceToNat, Int.reducePow, Nat.reduceLeDiff, Int.reduceLE, Nat.reduceMul, Nat.reduceSub, Int.toNat_natCast]; omega
    · subst heq
      have hlt' : decide (((behindOf c : Nat) : Int) < ((behindOf c : Nat) : Int)) = false := dec_irr _
      simp only [hlt', go_sem, Nat.reduceAdd, Nat.reduceEqDiff, Nat.reduceLT, reduceIte, reduceCtorEq, Nat.reduceBEq, Int.reduceLT, Int.reduceToNat, Int.reducePow, Nat.reduceLeDiff, Int.reduceLE, Nat.reduceMul, Nat.reduceSub]
      have hw2 : IntKind.i64.wrap (1 + ((behindOf c : Nat) : Int)) = 1 + ((behindOf c : Nat) : Int) := wrap_i64 _ (by omega) (by omega)
      simp only [hw2]
      rw [Nat.sub_self] at hnx
      have e : nx (c :: t) = (r, 1 + behindOf c, true) := hnx
      rw [e]
      simp only [Done, resAV, resL, resOne, look_nil, look_cons, Nat.reduceEqDiff, if_true, if_false, reduceIte, ite_true, ite_false, Nat.zero_ne_one, Nat.one_ne_zero, reduceCtorEq, true_or, or_true, true_and, Option.some.injEq, AV.lit.injEq, Value.int.injEq, Value.bool.injEq]
      simp

def scalarB (r : Int) : Bool := decide (0 ≤ r) && decide (r ≤ 1114111) && (decide (r < 55296) || decide (57343 < r))

set_option maxRecDepth 10000 in
theorem scalar_pure (r : Int) : Pure Tryd.prog 5 [.lit (.int .i32 r)] [] (.lit (.bool (scalarB r))) := by
  refine pure0 Tryd.func5 c5 n5 e5 r5 (by simp) rfl ?_
  simp only [a5, astart, argSlots, go_sem, Nat.reduceAdd, Nat.reduceEqDiff, Nat.reduceLT, reduceIte, reduceCtorEq, Nat.reduceBEq, Int.reduceLT, Int.reduceToNat, Int.reducePow, Nat.reduceLeDiff, Int.reduceLE, Nat.reduceMul, Nat.reduceSub]
  by_cases h1 : r ≥ 0
  · have e1 : decide (r ≥ 0) = true := by simpa using h1
    simp only [e1, go_sem, Nat.reduceAdd, Nat.reduceEqDiff, Nat.reduceLT, reduceIte, reduceCtorEq, Nat.reduceBEq, Int.reduceLT, Int.reduceToNat, Int.reducePow, Nat.reduceLeDiff, Int.reduceLE, Nat.reduceMul, Nat.reduceSub]
    by_cases h2 : r ≤ 1114111
    · have e2 : decide (r ≤ 1114111) = true := by simpa using h2
      simp only [e2, go_sem, Nat.reduceAdd, Nat.reduceEqDiff, Nat.reduceLT, reduceIte, reduceCtorEq, Nat.reduceBEq, Int.reduceLT, Int.reduceToNat, Int.reducePow, Nat.reduceLeDiff, Int.reduceLE, Nat.reduceMul, Nat.reduceSub]
      by_cases h3 : r < 55296
      · have e3 : decide (r < 55296) = true := by simpa using h3
        simp only [e3, go_sem, Nat.reduceAdd, Nat.reduceEqDiff, Nat.reduceLT, reduceIte, reduceCtorEq, Nat.reduceBEq, Int.reduceLT, Int.reduceToNat, Int.reducePow, Nat.reduceLeDiff, Int.reduceLE, Nat.reduceMul, Nat.reduceSub]
        simp only [Done, resAV, resL, resOne, look_nil, look_cons, Nat.reduceEqDiff, if_true, if_false, reduceIte, ite_true, ite_false, Nat.zero_ne_one, Nat.one_ne_zero, reduceCtorEq, true_or, or_true, true_and, Option.some.injEq, AV.lit.injEq, Value.int.injEq, Value.bool.injEq]
        simp [scalarB, h2, h3]; omega
      · have e3 : decide (r < 55296) = false := by simpa using h3
        simp only [e3, go_sem, Nat.reduceAdd, Nat.reduceEqDiff, Nat.reduceLT, reduceIte, reduceCtorEq, Nat.reduceBEq, Int.reduceLT, Int.reduceToNat, Int.reducePow, Nat.reduceLeDiff, Int.reduceLE, Nat.reduceMul, Nat.reduceSub]
        simp only [Done, resAV, resL, resOne, look_nil, look_cons, Nat.reduceEqDiff, if_true, if_false, reduceIte, ite_true, ite_false, Nat.zero_ne_one, Nat.one_ne_zero, reduceCtorEq, true_or, or_true, true_and, Option.some.injEq, AV.lit.injEq, Value.int.injEq, Value.bool.injEq]
        simp [scalarB, h2, h3]; omega
    · have e2 : decide (r ≤ 1114111) = false := by simpa using h2
      simp only [e2, go_sem, Nat.reduceAdd, Nat.reduceEqDiff, Nat.reduceLT, reduceIte, reduceCtorEq, Nat.reduceBEq, Int.reduceLT, Int.reduceToNat, Int.reducePow, Nat.reduceLeDiff, Int.reduceLE, Nat.reduceMul, Nat.reduceSub]
      simp only [Done, resAV, resL, resOne, look_nil, look_cons, Nat.reduceEqDiff, if_true, if_false, reduceIte, ite_true, ite_false, Nat.zero_ne_one, Nat.one_ne_zero, reduceCtorEq, true_or, or_true, true_and, Option.some.injEq, AV.lit.injEq, Value.int.injEq, Value.bool.injEq]
      simp [scalarB]; omega
  · have e1 : decide (r ≥ 0) = false := by simpa using h1
    simp only [e1, go_sem, Nat.reduceAdd, Nat.reduceEqDiff, Nat.reduceLT, reduceIte, reduceCtorEq, Nat.reduceBEq, Int.reduceLT, Int.reduceToNat, Int.reducePow, Nat.reduceLeDiff, Int.reduceLE, Nat.reduceMul, Nat.reduceSub]
    simp only [Done, resAV, resL, resOne, look_nil, look_cons, Nat.reduceEqDiff, if_true, if_false, reduceIte, ite_true, ite_false, Nat.zero_ne_one, Nat.one_ne_zero, reduceCtorEq, true_or, or_true, true_and, Option.some.injEq, AV.lit.injEq, Value.int.injEq, Value.bool.injEq]
    simp [scalarB]; omega
end Go.Proofs.YteekelelcbfekaaDoor

/-! ## Utf3D -/

namespace Go.Proofs.YteekelelcbfekaaDoor
open Go Go.Ab
def a77 : ACode :=
  (.seq (.reg [⟨(.some 1), (.box 26 (.t 0)), .none⟩, ⟨(.some 2), (.mv (.k .nilFunc)), .none⟩]) (.seq (.reg [⟨(.some 3), (.mkf (.func 79) [] [(.t 1)]), .none⟩, ⟨(.some 2), (.mv (.t 3)), .none⟩]) .ret))
theorem c77 : Tryd.f77.body.bind (cCode Tryd.prog 4) = some a77 := by kernel_rfl
theorem r77 : Tryd.f77.results.toList = [(.tmp 2)] := by kernel_rfl
theorem n77 : Tryd.f77.ntmps = 4 := by kernel_rfl
theorem e77 : Enters Tryd.prog 77 := Go.Ab.enters_of Tryd.func77 (by kernel_rfl) (by kernel_rfl)
def a79 : ACode :=
  (.seq (.reg [⟨(.some 3), (.mv (.k (.int .i64 0))), .none⟩]) (.block 0 (.loop (.seq (.seq (.reg [⟨(.some 6), (.mv (.t 3)), .none⟩, ⟨(.some 7), (.ld .none (.t 1)), .none⟩, ⟨(.some 8), (.len (.t 7)),
  .none⟩, ⟨(.some 9), (.bin .lss (.t 6) (.t 8)), .none⟩]) (.cond (.t 9) .skip (.exit 0))) (.block 1 (.seq (.reg [⟨(.some 11), (.ld .none (.t 1)), .none⟩, ⟨(.some 12), (.mv (.t 3)), .none⟩, ⟨(.some 13),
  (.slc 5 (.t 11) (.some (.t 12)) .none), .none⟩, ⟨(.some 14), (.call (.f 80) [(.t 13)]), .none⟩, ⟨(.some 10), (.mv (.t 14)), .none⟩, ⟨(.some 15), (.ext (.t 10) 0), .none⟩, ⟨(.some 16), (.ext (.t 10)
  1), .none⟩, ⟨(.some 4), (.mv (.t 15)), .none⟩, ⟨(.some 5), (.mv (.t 16)), .none⟩]) (.seq (.seq (.reg [⟨(.some 17), (.mv (.t 0)), .none⟩, ⟨(.some 18), (.mv (.t 4)), .none⟩, ⟨(.some 19), (.mv (.t 3)),
  .none⟩, ⟨(.some 20), (.mv (.t 3)), .none⟩, ⟨(.some 21), (.mv (.t 5)), .none⟩, ⟨(.some 22), (.bin .add (.t 20) (.t 21)), .none⟩, ⟨(.some 23), (.bd [(.int .i32 0), (.int .i64 0), (.int .i64 0)] [(0, (1,
  (.t 18))), (1, (1, (.t 19))), (2, (1, (.t 22)))]), .none⟩, ⟨(.some 24), (.call (.t 17) [(.t 23)]), .none⟩, ⟨(.some 25), (.not (.t 24)), .none⟩]) (.cond (.t 25) .ret .skip)) (.reg [⟨(.some 26), (.mv
  (.t 3)), .none⟩, ⟨(.some 27), (.mv (.t 5)), .none⟩, ⟨(.some 28), (.bin .add (.t 26) (.t 27)), .none⟩, ⟨(.some 3), (.mv (.t 28)), .none⟩]))))))))
theorem c79 : Tryd.f79.body.bind (cCode Tryd.prog 29) = some a79 := by kernel_rfl
theorem r79 : Tryd.f79.results.toList = [] := by kernel_rfl
theorem n79 : Tryd.f79.ntmps = 29 := by kernel_rfl
theorem e79 : Enters Tryd.prog 79 := Go.Ab.enters_of Tryd.func79 (by kernel_rfl) (by kernel_rfl)
def as71_0 : ACode :=
  (.reg [⟨(.some 4), (.alc 42 [(.int .i32 0), (.int .i64 0), (.int .i64 0)]), .none⟩, ⟨.none, (.st 3 (.t 4) (.t 7)), .none⟩])
def bd71_0 : ACode :=
  (.block 1 (.reg [⟨(.some 8), (.ld .none (.t 3)), .none⟩, ⟨(.some 9), (.ld (.some 3) (.t 4)), .none⟩, ⟨(.some 10), (.bs 42 3 [(.t 9)]), .none⟩, ⟨(.some 11), (.app 42 24 (.t 8) (.t 10)), .none⟩, ⟨.none,
  (.st 1 (.t 3) (.t 11)), .none⟩]))
theorem was71_0 (F : Nat) (Q : Exit → State → Prop) (s : State) : awp Tryd.prog F as71_0 Q s = awp Tryd.prog F ((.reg [⟨(.some 4), (.alc 42 [(.int .i32 0), (.int .i64 0), (.int .i64 0)]), .none⟩, ⟨.none, (.st 3 (.t 4) (.t 7)), .none⟩])) Q s := rfl
attribute [go_sem] was71_0
theorem wbd71_0 (F : Nat) (Q : Exit → State → Prop) (s : State) : awp Tryd.prog F bd71_0 Q s = awp Tryd.prog F ((.block 1 (.reg [⟨(.some 8), (.ld .none (.t 3)), .none⟩, ⟨(.some 9), (.ld (.some 3) (.t 4)), .none⟩, ⟨(.some 10), (.bs 42 3 [(.t 9)]), .none⟩, ⟨(.some 11), (.app 42 24 (.t 8) (.t 10)), .none⟩, ⟨.none,
  (.st 1 (.t 3) (.t 11)), .none⟩]))) Q s := rfl
attribute [go_sem] wbd71_0
def a71 : ACode :=
  (.seq (.reg [⟨(.some 2), (.mv (.k (.slice .none 0 0))), .none⟩]) (.seq (.reg [⟨(.some 3), (.alc 35 [(.slice .none 0 0)]), .none⟩]) (.seq (.seq (.reg [⟨(.some 5), (.mv (.t 0)), .none⟩, ⟨(.some 6),
  (.call (.f 77) [(.t 5)]), .none⟩]) (.block 0 (.rfn (.t 6) 13 [7] as71_0 bd71_0))) (.seq (.reg [⟨(.some 12), (.ld .none (.t 3)), .none⟩, ⟨(.some 2), (.mv (.t 12)), .none⟩]) .ret))))
theorem c71 : Tryd.f71.body.bind (cCode Tryd.prog 13) = some a71 := by kernel_rfl
theorem r71 : Tryd.f71.results.toList = [(.tmp 2)] := by kernel_rfl
theorem n71 : Tryd.f71.ntmps = 13 := by kernel_rfl
theorem e71 : Enters Tryd.prog 71 := Go.Ab.enters_of Tryd.func71 (by kernel_rfl) (by kernel_rfl)

theorem goOn_len : ∀ (n lo hi r k : Nat) (t : List Nat), k ≤ (goOn n lo hi r k t).2.1 ∧ (goOn n lo hi r k t).2.1 ≤ k + t.length ∧ (goOn n lo hi r k t).2.1 ≤ k + n
  | 0, _, _, _, k, t => by simp [goOn]
  | n + 1, _, _, _, k, [] => by simp [goOn]
  | n + 1, lo, hi, r, k, x :: t => by
    simp only [goOn]
    split
    · simp
    · have := goOn_len n 128 191 (r * 64 + x % 64) (k + 1) t
      simp only [List.length_cons]
      omega

theorem nx_len (c : Nat) (t : List Nat) : 1 ≤ (nx (c :: t)).2.1 ∧ (nx (c :: t)).2.1 ≤ (c :: t).length ∧ (nx (c :: t)).2.1 ≤ 4 := by
  simp only [nx]
  split
  · rename_i h
    have := goOn_len (behindOf c) (lowOf c) (topOf c) (bitsOf c) 1 t
    have := (first_facts h).2.2.2.2.1
    simp only [List.length_cons]
    omega
  · simp

/-- The codes of bytes, their places counted from one on; each with whether it is said. -/
def cutF : Nat → Nat → List Nat → List (Nat × Nat × Nat × Bool)
  | 0, _, _ => []
  | _ + 1, _, [] => []
  | f + 1, at_, c :: t => ((nx (c :: t)).1, at_, at_ + (nx (c :: t)).2.1, (nx (c :: t)).2.2) :: cutF f (at_ + (nx (c :: t)).2.1) ((c :: t).drop (nx (c :: t)).2.1)
def cut (at_ : Nat) (b : List Nat) : List (Nat × Nat × Nat × Bool) := cutF b.length at_ b

theorem cutF_more : ∀ (f g at_ : Nat) (b : List Nat), b.length ≤ f → b.length ≤ g → cutF f at_ b = cutF g at_ b
  | 0, g, at_, b, hf, hg => by
    have : b = [] := List.eq_nil_of_length_eq_zero (by omega)
    subst this
    cases g <;> rfl
  | f + 1, 0, at_, b, hf, hg => by
    have : b = [] := List.eq_nil_of_length_eq_zero (by omega)
    subst this
    rfl
  | f + 1, g + 1, at_, [], hf, hg => rfl
  | f + 1, g + 1, at_, c :: t, hf, hg => by
    have := nx_len c t
    simp only [cutF]
    rw [cutF_more f g _ _ (by simp only [List.length_drop]; omega) (by simp only [List.length_drop]; omega)]
theorem cut_nil (at_ : Nat) : cut at_ [] = [] := rfl
theorem cut_cons (at_ c : Nat) (t : List Nat) : cut at_ (c :: t) = ((nx (c :: t)).1, at_, at_ + (nx (c :: t)).2.1, (nx (c :: t)).2.2) :: cut (at_ + (nx (c :: t)).2.1) ((c :: t).drop (nx (c :: t)).2.1) := by
  have := nx_len c t
  show cutF (t.length + 1) at_ (c :: t) = _
  simp only [cutF, cut]
  rw [cutF_more t.length ((c :: t).drop (nx (c :: t)).2.1).length _ _ (by simp only [List.length_drop, List.length_cons]; omega) (Nat.le_refl _)]
/-- Unfolded where one stands. -/
theorem cut_drop {b : List Nat} {i : Nat} (h : i < b.length) : cut i (b.drop i) = ((nx (b.drop i)).1, i, i + (nx (b.drop i)).2.1, (nx (b.drop i)).2.2) :: cut (i + (nx (b.drop i)).2.1) (b.drop (i + (nx (b.drop i)).2.1)) := by
  have e : b.drop i = b[i] :: b.drop (i + 1) := List.drop_eq_getElem_cons h
  have := cut_cons i b[i] (b.drop (i + 1))
  rw [← e, List.drop_drop] at this
  exact this
theorem nx_drop {b : List Nat} {i : Nat} (h : i < b.length) : 1 ≤ (nx (b.drop i)).2.1 ∧ i + (nx (b.drop i)).2.1 ≤ b.length ∧ (nx (b.drop i)).2.1 ≤ 4 := by
  have e : b.drop i = b[i] :: b.drop (i + 1) := List.drop_eq_getElem_cons h
  have := nx_len b[i] (b.drop (i + 1))
  rw [← e] at this
  simp only [List.length_drop] at this
  omega
theorem next_drop {b : List Nat} (hb : ∀ n ∈ b, n ≤ 255) (hl : b.length ≤ 4611686018427387904) {i : Nat} (h : i < b.length) : Pure Tryd.prog 80 [.sl 5 (octs (b.drop i)) none] [] (.tu [.lit (.int .i32 (nx (b.drop i)).1), .lit (.int .i64 (nx (b.drop i)).2.1)]) := by
  have e : b.drop i = b[i] :: b.drop (i + 1) := List.drop_eq_getElem_cons h
  rw [e]
  refine next_pure _ _ ?_ (by simp only [List.length_drop]; omega)
  rw [← e]
  exact fun n hn => hb n (List.mem_of_mem_drop hn)

theorem cut_length (at_ : Nat) (b : List Nat) : (cut at_ b).length ≤ b.length := by
  have key : ∀ (f at_ : Nat) (b : List Nat), b.length ≤ f → (cutF f at_ b).length ≤ b.length := by
    intro f
    induction f with
    | zero => intro at_ b h; simp [cutF]
    | succ f ih =>
      intro at_ b h
      cases b with
      | nil => simp [cutF]
      | cons c t =>
        have := nx_len c t
        have := ih (at_ + (nx (c :: t)).2.1) ((c :: t).drop (nx (c :: t)).2.1) (by simp only [List.length_drop]; omega)
        simp only [cutF, List.length_cons, List.length_drop] at this ⊢
        omega
  exact key _ _ _ (Nat.le_refl _)

def codeC (x : Nat × Nat × Nat × Bool) : List Value := [.int .i32 (x.1 : Int), .int .i64 (x.2.1 : Int), .int .i64 (x.2.2.1 : Int)]
def codesC (l : List (Nat × Nat × Nat × Bool)) : List (List Value) := l.map codeC

theorem codesC_length (l : List (Nat × Nat × Nat × Bool)) : (codesC l).length = l.length := by simp [codesC]

theorem slc_drop {b : List Nat} {i : Nat} (h : i ≤ b.length) : (if i ≤ b.length ∧ b.length ≤ b.length then some (i, b.length) else none : Option (Nat × Nat)) = some (i, b.length) := by rw [if_pos ⟨h, Nat.le_refl _⟩]

set_option maxRecDepth 10000 in
theorem codes_pure (b : List Nat) (hb : ∀ n ∈ b, n ≤ 255) (hl : b.length ≤ 1099511627776) : Pure Tryd.prog 71 [.sl 5 (octs b) none] [42] (.sl 42 (codesC (cut 0 b)) (some 0)) := by
  refine pure1 Tryd.func71 c71 n71 e71 r71 (by simp) ?_
  simp only [a71, astart, argSlots, go_sem, Nat.reduceAdd, Nat.reduceEqDiff, Nat.reduceLT, reduceIte, reduceCtorEq, Nat.reduceBEq, Int.reduceLT, Int.reduceToNat, Int.reducePow, Nat.reduceLeDiff, Int.reduceLE, Nat.reduceMul, Nat.reduceSub, allOne, AV.one, Value.oneCell']
  refine callGo_walk Tryd.func77 c77 n77 e77 r77 (by simp) ?_
  simp only [a77, astart, argSlots, go_sem, Nat.reduceAdd, Nat.reduceEqDiff, Nat.reduceLT, reduceIte, reduceCtorEq, Nat.reduceBEq, Int.reduceLT, Int.reduceToNat, Int.reducePow, Nat.reduceLeDiff, Int.reduceLE, Nat.reduceMul, Nat.reduceSub, allOne, AV.one]
  refine ⟨by simp, _, rfl, ?_⟩
  refine rfnGo_call [3] _ rfl ?_
  refine callOK_walk Tryd.func79 c79 n79 e79 r79 (by simp) ?_
  simp only [a79, astart, argSlots, go_sem, Nat.reduceAdd, Nat.reduceEqDiff, Nat.reduceLT, reduceIte, reduceCtorEq, Nat.reduceBEq, Int.reduceLT, Int.reduceToNat, Int.reducePow, Nat.reduceLeDiff, Int.reduceLE, Nat.reduceMul, Nat.reduceSub]
  refine ⟨fun s => ∃ (i : Nat) (acc : List (Nat × Nat × Nat × Bool)), i ≤ b.length ∧ acc.length ≤ i ∧ cut 0 b = acc ++ cut i (b.drop i) ∧
      s = ⟨[(0, some (.rf .yield 2)), (1, some (.bp 1 0)), (3, some (.lit (.int .i64 (i : Int))))],
        [(2, [.ob (.loop ⟨13, [3], [7], as71_0, bd71_0, .ready, none⟩) [.bp 0 0]]), (1, [.sl 5 (octs b) none]), (0, [.sl 42 (codesC acc) (some 3)])], [(3, 42)], 4⟩,
    fun s => b.length - cnt 3 s, ⟨_, (weak_nil_box 0 0 42 (cells := [.lit (.slice none 0 0)]) (by simp only [go_sem, Nat.reduceAdd, Nat.reduceEqDiff, Nat.reduceLT, reduceIte, reduceCtorEq, Nat.reduceBEq, Int.reduceLT, Int.reduceToNat, Int.reducePow, Nat.reduceLeDiff, Int.reduceLE, Nat.reduceMul, Nat.reduceSub]) rfl).trans (weak_by [0, 1, 2, 3] (by simp) rfl ?_ ?_ ?_ ?_), 0, [], Nat.zero_le _, Nat.zero_le _, rfl, rfl⟩, ?_⟩
  · simp only [go_sem, Nat.reduceAdd, Nat.reduceEqDiff, Nat.reduceLT, reduceIte, reduceCtorEq, Nat.reduceBEq, Int.reduceLT, Int.reduceToNat, Int.reducePow, Nat.reduceLeDiff, Int.reduceLE, Nat.reduceMul, Nat.reduceSub, slotsBy, boxesBy, tipsBy, rawAt, nm, AV.ren, AV.renL, AV.under, AV.underL, List.all_nil, List.all_cons, bne_self_eq_false, List.getD_cons_zero, List.getD_cons_succ, List.length_nil, List.length_cons, and_true, true_and, Int.natCast_zero]
  · simp only [go_sem, Nat.reduceAdd, Nat.reduceEqDiff, Nat.reduceLT, reduceIte, reduceCtorEq, Nat.reduceBEq, Int.reduceLT, Int.reduceToNat, Int.reducePow, Nat.reduceLeDiff, Int.reduceLE, Nat.reduceMul, Nat.reduceSub, slotsBy, boxesBy, tipsBy, rawAt, nm, AV.ren, AV.renL, AV.under, AV.underL, List.all_nil, List.all_cons, bne_self_eq_false, List.getD_cons_zero, List.getD_cons_succ, List.length_nil, List.length_cons, and_true, true_and, codesC, List.map_nil]
    simp
  · simp only [go_sem, Nat.reduceAdd, Nat.reduceEqDiff, Nat.reduceLT, reduceIte, reduceCtorEq, Nat.reduceBEq, Int.reduceLT, Int.reduceToNat, Int.reducePow, Nat.reduceLeDiff, Int.reduceLE, Nat.reduceMul, Nat.reduceSub, slotsBy, boxesBy, tipsBy, rawAt, nm, AV.ren, AV.renL, AV.under, AV.underL, List.all_nil, List.all_cons, bne_self_eq_false, List.getD_cons_zero, List.getD_cons_succ, List.length_nil, List.length_cons, and_true, true_and, beq_self_eq_true]
  · refine ⟨by simp, fun i hi => ?_⟩
    match i, hi with
    | 0, _ => rfl
    | 1, _ => rfl
    | 2, _ => rfl
  · rintro _ ⟨i, acc, hi, hacc, hcut, rfl⟩
    simp only [go_sem, Nat.reduceAdd, Nat.reduceEqDiff, Nat.reduceLT, reduceIte, reduceCtorEq, Nat.reduceBEq, Int.reduceLT, Int.reduceToNat, Int.reducePow, Nat.reduceLeDiff, Int.reduceLE, Nat.reduceMul, Nat.reduceSub]
    rcases Nat.lt_or_eq_of_le hi with hlt | heq
    · simp only [dec_lt hlt, slc_drop hi, go_sem, Nat.reduceAdd, Nat.reduceEqDiff, Nat.reduceLT, reduceIte, reduceCtorEq, Nat.reduceBEq, Int.reduceLT, Int.reduceToNat, Int.reducePow, Nat.reduceLeDiff, Int.reduceLE, Nat.reduceMul, Nat.reduceSub]
      rw [List.take_of_length_le (by simp [octs]), octs_drop]
      refine callGo_pure (next_drop hb (by omega) hlt) (by rfl) ?_
      have hk := nx_drop hlt
      have hc := cut_drop hlt
      generalize nx (b.drop i) = z at hk hc ⊢
      have hw : IntKind.i64.wrap ((i : Int) + (z.2.1 : Int)) = ((i + z.2.1 : Nat) : Int) := by rw [wrap_i64 _ (by omega) (by omega)]; omega
      simp only [hw, go_sem, Nat.reduceAdd, Nat.reduceEqDiff, Nat.reduceLT, reduceIte, reduceCtorEq, Nat.reduceBEq, Int.reduceLT, Int.reduceToNat, Int.reducePow, Nat.reduceLeDiff, Int.reduceLE, Nat.reduceMul, Nat.reduceSub, allOne, AV.one, Value.oneCell']
      refine callGo_yield (i := ⟨13, [3], [7], as71_0, bd71_0, .ready, none⟩) (cells := [.bp 0 0]) (by simp only [go_sem, Nat.reduceAdd, Nat.reduceEqDiff, Nat.reduceLT, reduceIte, reduceCtorEq, Nat.reduceBEq, Int.reduceLT, Int.reduceToNat, Int.reducePow, Nat.reduceLeDiff, Int.reduceLE, Nat.reduceMul, Nat.reduceSub]) rfl rfl ?_
      simp only [go_sem, Nat.reduceAdd, Nat.reduceEqDiff, Nat.reduceLT, reduceIte, reduceCtorEq, Nat.reduceBEq, Int.reduceLT, Int.reduceToNat, Int.reducePow, Nat.reduceLeDiff, Int.reduceLE, Nat.reduceMul, Nat.reduceSub, allOne, AV.one, Value.oneCell', Int.natCast_zero, Nat.le_refl]
      rw [hc] at hcut
      refine ⟨by rw [codesC_length]; omega, _, weak_by [0, 1, 2, 6] (by simp) rfl ?_ ?_ ?_ ?_, ⟨i + z.2.1, acc ++ [(z.1, i, i + z.2.1, z.2.2)], hk.2.1, by simp only [List.length_append, List.length_cons, List.length_nil]; omega, by rw [hcut]; simp, rfl⟩, ?_⟩
      · simp only [go_sem, Nat.reduceAdd, Nat.reduceEqDiff, Nat.reduceLT, reduceIte, reduceCtorEq, Nat.reduceBEq, Int.reduceLT, Int.reduceToNat, Int.reducePow, Nat.reduceLeDiff, Int.reduceLE, Nat.reduceMul, Nat.reduceSub, slotsBy, boxesBy, tipsBy, rawAt, nm, AV.ren, AV.renL, AV.under, AV.underL, List.all_nil, List.all_cons, bne_self_eq_false, List.getD_cons_zero, List.getD_cons_succ, List.length_nil, List.length_cons, and_true, true_and, hw]
      · simp only [go_sem, Nat.reduceAdd, Nat.reduceEqDiff, Nat.reduceLT, reduceIte, reduceCtorEq, Nat.reduceBEq, Int.reduceLT, Int.reduceToNat, Int.reducePow, Nat.reduceLeDiff, Int.reduceLE, Nat.reduceMul, Nat.reduceSub, slotsBy, boxesBy, tipsBy, rawAt, nm, AV.ren, AV.renL, AV.under, AV.underL, List.all_nil, List.all_cons, bne_self_eq_false, List.getD_cons_zero, List.getD_cons_succ, List.length_nil, List.length_cons, and_true, true_and, codesC, List.map_append, codeC]
        simp
      · simp only [go_sem, Nat.reduceAdd, Nat.reduceEqDiff, Nat.reduceLT, reduceIte, reduceCtorEq, Nat.reduceBEq, Int.reduceLT, Int.reduceToNat, Int.reducePow, Nat.reduceLeDiff, Int.reduceLE, Nat.reduceMul, Nat.reduceSub, slotsBy, boxesBy, tipsBy, rawAt, nm, AV.ren, AV.renL, AV.under, AV.underL, List.all_nil, List.all_cons, bne_self_eq_false, List.getD_cons_zero, List.getD_cons_succ, List.length_nil, List.length_cons, and_true, true_and, beq_self_eq_true]
      · refine ⟨by simp, fun i hi => ?_⟩
        match i, hi with
        | 0, _ => rfl
        | 1, _ => rfl
        | 2, _ => rfl
      · simp only [cnt, go_sem, Nat.reduceAdd, Nat.reduceEqDiff, Nat.reduceLT, reduceIte, reduceCtorEq, Nat.reduceBEq, Int.reduceLT, Int.reduceToNat, Int.reducePow, Nat.reduceLeDiff, Int.reduceLE, Nat.reduceMul, Nat.reduceSub, Int.toNat_natCast]; omega
    · subst heq
      rw [List.drop_length, cut_nil, List.append_nil] at hcut
      simp only [dec_irr, go_sem, Nat.reduceAdd, Nat.reduceEqDiff, Nat.reduceLT, reduceIte, reduceCtorEq, Nat.reduceBEq, Int.reduceLT, Int.reduceToNat, Int.reducePow, Nat.reduceLeDiff, Int.reduceLE, Nat.reduceMul, Nat.reduceSub]
      refine ⟨by simp, _, rfl, ?_⟩
      simp only [rfnPost, go_sem, Nat.reduceAdd, Nat.reduceEqDiff, Nat.reduceLT, reduceIte, reduceCtorEq, Nat.reduceBEq, Int.reduceLT, Int.reduceToNat, Int.reducePow, Nat.reduceLeDiff, Int.reduceLE, Nat.reduceMul, Nat.reduceSub, hcut]
      exact ⟨.inr rfl, 3, by simp only [resAV, resL, resOne, go_sem, Nat.reduceAdd, Nat.reduceEqDiff, Nat.reduceLT, reduceIte, reduceCtorEq, Nat.reduceBEq, Int.reduceLT, Int.reduceToNat, Int.reducePow, Nat.reduceLeDiff, Int.reduceLE, Nat.reduceMul, Nat.reduceSub], by simp [go_sem, Nat.reduceAdd, Nat.reduceEqDiff, Nat.reduceLT, reduceIte, reduceCtorEq, Nat.reduceBEq, Int.reduceLT, Int.reduceToNat, Int.reducePow, Nat.reduceLeDiff, Int.reduceLE, Nat.reduceMul, Nat.reduceSub]⟩
end Go.Proofs.YteekelelcbfekaaDoor

/-! ## Utf4D -/

namespace Go.Proofs.YteekelelcbfekaaDoor
open Go Go.Ab

/-- A scalar's bytes. -/
def encN (r : Nat) : List Nat :=
  if r ≤ 127 then [r] else if r ≤ 2047 then [192 + r / 64, 128 + r % 64] else if r ≤ 65535 then [224 + r / 4096, 128 + r / 64 % 64, 128 + r % 64] else
    [240 + r / 262144, 128 + r / 4096 % 64, 128 + r / 64 % 64, 128 + r % 64]
def Scalar (r : Nat) : Prop := r < 55296 ∨ (57343 < r ∧ r ≤ 1114111)

theorem goOn_succ (n lo hi r k x : Nat) (t : List Nat) : goOn (n + 1) lo hi r k (x :: t) = if x < lo ∨ hi < x then (65533, k, false) else goOn n 128 191 (r * 64 + x % 64) (k + 1) t := rfl
theorem goOn_end (n lo hi r k : Nat) : goOn (n + 1) lo hi r k [] = (65533, k, false) := rfl
theorem goOn_zero (lo hi r k : Nat) (t : List Nat) : goOn 0 lo hi r k t = (r, k, true) := by cases t <;> rfl

theorem enc1 {r : Nat} (h : r ≤ 127) : encN r = [r] := by simp only [encN, if_pos h]
theorem enc2 {r : Nat} (h1 : 127 < r) (h2 : r ≤ 2047) : encN r = [192 + r / 64, 128 + r % 64] := by simp only [encN, if_neg (show ¬ r ≤ 127 by omega), if_pos h2]
theorem enc3 {r : Nat} (h1 : 2047 < r) (h2 : r ≤ 65535) : encN r = [224 + r / 4096, 128 + r / 64 % 64, 128 + r % 64] := by simp only [encN, if_neg (show ¬ r ≤ 127 by omega), if_neg (show ¬ r ≤ 2047 by omega), if_pos h2]
theorem enc4 {r : Nat} (h1 : 65535 < r) : encN r = [240 + r / 262144, 128 + r / 4096 % 64, 128 + r / 64 % 64, 128 + r % 64] := by simp only [encN, if_neg (show ¬ r ≤ 127 by omega), if_neg (show ¬ r ≤ 2047 by omega), if_neg (show ¬ r ≤ 65535 by omega)]

theorem enc_cases (r : Nat) : (r ≤ 127) ∨ (127 < r ∧ r ≤ 2047) ∨ (2047 < r ∧ r ≤ 65535) ∨ (65535 < r) := by omega

theorem encN_len (r : Nat) : 1 ≤ (encN r).length ∧ (encN r).length ≤ 4 := by
  rcases enc_cases r with h | ⟨h1, h2⟩ | ⟨h1, h2⟩ | h
  · rw [enc1 h]; simp
  · rw [enc2 h1 h2]; simp
  · rw [enc3 h1 h2]; simp
  · rw [enc4 h]; simp

theorem encN_octs {r : Nat} (h : r ≤ 1114111) : ∀ n ∈ encN r, n ≤ 255 := by
  rcases enc_cases r with h1 | ⟨h1, h2⟩ | ⟨h1, h2⟩ | h1
  · rw [enc1 h1]; simp; omega
  · rw [enc2 h1 h2]; simp; omega
  · rw [enc3 h1 h2]; simp; omega
  · rw [enc4 h1]; simp; omega

/-- Bytes that are said: they are a scalar's. -/
theorem nx_ok {b : List Nat} {r k : Nat} (hb : ∀ n ∈ b, n ≤ 255) (h : nx b = (r, k, true)) : Scalar r ∧ b.take k = encN r ∧ k = (encN r).length := by
  match b, hb, h with
  | [], _, h => simp [nx] at h
  | c :: t, hb, h =>
    by_cases hL : leadB c = true
    · rw [nx_cons hL] at h
      rcases lead_cases hL with h1 | ⟨h1, h2⟩ | ⟨h1, h2⟩ | ⟨h1, h2⟩
      · obtain ⟨e1, e2, e3, e4⟩ := f1 h1
        rw [e1, goOn_zero, e2] at h
        simp only [Prod.mk.injEq, and_true] at h
        obtain ⟨rfl, rfl⟩ := h
        rw [enc1 h1]
        exact ⟨.inl (by omega), rfl, rfl⟩
      · obtain ⟨e1, e2, e3, e4⟩ := f2 h1 h2
        rw [e1, e2, e3, e4] at h
        match t, h with
        | [], h => simp [goOn_end] at h
        | x :: t, h =>
          rw [goOn_succ] at h
          split at h
          · simp at h
          · rw [goOn_zero] at h
            simp only [Prod.mk.injEq, and_true] at h
            obtain ⟨h3, rfl⟩ := h
            rw [enc2 (by omega) (by omega)]
            refine ⟨.inl (by omega), ?_, rfl⟩
            simp only [List.take_succ_cons, List.take_zero, List.cons.injEq, and_true]
            omega
      · obtain ⟨e1, e2, e3, e4⟩ := f3 h1 h2
        rw [e1, e2] at h
        have q1 : 128 ≤ lowOf c ∧ (c = 224 → 160 ≤ lowOf c) := by rw [e3]; split <;> omega
        have q2 : topOf c ≤ 191 ∧ (c = 237 → topOf c ≤ 159) := by rw [e4]; split <;> omega
        generalize lowOf c = L at h q1
        generalize topOf c = T at h q2
        match t, h with
        | [], h => simp [goOn_end] at h
        | x :: [], h =>
          rw [goOn_succ] at h
          split at h
          · simp at h
          · simp [goOn_end] at h
        | x :: y :: t, h =>
          rw [goOn_succ] at h
          split at h
          · simp at h
          · rename_i hx
            rw [goOn_succ] at h
            split at h
            · simp at h
            · rw [goOn_zero] at h
              simp only [Prod.mk.injEq, and_true] at h
              obtain ⟨h3, rfl⟩ := h
              have hx1 : 128 ≤ x ∧ (c = 224 → 160 ≤ x) := by omega
              have hx2 : x ≤ 191 ∧ (c = 237 → x ≤ 159) := by omega
              have hy : 128 ≤ y ∧ y ≤ 191 := by omega
              have hc : r = (c - 224) * 4096 + (x - 128) * 64 + (y - 128) := by omega
              rw [enc3 (by omega) (by omega)]
              refine ⟨by unfold Scalar; omega, ?_, rfl⟩
              simp only [List.take_succ_cons, List.take_zero, List.cons.injEq, and_true]
              omega
      · obtain ⟨e1, e2, e3, e4⟩ := f4 h1 h2
        rw [e1, e2] at h
        have q1 : 128 ≤ lowOf c ∧ (c = 240 → 144 ≤ lowOf c) := by rw [e3]; split <;> omega
        have q2 : topOf c ≤ 191 ∧ (c = 244 → topOf c ≤ 143) := by rw [e4]; split <;> omega
        generalize lowOf c = L at h q1
        generalize topOf c = T at h q2
        match t, h with
        | [], h => simp [goOn_end] at h
        | x :: [], h =>
          rw [goOn_succ] at h
          split at h
          · simp at h
          · simp [goOn_end] at h
        | x :: y :: [], h =>
          rw [goOn_succ] at h
          split at h
          · simp at h
          · rw [goOn_succ] at h
            split at h
            · simp at h
            · simp [goOn_end] at h
        | x :: y :: z :: t, h =>
          rw [goOn_succ] at h
          split at h
          · simp at h
          · rename_i hx
            rw [goOn_succ] at h
            split at h
            · simp at h
            · rw [goOn_succ] at h
              split at h
              · simp at h
              · rw [goOn_zero] at h
                simp only [Prod.mk.injEq, and_true] at h
                obtain ⟨h3, rfl⟩ := h
                have hx1 : 128 ≤ x ∧ (c = 240 → 144 ≤ x) := by omega
                have hx2 : x ≤ 191 ∧ (c = 244 → x ≤ 143) := by omega
                have hy : 128 ≤ y ∧ y ≤ 191 := by omega
                have hz : 128 ≤ z ∧ z ≤ 191 := by omega
                have hc : r = (c - 240) * 262144 + (x - 128) * 4096 + (y - 128) * 64 + (z - 128) := by omega
                rw [enc4 (by omega)]
                refine ⟨by unfold Scalar; omega, ?_, rfl⟩
                simp only [List.take_succ_cons, List.take_zero, List.cons.injEq, and_true]
                omega
    · simp [nx, hL] at h

/-- A scalar's bytes are said, whatever is behind. -/
theorem nx_enc {r : Nat} (h : Scalar r) (t : List Nat) : nx (encN r ++ t) = (r, (encN r).length, true) := by
  unfold Scalar at h
  rcases enc_cases r with h1 | ⟨h1, h2⟩ | ⟨h1, h2⟩ | h1
  · rw [enc1 h1]
    obtain ⟨e1, e2, e3, e4⟩ := f1 h1
    simp only [List.cons_append, List.nil_append]
    rw [nx_cons (lead_t (.inl h1)), e1, goOn_zero, e2]; rfl
  · rw [enc2 h1 h2]
    obtain ⟨e1, e2, e3, e4⟩ := f2 (c := 192 + r / 64) (by omega) (by omega)
    simp only [List.cons_append, List.nil_append]
    rw [nx_cons (lead_t (by omega)), e1, e2, e3, e4, goOn_succ, if_neg (by omega), goOn_zero]
    simp only [List.length_cons, List.length_nil, Prod.mk.injEq, and_true]
    omega
  · rw [enc3 h1 h2]
    obtain ⟨e1, e2, e3, e4⟩ := f3 (c := 224 + r / 4096) (by omega) (by omega)
    simp only [List.cons_append, List.nil_append]
    have q1 : ¬(128 + r / 64 % 64 < (if 224 + r / 4096 = 224 then 160 else 128)) := by split <;> omega
    have q2 : ¬((if 224 + r / 4096 = 237 then 159 else 191) < 128 + r / 64 % 64) := by split <;> omega
    rw [nx_cons (lead_t (by omega)), e1, e2, goOn_succ, if_neg (by rw [e3, e4]; omega), goOn_succ, if_neg (by omega), goOn_zero]
    simp only [List.length_cons, List.length_nil, Prod.mk.injEq, and_true]
    omega
  · rw [enc4 h1]
    obtain ⟨e1, e2, e3, e4⟩ := f4 (c := 240 + r / 262144) (by omega) (by omega)
    simp only [List.cons_append, List.nil_append]
    have q1 : ¬(128 + r / 4096 % 64 < (if 240 + r / 262144 = 240 then 144 else 128)) := by split <;> omega
    have q2 : ¬((if 240 + r / 262144 = 244 then 143 else 191) < 128 + r / 4096 % 64) := by split <;> omega
    rw [nx_cons (lead_t (by omega)), e1, e2, goOn_succ, if_neg (by rw [e3, e4]; omega), goOn_succ, if_neg (by omega), goOn_succ, if_neg (by omega), goOn_zero]
    simp only [List.length_cons, List.length_nil, Prod.mk.injEq, and_true]
    omega

theorem goOn_fail : ∀ (n lo hi r k : Nat) (t : List Nat), (goOn n lo hi r k t).2.2 = false → (goOn n lo hi r k t).1 = 65533 ∧ (goOn n lo hi r k t).2.1 < k + n
  | 0, lo, hi, r, k, t, h => by rw [goOn_zero] at h; cases h
  | n + 1, lo, hi, r, k, [], h => by rw [goOn_end]; exact ⟨rfl, by simp⟩
  | n + 1, lo, hi, r, k, x :: t, h => by
    rw [goOn_succ] at h ⊢
    split
    · exact ⟨rfl, by simp⟩
    · rename_i hx
      rw [if_neg hx] at h
      have := goOn_fail n 128 191 (r * 64 + x % 64) (k + 1) t h
      exact ⟨this.1, by omega⟩

theorem nx_fail {c : Nat} {t : List Nat} (h : (nx (c :: t)).2.2 = false) : (nx (c :: t)).1 = 65533 ∧ (nx (c :: t)).2.1 ≤ 3 ∧ ((nx (c :: t)).2.1 = 3 → 240 ≤ c) := by
  by_cases hL : leadB c = true
  · rw [nx_cons hL] at h ⊢
    have := goOn_fail _ _ _ _ _ _ h
    refine ⟨this.1, ?_, ?_⟩
    · have := (first_facts hL).2.2.2.2.1; omega
    · intro h3
      rcases lead_cases hL with h1 | ⟨h1, h2⟩ | ⟨h1, h2⟩ | ⟨h1, h2⟩
      · have := (f1 h1).1; omega
      · have := (f2 h1 h2).1; omega
      · have := (f3 h1 h2).1; omega
      · exact h1
  · have e : nx (c :: t) = (65533, 1, false) := by simp [nx, hL]
    rw [e]; simp

theorem goOn_take : ∀ (n lo hi r k m : Nat) (t : List Nat), (goOn n lo hi r k t).2.1 ≤ k + m → goOn n lo hi r k (t.take m) = goOn n lo hi r k t
  | 0, lo, hi, r, k, m, t, h => by rw [goOn_zero, goOn_zero]
  | n + 1, lo, hi, r, k, m, [], h => by simp
  | n + 1, lo, hi, r, k, 0, x :: t, h => by
    rw [goOn_succ] at h ⊢
    rw [List.take_zero, goOn_end]
    split
    · rfl
    · rename_i hx
      rw [if_neg hx] at h
      have := (goOn_len n 128 191 (r * 64 + x % 64) (k + 1) t).1
      omega
  | n + 1, lo, hi, r, k, m + 1, x :: t, h => by
    rw [goOn_succ] at h
    rw [List.take_succ_cons, goOn_succ, goOn_succ]
    split
    · rfl
    · rename_i hx
      rw [if_neg hx] at h
      exact goOn_take n 128 191 _ (k + 1) m t (by omega)

/-- What bytes begin with hangs on its own bytes alone, if they end there. -/
theorem nx_take {b : List Nat} {m : Nat} (h : (nx b).2.1 ≤ m) : nx (b.take m) = nx b := by
  match b, h with
  | [], h => simp
  | c :: t, h =>
    have hk := nx_len c t
    obtain ⟨m, rfl⟩ : ∃ m', m = m' + 1 := ⟨m - 1, by omega⟩
    rw [List.take_succ_cons]
    by_cases hL : leadB c = true
    · rw [nx_cons hL] at h ⊢
      rw [nx_cons hL]
      exact goOn_take _ _ _ _ _ _ _ (by omega)
    · simp [nx, hL]
end Go.Proofs.YteekelelcbfekaaDoor

/-! ## Utf5D -/

namespace Go.Proofs.YteekelelcbfekaaDoor
open Go Go.Ab
def a62 : ACode :=
  (.seq (.reg [⟨(.some 3), (.mv (.k (.int .u8 0))), .none⟩]) (.seq (.reg [⟨(.some 4), (.ld .none (.t 1)), .none⟩, ⟨(.some 5), (.mv (.t 0)), .none⟩, ⟨(.some 6), (.bin .shr (.t 4) (.t 5)), .none⟩, ⟨(.some
  7), (.cvI .u8 (.t 6)), .none⟩, ⟨(.some 8), (.bin .and (.t 7) (.k (.int .u8 63))), .none⟩, ⟨(.some 9), (.bin .or (.k (.int .u8 128)) (.t 8)), .none⟩, ⟨(.some 3), (.mv (.t 9)), .none⟩]) .ret))
theorem c62 : Tryd.f62.body.bind (cCode Tryd.prog 10) = some a62 := by kernel_rfl
theorem r62 : Tryd.f62.results.toList = [(.tmp 3)] := by kernel_rfl
theorem n62 : Tryd.f62.ntmps = 10 := by kernel_rfl
theorem e62 : Enters Tryd.prog 62 := Go.Ab.enters_of Tryd.func62 (by kernel_rfl) (by kernel_rfl)
def a41 : ACode :=
  (.seq (.reg [⟨(.some 3), (.box 21 (.t 1)), .none⟩, ⟨(.some 4), (.mv (.k (.slice .none 0 0))), .none⟩]) (.seq (.reg [⟨(.some 6), (.mkf (.func 62) [] [(.t 3)]), .none⟩, ⟨(.some 5), (.mv (.t 6)),
  .none⟩]) (.seq (.block 0 (.seq (.reg [⟨(.some 8), (.ld .none (.t 3)), .none⟩, ⟨(.some 9), (.bin .leq (.t 8) (.k (.int .i32 127))), .none⟩, ⟨(.some 7), (.mv (.t 9)), .none⟩]) (.cond (.t 7) (.seq (.reg
  [⟨(.some 10), (.mv (.t 0)), .none⟩, ⟨(.some 11), (.ld .none (.t 3)), .none⟩, ⟨(.some 12), (.cvI .u8 (.t 11)), .none⟩, ⟨(.some 13), (.bs 5 1 [(.t 12)]), .none⟩, ⟨(.some 14), (.app 5 1 (.t 10) (.t 13)),
  .none⟩, ⟨(.some 4), (.mv (.t 14)), .none⟩]) .ret) (.seq (.reg [⟨(.some 16), (.ld .none (.t 3)), .none⟩, ⟨(.some 17), (.bin .leq (.t 16) (.k (.int .i32 2047))), .none⟩, ⟨(.some 15), (.mv (.t 17)),
  .none⟩]) (.cond (.t 15) (.seq (.dreg [⟨(.some 18), (.mv (.t 0)), .none⟩, ⟨(.some 19), (.ld .none (.t 3)), .none⟩, ⟨(.some 20), (.bin .shr (.t 19) (.k (.int .u64 6))), .none⟩, ⟨(.some 21), (.cvI .u8
  (.t 20)), .none⟩, ⟨(.some 22), (.bin .or (.k (.int .u8 192)) (.t 21)), .none⟩, ⟨(.some 23), (.mv (.t 5)), .none⟩, ⟨(.some 24), (.call (.t 23) [(.k (.int .i64 0))]), .none⟩, ⟨(.some 25), (.bs0 5 1 [(.t
  22), (.t 24)]), .none⟩, ⟨(.some 26), (.app 5 1 (.t 18) (.t 25)), .none⟩, ⟨(.some 4), (.mv (.t 26)), .none⟩]) .ret) (.seq (.reg [⟨(.some 28), (.ld .none (.t 3)), .none⟩, ⟨(.some 29), (.bin .leq (.t 28)
  (.k (.int .i32 65535))), .none⟩, ⟨(.some 27), (.mv (.t 29)), .none⟩]) (.cond (.t 27) (.seq (.dreg [⟨(.some 30), (.mv (.t 0)), .none⟩, ⟨(.some 31), (.ld .none (.t 3)), .none⟩, ⟨(.some 32), (.bin .shr
  (.t 31) (.k (.int .u64 12))), .none⟩, ⟨(.some 33), (.cvI .u8 (.t 32)), .none⟩, ⟨(.some 34), (.bin .or (.k (.int .u8 224)) (.t 33)), .none⟩, ⟨(.some 35), (.mv (.t 5)), .none⟩, ⟨(.some 36), (.call (.t
  35) [(.k (.int .i64 6))]), .none⟩, ⟨(.some 37), (.mv (.t 5)), .none⟩, ⟨(.some 38), (.call (.t 37) [(.k (.int .i64 0))]), .none⟩, ⟨(.some 39), (.bs0 5 1 [(.t 34), (.t 36), (.t 38)]), .none⟩, ⟨(.some
  40), (.app 5 1 (.t 30) (.t 39)), .none⟩, ⟨(.some 4), (.mv (.t 40)), .none⟩]) .ret) .skip))))))) (.seq (.dreg [⟨(.some 41), (.mv (.t 0)), .none⟩, ⟨(.some 42), (.ld .none (.t 3)), .none⟩, ⟨(.some 43),
  (.bin .shr (.t 42) (.k (.int .u64 18))), .none⟩, ⟨(.some 44), (.cvI .u8 (.t 43)), .none⟩, ⟨(.some 45), (.bin .or (.k (.int .u8 240)) (.t 44)), .none⟩, ⟨(.some 46), (.mv (.t 5)), .none⟩, ⟨(.some 47),
  (.call (.t 46) [(.k (.int .i64 12))]), .none⟩, ⟨(.some 48), (.mv (.t 5)), .none⟩, ⟨(.some 49), (.call (.t 48) [(.k (.int .i64 6))]), .none⟩, ⟨(.some 50), (.mv (.t 5)), .none⟩, ⟨(.some 51), (.call (.t
  50) [(.k (.int .i64 0))]), .none⟩, ⟨(.some 52), (.bs0 5 1 [(.t 45), (.t 47), (.t 49), (.t 51)]), .none⟩, ⟨(.some 53), (.app 5 1 (.t 41) (.t 52)), .none⟩, ⟨(.some 4), (.mv (.t 53)), .none⟩]) .ret))))
theorem c41 : Tryd.f41.body.bind (cCode Tryd.prog 54) = some a41 := by kernel_rfl
theorem r41 : Tryd.f41.results.toList = [(.tmp 4)] := by kernel_rfl
theorem n41 : Tryd.f41.ntmps = 54 := by kernel_rfl
theorem e41 : Enters Tryd.prog 41 := Go.Ab.enters_of Tryd.func41 (by kernel_rfl) (by kernel_rfl)
def a25 : ACode :=
  (.seq (.reg [⟨(.some 2), (.mv (.k (.slice .none 0 0))), .none⟩]) (.seq (.reg [⟨(.some 3), (.mv (.k (.slice .none 0 0))), .none⟩]) (.seq (.seq (.reg [⟨(.some 6), (.mv (.t 0)), .none⟩, ⟨(.some 7), (.len
  (.t 6)), .none⟩, ⟨(.some 8), (.mv (.k (.int .i64 0))), .none⟩]) (.block 0 (.loop (.seq (.reg [⟨(.some 9), (.bin .lss (.t 8) (.t 7)), .none⟩]) (.seq (.cond (.t 9) .skip (.exit 0)) (.seq (.block 1 (.seq
  (.reg [⟨(.some 10), (.ia 21 (.t 6) (.t 8)), .none⟩, ⟨(.some 11), (.ld .none (.t 10)), .none⟩, ⟨(.some 5), (.mv (.t 11)), .none⟩]) (.seq (.seq (.reg [⟨(.some 12), (.mv (.t 5)), .none⟩, ⟨(.some 13),
  (.call (.f 5) [(.t 12)]), .none⟩, ⟨(.some 14), (.not (.t 13)), .none⟩]) (.cond (.t 14) (.reg [⟨(.some 5), (.mv (.k (.int .i32 65533))), .none⟩]) .skip)) (.reg [⟨(.some 15), (.mv (.t 3)), .none⟩,
  ⟨(.some 16), (.mv (.t 5)), .none⟩, ⟨(.some 17), (.call (.f 41) [(.t 15), (.t 16)]), .none⟩, ⟨(.some 3), (.mv (.t 17)), .none⟩])))) (.reg [⟨(.some 18), (.bin .add (.t 8) (.k (.int .i64 1))), .none⟩,
  ⟨(.some 8), (.mv (.t 18)), .none⟩]))))))) (.seq (.reg [⟨(.some 19), (.mv (.t 3)), .none⟩, ⟨(.some 2), (.mv (.t 19)), .none⟩]) .ret))))
theorem c25 : Tryd.f25.body.bind (cCode Tryd.prog 20) = some a25 := by kernel_rfl
theorem r25 : Tryd.f25.results.toList = [(.tmp 2)] := by kernel_rfl
theorem n25 : Tryd.f25.ntmps = 20 := by kernel_rfl
theorem e25 : Enters Tryd.prog 25 := Go.Ab.enters_of Tryd.func25 (by kernel_rfl) (by kernel_rfl)

theorem shr_i32 (r : Nat) (k : Nat) : (r : Int).fdiv (2 ^ k) = ((r / 2 ^ k : Nat) : Int) := by
  rw [Int.fdiv_eq_ediv_of_nonneg _ (by exact Int.le_of_lt (Int.pow_pos (by omega)))]
  simp
theorem cast_i32_u8 (n : Nat) : IntKind.u8.wrap (n : Int) = ((n % 256 : Nat) : Int) := by
  simp only [IntKind.wrap, IntKind.bits, IntKind.signed]
  simp
theorem or128 : ∀ n : Nat, n < 64 → 128 ||| n = 128 + n := by decide
theorem or192 : ∀ n : Nat, n < 32 → 192 ||| n = 192 + n := by decide
theorem or224 : ∀ n : Nat, n < 16 → 224 ||| n = 224 + n := by decide
theorem or240 : ∀ n : Nat, n < 8 → 240 ||| n = 240 + n := by decide

theorem tail_num (n : Nat) : orI .u8 128 (andI .u8 (IntKind.u8.wrap (n : Int)) 63) = ((128 + n % 64 : Nat) : Int) := by
  rw [cast_i32_u8, andI_63 _ (by omega)]
  have e : n % 256 % 64 = n % 64 := by omega
  rw [e]
  have := orI_u8 128 (n % 64) (by omega) (by omega)
  rw [or128 _ (by omega)] at this
  exact this
theorem head_num (a k n : Nat) (hk : a + n < 256) (hor : a ||| n = a + n) (hn : n < 256) (ha : a < 256) : orI .u8 (a : Int) (IntKind.u8.wrap (n : Int)) = ((a + n : Nat) : Int) := by
  rw [cast_i32_u8, Nat.mod_eq_of_lt hn]
  have := orI_u8 a n ha hn
  rw [hor] at this
  exact this

set_option maxRecDepth 10000 in
theorem tail_pure (k r : Nat) (hk : k < 32) : Pure Tryd.prog 62 [.lit (.int .i64 (k : Int)), .ep [.lit (.int .i32 (r : Int))]] [] (.lit (.int .u8 ((128 + r / 2 ^ k % 64 : Nat) : Int))) := by
  refine pure0 Tryd.func62 c62 n62 e62 r62 (by simp) rfl ?_
  simp only [a62, astart, argSlots, go_sem, Nat.reduceAdd, Nat.reduceEqDiff, Nat.reduceLT, reduceIte, reduceCtorEq, Nat.reduceBEq, Int.reduceLT, Int.reduceToNat, Int.reducePow, Nat.reduceLeDiff, Int.reduceLE, Nat.reduceMul, Nat.reduceSub]
  have h0 : ((k : Int) < 0) = False := by simp
  simp only [h0, go_sem, Nat.reduceAdd, Nat.reduceEqDiff, Nat.reduceLT, reduceIte, reduceCtorEq, Nat.reduceBEq, Int.reduceLT, Int.reduceToNat, Int.reducePow, Nat.reduceLeDiff, Int.reduceLE, Nat.reduceMul, Nat.reduceSub]
  have hm : (if k ≤ 32 then k else 32) = k := if_pos (by omega)
  simp only [hm, shr_i32, tail_num]
  simp only [Done, resAV, resL, resOne, look_nil, look_cons, Nat.reduceEqDiff, if_true, if_false, reduceIte, ite_true, ite_false, Nat.zero_ne_one, Nat.one_ne_zero, reduceCtorEq, true_or, or_true, true_and, Option.some.injEq, AV.lit.injEq, Value.int.injEq, Value.bool.injEq]

theorem tail0 (r : Nat) : Pure Tryd.prog 62 [.lit (.int .i64 0), .ep [.lit (.int .i32 (r : Int))]] [] (.lit (.int .u8 ((128 + r % 64 : Nat) : Int))) := by
  have := tail_pure 0 r (by omega); simpa using this
theorem tail6 (r : Nat) : Pure Tryd.prog 62 [.lit (.int .i64 6), .ep [.lit (.int .i32 (r : Int))]] [] (.lit (.int .u8 ((128 + r / 64 % 64 : Nat) : Int))) := by
  have := tail_pure 6 r (by omega); simpa using this
theorem tail12 (r : Nat) : Pure Tryd.prog 62 [.lit (.int .i64 12), .ep [.lit (.int .i32 (r : Int))]] [] (.lit (.int .u8 ((128 + r / 4096 % 64 : Nat) : Int))) := by
  have := tail_pure 12 r (by omega); simpa using this

theorem fd64 (r : Nat) : (r : Int).fdiv 64 = ((r / 64 : Nat) : Int) := by have := shr_i32 r 6; simpa using this
theorem fd4096 (r : Nat) : (r : Int).fdiv 4096 = ((r / 4096 : Nat) : Int) := by have := shr_i32 r 12; simpa using this
theorem fd262144 (r : Nat) : (r : Int).fdiv 262144 = ((r / 262144 : Nat) : Int) := by have := shr_i32 r 18; simpa using this

set_option maxRecDepth 10000 in
theorem put_call (acc : List Nat) (r : Nat) (hr : r ≤ 1114111) (ha : acc.length ≤ 4398046511104) {K : AV → List (Nat × List AV) → List (Nat × TypeId) → Nat → Prop}
    (hK : ∀ (k : Nat) (bx : List (Nat × List AV)) (tp : List (Nat × TypeId)) (nx : Nat), hasTip tp k 5 = true → K (.sl 5 (octs (acc ++ encN r)) (some k)) bx tp nx) : CallOK Tryd.prog 41 [.sl 5 (octs acc) (some 0), .lit (.int .i32 (r : Int))] [] [(0, 5)] 1 K := by
  refine callOK_walk Tryd.func41 c41 n41 e41 r41 (by simp) ?_
  simp only [a41, astart, argSlots, go_sem, Nat.reduceAdd, Nat.reduceEqDiff, Nat.reduceLT, reduceIte, reduceCtorEq, Nat.reduceBEq, Int.reduceLT, Int.reduceToNat, Int.reducePow, Nat.reduceLeDiff, Int.reduceLE, Nat.reduceMul, Nat.reduceSub, allOne, AV.one, Value.oneCell']
  simp only [octs_append] at hK
  refine cGo_split (fun h => ?_) (fun h1 => ?_)
  · simp only [decide_eq_true_eq] at h
    have hw : IntKind.u8.wrap (r : Int) = (r : Int) := wrap_u8 _ (by omega) (by omega)
    rw [enc1 (by omega)] at hK
    simp only [hw, go_sem, Nat.reduceAdd, Nat.reduceEqDiff, Nat.reduceLT, reduceIte, reduceCtorEq, Nat.reduceBEq, Int.reduceLT, Int.reduceToNat, Int.reducePow, Nat.reduceLeDiff, Int.reduceLE, Nat.reduceMul, Nat.reduceSub, beq_self_eq_true]
    exact ⟨by omega, by simp, _, by simp only [resAV, resL, resOne, go_sem, Nat.reduceAdd, Nat.reduceEqDiff, Nat.reduceLT, reduceIte, reduceCtorEq, Nat.reduceBEq, Int.reduceLT, Int.reduceToNat, Int.reducePow, Nat.reduceLeDiff, Int.reduceLE, Nat.reduceMul, Nat.reduceSub]; rfl, hK _ _ _ _ (by simp only [go_sem, Nat.reduceAdd, Nat.reduceEqDiff, Nat.reduceLT, reduceIte, reduceCtorEq, Nat.reduceBEq, Int.reduceLT, Int.reduceToNat, Int.reducePow, Nat.reduceLeDiff, Int.reduceLE, Nat.reduceMul, Nat.reduceSub, beq_self_eq_true])⟩
  simp only [decide_eq_false_iff_not] at h1
  simp only [go_sem, Nat.reduceAdd, Nat.reduceEqDiff, Nat.reduceLT, reduceIte, reduceCtorEq, Nat.reduceBEq, Int.reduceLT, Int.reduceToNat, Int.reducePow, Nat.reduceLeDiff, Int.reduceLE, Nat.reduceMul, Nat.reduceSub]
  refine cGo_split (fun h => ?_) (fun h2 => ?_)
  · simp only [decide_eq_true_eq] at h
    simp only [go_sem, Nat.reduceAdd, Nat.reduceEqDiff, Nat.reduceLT, reduceIte, reduceCtorEq, Nat.reduceBEq, Int.reduceLT, Int.reduceToNat, Int.reducePow, Nat.reduceLeDiff, Int.reduceLE, Nat.reduceMul, Nat.reduceSub, fd64, allOne, AV.one]
    refine dcallGo_see (tail0 r) (by simp only [go_sem, Nat.reduceAdd, Nat.reduceEqDiff, Nat.reduceLT, reduceIte, reduceCtorEq, Nat.reduceBEq, Int.reduceLT, Int.reduceToNat, Int.reducePow, Nat.reduceLeDiff, Int.reduceLE, Nat.reduceMul, Nat.reduceSub, AV.seeL, AV.see]; rfl) rfl ?_
    have hh : orI .u8 192 (IntKind.u8.wrap ((r / 64 : Nat) : Int)) = ((192 + r / 64 : Nat) : Int) := head_num 192 0 (r / 64) (by omega) (or192 _ (by omega)) (by omega) (by omega)
    rw [enc2 (by omega) (by omega)] at hK
    simp only [hh, go_sem, Nat.reduceAdd, Nat.reduceEqDiff, Nat.reduceLT, reduceIte, reduceCtorEq, Nat.reduceBEq, Int.reduceLT, Int.reduceToNat, Int.reducePow, Nat.reduceLeDiff, Int.reduceLE, Nat.reduceMul, Nat.reduceSub, beq_self_eq_true]
    exact ⟨by omega, by simp, _, by simp only [resAV, resL, resOne, go_sem, Nat.reduceAdd, Nat.reduceEqDiff, Nat.reduceLT, reduceIte, reduceCtorEq, Nat.reduceBEq, Int.reduceLT, Int.reduceToNat, Int.reducePow, Nat.reduceLeDiff, Int.reduceLE, Nat.reduceMul, Nat.reduceSub]; rfl, hK _ _ _ _ (by simp only [go_sem, Nat.reduceAdd, Nat.reduceEqDiff, Nat.reduceLT, reduceIte, reduceCtorEq, Nat.reduceBEq, Int.reduceLT, Int.reduceToNat, Int.reducePow, Nat.reduceLeDiff, Int.reduceLE, Nat.reduceMul, Nat.reduceSub, beq_self_eq_true])⟩
  simp only [decide_eq_false_iff_not] at h2
  simp only [go_sem, Nat.reduceAdd, Nat.reduceEqDiff, Nat.reduceLT, reduceIte, reduceCtorEq, Nat.reduceBEq, Int.reduceLT, Int.reduceToNat, Int.reducePow, Nat.reduceLeDiff, Int.reduceLE, Nat.reduceMul, Nat.reduceSub]
  refine cGo_split (fun h => ?_) (fun h3 => ?_)
  · simp only [decide_eq_true_eq] at h
    simp only [go_sem, Nat.reduceAdd, Nat.reduceEqDiff, Nat.reduceLT, reduceIte, reduceCtorEq, Nat.reduceBEq, Int.reduceLT, Int.reduceToNat, Int.reducePow, Nat.reduceLeDiff, Int.reduceLE, Nat.reduceMul, Nat.reduceSub, fd4096, allOne, AV.one]
    refine dcallGo_see (tail6 r) (by simp only [go_sem, Nat.reduceAdd, Nat.reduceEqDiff, Nat.reduceLT, reduceIte, reduceCtorEq, Nat.reduceBEq, Int.reduceLT, Int.reduceToNat, Int.reducePow, Nat.reduceLeDiff, Int.reduceLE, Nat.reduceMul, Nat.reduceSub, AV.seeL, AV.see]; rfl) rfl ?_
    simp only [go_sem, Nat.reduceAdd, Nat.reduceEqDiff, Nat.reduceLT, reduceIte, reduceCtorEq, Nat.reduceBEq, Int.reduceLT, Int.reduceToNat, Int.reducePow, Nat.reduceLeDiff, Int.reduceLE, Nat.reduceMul, Nat.reduceSub]
    refine dcallGo_see (tail0 r) (by simp only [go_sem, Nat.reduceAdd, Nat.reduceEqDiff, Nat.reduceLT, reduceIte, reduceCtorEq, Nat.reduceBEq, Int.reduceLT, Int.reduceToNat, Int.reducePow, Nat.reduceLeDiff, Int.reduceLE, Nat.reduceMul, Nat.reduceSub, AV.seeL, AV.see]; rfl) rfl ?_
    have hh : orI .u8 224 (IntKind.u8.wrap ((r / 4096 : Nat) : Int)) = ((224 + r / 4096 : Nat) : Int) := head_num 224 0 (r / 4096) (by omega) (or224 _ (by omega)) (by omega) (by omega)
    rw [enc3 (by omega) (by omega)] at hK
    simp only [hh, go_sem, Nat.reduceAdd, Nat.reduceEqDiff, Nat.reduceLT, reduceIte, reduceCtorEq, Nat.reduceBEq, Int.reduceLT, Int.reduceToNat, Int.reducePow, Nat.reduceLeDiff, Int.reduceLE, Nat.reduceMul, Nat.reduceSub, beq_self_eq_true]
    exact ⟨by omega, by simp, _, by simp only [resAV, resL, resOne, go_sem, Nat.reduceAdd, Nat.reduceEqDiff, Nat.reduceLT, reduceIte, reduceCtorEq, Nat.reduceBEq, Int.reduceLT, Int.reduceToNat, Int.reducePow, Nat.reduceLeDiff, Int.reduceLE, Nat.reduceMul, Nat.reduceSub]; rfl, hK _ _ _ _ (by simp only [go_sem, Nat.reduceAdd, Nat.reduceEqDiff, Nat.reduceLT, reduceIte, reduceCtorEq, Nat.reduceBEq, Int.reduceLT, Int.reduceToNat, Int.reducePow, Nat.reduceLeDiff, Int.reduceLE, Nat.reduceMul, Nat.reduceSub, beq_self_eq_true])⟩
  simp only [decide_eq_false_iff_not] at h3
  simp only [go_sem, Nat.reduceAdd, Nat.reduceEqDiff, Nat.reduceLT, reduceIte, reduceCtorEq, Nat.reduceBEq, Int.reduceLT, Int.reduceToNat, Int.reducePow, Nat.reduceLeDiff, Int.reduceLE, Nat.reduceMul, Nat.reduceSub, fd262144, allOne, AV.one]
  refine dcallGo_see (tail12 r) (by simp only [go_sem, Nat.reduceAdd, Nat.reduceEqDiff, Nat.reduceLT, reduceIte, reduceCtorEq, Nat.reduceBEq, Int.reduceLT, Int.reduceToNat, Int.reducePow, Nat.reduceLeDiff, Int.reduceLE, Nat.reduceMul, Nat.reduceSub, AV.seeL, AV.see]; rfl) rfl ?_
  simp only [go_sem, Nat.reduceAdd, Nat.reduceEqDiff, Nat.reduceLT, reduceIte, reduceCtorEq, Nat.reduceBEq, Int.reduceLT, Int.reduceToNat, Int.reducePow, Nat.reduceLeDiff, Int.reduceLE, Nat.reduceMul, Nat.reduceSub]
  refine dcallGo_see (tail6 r) (by simp only [go_sem, Nat.reduceAdd, Nat.reduceEqDiff, Nat.reduceLT, reduceIte, reduceCtorEq, Nat.reduceBEq, Int.reduceLT, Int.reduceToNat, Int.reducePow, Nat.reduceLeDiff, Int.reduceLE, Nat.reduceMul, Nat.reduceSub, AV.seeL, AV.see]; rfl) rfl ?_
  simp only [go_sem, Nat.reduceAdd, Nat.reduceEqDiff, Nat.reduceLT, reduceIte, reduceCtorEq, Nat.reduceBEq, Int.reduceLT, Int.reduceToNat, Int.reducePow, Nat.reduceLeDiff, Int.reduceLE, Nat.reduceMul, Nat.reduceSub]
  refine dcallGo_see (tail0 r) (by simp only [go_sem, Nat.reduceAdd, Nat.reduceEqDiff, Nat.reduceLT, reduceIte, reduceCtorEq, Nat.reduceBEq, Int.reduceLT, Int.reduceToNat, Int.reducePow, Nat.reduceLeDiff, Int.reduceLE, Nat.reduceMul, Nat.reduceSub, AV.seeL, AV.see]; rfl) rfl ?_
  have hh : orI .u8 240 (IntKind.u8.wrap ((r / 262144 : Nat) : Int)) = ((240 + r / 262144 : Nat) : Int) := head_num 240 0 (r / 262144) (by omega) (or240 _ (by omega)) (by omega) (by omega)
  rw [enc4 (by omega)] at hK
  simp only [hh, go_sem, Nat.reduceAdd, Nat.reduceEqDiff, Nat.reduceLT, reduceIte, reduceCtorEq, Nat.reduceBEq, Int.reduceLT, Int.reduceToNat, Int.reducePow, Nat.reduceLeDiff, Int.reduceLE, Nat.reduceMul, Nat.reduceSub, beq_self_eq_true]
  exact ⟨by omega, by simp, _, by simp only [resAV, resL, resOne, go_sem, Nat.reduceAdd, Nat.reduceEqDiff, Nat.reduceLT, reduceIte, reduceCtorEq, Nat.reduceBEq, Int.reduceLT, Int.reduceToNat, Int.reducePow, Nat.reduceLeDiff, Int.reduceLE, Nat.reduceMul, Nat.reduceSub]; rfl, hK _ _ _ _ (by simp only [go_sem, Nat.reduceAdd, Nat.reduceEqDiff, Nat.reduceLT, reduceIte, reduceCtorEq, Nat.reduceBEq, Int.reduceLT, Int.reduceToNat, Int.reducePow, Nat.reduceLeDiff, Int.reduceLE, Nat.reduceMul, Nat.reduceSub, beq_self_eq_true])⟩

/-- Who is no scalar counts as the one that stands for such. -/
def fixN (r : Int) : Nat := if scalarB r = true then r.toNat else 65533
def encL (l : List Int) : List Nat := l.flatMap fun r => encN (fixN r)

theorem fixN_scalar (r : Int) : Scalar (fixN r) := by
  unfold fixN Scalar
  split
  · rename_i h
    simp only [scalarB, Bool.and_eq_true, Bool.or_eq_true, decide_eq_true_eq] at h
    omega
  · omega
theorem fixN_le (r : Int) : fixN r ≤ 1114111 := by have := fixN_scalar r; unfold Scalar at this; omega
theorem fixN_of {r : Int} (h : scalarB r = true) : ((fixN r : Nat) : Int) = r := by
  simp only [fixN, h, if_true]
  simp only [scalarB, Bool.and_eq_true, Bool.or_eq_true, decide_eq_true_eq] at h
  omega
theorem encL_take {l : List Int} {i : Nat} (h : i < l.length) : encL (l.take (i + 1)) = encL (l.take i) ++ encN (fixN l[i]) := by
  rw [List.take_succ_eq_append_getElem h]
  simp only [encL, List.flatMap_append, List.flatMap_cons, List.flatMap_nil, List.append_nil]
theorem encL_length (l : List Int) : (encL l).length ≤ 4 * l.length := by
  induction l with
  | nil => simp [encL]
  | cons r l ih =>
    have := encN_len (fixN r)
    simp only [encL, List.flatMap_cons, List.length_append, List.length_cons] at ih ⊢
    omega
theorem encL_octs (l : List Int) : ∀ n ∈ encL l, n ≤ 255 := by
  intro n hn
  obtain ⟨r, _, hr⟩ := List.mem_flatMap.1 hn
  exact encN_octs (fixN_le r) n hr

set_option maxRecDepth 10000 in
theorem encode_pure (l : List Int) (hl : l.length ≤ 1099511627776) : Pure Tryd.prog 25 [.sl 21 (runes l) none] [5] (.sl 5 (octs (encL l)) (some 0)) := by
  refine pure1 Tryd.func25 c25 n25 e25 r25 (by simp) ?_
  simp only [a25, astart, argSlots, go_sem, Nat.reduceAdd, Nat.reduceEqDiff, Nat.reduceLT, reduceIte, reduceCtorEq, Nat.reduceBEq, Int.reduceLT, Int.reduceToNat, Int.reducePow, Nat.reduceLeDiff, Int.reduceLE, Nat.reduceMul, Nat.reduceSub]
  refine loop_to l.length (fun i => ⟨[(3, some (.sl 5 (octs (encL (l.take i))) (some 0))), (6, some (.sl 21 (runes l) none)), (7, some (.lit (.int .i64 (l.length : Int)))), (8, some (.lit (.int .i64 (i : Int))))], [], [(0, 5)], 1⟩)
    (fun _ => True) ((weak_nil 3 5 (by simp only [go_sem, Nat.reduceAdd, Nat.reduceEqDiff, Nat.reduceLT, reduceIte, reduceCtorEq, Nat.reduceBEq, Int.reduceLT, Int.reduceToNat, Int.reducePow, Nat.reduceLeDiff, Int.reduceLE, Nat.reduceMul, Nat.reduceSub])).trans (weak_by [0] (by simp) rfl ?_ trivial ?_ (by simp))) trivial ?_ ?_
  · simp only [go_sem, Nat.reduceAdd, Nat.reduceEqDiff, Nat.reduceLT, reduceIte, reduceCtorEq, Nat.reduceBEq, Int.reduceLT, Int.reduceToNat, Int.reducePow, Nat.reduceLeDiff, Int.reduceLE, Nat.reduceMul, Nat.reduceSub, slotsBy, boxesBy, tipsBy, rawAt, nm, AV.ren, AV.renL, AV.under, AV.underL, List.all_nil, List.all_cons, bne_self_eq_false, List.getD_cons_zero, List.getD_cons_succ, List.length_nil, List.length_cons, and_true, true_and, Int.natCast_zero, encL, List.flatMap_nil]
    simp [octs]
  · simp only [go_sem, Nat.reduceAdd, Nat.reduceEqDiff, Nat.reduceLT, reduceIte, reduceCtorEq, Nat.reduceBEq, Int.reduceLT, Int.reduceToNat, Int.reducePow, Nat.reduceLeDiff, Int.reduceLE, Nat.reduceMul, Nat.reduceSub, slotsBy, boxesBy, tipsBy, rawAt, nm, AV.ren, AV.renL, AV.under, AV.underL, List.all_nil, List.all_cons, bne_self_eq_false, List.getD_cons_zero, List.getD_cons_succ, List.length_nil, List.length_cons, and_true, true_and, beq_self_eq_true]
  · intro i hi _
    have hs := encL_take hi
    have hlen : (encL (l.take i)).length ≤ 4398046511104 := by have := encL_length (l.take i); simp only [List.length_take] at this; omega
    simp only [go_sem, Nat.reduceAdd, Nat.reduceEqDiff, Nat.reduceLT, reduceIte, reduceCtorEq, Nat.reduceBEq, Int.reduceLT, Int.reduceToNat, Int.reducePow, Nat.reduceLeDiff, Int.reduceLE, Nat.reduceMul, Nat.reduceSub, dec_lt hi, runes_get l i hi]
    refine callGo_pure (scalar_pure _) (by rfl) ?_
    simp only [go_sem, Nat.reduceAdd, Nat.reduceEqDiff, Nat.reduceLT, reduceIte, reduceCtorEq, Nat.reduceBEq, Int.reduceLT, Int.reduceToNat, Int.reducePow, Nat.reduceLeDiff, Int.reduceLE, Nat.reduceMul, Nat.reduceSub]
    by_cases h : scalarB l[i] = true
    · have hf : ((fixN l[i] : Nat) : Int) = l[i] := fixN_of h
      simp only [h, go_sem, Nat.reduceAdd, Nat.reduceEqDiff, Nat.reduceLT, reduceIte, reduceCtorEq, Nat.reduceBEq, Int.reduceLT, Int.reduceToNat, Int.reducePow, Nat.reduceLeDiff, Int.reduceLE, Nat.reduceMul, Nat.reduceSub]
      rw [← hf]
      refine callGo_ok (put_call _ _ (fixN_le _) hlen fun k bx tp nx hk => ?_)
      simp only [go_sem, Nat.reduceAdd, Nat.reduceEqDiff, Nat.reduceLT, reduceIte, reduceCtorEq, Nat.reduceBEq, Int.reduceLT, Int.reduceToNat, Int.reducePow, Nat.reduceLeDiff, Int.reduceLE, Nat.reduceMul, Nat.reduceSub]
      simp (disch := omega) only [wrap_i64]
      refine weak_by [k] (by simp) rfl ?_ trivial ?_ (by simp)
      · simp only [go_sem, Nat.reduceAdd, Nat.reduceEqDiff, Nat.reduceLT, reduceIte, reduceCtorEq, Nat.reduceBEq, Int.reduceLT, Int.reduceToNat, Int.reducePow, Nat.reduceLeDiff, Int.reduceLE, Nat.reduceMul, Nat.reduceSub, slotsBy, boxesBy, tipsBy, rawAt, nm, AV.ren, AV.renL, AV.under, AV.underL, List.all_nil, List.all_cons, bne_self_eq_false, List.getD_cons_zero, List.getD_cons_succ, List.length_nil, List.length_cons, and_true, true_and, hs, Int.natCast_add, Int.natCast_one]
      · simp only [slotsBy, boxesBy, tipsBy, rawAt, nm, AV.ren, AV.renL, AV.under, AV.underL, List.all_nil, List.all_cons, bne_self_eq_false, List.getD_cons_zero, List.getD_cons_succ, List.length_nil, List.length_cons, and_true, true_and, tipsBy, nm, hk, List.getD_cons_zero]
        simp
    · have h : scalarB l[i] = false := by simpa using h
      have hf : (65533 : Int) = ((fixN l[i] : Nat) : Int) := by simp only [fixN, h, Bool.false_eq_true, if_false]; rfl
      simp only [h, go_sem, Nat.reduceAdd, Nat.reduceEqDiff, Nat.reduceLT, reduceIte, reduceCtorEq, Nat.reduceBEq, Int.reduceLT, Int.reduceToNat, Int.reducePow, Nat.reduceLeDiff, Int.reduceLE, Nat.reduceMul, Nat.reduceSub]
      rw [hf]
      refine callGo_ok (put_call _ _ (fixN_le _) hlen fun k bx tp nx hk => ?_)
      simp only [go_sem, Nat.reduceAdd, Nat.reduceEqDiff, Nat.reduceLT, reduceIte, reduceCtorEq, Nat.reduceBEq, Int.reduceLT, Int.reduceToNat, Int.reducePow, Nat.reduceLeDiff, Int.reduceLE, Nat.reduceMul, Nat.reduceSub]
      simp (disch := omega) only [wrap_i64]
      refine weak_by [k] (by simp) rfl ?_ trivial ?_ (by simp)
      · simp only [go_sem, Nat.reduceAdd, Nat.reduceEqDiff, Nat.reduceLT, reduceIte, reduceCtorEq, Nat.reduceBEq, Int.reduceLT, Int.reduceToNat, Int.reducePow, Nat.reduceLeDiff, Int.reduceLE, Nat.reduceMul, Nat.reduceSub, slotsBy, boxesBy, tipsBy, rawAt, nm, AV.ren, AV.renL, AV.under, AV.underL, List.all_nil, List.all_cons, bne_self_eq_false, List.getD_cons_zero, List.getD_cons_succ, List.length_nil, List.length_cons, and_true, true_and, hs, Int.natCast_add, Int.natCast_one]
      · simp only [slotsBy, boxesBy, tipsBy, rawAt, nm, AV.ren, AV.renL, AV.under, AV.underL, List.all_nil, List.all_cons, bne_self_eq_false, List.getD_cons_zero, List.getD_cons_succ, List.length_nil, List.length_cons, and_true, true_and, tipsBy, nm, hk, List.getD_cons_zero]
        simp
  · intro _
    simp only [dec_irr, List.take_length, go_sem, Nat.reduceAdd, Nat.reduceEqDiff, Nat.reduceLT, reduceIte, reduceCtorEq, Nat.reduceBEq, Int.reduceLT, Int.reduceToNat, Int.reducePow, Nat.reduceLeDiff, Int.reduceLE, Nat.reduceMul, Nat.reduceSub]
    exact ⟨.inr rfl, 0, by simp only [resAV, resL, resOne, go_sem, Nat.reduceAdd, Nat.reduceEqDiff, Nat.reduceLT, reduceIte, reduceCtorEq, Nat.reduceBEq, Int.reduceLT, Int.reduceToNat, Int.reducePow, Nat.reduceLeDiff, Int.reduceLE, Nat.reduceMul, Nat.reduceSub], by simp [go_sem, Nat.reduceAdd, Nat.reduceEqDiff, Nat.reduceLT, reduceIte, reduceCtorEq, Nat.reduceBEq, Int.reduceLT, Int.reduceToNat, Int.reducePow, Nat.reduceLeDiff, Int.reduceLE, Nat.reduceMul, Nat.reduceSub]⟩
end Go.Proofs.YteekelelcbfekaaDoor

/-! ## Utf6cD -/

namespace Go.Proofs.YteekelelcbfekaaDoor
open Go Go.Ab
theorem cells_bytes (l : List Nat) (h : ∀ n ∈ l, n ≤ 255) : bytesOf (octs l) = some (l.map fun n => UInt8.ofNat n) := by
  induction l with
  | nil => rfl
  | cons n l ih =>
    have h1 := ih fun m hm => h m (List.mem_cons_of_mem _ hm)
    simp only [octs] at h1
    simp [octs, bytesOf, h1]

theorem bytes_inj {a b : List Nat} (ha : ∀ n ∈ a, n ≤ 255) (hb : ∀ n ∈ b, n ≤ 255) : ((a.map fun n => UInt8.ofNat n) == (b.map fun n => UInt8.ofNat n)) = (a == b) := by
  induction a generalizing b with
  | nil => cases b <;> rfl
  | cons x a ih =>
    cases b with
    | nil => rfl
    | cons y b =>
      have hx := ha x (by simp)
      have hy := hb y (by simp)
      have h1 := ih (b := b) (fun n hn => ha n (by simp [hn])) (fun n hn => hb n (by simp [hn]))
      have h2 : (UInt8.ofNat x == UInt8.ofNat y) = (x == y) := by
        rw [Bool.eq_iff_iff]
        simp only [beq_iff_eq]
        constructor
        · intro h
          have := congrArg UInt8.toNat h
          simp only [UInt8.toNat_ofNat'] at this
          omega
        · intro h; rw [h]
      simp only [List.map_cons, List.cons_beq_cons, h1, h2]

def trip (x : Nat × Nat × Nat × Bool) : Nat × Nat × Nat := (x.1, x.2.1, x.2.2.1)
def codesT (l : List (Nat × Nat × Nat)) : List (List Value) := l.map fun x => [.int .i32 ((x.1 : Nat) : Int), .int .i64 ((x.2.1 : Nat) : Int), .int .i64 ((x.2.2 : Nat) : Int)]
theorem codesC_T (l : List (Nat × Nat × Nat × Bool)) : codesC l = codesT (l.map trip) := by simp only [codesC, codesT, List.map_map]; rfl
theorem codesT_length (l : List (Nat × Nat × Nat)) : (codesT l).length = l.length := by simp [codesT]
theorem codesT_get (l : List (Nat × Nat × Nat)) (i : Nat) (h : i < l.length) : (codesT l)[i]? = some [.int .i32 ((l[i].1 : Nat) : Int), .int .i64 ((l[i].2.1 : Nat) : Int), .int .i64 ((l[i].2.2 : Nat) : Int)] := by simp [codesT, h]
theorem beq_cast (a b : Nat) : ((a : Int) == (b : Int)) = (a == b) := by rw [Bool.eq_iff_iff]; simp only [beq_iff_eq]; omega

end Go.Proofs.YteekelelcbfekaaDoor
