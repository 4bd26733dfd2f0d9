/-
Which clause the code point at a place fails is as the document defines: the law answers true, whatever it is handed. Conditions: none.
-/
import Derived.Test.YtocaeclhmkojiaaCtx3
import Derived.Test.YtocaeclhmkojiaaMix10
set_option linter.unusedSimpArgs false
set_option linter.unusedVariables false
set_option linter.unusedSectionVars false
namespace Go.Proofs.Ytocaeclhmkojiaa
open Go Go.Ab Go.ChangeShapes Go.WideShapes Go.ChangeAt Go.RowKit
def a10 : ACode :=
  (.seq (.reg [⟨(.some 4), (.mv (.k (.bool false))), .none⟩]) (.seq (.seq (.reg [⟨(.some 6), (.mv (.t 0)), .none⟩, ⟨(.some 7), (.len (.t 6)), .none⟩, ⟨(.some 8), (.bin .gtr (.t 7) (.k (.int .i64 200))),
  .none⟩]) (.cond (.t 8) (.seq (.reg [⟨(.some 9), (.call (.f 36) []), .none⟩, ⟨(.some 4), (.mv (.t 9)), .none⟩]) .ret) .skip)) (.seq (.seq (.reg [⟨(.some 10), (.mv (.t 0)), .none⟩, ⟨(.some 11), (.len
  (.t 10)), .none⟩, ⟨(.some 12), (.mv (.k (.int .i64 0))), .none⟩]) (.block 0 (.loop (.seq (.reg [⟨(.some 13), (.bin .lss (.t 12) (.t 11)), .none⟩]) (.seq (.cond (.t 13) .skip (.exit 0)) (.seq (.block 1
  (.seq (.reg [⟨(.some 14), (.mv (.t 12)), .none⟩, ⟨(.some 5), (.mv (.t 14)), .none⟩]) (.seq (.reg [⟨(.some 15), (.mv (.t 0)), .none⟩, ⟨(.some 16), (.mv (.t 5)), .none⟩, ⟨(.some 17), (.call (.f 37) [(.t
  15), (.t 16)]), .none⟩, ⟨(.some 18), (.mv (.t 0)), .none⟩, ⟨(.some 19), (.mv (.t 5)), .none⟩, ⟨(.some 20), (.call (.f 38) [(.t 18), (.t 19)]), .none⟩, ⟨(.some 21), (.bin .neq (.t 17) (.t 20)),
  .none⟩]) (.cond (.t 21) (.seq (.reg [⟨(.some 4), (.mv (.k (.bool false))), .none⟩]) .ret) .skip)))) (.reg [⟨(.some 22), (.bin .add (.t 12) (.k (.int .i64 1))), .none⟩, ⟨(.some 12), (.mv (.t 22)),
  .none⟩]))))))) (.seq (.reg [⟨(.some 23), (.mv (.t 0)), .none⟩, ⟨(.some 24), (.mv (.t 1)), .none⟩, ⟨(.some 25), (.call (.f 37) [(.t 23), (.t 24)]), .none⟩, ⟨(.some 26), (.mv (.t 0)), .none⟩, ⟨(.some
  27), (.mv (.t 1)), .none⟩, ⟨(.some 28), (.call (.f 38) [(.t 26), (.t 27)]), .none⟩, ⟨(.some 29), (.bin .eql (.t 25) (.t 28)), .none⟩, ⟨(.some 30), (.mv (.t 29)), .none⟩, ⟨(.some 31), (.mv (.t 0)),
  (.some (30, true))⟩, ⟨(.some 32), (.call (.f 39) [(.t 31)]), (.some (30, true))⟩, ⟨(.some 33), (.mv (.t 0)), (.some (30, true))⟩, ⟨(.some 34), (.call (.f 40) [(.t 33)]), (.some (30, true))⟩, ⟨(.some
  35), (.bin .eql (.t 32) (.t 34)), (.some (30, true))⟩, ⟨(.some 36), (.pick (.t 30) (.t 35) (.k (.bool false))), .none⟩, ⟨(.some 37), (.mv (.t 36)), .none⟩, ⟨(.some 38), (.call (.f 36) []), (.some (37,
  true))⟩, ⟨(.some 39), (.pick (.t 37) (.t 38) (.k (.bool false))), .none⟩, ⟨(.some 4), (.mv (.t 39)), .none⟩]) .ret))))
theorem c10 : Try.f10.body.bind (cCode Try.prog 40) = some a10 := by kernel_rfl
theorem r10 : Try.f10.results.toList = [(.tmp 4)] := by kernel_rfl
theorem n10 : Try.f10.ntmps = 40 := by kernel_rfl
theorem e10 : Enters Try.prog 10 := enters_of Try.func10 (by kernel_rfl) (by kernel_rfl)

theorem key_arab {r : Int} (h1 : 1632 ≤ r) (h2 : r ≤ 1641) : keyOf r = 1632 := by
  unfold keyOf; rw [if_pos ((digits2 r).2 ⟨h1, h2⟩)]
theorem key_east {r : Int} (h1 : 1776 ≤ r) (h2 : r ≤ 1785) : keyOf r = 1776 := by
  unfold keyOf
  rw [if_neg (fun h => by have := (digits2 r).1 h; omega), if_pos ((digits3 r).2 ⟨h1, h2⟩)]
theorem key_self {r : Int} (h1 : ¬ (1632 ≤ r ∧ r ≤ 1641)) (h2 : ¬ (1776 ≤ r ∧ r ≤ 1785)) : keyOf r = r := by
  unfold keyOf
  rw [if_neg (fun h => h1 ((digits2 r).1 h)), if_neg (fun h => h2 ((digits3 r).1 h))]
theorem within_arab (l : List Int) : (l.any fun r => decide (r ≥ 1632) && decide (r ≤ 1641)) = digitsP l 2 := by
  unfold digitsP
  congr 1
  funext r
  have := digits2 r
  rw [Bool.eq_iff_iff]
  simp only [Bool.and_eq_true, decide_eq_true_eq, beq_iff_eq, this, ge_iff_le]
theorem within_east (l : List Int) : (l.any fun r => decide (r ≥ 1776) && decide (r ≤ 1785)) = digitsP l 3 := by
  unfold digitsP
  congr 1
  funext r
  have := digits3 r
  rw [Bool.eq_iff_iff]
  simp only [Bool.and_eq_true, decide_eq_true_eq, beq_iff_eq, this, ge_iff_le]
theorem scripts_three (l : List Int) : ((l.any fun r => (rowAt r).script == 8) || ((l.any fun r => (rowAt r).script == 9) || (l.any fun r => (rowAt r).script == 10))) = scriptsP l [9, 10, 8] := by
  unfold scriptsP
  rw [Bool.eq_iff_iff]
  simp only [Bool.or_eq_true, List.any_eq_true, List.mem_cons, List.not_mem_nil, or_false, beq_iff_eq]
  constructor
  · rintro (⟨r, h1, h2⟩ | ⟨r, h1, h2⟩ | ⟨r, h1, h2⟩)
    · exact ⟨r, h1, 8, by simp, h2⟩
    · exact ⟨r, h1, 9, by simp, h2⟩
    · exact ⟨r, h1, 10, by simp, h2⟩
  · rintro ⟨r, h1, s, rfl | rfl | rfl, h2⟩
    · exact .inr (.inl ⟨r, h1, h2⟩)
    · exact .inr (.inr ⟨r, h1, h2⟩)
    · exact .inl ⟨r, h1, h2⟩

/-- A place's clause, by what it is made of. -/
theorem at_by (l : List Int) (k : Nat) (hk : k < l.length) {key : Int} (hkey : keyOf l[k] = key) {b : Bool} (hb : fineOf l k key = b) {c : Int} (hc : clauseOf key = c) : atOf l (k : Int) = if b = true then 0 else c := by
  unfold atOf
  rw [if_pos ⟨by omega, by omega⟩, atP_in l k hk, hkey, hb, hc]

set_option maxRecDepth 10000 in
set_option maxHeartbeats 4000000 in
theorem refAt_pure (l : List Int) (i : Int) (hl : l.length ≤ 1000000) (h32 : I32 l) : Pure Try.prog 38 [.sl 21 (runes l) none, .lit (.int .i64 i)] [] (.lit (.int .u8 (atOf l i))) := by
  refine pure0 Try.func38 c38 n38 e38 r38 (by simp) rfl ?_
  simp only [a38, astart, argSlots, go_sem, Nat.reduceAdd, Nat.reduceEqDiff, Nat.reduceLT, reduceIte, reduceCtorEq, Nat.reduceBEq, Int.reduceLT, Int.reduceToNat, Int.reducePow, Nat.reduceLeDiff, Int.reduceLE, Nat.reduceMul, Nat.reduceSub]
  by_cases h0 : 0 ≤ i ∧ i < l.length
  · obtain ⟨k, rfl⟩ : ∃ k : Nat, i = k := ⟨i.toNat, by omega⟩
    have hk : k < l.length := by omega
    have e0 : decide ((k : Int) < 0) = false := by simp
    have e1 : decide ((k : Int) ≥ (l.length : Int)) = false := by simp only [decide_eq_false_iff_not]; omega
    have hr := h32 _ (List.getElem_mem hk)
    have A := fun {key : Int} (h : keyOf l[k] = key) {b : Bool} (hb : fineOf l k key = b) {c : Int} (hc : clauseOf key = c) => at_by l k hk h hb hc
    generalize hat : atOf l (k : Int) = res at A
    have hvir : killedP l k = ((rowAt (atP l ((k : Int) - 1))).ccc == 9) := rfl
    have wm : IntKind.i64.wrap ((k : Int) - 1) = (k : Int) + -1 := by rw [wrap_i64 _ (by omega) (by omega)]; omega
    have wp : IntKind.i64.wrap ((k : Int) + 1) = (k : Int) + 1 := wrap_i64 _ (by omega) (by omega)
    simp only [e0, e1, go_sem, Nat.reduceAdd, Nat.reduceEqDiff, Nat.reduceLT, reduceIte, reduceCtorEq, Nat.reduceBEq, Int.reduceLT, Int.reduceToNat, Int.reducePow, Nat.reduceLeDiff, Int.reduceLE, Nat.reduceMul, Nat.reduceSub, runes_length, hk, runes_get l k hk, Int.natCast_nonneg, Int.toNat_natCast]
    by_cases hk0 : k = 0
    case' pos =>
      have e2 : decide ((k : Int) > 0) = false := by simp only [decide_eq_false_iff_not]; omega
      have hv : killedP l k = false := by rw [hvir, atP_out l _ (.inl (by omega)), rowAt_neg (by omega)]; rfl
      simp only [e2, go_sem, Nat.reduceAdd, Nat.reduceEqDiff, Nat.reduceLT, reduceIte, reduceCtorEq, Nat.reduceBEq, Int.reduceLT, Int.reduceToNat, Int.reducePow, Nat.reduceLeDiff, Int.reduceLE, Nat.reduceMul, Nat.reduceSub]
    case' neg =>
      have e2 : decide ((k : Int) > 0) = true := by simp only [decide_eq_true_eq]; omega
      have hk1 : k - 1 < l.length := by omega
      have em : (k : Int) + -1 = ((k - 1 : Nat) : Int) := by omega
      have hv : killedP l k = ((rowAt l[k - 1]).ccc == 9) := by rw [hvir, show (k : Int) - 1 = ((k - 1 : Nat) : Int) by omega, atP_in l _ hk1]
      have hr1 := h32 _ (List.getElem_mem hk1)
      simp only [e2, wm, em, go_sem, Nat.reduceAdd, Nat.reduceEqDiff, Nat.reduceLT, reduceIte, reduceCtorEq, Nat.reduceBEq, Int.reduceLT, Int.reduceToNat, Int.reducePow, Nat.reduceLeDiff, Int.reduceLE, Nat.reduceMul, Nat.reduceSub, runes_length, hk1, runes_get l _ hk1, Int.natCast_nonneg, Int.toNat_natCast]
      refine callGo_pure (refOf_pure _ hr1) (by rfl) ?_
      simp only [go_sem, Nat.reduceAdd, Nat.reduceEqDiff, Nat.reduceLT, reduceIte, reduceCtorEq, Nat.reduceBEq, Int.reduceLT, Int.reduceToNat, Int.reducePow, Nat.reduceLeDiff, Int.reduceLE, Nat.reduceMul, Nat.reduceSub, Row.prop, ← hv]
      clear em hv
    case' neg => cases hv : killedP l k
    all_goals
      clear hvir
      generalize l[k] = r at A hr
      have S1 := script_pure l ((k : Int) + 1) 3 1 hl h32 ⟨by omega, by omega⟩ (by omega)
      have S2 := script_pure l ((k : Int) + -1) 5 1 hl h32 ⟨by omega, by omega⟩ (by omega)
      rw [show (k : Int) + 1 + ((1 : Nat) : Int) - 1 = (k : Int) + 1 by omega, scr_one l _ 3 (by omega)] at S1
      rw [show (k : Int) + -1 + ((1 : Nat) : Int) - 1 = (k : Int) + -1 by omega, scr_one l _ 5 (by omega)] at S2
      have S3 := fun s => script_pure l 0 s (l.length + 1) hl h32 ⟨by omega, by omega⟩ (by omega)
      simp only [show (0 : Int) + ((l.length + 1 : Nat) : Int) - 1 = (l.length : Int) by omega, scr_all] at S3
      by_cases r1 : r = 8205
      · subst r1
        simp only [go_sem, Nat.reduceAdd, Nat.reduceEqDiff, Nat.reduceLT, reduceIte, reduceCtorEq, Nat.reduceBEq, Int.reduceLT, Int.reduceToNat, Int.reducePow, Nat.reduceLeDiff, Int.reduceLE, Nat.reduceMul, Nat.reduceSub, Int.reduceBEq]
        simp only [Done, resAV, resL, resOne, look_nil, look_cons, Nat.reduceEqDiff, if_true, if_false, reduceIte, ite_true, ite_false, Nat.zero_ne_one, Nat.one_ne_zero, reduceCtorEq, true_or, or_true, true_and, Option.some.injEq, AV.lit.injEq, Value.int.injEq, Value.bool.injEq]
        exact (A (key_self (by omega) (by omega)) (show fineOf l k 8205 = _ from hv) rfl).symm
      have n1 : (r == 8205) = false := by simpa using r1
      simp only [n1, go_sem, Nat.reduceAdd, Nat.reduceEqDiff, Nat.reduceLT, reduceIte, reduceCtorEq, Nat.reduceBEq, Int.reduceLT, Int.reduceToNat, Int.reducePow, Nat.reduceLeDiff, Int.reduceLE, Nat.reduceMul, Nat.reduceSub]
      by_cases r2 : r = 8204
      · subst r2
        have hf : fineOf l k 8204 = joinerP l k := rfl
        simp only [joinerP, hv, Bool.true_or, Bool.false_or] at hf
        simp only [go_sem, Nat.reduceAdd, Nat.reduceEqDiff, Nat.reduceLT, reduceIte, reduceCtorEq, Nat.reduceBEq, Int.reduceLT, Int.reduceToNat, Int.reducePow, Nat.reduceLeDiff, Int.reduceLE, Nat.reduceMul, Nat.reduceSub, Int.reduceBEq]
        first
        | (simp only [Done, resAV, resL, resOne, look_nil, look_cons, Nat.reduceEqDiff, if_true, if_false, reduceIte, ite_true, ite_false, Nat.zero_ne_one, Nat.one_ne_zero, reduceCtorEq, true_or, or_true, true_and, Option.some.injEq, AV.lit.injEq, Value.int.injEq, Value.bool.injEq]
           exact (A (key_self (by omega) (by omega)) hf rfl).symm)
        | (simp only [wm, go_sem, Nat.reduceAdd, Nat.reduceEqDiff, Nat.reduceLT, reduceIte, reduceCtorEq, Nat.reduceBEq, Int.reduceLT, Int.reduceToNat, Int.reducePow, Nat.reduceLeDiff, Int.reduceLE, Nat.reduceMul, Nat.reduceSub]
           refine callGo_pure (reaches_pure l ((k : Int) + -1) (-1) 4 hl h32 ⟨by omega, by omega⟩ (.inr rfl) (.inl rfl)) (by rfl) ?_
           simp only [go_sem, Nat.reduceAdd, Nat.reduceEqDiff, Nat.reduceLT, reduceIte, reduceCtorEq, Nat.reduceBEq, Int.reduceLT, Int.reduceToNat, Int.reducePow, Nat.reduceLeDiff, Int.reduceLE, Nat.reduceMul, Nat.reduceSub]
           cases hj1 : joinsP l (-1) 4 (l.length + 2) ((k : Int) + -1)
           · rw [hj1, Bool.false_and] at hf
             simp only [go_sem, Nat.reduceAdd, Nat.reduceEqDiff, Nat.reduceLT, reduceIte, reduceCtorEq, Nat.reduceBEq, Int.reduceLT, Int.reduceToNat, Int.reducePow, Nat.reduceLeDiff, Int.reduceLE, Nat.reduceMul, Nat.reduceSub]
             simp only [Done, resAV, resL, resOne, look_nil, look_cons, Nat.reduceEqDiff, if_true, if_false, reduceIte, ite_true, ite_false, Nat.zero_ne_one, Nat.one_ne_zero, reduceCtorEq, true_or, or_true, true_and, Option.some.injEq, AV.lit.injEq, Value.int.injEq, Value.bool.injEq]
             exact (A (key_self (by omega) (by omega)) hf rfl).symm
           · rw [hj1, Bool.true_and] at hf
             simp only [wp, go_sem, Nat.reduceAdd, Nat.reduceEqDiff, Nat.reduceLT, reduceIte, reduceCtorEq, Nat.reduceBEq, Int.reduceLT, Int.reduceToNat, Int.reducePow, Nat.reduceLeDiff, Int.reduceLE, Nat.reduceMul, Nat.reduceSub]
             refine callGo_pure (reaches_pure l ((k : Int) + 1) 1 5 hl h32 ⟨by omega, by omega⟩ (.inl rfl) (.inr rfl)) (by rfl) ?_
             simp only [go_sem, Nat.reduceAdd, Nat.reduceEqDiff, Nat.reduceLT, reduceIte, reduceCtorEq, Nat.reduceBEq, Int.reduceLT, Int.reduceToNat, Int.reducePow, Nat.reduceLeDiff, Int.reduceLE, Nat.reduceMul, Nat.reduceSub]
             cases hj2 : joinsP l 1 5 (l.length + 2) ((k : Int) + 1)
             · rw [hj2] at hf
               simp only [go_sem, Nat.reduceAdd, Nat.reduceEqDiff, Nat.reduceLT, reduceIte, reduceCtorEq, Nat.reduceBEq, Int.reduceLT, Int.reduceToNat, Int.reducePow, Nat.reduceLeDiff, Int.reduceLE, Nat.reduceMul, Nat.reduceSub]
               simp only [Done, resAV, resL, resOne, look_nil, look_cons, Nat.reduceEqDiff, if_true, if_false, reduceIte, ite_true, ite_false, Nat.zero_ne_one, Nat.one_ne_zero, reduceCtorEq, true_or, or_true, true_and, Option.some.injEq, AV.lit.injEq, Value.int.injEq, Value.bool.injEq]
               exact (A (key_self (by omega) (by omega)) hf rfl).symm
             · rw [hj2] at hf
               simp only [go_sem, Nat.reduceAdd, Nat.reduceEqDiff, Nat.reduceLT, reduceIte, reduceCtorEq, Nat.reduceBEq, Int.reduceLT, Int.reduceToNat, Int.reducePow, Nat.reduceLeDiff, Int.reduceLE, Nat.reduceMul, Nat.reduceSub]
               simp only [Done, resAV, resL, resOne, look_nil, look_cons, Nat.reduceEqDiff, if_true, if_false, reduceIte, ite_true, ite_false, Nat.zero_ne_one, Nat.one_ne_zero, reduceCtorEq, true_or, or_true, true_and, Option.some.injEq, AV.lit.injEq, Value.int.injEq, Value.bool.injEq]
               exact (A (key_self (by omega) (by omega)) hf rfl).symm)
      have n2 : (r == 8204) = false := by simpa using r2
      simp only [n2, go_sem, Nat.reduceAdd, Nat.reduceEqDiff, Nat.reduceLT, reduceIte, reduceCtorEq, Nat.reduceBEq, Int.reduceLT, Int.reduceToNat, Int.reducePow, Nat.reduceLeDiff, Int.reduceLE, Nat.reduceMul, Nat.reduceSub]
      by_cases r3 : r = 183
      · subst r3
        have hf : fineOf l k 183 = (atP l (k + -1) == 108 && atP l (k + 1) == 108) := rfl
        simp only [go_sem, Nat.reduceAdd, Nat.reduceEqDiff, Nat.reduceLT, reduceIte, reduceCtorEq, Nat.reduceBEq, Int.reduceLT, Int.reduceToNat, Int.reducePow, Nat.reduceLeDiff, Int.reduceLE, Nat.reduceMul, Nat.reduceSub, Int.reduceBEq, wm]
        refine callGo_pure (is_pure l ((k : Int) + -1) 108 hl (by omega)) (by rfl) ?_
        simp only [go_sem, Nat.reduceAdd, Nat.reduceEqDiff, Nat.reduceLT, reduceIte, reduceCtorEq, Nat.reduceBEq, Int.reduceLT, Int.reduceToNat, Int.reducePow, Nat.reduceLeDiff, Int.reduceLE, Nat.reduceMul, Nat.reduceSub]
        cases hj1 : atP l ((k : Int) + -1) == 108
        · rw [hj1, Bool.false_and] at hf
          simp only [go_sem, Nat.reduceAdd, Nat.reduceEqDiff, Nat.reduceLT, reduceIte, reduceCtorEq, Nat.reduceBEq, Int.reduceLT, Int.reduceToNat, Int.reducePow, Nat.reduceLeDiff, Int.reduceLE, Nat.reduceMul, Nat.reduceSub]
          simp only [Done, resAV, resL, resOne, look_nil, look_cons, Nat.reduceEqDiff, if_true, if_false, reduceIte, ite_true, ite_false, Nat.zero_ne_one, Nat.one_ne_zero, reduceCtorEq, true_or, or_true, true_and, Option.some.injEq, AV.lit.injEq, Value.int.injEq, Value.bool.injEq]
          exact (A (key_self (by omega) (by omega)) hf rfl).symm
        · rw [hj1, Bool.true_and] at hf
          simp only [wp, go_sem, Nat.reduceAdd, Nat.reduceEqDiff, Nat.reduceLT, reduceIte, reduceCtorEq, Nat.reduceBEq, Int.reduceLT, Int.reduceToNat, Int.reducePow, Nat.reduceLeDiff, Int.reduceLE, Nat.reduceMul, Nat.reduceSub]
          refine callGo_pure (is_pure l ((k : Int) + 1) 108 hl (by omega)) (by rfl) ?_
          simp only [go_sem, Nat.reduceAdd, Nat.reduceEqDiff, Nat.reduceLT, reduceIte, reduceCtorEq, Nat.reduceBEq, Int.reduceLT, Int.reduceToNat, Int.reducePow, Nat.reduceLeDiff, Int.reduceLE, Nat.reduceMul, Nat.reduceSub]
          cases hj2 : atP l ((k : Int) + 1) == 108
          · rw [hj2] at hf
            simp only [go_sem, Nat.reduceAdd, Nat.reduceEqDiff, Nat.reduceLT, reduceIte, reduceCtorEq, Nat.reduceBEq, Int.reduceLT, Int.reduceToNat, Int.reducePow, Nat.reduceLeDiff, Int.reduceLE, Nat.reduceMul, Nat.reduceSub]
            simp only [Done, resAV, resL, resOne, look_nil, look_cons, Nat.reduceEqDiff, if_true, if_false, reduceIte, ite_true, ite_false, Nat.zero_ne_one, Nat.one_ne_zero, reduceCtorEq, true_or, or_true, true_and, Option.some.injEq, AV.lit.injEq, Value.int.injEq, Value.bool.injEq]
            exact (A (key_self (by omega) (by omega)) hf rfl).symm
          · rw [hj2] at hf
            simp only [go_sem, Nat.reduceAdd, Nat.reduceEqDiff, Nat.reduceLT, reduceIte, reduceCtorEq, Nat.reduceBEq, Int.reduceLT, Int.reduceToNat, Int.reducePow, Nat.reduceLeDiff, Int.reduceLE, Nat.reduceMul, Nat.reduceSub]
            simp only [Done, resAV, resL, resOne, look_nil, look_cons, Nat.reduceEqDiff, if_true, if_false, reduceIte, ite_true, ite_false, Nat.zero_ne_one, Nat.one_ne_zero, reduceCtorEq, true_or, or_true, true_and, Option.some.injEq, AV.lit.injEq, Value.int.injEq, Value.bool.injEq]
            exact (A (key_self (by omega) (by omega)) hf rfl).symm
      have n3 : (r == 183) = false := by simpa using r3
      simp only [n3, go_sem, Nat.reduceAdd, Nat.reduceEqDiff, Nat.reduceLT, reduceIte, reduceCtorEq, Nat.reduceBEq, Int.reduceLT, Int.reduceToNat, Int.reducePow, Nat.reduceLeDiff, Int.reduceLE, Nat.reduceMul, Nat.reduceSub]
      by_cases r4 : r = 885
      · subst r4
        have hf : fineOf l k 885 = ((rowAt (atP l (k + 1))).script == 3) := rfl
        simp only [go_sem, Nat.reduceAdd, Nat.reduceEqDiff, Nat.reduceLT, reduceIte, reduceCtorEq, Nat.reduceBEq, Int.reduceLT, Int.reduceToNat, Int.reducePow, Nat.reduceLeDiff, Int.reduceLE, Nat.reduceMul, Nat.reduceSub, Int.reduceBEq, wp]
        refine callGo_pure S1 (by rfl) ?_
        simp only [go_sem, Nat.reduceAdd, Nat.reduceEqDiff, Nat.reduceLT, reduceIte, reduceCtorEq, Nat.reduceBEq, Int.reduceLT, Int.reduceToNat, Int.reducePow, Nat.reduceLeDiff, Int.reduceLE, Nat.reduceMul, Nat.reduceSub]
        cases hj2 : (rowAt (atP l ((k : Int) + 1))).script == 3
        all_goals
          rw [hj2] at hf
          simp only [go_sem, Nat.reduceAdd, Nat.reduceEqDiff, Nat.reduceLT, reduceIte, reduceCtorEq, Nat.reduceBEq, Int.reduceLT, Int.reduceToNat, Int.reducePow, Nat.reduceLeDiff, Int.reduceLE, Nat.reduceMul, Nat.reduceSub]
          simp only [Done, resAV, resL, resOne, look_nil, look_cons, Nat.reduceEqDiff, if_true, if_false, reduceIte, ite_true, ite_false, Nat.zero_ne_one, Nat.one_ne_zero, reduceCtorEq, true_or, or_true, true_and, Option.some.injEq, AV.lit.injEq, Value.int.injEq, Value.bool.injEq]
          exact (A (key_self (by omega) (by omega)) hf rfl).symm
      have n4 : (r == 885) = false := by simpa using r4
      simp only [n4, go_sem, Nat.reduceAdd, Nat.reduceEqDiff, Nat.reduceLT, reduceIte, reduceCtorEq, Nat.reduceBEq, Int.reduceLT, Int.reduceToNat, Int.reducePow, Nat.reduceLeDiff, Int.reduceLE, Nat.reduceMul, Nat.reduceSub]
      by_cases r5 : r = 1523
      · subst r5
        have hf : fineOf l k 1523 = ((rowAt (atP l (k + -1))).script == 5) := rfl
        simp only [go_sem, Nat.reduceAdd, Nat.reduceEqDiff, Nat.reduceLT, reduceIte, reduceCtorEq, Nat.reduceBEq, Int.reduceLT, Int.reduceToNat, Int.reducePow, Nat.reduceLeDiff, Int.reduceLE, Nat.reduceMul, Nat.reduceSub, Int.reduceBEq, wm]
        refine callGo_pure S2 (by rfl) ?_
        simp only [go_sem, Nat.reduceAdd, Nat.reduceEqDiff, Nat.reduceLT, reduceIte, reduceCtorEq, Nat.reduceBEq, Int.reduceLT, Int.reduceToNat, Int.reducePow, Nat.reduceLeDiff, Int.reduceLE, Nat.reduceMul, Nat.reduceSub]
        cases hj2 : (rowAt (atP l ((k : Int) + -1))).script == 5
        all_goals
          rw [hj2] at hf
          simp only [go_sem, Nat.reduceAdd, Nat.reduceEqDiff, Nat.reduceLT, reduceIte, reduceCtorEq, Nat.reduceBEq, Int.reduceLT, Int.reduceToNat, Int.reducePow, Nat.reduceLeDiff, Int.reduceLE, Nat.reduceMul, Nat.reduceSub]
          simp only [Done, resAV, resL, resOne, look_nil, look_cons, Nat.reduceEqDiff, if_true, if_false, reduceIte, ite_true, ite_false, Nat.zero_ne_one, Nat.one_ne_zero, reduceCtorEq, true_or, or_true, true_and, Option.some.injEq, AV.lit.injEq, Value.int.injEq, Value.bool.injEq]
          exact (A (key_self (by omega) (by omega)) hf rfl).symm
      have n5 : (r == 1523) = false := by simpa using r5
      simp only [n5, go_sem, Nat.reduceAdd, Nat.reduceEqDiff, Nat.reduceLT, reduceIte, reduceCtorEq, Nat.reduceBEq, Int.reduceLT, Int.reduceToNat, Int.reducePow, Nat.reduceLeDiff, Int.reduceLE, Nat.reduceMul, Nat.reduceSub]
      by_cases r6 : r = 1524
      · subst r6
        have hf : fineOf l k 1524 = ((rowAt (atP l (k + -1))).script == 5) := rfl
        simp only [go_sem, Nat.reduceAdd, Nat.reduceEqDiff, Nat.reduceLT, reduceIte, reduceCtorEq, Nat.reduceBEq, Int.reduceLT, Int.reduceToNat, Int.reducePow, Nat.reduceLeDiff, Int.reduceLE, Nat.reduceMul, Nat.reduceSub, Int.reduceBEq, wm]
        refine callGo_pure S2 (by rfl) ?_
        simp only [go_sem, Nat.reduceAdd, Nat.reduceEqDiff, Nat.reduceLT, reduceIte, reduceCtorEq, Nat.reduceBEq, Int.reduceLT, Int.reduceToNat, Int.reducePow, Nat.reduceLeDiff, Int.reduceLE, Nat.reduceMul, Nat.reduceSub]
        cases hj2 : (rowAt (atP l ((k : Int) + -1))).script == 5
        all_goals
          rw [hj2] at hf
          simp only [go_sem, Nat.reduceAdd, Nat.reduceEqDiff, Nat.reduceLT, reduceIte, reduceCtorEq, Nat.reduceBEq, Int.reduceLT, Int.reduceToNat, Int.reducePow, Nat.reduceLeDiff, Int.reduceLE, Nat.reduceMul, Nat.reduceSub]
          simp only [Done, resAV, resL, resOne, look_nil, look_cons, Nat.reduceEqDiff, if_true, if_false, reduceIte, ite_true, ite_false, Nat.zero_ne_one, Nat.one_ne_zero, reduceCtorEq, true_or, or_true, true_and, Option.some.injEq, AV.lit.injEq, Value.int.injEq, Value.bool.injEq]
          exact (A (key_self (by omega) (by omega)) hf rfl).symm
      have n6 : (r == 1524) = false := by simpa using r6
      simp only [n6, go_sem, Nat.reduceAdd, Nat.reduceEqDiff, Nat.reduceLT, reduceIte, reduceCtorEq, Nat.reduceBEq, Int.reduceLT, Int.reduceToNat, Int.reducePow, Nat.reduceLeDiff, Int.reduceLE, Nat.reduceMul, Nat.reduceSub]
      by_cases r7 : r = 12539
      · subst r7
        have hf : fineOf l k 12539 = scriptsP l [9, 10, 8] := rfl
        rw [← scripts_three] at hf
        simp only [go_sem, Nat.reduceAdd, Nat.reduceEqDiff, Nat.reduceLT, reduceIte, reduceCtorEq, Nat.reduceBEq, Int.reduceLT, Int.reduceToNat, Int.reducePow, Nat.reduceLeDiff, Int.reduceLE, Nat.reduceMul, Nat.reduceSub, Int.reduceBEq, runes_length]
        refine callGo_pure (S3 8) (by rfl) ?_
        simp only [go_sem, Nat.reduceAdd, Nat.reduceEqDiff, Nat.reduceLT, reduceIte, reduceCtorEq, Nat.reduceBEq, Int.reduceLT, Int.reduceToNat, Int.reducePow, Nat.reduceLeDiff, Int.reduceLE, Nat.reduceMul, Nat.reduceSub]
        cases hj1 : l.any fun r => (rowAt r).script == 8
        · rw [hj1, Bool.false_or] at hf
          simp only [go_sem, Nat.reduceAdd, Nat.reduceEqDiff, Nat.reduceLT, reduceIte, reduceCtorEq, Nat.reduceBEq, Int.reduceLT, Int.reduceToNat, Int.reducePow, Nat.reduceLeDiff, Int.reduceLE, Nat.reduceMul, Nat.reduceSub, runes_length]
          refine callGo_pure (S3 9) (by rfl) ?_
          simp only [go_sem, Nat.reduceAdd, Nat.reduceEqDiff, Nat.reduceLT, reduceIte, reduceCtorEq, Nat.reduceBEq, Int.reduceLT, Int.reduceToNat, Int.reducePow, Nat.reduceLeDiff, Int.reduceLE, Nat.reduceMul, Nat.reduceSub]
          cases hj2 : l.any fun r => (rowAt r).script == 9
          · rw [hj2, Bool.false_or] at hf
            simp only [go_sem, Nat.reduceAdd, Nat.reduceEqDiff, Nat.reduceLT, reduceIte, reduceCtorEq, Nat.reduceBEq, Int.reduceLT, Int.reduceToNat, Int.reducePow, Nat.reduceLeDiff, Int.reduceLE, Nat.reduceMul, Nat.reduceSub, runes_length]
            refine callGo_pure (S3 10) (by rfl) ?_
            simp only [go_sem, Nat.reduceAdd, Nat.reduceEqDiff, Nat.reduceLT, reduceIte, reduceCtorEq, Nat.reduceBEq, Int.reduceLT, Int.reduceToNat, Int.reducePow, Nat.reduceLeDiff, Int.reduceLE, Nat.reduceMul, Nat.reduceSub]
            cases hj3 : l.any fun r => (rowAt r).script == 10
            all_goals
              rw [hj3] at hf
              simp only [go_sem, Nat.reduceAdd, Nat.reduceEqDiff, Nat.reduceLT, reduceIte, reduceCtorEq, Nat.reduceBEq, Int.reduceLT, Int.reduceToNat, Int.reducePow, Nat.reduceLeDiff, Int.reduceLE, Nat.reduceMul, Nat.reduceSub]
              simp only [Done, resAV, resL, resOne, look_nil, look_cons, Nat.reduceEqDiff, if_true, if_false, reduceIte, ite_true, ite_false, Nat.zero_ne_one, Nat.one_ne_zero, reduceCtorEq, true_or, or_true, true_and, Option.some.injEq, AV.lit.injEq, Value.int.injEq, Value.bool.injEq]
              exact (A (key_self (by omega) (by omega)) hf rfl).symm
          · rw [hj2, Bool.true_or] at hf
            simp only [go_sem, Nat.reduceAdd, Nat.reduceEqDiff, Nat.reduceLT, reduceIte, reduceCtorEq, Nat.reduceBEq, Int.reduceLT, Int.reduceToNat, Int.reducePow, Nat.reduceLeDiff, Int.reduceLE, Nat.reduceMul, Nat.reduceSub]
            simp only [Done, resAV, resL, resOne, look_nil, look_cons, Nat.reduceEqDiff, if_true, if_false, reduceIte, ite_true, ite_false, Nat.zero_ne_one, Nat.one_ne_zero, reduceCtorEq, true_or, or_true, true_and, Option.some.injEq, AV.lit.injEq, Value.int.injEq, Value.bool.injEq]
            exact (A (key_self (by omega) (by omega)) hf rfl).symm
        · rw [hj1, Bool.true_or] at hf
          simp only [go_sem, Nat.reduceAdd, Nat.reduceEqDiff, Nat.reduceLT, reduceIte, reduceCtorEq, Nat.reduceBEq, Int.reduceLT, Int.reduceToNat, Int.reducePow, Nat.reduceLeDiff, Int.reduceLE, Nat.reduceMul, Nat.reduceSub]
          simp only [Done, resAV, resL, resOne, look_nil, look_cons, Nat.reduceEqDiff, if_true, if_false, reduceIte, ite_true, ite_false, Nat.zero_ne_one, Nat.one_ne_zero, reduceCtorEq, true_or, or_true, true_and, Option.some.injEq, AV.lit.injEq, Value.int.injEq, Value.bool.injEq]
          exact (A (key_self (by omega) (by omega)) hf rfl).symm
      have n7 : (r == 12539) = false := by simpa using r7
      simp only [n7, go_sem, Nat.reduceAdd, Nat.reduceEqDiff, Nat.reduceLT, reduceIte, reduceCtorEq, Nat.reduceBEq, Int.reduceLT, Int.reduceToNat, Int.reducePow, Nat.reduceLeDiff, Int.reduceLE, Nat.reduceMul, Nat.reduceSub]
      by_cases r8 : 1632 ≤ r ∧ r ≤ 1641
      · have g1 : decide (r ≥ 1632) = true := by simp only [decide_eq_true_eq]; omega
        have g2 : decide (r ≤ 1641) = true := by simp only [decide_eq_true_eq]; omega
        have hf : fineOf l k 1632 = !digitsP l 3 := rfl
        have W := within_pure l 1776 1785 hl
        rw [within_east] at W
        simp only [g1, g2, go_sem, Nat.reduceAdd, Nat.reduceEqDiff, Nat.reduceLT, reduceIte, reduceCtorEq, Nat.reduceBEq, Int.reduceLT, Int.reduceToNat, Int.reducePow, Nat.reduceLeDiff, Int.reduceLE, Nat.reduceMul, Nat.reduceSub]
        refine callGo_pure W (by rfl) ?_
        simp only [go_sem, Nat.reduceAdd, Nat.reduceEqDiff, Nat.reduceLT, reduceIte, reduceCtorEq, Nat.reduceBEq, Int.reduceLT, Int.reduceToNat, Int.reducePow, Nat.reduceLeDiff, Int.reduceLE, Nat.reduceMul, Nat.reduceSub]
        cases hj1 : digitsP l 3
        all_goals
          rw [hj1] at hf
          simp only [go_sem, Nat.reduceAdd, Nat.reduceEqDiff, Nat.reduceLT, reduceIte, reduceCtorEq, Nat.reduceBEq, Int.reduceLT, Int.reduceToNat, Int.reducePow, Nat.reduceLeDiff, Int.reduceLE, Nat.reduceMul, Nat.reduceSub]
          simp only [Done, resAV, resL, resOne, look_nil, look_cons, Nat.reduceEqDiff, if_true, if_false, reduceIte, ite_true, ite_false, Nat.zero_ne_one, Nat.one_ne_zero, reduceCtorEq, true_or, or_true, true_and, Option.some.injEq, AV.lit.injEq, Value.int.injEq, Value.bool.injEq]
          exact (A (key_arab r8.1 r8.2) hf rfl).symm
      by_cases r9 : 1776 ≤ r ∧ r ≤ 1785
      · have g1 : decide (r ≥ 1632) = true := by simp only [decide_eq_true_eq]; omega
        have g2 : decide (r ≤ 1641) = false := by simp only [decide_eq_false_iff_not]; omega
        have g3 : decide (r ≥ 1776) = true := by simp only [decide_eq_true_eq]; omega
        have g4 : decide (r ≤ 1785) = true := by simp only [decide_eq_true_eq]; omega
        have hf : fineOf l k 1776 = !digitsP l 2 := rfl
        have W := within_pure l 1632 1641 hl
        rw [within_arab] at W
        simp only [g1, g2, g3, g4, go_sem, Nat.reduceAdd, Nat.reduceEqDiff, Nat.reduceLT, reduceIte, reduceCtorEq, Nat.reduceBEq, Int.reduceLT, Int.reduceToNat, Int.reducePow, Nat.reduceLeDiff, Int.reduceLE, Nat.reduceMul, Nat.reduceSub]
        refine callGo_pure W (by rfl) ?_
        simp only [go_sem, Nat.reduceAdd, Nat.reduceEqDiff, Nat.reduceLT, reduceIte, reduceCtorEq, Nat.reduceBEq, Int.reduceLT, Int.reduceToNat, Int.reducePow, Nat.reduceLeDiff, Int.reduceLE, Nat.reduceMul, Nat.reduceSub]
        cases hj1 : digitsP l 2
        all_goals
          rw [hj1] at hf
          simp only [go_sem, Nat.reduceAdd, Nat.reduceEqDiff, Nat.reduceLT, reduceIte, reduceCtorEq, Nat.reduceBEq, Int.reduceLT, Int.reduceToNat, Int.reducePow, Nat.reduceLeDiff, Int.reduceLE, Nat.reduceMul, Nat.reduceSub]
          simp only [Done, resAV, resL, resOne, look_nil, look_cons, Nat.reduceEqDiff, if_true, if_false, reduceIte, ite_true, ite_false, Nat.zero_ne_one, Nat.one_ne_zero, reduceCtorEq, true_or, or_true, true_and, Option.some.injEq, AV.lit.injEq, Value.int.injEq, Value.bool.injEq]
          exact (A (key_east r9.1 r9.2) hf rfl).symm
      have hf : fineOf l k r = true := by
        have : r ≠ 1632 := by omega
        have : r ≠ 1776 := by omega
        simp [fineOf, *]
      have hfin := A (key_self r8 r9) hf rfl
      rw [if_pos rfl] at hfin
      by_cases q1 : r ≥ 1632
      · have g1 : decide (r ≥ 1632) = true := by simpa using q1
        have g2 : decide (r ≤ 1641) = false := by simp only [decide_eq_false_iff_not]; omega
        by_cases q2 : r ≥ 1776
        · have g3 : decide (r ≥ 1776) = true := by simpa using q2
          have g4 : decide (r ≤ 1785) = false := by simp only [decide_eq_false_iff_not]; omega
          simp only [g1, g2, g3, g4, go_sem, Nat.reduceAdd, Nat.reduceEqDiff, Nat.reduceLT, reduceIte, reduceCtorEq, Nat.reduceBEq, Int.reduceLT, Int.reduceToNat, Int.reducePow, Nat.reduceLeDiff, Int.reduceLE, Nat.reduceMul, Nat.reduceSub]
          simp only [Done, resAV, resL, resOne, look_nil, look_cons, Nat.reduceEqDiff, if_true, if_false, reduceIte, ite_true, ite_false, Nat.zero_ne_one, Nat.one_ne_zero, reduceCtorEq, true_or, or_true, true_and, Option.some.injEq, AV.lit.injEq, Value.int.injEq, Value.bool.injEq]
          exact hfin.symm
        · have g3 : decide (r ≥ 1776) = false := by simpa using q2
          simp only [g1, g2, g3, go_sem, Nat.reduceAdd, Nat.reduceEqDiff, Nat.reduceLT, reduceIte, reduceCtorEq, Nat.reduceBEq, Int.reduceLT, Int.reduceToNat, Int.reducePow, Nat.reduceLeDiff, Int.reduceLE, Nat.reduceMul, Nat.reduceSub]
          simp only [Done, resAV, resL, resOne, look_nil, look_cons, Nat.reduceEqDiff, if_true, if_false, reduceIte, ite_true, ite_false, Nat.zero_ne_one, Nat.one_ne_zero, reduceCtorEq, true_or, or_true, true_and, Option.some.injEq, AV.lit.injEq, Value.int.injEq, Value.bool.injEq]
          exact hfin.symm
      · have g1 : decide (r ≥ 1632) = false := by simpa using q1
        have g3 : decide (r ≥ 1776) = false := by simp only [decide_eq_false_iff_not]; omega
        simp only [g1, g3, go_sem, Nat.reduceAdd, Nat.reduceEqDiff, Nat.reduceLT, reduceIte, reduceCtorEq, Nat.reduceBEq, Int.reduceLT, Int.reduceToNat, Int.reducePow, Nat.reduceLeDiff, Int.reduceLE, Nat.reduceMul, Nat.reduceSub]
        simp only [Done, resAV, resL, resOne, look_nil, look_cons, Nat.reduceEqDiff, if_true, if_false, reduceIte, ite_true, ite_false, Nat.zero_ne_one, Nat.one_ne_zero, reduceCtorEq, true_or, or_true, true_and, Option.some.injEq, AV.lit.injEq, Value.int.injEq, Value.bool.injEq]
        exact hfin.symm
  · have hat : atOf l i = 0 := by unfold atOf; rw [if_neg h0]
    by_cases h1 : i < 0
    · have e0 : decide (i < 0) = true := by simpa using h1
      simp only [e0, go_sem, Nat.reduceAdd, Nat.reduceEqDiff, Nat.reduceLT, reduceIte, reduceCtorEq, Nat.reduceBEq, Int.reduceLT, Int.reduceToNat, Int.reducePow, Nat.reduceLeDiff, Int.reduceLE, Nat.reduceMul, Nat.reduceSub]
      simp only [Done, resAV, resL, resOne, look_nil, look_cons, Nat.reduceEqDiff, if_true, if_false, reduceIte, ite_true, ite_false, Nat.zero_ne_one, Nat.one_ne_zero, reduceCtorEq, true_or, or_true, true_and, Option.some.injEq, AV.lit.injEq, Value.int.injEq, Value.bool.injEq]
      exact hat.symm
    · have e0 : decide (i < 0) = false := by simpa using h1
      have e1 : decide (i ≥ (l.length : Int)) = true := by simp only [decide_eq_true_eq]; omega
      simp only [e0, e1, runes_length, go_sem, Nat.reduceAdd, Nat.reduceEqDiff, Nat.reduceLT, reduceIte, reduceCtorEq, Nat.reduceBEq, Int.reduceLT, Int.reduceToNat, Int.reducePow, Nat.reduceLeDiff, Int.reduceLE, Nat.reduceMul, Nat.reduceSub]
      simp only [Done, resAV, resL, resOne, look_nil, look_cons, Nat.reduceEqDiff, if_true, if_false, reduceIte, ite_true, ite_false, Nat.zero_ne_one, Nat.one_ne_zero, reduceCtorEq, true_or, or_true, true_and, Option.some.injEq, AV.lit.injEq, Value.int.injEq, Value.bool.injEq]
      exact hat.symm

set_option maxRecDepth 10000 in
theorem refChk8_pure (l : List Int) (hl : l.length ≤ 1000000) (h32 : I32 l) : Pure Try.prog 40 [.sl 21 (runes l) none] [] (.lit (.int .u8 (chk8 l))) := by
  have hpos : ∀ i, atOf l i = 0 ∨ atOf l i = 7 ∨ atOf l i = 8 := fun i => by
    unfold atOf clauseOf
    split
    · split
      · exact .inl rfl
      · split
        · exact .inr (.inl rfl)
        · split
          · exact .inr (.inl rfl)
          · exact .inr (.inr rfl)
    · exact .inl rfl
  refine pure0 Try.func40 c40 n40 e40 r40 (by simp) rfl ?_
  simp only [a40, astart, argSlots, go_sem, Nat.reduceAdd, Nat.reduceEqDiff, Nat.reduceLT, reduceIte, reduceCtorEq, Nat.reduceBEq, Int.reduceLT, Int.reduceToNat, Int.reducePow, Nat.reduceLeDiff, Int.reduceLE, Nat.reduceMul, Nat.reduceSub]
  refine loop_to l.length (fun i => ⟨[(0, some (.sl 21 (runes l) none)), (3, some (.lit (.int .i64 i)))], [], [], 0⟩)
    (fun i => chk8 l = firstFrom l (l.length - i) i) (weak_by [] List.nodup_nil rfl ?_ trivial trivial (by simp)) rfl ?_ ?_
  · simp only [go_sem, Nat.reduceAdd, Nat.reduceEqDiff, Nat.reduceLT, reduceIte, reduceCtorEq, Nat.reduceBEq, Int.reduceLT, Int.reduceToNat, Int.reducePow, Nat.reduceLeDiff, Int.reduceLE, Nat.reduceMul, Nat.reduceSub, slotsBy, boxesBy, tipsBy, rawAt, nm, AV.ren, AV.renL, AV.under, AV.underL, List.all_nil, List.all_cons, bne_self_eq_false, List.getD_cons_zero, List.getD_cons_succ, List.length_nil, List.length_cons, and_true, true_and, Int.natCast_zero]
  · intro i hi hp
    rw [show l.length - i = (l.length - (i + 1)) + 1 by omega, firstFrom] at hp
    simp only [go_sem, Nat.reduceAdd, Nat.reduceEqDiff, Nat.reduceLT, reduceIte, reduceCtorEq, Nat.reduceBEq, Int.reduceLT, Int.reduceToNat, Int.reducePow, Nat.reduceLeDiff, Int.reduceLE, Nat.reduceMul, Nat.reduceSub, hi, runes_length]
    refine callGo_pure (refAt_pure l i hl h32) (by rfl) ?_
    simp only [go_sem, Nat.reduceAdd, Nat.reduceEqDiff, Nat.reduceLT, reduceIte, reduceCtorEq, Nat.reduceBEq, Int.reduceLT, Int.reduceToNat, Int.reducePow, Nat.reduceLeDiff, Int.reduceLE, Nat.reduceMul, Nat.reduceSub]
    by_cases h1 : atOf l (i : Int) = 0
    · have e1 : decide (atOf l (i : Int) > 0) = false := by simp [h1]
      rw [if_neg (by simpa using h1)] at hp
      simp only [e1, go_sem, Nat.reduceAdd, Nat.reduceEqDiff, Nat.reduceLT, reduceIte, reduceCtorEq, Nat.reduceBEq, Int.reduceLT, Int.reduceToNat, Int.reducePow, Nat.reduceLeDiff, Int.reduceLE, Nat.reduceMul, Nat.reduceSub]
      simp (disch := omega) only [wrap_i64]
      refine ⟨weak_by [] List.nodup_nil rfl ?_ trivial trivial (by simp), hp⟩
      simp only [go_sem, Nat.reduceAdd, Nat.reduceEqDiff, Nat.reduceLT, reduceIte, reduceCtorEq, Nat.reduceBEq, Int.reduceLT, Int.reduceToNat, Int.reducePow, Nat.reduceLeDiff, Int.reduceLE, Nat.reduceMul, Nat.reduceSub, slotsBy, boxesBy, tipsBy, rawAt, nm, AV.ren, AV.renL, AV.under, AV.underL, List.all_nil, List.all_cons, bne_self_eq_false, List.getD_cons_zero, List.getD_cons_succ, List.length_nil, List.length_cons, and_true, true_and, Int.natCast_add, Int.natCast_one]
    · have e1 : decide (atOf l (i : Int) > 0) = true := by have := hpos i; simp only [decide_eq_true_eq]; omega
      rw [if_pos h1] at hp
      simp only [e1, go_sem, Nat.reduceAdd, Nat.reduceEqDiff, Nat.reduceLT, reduceIte, reduceCtorEq, Nat.reduceBEq, Int.reduceLT, Int.reduceToNat, Int.reducePow, Nat.reduceLeDiff, Int.reduceLE, Nat.reduceMul, Nat.reduceSub]
      simp only [Done, resAV, resL, resOne, look_nil, look_cons, Nat.reduceEqDiff, if_true, if_false, reduceIte, ite_true, ite_false, Nat.zero_ne_one, Nat.one_ne_zero, reduceCtorEq, true_or, or_true, true_and, Option.some.injEq, AV.lit.injEq, Value.int.injEq, Value.bool.injEq]
      rw [hp]
  · intro hp
    rw [Nat.sub_self, firstFrom] at hp
    simp only [go_sem, Nat.reduceAdd, Nat.reduceEqDiff, Nat.reduceLT, reduceIte, reduceCtorEq, Nat.reduceBEq, Int.reduceLT, Int.reduceToNat, Int.reducePow, Nat.reduceLeDiff, Int.reduceLE, Nat.reduceMul, Nat.reduceSub, runes_length]
    simp only [Done, resAV, resL, resOne, look_nil, look_cons, Nat.reduceEqDiff, if_true, if_false, reduceIte, ite_true, ite_false, Nat.zero_ne_one, Nat.one_ne_zero, reduceCtorEq, true_or, or_true, true_and, Option.some.injEq, AV.lit.injEq, Value.int.injEq, Value.bool.injEq]
    rw [hp]

set_option maxRecDepth 10000 in
theorem contextTells_pure (l : List Int) (h : l.length ≤ 35184372088064 ∧ I32 l) (i : Int) (hi : -9223372036854775808 ≤ i ∧ i ≤ 9223372036854775807) : Pure Try.prog 10 [.sl 21 (runes l) none, .lit (.int .i64 i)] [] (.lit (.bool true)) := by
  refine pure0 Try.func10 c10 n10 e10 r10 (by simp) rfl ?_
  simp only [a10, astart, argSlots, go_sem, Nat.reduceAdd, Nat.reduceEqDiff, Nat.reduceLT, reduceIte, reduceCtorEq, Nat.reduceBEq, Int.reduceLT, Int.reduceToNat, Int.reducePow, Nat.reduceLeDiff, Int.reduceLE, Nat.reduceMul, Nat.reduceSub, runes_length]
  by_cases h0 : 200 < l.length
  · have e1 : decide ((l.length : Int) > 200) = true := by simp only [decide_eq_true_eq]; omega
    simp only [e1, go_sem, Nat.reduceAdd, Nat.reduceEqDiff, Nat.reduceLT, reduceIte, reduceCtorEq, Nat.reduceBEq, Int.reduceLT, Int.reduceToNat, Int.reducePow, Nat.reduceLeDiff, Int.reduceLE, Nat.reduceMul, Nat.reduceSub]
    refine callGo_pure awake08_pure (by rfl) ?_
    simp only [go_sem, Nat.reduceAdd, Nat.reduceEqDiff, Nat.reduceLT, reduceIte, reduceCtorEq, Nat.reduceBEq, Int.reduceLT, Int.reduceToNat, Int.reducePow, Nat.reduceLeDiff, Int.reduceLE, Nat.reduceMul, Nat.reduceSub]
    simp only [Done, resAV, resL, resOne, look_nil, look_cons, Nat.reduceEqDiff, if_true, if_false, reduceIte, ite_true, ite_false, Nat.zero_ne_one, Nat.one_ne_zero, reduceCtorEq, true_or, or_true, true_and, Option.some.injEq, AV.lit.injEq, Value.int.injEq, Value.bool.injEq]
  · have e1 : decide ((l.length : Int) > 200) = false := by simp only [decide_eq_false_iff_not]; omega
    have hl : l.length ≤ 1000000 := by omega
    simp only [e1, go_sem, Nat.reduceAdd, Nat.reduceEqDiff, Nat.reduceLT, reduceIte, reduceCtorEq, Nat.reduceBEq, Int.reduceLT, Int.reduceToNat, Int.reducePow, Nat.reduceLeDiff, Int.reduceLE, Nat.reduceMul, Nat.reduceSub, runes_length]
    refine loop_to l.length (fun n => ⟨[(0, some (.sl 21 (runes l) none)), (1, some (.lit (.int .i64 i))), (11, some (.lit (.int .i64 l.length))), (12, some (.lit (.int .i64 n)))], [], [], 0⟩)
      (fun _ => True) (weak_by [] List.nodup_nil rfl ?_ trivial trivial (by simp)) trivial ?_ ?_
    · simp only [go_sem, Nat.reduceAdd, Nat.reduceEqDiff, Nat.reduceLT, reduceIte, reduceCtorEq, Nat.reduceBEq, Int.reduceLT, Int.reduceToNat, Int.reducePow, Nat.reduceLeDiff, Int.reduceLE, Nat.reduceMul, Nat.reduceSub, slotsBy, boxesBy, tipsBy, rawAt, nm, AV.ren, AV.renL, AV.under, AV.underL, List.all_nil, List.all_cons, bne_self_eq_false, List.getD_cons_zero, List.getD_cons_succ, List.length_nil, List.length_cons, and_true, true_and, Int.natCast_zero]
    · intro n hn _
      simp only [go_sem, Nat.reduceAdd, Nat.reduceEqDiff, Nat.reduceLT, reduceIte, reduceCtorEq, Nat.reduceBEq, Int.reduceLT, Int.reduceToNat, Int.reducePow, Nat.reduceLeDiff, Int.reduceLE, Nat.reduceMul, Nat.reduceSub, hn]
      refine callGo_pure (at8_pure l n hl) (by rfl) ?_
      simp only [go_sem, Nat.reduceAdd, Nat.reduceEqDiff, Nat.reduceLT, reduceIte, reduceCtorEq, Nat.reduceBEq, Int.reduceLT, Int.reduceToNat, Int.reducePow, Nat.reduceLeDiff, Int.reduceLE, Nat.reduceMul, Nat.reduceSub]
      refine callGo_pure (refAt_pure l n hl h.2) (by rfl) ?_
      simp only [go_sem, Nat.reduceAdd, Nat.reduceEqDiff, Nat.reduceLT, reduceIte, reduceCtorEq, Nat.reduceBEq, Int.reduceLT, Int.reduceToNat, Int.reducePow, Nat.reduceLeDiff, Int.reduceLE, Nat.reduceMul, Nat.reduceSub, bne_self_eq_false]
      simp (disch := omega) only [wrap_i64]
      refine weak_by [] List.nodup_nil rfl ?_ trivial trivial (by simp)
      simp only [go_sem, Nat.reduceAdd, Nat.reduceEqDiff, Nat.reduceLT, reduceIte, reduceCtorEq, Nat.reduceBEq, Int.reduceLT, Int.reduceToNat, Int.reducePow, Nat.reduceLeDiff, Int.reduceLE, Nat.reduceMul, Nat.reduceSub, slotsBy, boxesBy, tipsBy, rawAt, nm, AV.ren, AV.renL, AV.under, AV.underL, List.all_nil, List.all_cons, bne_self_eq_false, List.getD_cons_zero, List.getD_cons_succ, List.length_nil, List.length_cons, and_true, true_and, Int.natCast_add, Int.natCast_one]
    · intro _
      simp only [go_sem, Nat.reduceAdd, Nat.reduceEqDiff, Nat.reduceLT, reduceIte, reduceCtorEq, Nat.reduceBEq, Int.reduceLT, Int.reduceToNat, Int.reducePow, Nat.reduceLeDiff, Int.reduceLE, Nat.reduceMul, Nat.reduceSub]
      refine callGo_pure (at8_pure l i hl) (by rfl) ?_
      simp only [go_sem, Nat.reduceAdd, Nat.reduceEqDiff, Nat.reduceLT, reduceIte, reduceCtorEq, Nat.reduceBEq, Int.reduceLT, Int.reduceToNat, Int.reducePow, Nat.reduceLeDiff, Int.reduceLE, Nat.reduceMul, Nat.reduceSub]
      refine callGo_pure (refAt_pure l i hl h.2) (by rfl) ?_
      simp only [go_sem, Nat.reduceAdd, Nat.reduceEqDiff, Nat.reduceLT, reduceIte, reduceCtorEq, Nat.reduceBEq, Int.reduceLT, Int.reduceToNat, Int.reducePow, Nat.reduceLeDiff, Int.reduceLE, Nat.reduceMul, Nat.reduceSub, beq_self_eq_true]
      refine callGo_pure (chk8_pure l hl) (by rfl) ?_
      simp only [go_sem, Nat.reduceAdd, Nat.reduceEqDiff, Nat.reduceLT, reduceIte, reduceCtorEq, Nat.reduceBEq, Int.reduceLT, Int.reduceToNat, Int.reducePow, Nat.reduceLeDiff, Int.reduceLE, Nat.reduceMul, Nat.reduceSub]
      refine callGo_pure (refChk8_pure l hl h.2) (by rfl) ?_
      simp only [go_sem, Nat.reduceAdd, Nat.reduceEqDiff, Nat.reduceLT, reduceIte, reduceCtorEq, Nat.reduceBEq, Int.reduceLT, Int.reduceToNat, Int.reducePow, Nat.reduceLeDiff, Int.reduceLE, Nat.reduceMul, Nat.reduceSub, beq_self_eq_true]
      refine callGo_pure awake08_pure (by rfl) ?_
      simp only [go_sem, Nat.reduceAdd, Nat.reduceEqDiff, Nat.reduceLT, reduceIte, reduceCtorEq, Nat.reduceBEq, Int.reduceLT, Int.reduceToNat, Int.reducePow, Nat.reduceLeDiff, Int.reduceLE, Nat.reduceMul, Nat.reduceSub]
      simp only [Done, resAV, resL, resOne, look_nil, look_cons, Nat.reduceEqDiff, if_true, if_false, reduceIte, ite_true, ite_false, Nat.zero_ne_one, Nat.one_ne_zero, reduceCtorEq, true_or, or_true, true_and, Option.some.injEq, AV.lit.injEq, Value.int.injEq, Value.bool.injEq]

theorem contextTells_any (avs : List AV) (h : Args Try.prog Try.f10.params.toList avs) : Pure Try.prog 10 avs [] (.lit (.bool true)) := by
  have hp : Try.f10.params.toList = [22, 3] := by kernel_rfl
  rw [hp] at h
  obtain ⟨av0, rest0, rfl, a0, h0⟩ := h
  obtain ⟨av1, rest1, rfl, a1, rfl⟩ := h0
  obtain ⟨z0, rfl, w0, s0⟩ := arg_ints (e := 21) (k := .i32) (by kernel_rfl) (by kernel_rfl) a0
  rw [show Try.prog.bytesOf 21 = 4 from by kernel_rfl] at s0
  obtain ⟨z1, rfl, w1⟩ := arg_int (k := .i64) (by kernel_rfl) a1
  exact contextTells_pure z0 ⟨by omega, fun n hn => by simpa [Lit.wf, IntKind.min, IntKind.max, IntKind.signed, IntKind.bits] using w0 n hn⟩ z1 (by simpa [Lit.wf, IntKind.min, IntKind.max, IntKind.signed, IntKind.bits] using w1)

set_option maxRecDepth 100000 in
theorem contextTells_lifted (os : Os) (started : os.Started) (H : Type) (enc : TypeId × Value → H) :
    ReturnsInHanded {} Try.checked os 10 .any (Rows.contextTellsSpec.pre6 enc Try.prog Try.f10 Rows.contextTellsRow.domain false) (Rows.contextTellsSpec.post enc Try.prog Try.f10 false true false false) := by
  refine law_returns (C := Try.checked) (tb := 4) (by kernel_rfl) started (by kernel_rfl) Try.func10
    (ChangeSpec.witness6 (enc := enc) (C := Try.checked) false ⟨#[], #[.slice none 0 0, .int .i64 0], []⟩ 8 (by kernel_rfl) (by kernel_rfl) (by kernel_rfl) (by kernel_rfl))
    (by kernel_rfl) (by kernel_rfl) rfl rfl (by kernel_rfl) (by kernel_rfl) ?_ contextTells_any
  intro ds hds
  have hp : Try.f10.params.toList = [22, 3] := by kernel_rfl
  rw [hp] at hds
  match ds, hds with
  | [d0, d1], _ => exact ⟨rfl, rfl, rfl⟩

theorem contextTells_holds : Rows.ContextTellsSaid :=
  OpenClaim.holds_of_wide 10 Try.f10 rfl rfl rfl rfl rfl rfl rfl ⟨rfl, rfl, rfl, rfl, rfl⟩ rfl rfl rfl rfl rfl (by kernel_rfl) Try.func10 (by kernel_rfl)
    (of_decide_eq_true (by kernel_rfl)) (by unfold Func.isWrapper; first | (rw [if_pos (by decide +kernel)]; kernel_rfl) | (rw [if_neg (by decide +kernel)]; exact ⟨rfl, rfl⟩))
    (fun os started H enc _ => contextTells_lifted os started H enc)
end Go.Proofs.Ytocaeclhmkojiaa
