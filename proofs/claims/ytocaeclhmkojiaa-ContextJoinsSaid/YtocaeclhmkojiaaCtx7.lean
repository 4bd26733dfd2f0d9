/-
Whether a code point may stand at its place hangs on those beside it alone: the law answers true, whatever it is handed. Conditions: none.
-/
import Derived.Test.YtocaeclhmkojiaaCtx5
set_option linter.unusedSimpArgs false
set_option linter.unusedVariables false
set_option linter.unusedSectionVars false
namespace Go.Proofs.Ytocaeclhmkojiaa
open Go Go.Ab Go.ChangeShapes Go.WideShapes Go.ChangeAt Go.RowKit
def a12 : ACode :=
  (.seq (.reg [⟨(.some 6), (.mv (.k (.bool false))), .none⟩]) (.seq (.seq (.reg [⟨(.some 11), (.mv (.t 0)), .none⟩, ⟨(.some 12), (.len (.t 11)), .none⟩, ⟨(.some 13), (.bin .gtr (.t 12) (.k (.int .i64
  100))), .none⟩, ⟨(.some 14), (.mv (.t 13)), .none⟩, ⟨(.some 15), (.mv (.t 1)), (.some (14, false))⟩, ⟨(.some 16), (.len (.t 15)), (.some (14, false))⟩, ⟨(.some 17), (.bin .gtr (.t 16) (.k (.int .i64
  100))), (.some (14, false))⟩, ⟨(.some 18), (.pick (.t 14) (.k (.bool true)) (.t 17)), .none⟩, ⟨(.some 19), (.mv (.t 18)), .none⟩, ⟨(.some 20), (.mv (.t 2)), (.some (19, false))⟩, ⟨(.some 21), (.len
  (.t 20)), (.some (19, false))⟩, ⟨(.some 22), (.bin .gtr (.t 21) (.k (.int .i64 100))), (.some (19, false))⟩, ⟨(.some 23), (.pick (.t 19) (.k (.bool true)) (.t 22)), .none⟩]) (.cond (.t 23) (.seq (.reg
  [⟨(.some 24), (.call (.f 36) []), .none⟩, ⟨(.some 6), (.mv (.t 24)), .none⟩]) .ret) .skip)) (.seq (.reg [⟨(.some 25), (.bs 21 1 [(.k (.int .i32 97))]), .none⟩, ⟨(.some 26), (.mv (.t 0)), .none⟩,
  ⟨(.some 27), (.app 21 4 (.t 25) (.t 26)), .none⟩, ⟨(.some 28), (.bs 21 1 [(.k (.int .i32 97))]), .none⟩, ⟨(.some 29), (.app 21 4 (.t 27) (.t 28)), .none⟩, ⟨(.some 7), (.mv (.t 29)), .none⟩]) (.seq
  (.reg [⟨(.some 30), (.bs 21 1 []), .none⟩, ⟨(.some 31), (.mv (.t 1)), .none⟩, ⟨(.some 32), (.app 21 4 (.t 30) (.t 31)), .none⟩, ⟨(.some 33), (.mv (.t 7)), .none⟩, ⟨(.some 34), (.app 21 4 (.t 32) (.t
  33)), .none⟩, ⟨(.some 35), (.mv (.t 2)), .none⟩, ⟨(.some 36), (.app 21 4 (.t 34) (.t 35)), .none⟩, ⟨(.some 8), (.mv (.t 36)), .none⟩]) (.seq (.seq (.reg [⟨(.some 37), (.mv (.t 7)), .none⟩, ⟨(.some
  38), (.len (.t 37)), .none⟩, ⟨(.some 39), (.mv (.k (.int .i64 0))), .none⟩]) (.block 0 (.loop (.seq (.reg [⟨(.some 40), (.bin .lss (.t 39) (.t 38)), .none⟩]) (.seq (.cond (.t 40) .skip (.exit 0))
  (.seq (.block 1 (.seq (.reg [⟨(.some 41), (.mv (.t 39)), .none⟩, ⟨(.some 42), (.ia 21 (.t 37) (.t 39)), .none⟩, ⟨(.some 43), (.ld .none (.t 42)), .none⟩, ⟨(.some 9), (.mv (.t 41)), .none⟩, ⟨(.some
  10), (.mv (.t 43)), .none⟩]) (.seq (.seq (.reg [⟨(.some 44), (.mv (.t 10)), .none⟩, ⟨(.some 45), (.call (.f 22) [(.t 44)]), .none⟩, ⟨(.some 46), (.fld 0 .none (.t 45)), .none⟩, ⟨(.some 47), (.bin .eql
  (.t 46) (.k (.int .u8 5))), .none⟩, ⟨(.some 48), (.mv (.t 47)), .none⟩, ⟨(.some 49), (.mv (.t 10)), (.some (48, false))⟩, ⟨(.some 50), (.bin .eql (.t 49) (.k (.int .i32 12539))), (.some (48, false))⟩,
  ⟨(.some 51), (.pick (.t 48) (.k (.bool true)) (.t 50)), .none⟩]) (.cond (.t 51) (.exit 1) .skip)) (.seq (.reg [⟨(.some 52), (.mv (.t 9)), .none⟩, ⟨(.some 53), (.bin .gtr (.t 52) (.k (.int .i64 0))),
  .none⟩, ⟨(.some 54), (.mv (.t 53)), .none⟩, ⟨(.some 55), (.mv (.t 9)), (.some (54, true))⟩, ⟨(.some 56), (.mv (.t 7)), (.some (54, true))⟩, ⟨(.some 57), (.len (.t 56)), (.some (54, true))⟩, ⟨(.some
  58), (.bin .sub (.t 57) (.k (.int .i64 1))), (.some (54, true))⟩, ⟨(.some 59), (.bin .lss (.t 55) (.t 58)), (.some (54, true))⟩, ⟨(.some 60), (.pick (.t 54) (.t 59) (.k (.bool false))), .none⟩,
  ⟨(.some 61), (.mv (.t 60)), .none⟩, ⟨(.some 62), (.mv (.t 7)), (.some (61, true))⟩, ⟨(.some 63), (.mv (.t 9)), (.some (61, true))⟩, ⟨(.some 64), (.call (.f 37) [(.t 62), (.t 63)]), (.some (61,
  true))⟩, ⟨(.some 65), (.mv (.t 8)), (.some (61, true))⟩, ⟨(.some 66), (.mv (.t 1)), (.some (61, true))⟩, ⟨(.some 67), (.len (.t 66)), (.some (61, true))⟩, ⟨(.some 68), (.mv (.t 9)), (.some (61,
  true))⟩, ⟨(.some 69), (.bin .add (.t 67) (.t 68)), (.some (61, true))⟩, ⟨(.some 70), (.call (.f 37) [(.t 65), (.t 69)]), (.some (61, true))⟩, ⟨(.some 71), (.bin .neq (.t 64) (.t 70)), (.some (61,
  true))⟩, ⟨(.some 72), (.pick (.t 61) (.t 71) (.k (.bool false))), .none⟩]) (.cond (.t 72) (.seq (.reg [⟨(.some 6), (.mv (.k (.bool false))), .none⟩]) .ret) .skip))))) (.reg [⟨(.some 73), (.bin .add
  (.t 39) (.k (.int .i64 1))), .none⟩, ⟨(.some 39), (.mv (.t 73)), .none⟩]))))))) (.seq (.reg [⟨(.some 74), (.call (.f 36) []), .none⟩, ⟨(.some 6), (.mv (.t 74)), .none⟩]) .ret))))))
theorem c12 : Try.f12.body.bind (cCode Try.prog 75) = some a12 := by kernel_rfl
theorem r12 : Try.f12.results.toList = [(.tmp 6)] := by kernel_rfl
theorem n12 : Try.f12.ntmps = 75 := by kernel_rfl
theorem e12 : Enters Try.prog 12 := enters_of Try.func12 (by kernel_rfl) (by kernel_rfl)

/-- A label in the middle of another one. -/
def inA (l : List Int) : List Int := 97 :: (l ++ [97])
def allA (p l q : List Int) : List Int := p ++ (inA l ++ q)
theorem inA_len (l : List Int) : (inA l).length = l.length + 2 := by simp [inA]
theorem atP_mid (p l q : List Int) (k : Int) (h0 : 0 ≤ k) (h1 : k < (inA l).length) : atP (allA p l q) ((p.length : Int) + k) = atP (inA l) k := by
  obtain ⟨j, rfl⟩ : ∃ j : Nat, k = j := ⟨k.toNat, by omega⟩
  have hj : j < (inA l).length := by omega
  have hlen : p.length + j < (allA p l q).length := by simp only [allA, List.length_append]; omega
  rw [show (p.length : Int) + (j : Int) = ((p.length + j : Nat) : Int) by omega, atP_in _ _ hlen, atP_in _ _ hj]
  simp only [allA]
  rw [List.getElem_append_right (by omega), List.getElem_append_left (by omega)]
  simp
theorem atP_first (l : List Int) : atP (inA l) 0 = 97 := by
  have := atP_in (inA l) 0 (by rw [inA_len]; omega)
  rw [Int.natCast_zero] at this
  rw [this]; rfl
theorem atP_last (l : List Int) : atP (inA l) (((inA l).length - 1 : Nat) : Int) = 97 := by
  have hlt : (inA l).length - 1 < (inA l).length := by rw [inA_len]; omega
  rw [atP_in _ _ hlt]
  simp [inA]
theorem a_row : (rowAt 97).join = 0 := by decide +kernel

/-- Towards the beginning. -/
theorem joins_down (p l q : List Int) (s : Int) : ∀ (d f f' : Nat), d < (inA l).length → d < f → d < f' → joinsP (allA p l q) (-1) s f ((p.length : Int) + (d : Int)) = joinsP (inA l) (-1) s f' (d : Int)
  | 0, f + 1, f' + 1, hd, _, _ => by
    simp only [joinsP]
    rw [show ((0 : Nat) : Int) = 0 from rfl, atP_mid p l q 0 (by omega) (by omega), atP_first, a_row]
    rfl
  | d + 1, f + 1, f' + 1, hd, hf, hf' => by
    simp only [joinsP]
    rw [atP_mid p l q ((d + 1 : Nat) : Int) (by omega) (by omega)]
    have ih := joins_down p l q s d f f' (by omega) (by omega) (by omega)
    rw [show (p.length : Int) + ((d + 1 : Nat) : Int) + -1 = (p.length : Int) + (d : Int) by omega, show ((d + 1 : Nat) : Int) + -1 = (d : Int) by omega, ih]
/-- Towards the end. -/
theorem joins_up (p l q : List Int) (s : Int) : ∀ (d f f' k : Nat), k + d + 1 = (inA l).length → d < f → d < f' → joinsP (allA p l q) 1 s f ((p.length : Int) + (k : Int)) = joinsP (inA l) 1 s f' (k : Int)
  | 0, f + 1, f' + 1, k, hk, _, _ => by
    simp only [joinsP]
    have hl := atP_last l
    rw [show (inA l).length - 1 = k by omega] at hl
    rw [atP_mid p l q k (by omega) (by omega), hl, a_row]
    rfl
  | d + 1, f + 1, f' + 1, k, hk, hf, hf' => by
    simp only [joinsP]
    rw [atP_mid p l q (k : Int) (by omega) (by omega)]
    have ih := joins_up p l q s d f f' (k + 1) (by omega) (by omega) (by omega)
    rw [show (p.length : Int) + (k : Int) + 1 = (p.length : Int) + ((k + 1 : Nat) : Int) by omega, show (k : Int) + 1 = ((k + 1 : Nat) : Int) by omega, ih]

def digRow (x : Row) : Bool := (x.digits != 2 && x.digits != 3) || x.cat == 5
theorem dig_cat : tab.all digRow = true := by kernel_rfl
theorem cat_digits {r : Int} (h : (rowAt r).cat ≠ 5) : (rowAt r).digits ≠ 2 ∧ (rowAt r).digits ≠ 3 := by
  rcases rowAt_or r with h1 | ⟨x, hx, _, _, h3⟩
  · rw [h1]; decide
  · have := List.all_eq_true.1 dig_cat x hx
    rw [h3] at h ⊢
    have hc : (x.cat == 5) = false := by simpa using h
    simp only [digRow, hc, Bool.or_false, Bool.and_eq_true, bne_iff_ne, ne_eq] at this
    exact this

/-- What the law says of a place. -/
theorem at_beside (p l q : List Int) (k : Nat) (h0 : 0 < k) (hk : k + 1 < (inA l).length) (hc : (rowAt (inA l)[k]).cat ≠ 5) (hd : (inA l)[k] ≠ 12539) : atOf (inA l) (k : Int) = atOf (allA p l q) ((p.length : Int) + (k : Int)) := by
  have hlen : p.length + k < (allA p l q).length := by simp only [allA, List.length_append]; omega
  have hkl : k < (inA l).length := by omega
  have hal : (allA p l q).length = p.length + ((inA l).length + q.length) := by simp [allA]
  have hat := atP_mid p l q k (by omega) (by omega)
  rw [atP_in _ _ hkl, show (p.length : Int) + (k : Int) = ((p.length + k : Nat) : Int) by omega, atP_in _ _ hlen] at hat
  have hkey : keyOf (inA l)[k] = (inA l)[k] := by
    unfold keyOf
    rw [if_neg (cat_digits hc).1, if_neg (cat_digits hc).2]
  have d2 : (inA l)[k] ≠ 1632 := fun e => (cat_digits hc).1 ((digits2 _).2 (by omega))
  have d3 : (inA l)[k] ≠ 1776 := fun e => (cat_digits hc).2 ((digits3 _).2 (by omega))
  have hm1 := atP_mid p l q ((k : Int) + -1) (by omega) (by omega)
  have hp1 := atP_mid p l q ((k : Int) + 1) (by omega) (by omega)
  have hjd := joins_down p l q 4 (k - 1) ((allA p l q).length + 2) ((inA l).length + 2) (by omega) (by omega) (by omega)
  have hju := joins_up p l q 5 ((inA l).length - 2 - k) ((allA p l q).length + 2) ((inA l).length + 2) (k + 1) (by omega) (by omega) (by omega)
  have e1 : (p.length : Int) + ((k - 1 : Nat) : Int) = ((p.length + k : Nat) : Int) + -1 := by omega
  have e2 : ((k - 1 : Nat) : Int) = (k : Int) + -1 := by omega
  have e3 : (p.length : Int) + ((k + 1 : Nat) : Int) = ((p.length + k : Nat) : Int) + 1 := by omega
  have e4 : ((k + 1 : Nat) : Int) = (k : Int) + 1 := by omega
  rw [e1, e2] at hjd
  rw [e3, e4] at hju
  rw [show (p.length : Int) + ((k : Int) + -1) = ((p.length + k : Nat) : Int) + -1 by omega] at hm1
  rw [show (p.length : Int) + ((k : Int) + 1) = ((p.length + k : Nat) : Int) + 1 by omega] at hp1
  have hkilled : killedP (allA p l q) ((p.length + k : Nat) : Int) = killedP (inA l) (k : Int) := by
    unfold killedP
    rw [Int.sub_eq_add_neg, Int.sub_eq_add_neg, hm1]
  have hfine : fineOf (allA p l q) ((p.length + k : Nat) : Int) (inA l)[k] = fineOf (inA l) (k : Int) (inA l)[k] := by
    unfold fineOf joinerP
    rw [hkilled, hjd, hju, hm1, hp1]
    simp only [if_neg hd, if_neg d2, if_neg d3]
  rw [show (p.length : Int) + (k : Int) = ((p.length + k : Nat) : Int) by omega, at_by _ _ hlen (by rw [hat]; exact hkey) hfine rfl, at_by _ _ hkl hkey rfl rfl]

theorem runesCons (r : Int) (q : List Int) : [Value.int .i32 r] :: runes q = runes (r :: q) := rfl

set_option maxRecDepth 10000 in
theorem contextBeside_pure (l : List Int) (h : l.length ≤ 35184372088064 ∧ I32 l) (p : List Int) (hp : p.length ≤ 35184372088064 ∧ I32 p) (q : List Int) (hq : q.length ≤ 35184372088064 ∧ I32 q) :
    Pure Try.prog 12 [.sl 21 (runes l) none, .sl 21 (runes p) none, .sl 21 (runes q) none] [] (.lit (.bool true)) := by
  refine pure0 Try.func12 c12 n12 e12 r12 (by simp) rfl ?_
  simp only [a12, astart, argSlots, go_sem, Nat.reduceAdd, Nat.reduceEqDiff, Nat.reduceLT, reduceIte, reduceCtorEq, Nat.reduceBEq, Int.reduceLT, Int.reduceToNat, Int.reducePow, Nat.reduceLeDiff, Int.reduceLE, Nat.reduceMul, Nat.reduceSub, runes_length]
  by_cases h0 : 100 < l.length
  · have e1 : decide ((l.length : Int) > 100) = true := by simp only [decide_eq_true_eq]; omega
    simp only [e1, go_sem, Nat.reduceAdd, Nat.reduceEqDiff, Nat.reduceLT, reduceIte, reduceCtorEq, Nat.reduceBEq, Int.reduceLT, Int.reduceToNat, Int.reducePow, Nat.reduceLeDiff, Int.reduceLE, Nat.reduceMul, Nat.reduceSub]
    refine callGo_pure awake08_pure (by rfl) ?_
    simp only [go_sem, Nat.reduceAdd, Nat.reduceEqDiff, Nat.reduceLT, reduceIte, reduceCtorEq, Nat.reduceBEq, Int.reduceLT, Int.reduceToNat, Int.reducePow, Nat.reduceLeDiff, Int.reduceLE, Nat.reduceMul, Nat.reduceSub]
    simp only [Done, resAV, resL, resOne, look_nil, look_cons, Nat.reduceEqDiff, if_true, if_false, reduceIte, ite_true, ite_false, Nat.zero_ne_one, Nat.one_ne_zero, reduceCtorEq, true_or, or_true, true_and, Option.some.injEq, AV.lit.injEq, Value.int.injEq, Value.bool.injEq]
  have e1 : decide ((l.length : Int) > 100) = false := by simp only [decide_eq_false_iff_not]; omega
  by_cases h1 : 100 < p.length
  · have e2 : decide ((p.length : Int) > 100) = true := by simp only [decide_eq_true_eq]; omega
    simp only [e1, e2, go_sem, Nat.reduceAdd, Nat.reduceEqDiff, Nat.reduceLT, reduceIte, reduceCtorEq, Nat.reduceBEq, Int.reduceLT, Int.reduceToNat, Int.reducePow, Nat.reduceLeDiff, Int.reduceLE, Nat.reduceMul, Nat.reduceSub, runes_length]
    refine callGo_pure awake08_pure (by rfl) ?_
    simp only [go_sem, Nat.reduceAdd, Nat.reduceEqDiff, Nat.reduceLT, reduceIte, reduceCtorEq, Nat.reduceBEq, Int.reduceLT, Int.reduceToNat, Int.reducePow, Nat.reduceLeDiff, Int.reduceLE, Nat.reduceMul, Nat.reduceSub]
    simp only [Done, resAV, resL, resOne, look_nil, look_cons, Nat.reduceEqDiff, if_true, if_false, reduceIte, ite_true, ite_false, Nat.zero_ne_one, Nat.one_ne_zero, reduceCtorEq, true_or, or_true, true_and, Option.some.injEq, AV.lit.injEq, Value.int.injEq, Value.bool.injEq]
  have e2 : decide ((p.length : Int) > 100) = false := by simp only [decide_eq_false_iff_not]; omega
  by_cases h2 : 100 < q.length
  · have e3 : decide ((q.length : Int) > 100) = true := by simp only [decide_eq_true_eq]; omega
    simp only [e1, e2, e3, go_sem, Nat.reduceAdd, Nat.reduceEqDiff, Nat.reduceLT, reduceIte, reduceCtorEq, Nat.reduceBEq, Int.reduceLT, Int.reduceToNat, Int.reducePow, Nat.reduceLeDiff, Int.reduceLE, Nat.reduceMul, Nat.reduceSub, runes_length]
    refine callGo_pure awake08_pure (by rfl) ?_
    simp only [go_sem, Nat.reduceAdd, Nat.reduceEqDiff, Nat.reduceLT, reduceIte, reduceCtorEq, Nat.reduceBEq, Int.reduceLT, Int.reduceToNat, Int.reducePow, Nat.reduceLeDiff, Int.reduceLE, Nat.reduceMul, Nat.reduceSub]
    simp only [Done, resAV, resL, resOne, look_nil, look_cons, Nat.reduceEqDiff, if_true, if_false, reduceIte, ite_true, ite_false, Nat.zero_ne_one, Nat.one_ne_zero, reduceCtorEq, true_or, or_true, true_and, Option.some.injEq, AV.lit.injEq, Value.int.injEq, Value.bool.injEq]
  have e3 : decide ((q.length : Int) > 100) = false := by simp only [decide_eq_false_iff_not]; omega
  simp only [e1, e2, e3, go_sem, Nat.reduceAdd, Nat.reduceEqDiff, Nat.reduceLT, reduceIte, reduceCtorEq, Nat.reduceBEq, Int.reduceLT, Int.reduceToNat, Int.reducePow, Nat.reduceLeDiff, Int.reduceLE, Nat.reduceMul, Nat.reduceSub, runes_length]
  have a1 : runes l ++ [[.int .i32 97]] = runes (l ++ [97]) := by simp [runes]
  have a2 : [Value.int .i32 97] :: runes (l ++ [97]) = runes (inA l) := rfl
  have a3 : (runes p ++ runes (inA l)) ++ runes q = runes (allA p l q) := by simp [runes, allA]
  have hil := inA_len l
  have hal : (allA p l q).length = p.length + ((inA l).length + q.length) := by simp [allA]
  simp only [a1, a2, a3]
  refine ⟨by omega, by omega, by omega, ?_, ?_, ?_⟩
  · rw [runes_length, List.length_append]; simp; omega
  · rw [List.length_append, runes_length, runes_length]; omega
  have hrl : (runes (l ++ [97])).length + 1 = (inA l).length := by rw [runes_length, hil]; simp
  simp only [hrl]
  have hi1 : (inA l).length ≤ 1000000 := by omega
  have ha1 : (allA p l q).length ≤ 1000000 := by omega
  refine loop_to (inA l).length (fun n => ⟨[(1, some (.sl 21 (runes p) none)), (7, some (.sl 21 (runes (inA l)) none)), (8, some (.sl 21 (runes (allA p l q)) none)), (37, some (.sl 21 (runes (inA l)) none)), (38, some (.lit (.int .i64 (inA l).length))), (39, some (.lit (.int .i64 n)))], [], [], 0⟩)
    (fun _ => True) ((weak_untip 7 rfl).trans ((weak_untip 8 rfl).trans ((weak_untip 37 rfl).trans (weak_by [] (by simp) rfl ?_ trivial trivial (by simp))))) trivial ?_ ?_
  · simp only [go_sem, Nat.reduceAdd, Nat.reduceEqDiff, Nat.reduceLT, reduceIte, reduceCtorEq, Nat.reduceBEq, Int.reduceLT, Int.reduceToNat, Int.reducePow, Nat.reduceLeDiff, Int.reduceLE, Nat.reduceMul, Nat.reduceSub, slotsBy, boxesBy, tipsBy, rawAt, nm, AV.ren, AV.renL, AV.under, AV.underL, List.all_nil, List.all_cons, bne_self_eq_false, List.getD_cons_zero, List.getD_cons_succ, List.length_nil, List.length_cons, and_true, true_and, Int.natCast_zero]
  · intro n hn _
    have hb := fun g0 g1 gc gd => at_beside p l q n g0 g1 gc gd
    simp only [go_sem, Nat.reduceAdd, Nat.reduceEqDiff, Nat.reduceLT, reduceIte, reduceCtorEq, Nat.reduceBEq, Int.reduceLT, Int.reduceToNat, Int.reducePow, Nat.reduceLeDiff, Int.reduceLE, Nat.reduceMul, Nat.reduceSub, hn, runes_get (inA l) n hn]
    refine callGo_pure (of_pure _) (by rfl) ?_
    simp only [go_sem, Nat.reduceAdd, Nat.reduceEqDiff, Nat.reduceLT, reduceIte, reduceCtorEq, Nat.reduceBEq, Int.reduceLT, Int.reduceToNat, Int.reducePow, Nat.reduceLeDiff, Int.reduceLE, Nat.reduceMul, Nat.reduceSub, Row.prop]
    cases c5 : (rowAt (inA l)[n]).cat == 5
    · cases cd : (inA l)[n] == 12539
      · simp only [c5, cd, go_sem, Nat.reduceAdd, Nat.reduceEqDiff, Nat.reduceLT, reduceIte, reduceCtorEq, Nat.reduceBEq, Int.reduceLT, Int.reduceToNat, Int.reducePow, Nat.reduceLeDiff, Int.reduceLE, Nat.reduceMul, Nat.reduceSub, runes_length]
        by_cases n0 : 0 < n
        · have g0 : decide ((n : Int) > 0) = true := by simp only [decide_eq_true_eq]; omega
          have wi : IntKind.i64.wrap (((inA l).length : Int) - 1) = ((inA l).length : Int) - 1 := wrap_i64 _ (by omega) (by omega)
          by_cases n1 : n + 1 < (inA l).length
          · have g1 : decide ((n : Int) < ((inA l).length : Int) - 1) = true := by simp only [decide_eq_true_eq]; omega
            have wp : IntKind.i64.wrap ((p.length : Int) + (n : Int)) = (p.length : Int) + (n : Int) := wrap_i64 _ (by omega) (by omega)
            have hat := hb n0 n1 (by simpa using c5) (by simpa using cd)
            simp only [g0, g1, wi, go_sem, Nat.reduceAdd, Nat.reduceEqDiff, Nat.reduceLT, reduceIte, reduceCtorEq, Nat.reduceBEq, Int.reduceLT, Int.reduceToNat, Int.reducePow, Nat.reduceLeDiff, Int.reduceLE, Nat.reduceMul, Nat.reduceSub]
            refine callGo_pure (at8_pure (inA l) n hi1) (by rfl) ?_
            simp only [go_sem, Nat.reduceAdd, Nat.reduceEqDiff, Nat.reduceLT, reduceIte, reduceCtorEq, Nat.reduceBEq, Int.reduceLT, Int.reduceToNat, Int.reducePow, Nat.reduceLeDiff, Int.reduceLE, Nat.reduceMul, Nat.reduceSub, runes_length, wp]
            refine callGo_pure (at8_pure (allA p l q) _ ha1) (by rfl) ?_
            simp only [go_sem, Nat.reduceAdd, Nat.reduceEqDiff, Nat.reduceLT, reduceIte, reduceCtorEq, Nat.reduceBEq, Int.reduceLT, Int.reduceToNat, Int.reducePow, Nat.reduceLeDiff, Int.reduceLE, Nat.reduceMul, Nat.reduceSub, hat, bne_self_eq_false]
            simp (disch := omega) only [wrap_i64]
            refine weak_by [] (by simp) rfl ?_ trivial trivial (by simp)
            simp only [go_sem, Nat.reduceAdd, Nat.reduceEqDiff, Nat.reduceLT, reduceIte, reduceCtorEq, Nat.reduceBEq, Int.reduceLT, Int.reduceToNat, Int.reducePow, Nat.reduceLeDiff, Int.reduceLE, Nat.reduceMul, Nat.reduceSub, slotsBy, boxesBy, tipsBy, rawAt, nm, AV.ren, AV.renL, AV.under, AV.underL, List.all_nil, List.all_cons, bne_self_eq_false, List.getD_cons_zero, List.getD_cons_succ, List.length_nil, List.length_cons, and_true, true_and, Int.natCast_add, Int.natCast_one]
          · have g1 : decide ((n : Int) < ((inA l).length : Int) - 1) = false := by simp only [decide_eq_false_iff_not]; omega
            simp only [g0, g1, wi, go_sem, Nat.reduceAdd, Nat.reduceEqDiff, Nat.reduceLT, reduceIte, reduceCtorEq, Nat.reduceBEq, Int.reduceLT, Int.reduceToNat, Int.reducePow, Nat.reduceLeDiff, Int.reduceLE, Nat.reduceMul, Nat.reduceSub]
            simp (disch := omega) only [wrap_i64]
            refine weak_by [] (by simp) rfl ?_ trivial trivial (by simp)
            simp only [go_sem, Nat.reduceAdd, Nat.reduceEqDiff, Nat.reduceLT, reduceIte, reduceCtorEq, Nat.reduceBEq, Int.reduceLT, Int.reduceToNat, Int.reducePow, Nat.reduceLeDiff, Int.reduceLE, Nat.reduceMul, Nat.reduceSub, slotsBy, boxesBy, tipsBy, rawAt, nm, AV.ren, AV.renL, AV.under, AV.underL, List.all_nil, List.all_cons, bne_self_eq_false, List.getD_cons_zero, List.getD_cons_succ, List.length_nil, List.length_cons, and_true, true_and, Int.natCast_add, Int.natCast_one]
        · have g0 : decide ((n : Int) > 0) = false := by simp only [decide_eq_false_iff_not]; omega
          simp only [g0, go_sem, Nat.reduceAdd, Nat.reduceEqDiff, Nat.reduceLT, reduceIte, reduceCtorEq, Nat.reduceBEq, Int.reduceLT, Int.reduceToNat, Int.reducePow, Nat.reduceLeDiff, Int.reduceLE, Nat.reduceMul, Nat.reduceSub]
          simp (disch := omega) only [wrap_i64]
          refine weak_by [] (by simp) rfl ?_ trivial trivial (by simp)
          simp only [go_sem, Nat.reduceAdd, Nat.reduceEqDiff, Nat.reduceLT, reduceIte, reduceCtorEq, Nat.reduceBEq, Int.reduceLT, Int.reduceToNat, Int.reducePow, Nat.reduceLeDiff, Int.reduceLE, Nat.reduceMul, Nat.reduceSub, slotsBy, boxesBy, tipsBy, rawAt, nm, AV.ren, AV.renL, AV.under, AV.underL, List.all_nil, List.all_cons, bne_self_eq_false, List.getD_cons_zero, List.getD_cons_succ, List.length_nil, List.length_cons, and_true, true_and, Int.natCast_add, Int.natCast_one]
      · simp only [c5, cd, go_sem, Nat.reduceAdd, Nat.reduceEqDiff, Nat.reduceLT, reduceIte, reduceCtorEq, Nat.reduceBEq, Int.reduceLT, Int.reduceToNat, Int.reducePow, Nat.reduceLeDiff, Int.reduceLE, Nat.reduceMul, Nat.reduceSub]
        simp (disch := omega) only [wrap_i64]
        refine weak_by [] (by simp) rfl ?_ trivial trivial (by simp)
        simp only [go_sem, Nat.reduceAdd, Nat.reduceEqDiff, Nat.reduceLT, reduceIte, reduceCtorEq, Nat.reduceBEq, Int.reduceLT, Int.reduceToNat, Int.reducePow, Nat.reduceLeDiff, Int.reduceLE, Nat.reduceMul, Nat.reduceSub, slotsBy, boxesBy, tipsBy, rawAt, nm, AV.ren, AV.renL, AV.under, AV.underL, List.all_nil, List.all_cons, bne_self_eq_false, List.getD_cons_zero, List.getD_cons_succ, List.length_nil, List.length_cons, and_true, true_and, Int.natCast_add, Int.natCast_one]
    · simp only [c5, go_sem, Nat.reduceAdd, Nat.reduceEqDiff, Nat.reduceLT, reduceIte, reduceCtorEq, Nat.reduceBEq, Int.reduceLT, Int.reduceToNat, Int.reducePow, Nat.reduceLeDiff, Int.reduceLE, Nat.reduceMul, Nat.reduceSub]
      simp (disch := omega) only [wrap_i64]
      refine weak_by [] (by simp) rfl ?_ trivial trivial (by simp)
      simp only [go_sem, Nat.reduceAdd, Nat.reduceEqDiff, Nat.reduceLT, reduceIte, reduceCtorEq, Nat.reduceBEq, Int.reduceLT, Int.reduceToNat, Int.reducePow, Nat.reduceLeDiff, Int.reduceLE, Nat.reduceMul, Nat.reduceSub, slotsBy, boxesBy, tipsBy, rawAt, nm, AV.ren, AV.renL, AV.under, AV.underL, List.all_nil, List.all_cons, bne_self_eq_false, List.getD_cons_zero, List.getD_cons_succ, List.length_nil, List.length_cons, and_true, true_and, Int.natCast_add, Int.natCast_one]
  · intro _
    simp only [go_sem, Nat.reduceAdd, Nat.reduceEqDiff, Nat.reduceLT, reduceIte, reduceCtorEq, Nat.reduceBEq, Int.reduceLT, Int.reduceToNat, Int.reducePow, Nat.reduceLeDiff, Int.reduceLE, Nat.reduceMul, Nat.reduceSub]
    refine callGo_pure awake08_pure (by rfl) ?_
    simp only [go_sem, Nat.reduceAdd, Nat.reduceEqDiff, Nat.reduceLT, reduceIte, reduceCtorEq, Nat.reduceBEq, Int.reduceLT, Int.reduceToNat, Int.reducePow, Nat.reduceLeDiff, Int.reduceLE, Nat.reduceMul, Nat.reduceSub]
    simp only [Done, resAV, resL, resOne, look_nil, look_cons, Nat.reduceEqDiff, if_true, if_false, reduceIte, ite_true, ite_false, Nat.zero_ne_one, Nat.one_ne_zero, reduceCtorEq, true_or, or_true, true_and, Option.some.injEq, AV.lit.injEq, Value.int.injEq, Value.bool.injEq]

theorem contextBeside_any (avs : List AV) (h : Args Try.prog Try.f12.params.toList avs) : Pure Try.prog 12 avs [] (.lit (.bool true)) := by
  have hp : Try.f12.params.toList = [22, 22, 22] := by kernel_rfl
  rw [hp] at h
  obtain ⟨av0, rest0, rfl, a0, h0⟩ := h
  obtain ⟨av1, rest1, rfl, a1, h1⟩ := h0
  obtain ⟨av2, rest2, rfl, a2, rfl⟩ := h1
  obtain ⟨z0, rfl, w0, s0⟩ := arg_ints (e := 21) (k := .i32) (by kernel_rfl) (by kernel_rfl) a0
  rw [show Try.prog.bytesOf 21 = 4 from by kernel_rfl] at s0
  obtain ⟨z1, rfl, w1, s1⟩ := arg_ints (e := 21) (k := .i32) (by kernel_rfl) (by kernel_rfl) a1
  rw [show Try.prog.bytesOf 21 = 4 from by kernel_rfl] at s1
  obtain ⟨z2, rfl, w2, s2⟩ := arg_ints (e := 21) (k := .i32) (by kernel_rfl) (by kernel_rfl) a2
  rw [show Try.prog.bytesOf 21 = 4 from by kernel_rfl] at s2
  exact contextBeside_pure z0 ⟨by omega, fun n hn => by simpa [Lit.wf, IntKind.min, IntKind.max, IntKind.signed, IntKind.bits] using w0 n hn⟩ z1 ⟨by omega, fun n hn => by simpa [Lit.wf, IntKind.min, IntKind.max, IntKind.signed, IntKind.bits] using w1 n hn⟩ z2 ⟨by omega, fun n hn => by simpa [Lit.wf, IntKind.min, IntKind.max, IntKind.signed, IntKind.bits] using w2 n hn⟩

set_option maxRecDepth 100000 in
theorem contextBeside_lifted (os : Os) (started : os.Started) (H : Type) (enc : TypeId × Value → H) :
    ReturnsInHanded {} Try.checked os 12 .any (Rows.contextBesideSpec.pre6 enc Try.prog Try.f12 Rows.contextBesideRow.domain false) (Rows.contextBesideSpec.post enc Try.prog Try.f12 false true false false) := by
  refine law_returns (C := Try.checked) (tb := 4) (by kernel_rfl) started (by kernel_rfl) Try.func12
    (ChangeSpec.witness6 (enc := enc) (C := Try.checked) false ⟨#[], #[.slice none 0 0, .slice none 0 0, .slice none 0 0], []⟩ 8 (by kernel_rfl) (by kernel_rfl) (by kernel_rfl) (by kernel_rfl))
    (by kernel_rfl) (by kernel_rfl) rfl rfl (by kernel_rfl) (by kernel_rfl) ?_ contextBeside_any
  intro ds hds
  have hp : Try.f12.params.toList = [22, 22, 22] := by kernel_rfl
  rw [hp] at hds
  match ds, hds with
  | [d0, d1, d2], _ => exact ⟨rfl, rfl, rfl⟩

theorem contextBeside_holds : Rows.ContextBesideSaid :=
  OpenClaim.holds_of_wide 12 Try.f12 rfl rfl rfl rfl rfl rfl rfl ⟨rfl, rfl, rfl, rfl, rfl⟩ rfl rfl rfl rfl rfl (by kernel_rfl) Try.func12 (by kernel_rfl)
    (of_decide_eq_true (by kernel_rfl)) (by unfold Func.isWrapper; first | (rw [if_pos (by decide +kernel)]; kernel_rfl) | (rw [if_neg (by decide +kernel)]; exact ⟨rfl, rfl⟩))
    (fun os started H enc _ => contextBeside_lifted os started H enc)
end Go.Proofs.Ytocaeclhmkojiaa
