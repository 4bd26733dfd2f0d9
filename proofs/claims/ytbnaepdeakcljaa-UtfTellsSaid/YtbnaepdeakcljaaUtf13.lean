/-
Whether bytes may go on to a scalar, by the document. Conditions: none.
-/
import Derived.Test.YtbnaepdeakcljaaUtf12
set_option linter.unusedSimpArgs false
set_option linter.unusedVariables false
set_option linter.unusedSectionVars false
namespace Go.Proofs.Ytbnaepdeakcljaa
open Go Go.Ab
def a37 : ACode :=
  (.seq (.reg [⟨(.some 2), (.mv (.k (.bool false))), .none⟩]) (.seq (.seq (.reg [⟨(.some 7), (.mv (.t 0)), .none⟩, ⟨(.some 8), (.len (.t 7)), .none⟩, ⟨(.some 9), (.bin .eql (.t 8) (.k (.int .i64 0))),
  .none⟩]) (.cond (.t 9) (.seq (.reg [⟨(.some 2), (.mv (.k (.bool false))), .none⟩]) .ret) .skip)) (.seq (.reg [⟨(.some 10), (.mv (.t 0)), .none⟩, ⟨(.some 11), (.ia 5 (.t 10) (.k (.int .i64 0))),
  .none⟩, ⟨(.some 12), (.ld .none (.t 11)), .none⟩, ⟨(.some 13), (.call (.f 38) [(.t 12)]), .none⟩, ⟨(.some 3), (.mv (.t 13)), .none⟩]) (.seq (.seq (.reg [⟨(.some 14), (.mv (.t 3)), .none⟩, ⟨(.some 15),
  (.bin .eql (.t 14) (.k (.int .i64 0))), .none⟩, ⟨(.some 16), (.mv (.t 15)), .none⟩, ⟨(.some 17), (.mv (.t 0)), (.some (16, false))⟩, ⟨(.some 18), (.len (.t 17)), (.some (16, false))⟩, ⟨(.some 19),
  (.mv (.t 3)), (.some (16, false))⟩, ⟨(.some 20), (.bin .gtr (.t 18) (.t 19)), (.some (16, false))⟩, ⟨(.some 21), (.pick (.t 16) (.k (.bool true)) (.t 20)), .none⟩, ⟨(.some 22), (.mv (.t 21)), .none⟩,
  ⟨(.some 23), (.mv (.t 0)), (.some (22, false))⟩, ⟨(.some 24), (.call (.f 61) [(.t 23)]), (.some (22, false))⟩, ⟨(.some 25), (.not (.t 24)), (.some (22, false))⟩, ⟨(.some 26), (.pick (.t 22) (.k (.bool
  true)) (.t 25)), .none⟩]) (.cond (.t 26) (.seq (.reg [⟨(.some 2), (.mv (.k (.bool false))), .none⟩]) .ret) .skip)) (.seq (.reg [⟨(.some 27), (.mv (.t 0)), .none⟩, ⟨(.some 28), (.mv (.t 3)), .none⟩,
  ⟨(.some 29), (.call (.f 39) [(.t 27), (.t 28), (.k (.int .i64 0))]), .none⟩, ⟨(.some 30), (.mv (.t 0)), .none⟩, ⟨(.some 31), (.mv (.t 3)), .none⟩, ⟨(.some 32), (.call (.f 39) [(.t 30), (.t 31), (.k
  (.int .i64 63))]), .none⟩, ⟨(.some 4), (.mv (.t 29)), .none⟩, ⟨(.some 5), (.mv (.t 32)), .none⟩]) (.seq (.reg [⟨(.some 6), (.mv (.k (.int .i64 0))), .none⟩]) (.seq (.seq (.reg [⟨(.some 33), (.mv (.t
  3)), .none⟩]) (.block 0 (.seq (.reg [⟨(.some 35), (.bin .eql (.t 33) (.k (.int .i64 2))), .none⟩, ⟨(.some 34), (.mv (.t 35)), .none⟩]) (.cond (.t 34) (.reg [⟨(.some 6), (.mv (.k (.int .i64 128))),
  .none⟩]) (.seq (.reg [⟨(.some 37), (.bin .eql (.t 33) (.k (.int .i64 3))), .none⟩, ⟨(.some 36), (.mv (.t 37)), .none⟩]) (.cond (.t 36) (.reg [⟨(.some 6), (.mv (.k (.int .i64 2048))), .none⟩]) (.seq
  (.reg [⟨(.some 39), (.bin .eql (.t 33) (.k (.int .i64 4))), .none⟩, ⟨(.some 38), (.mv (.t 39)), .none⟩]) (.cond (.t 38) (.reg [⟨(.some 6), (.mv (.k (.int .i64 65536))), .none⟩]) .skip)))))))) (.seq
  (.seq (.reg [⟨(.some 40), (.mv (.t 4)), .none⟩, ⟨(.some 41), (.mv (.t 6)), .none⟩, ⟨(.some 42), (.bin .lss (.t 40) (.t 41)), .none⟩]) (.cond (.t 42) (.reg [⟨(.some 43), (.mv (.t 6)), .none⟩, ⟨(.some
  4), (.mv (.t 43)), .none⟩]) .skip)) (.seq (.seq (.reg [⟨(.some 44), (.mv (.t 5)), .none⟩, ⟨(.some 45), (.bin .gtr (.t 44) (.k (.int .i64 1114111))), .none⟩]) (.cond (.t 45) (.reg [⟨(.some 5), (.mv (.k
  (.int .i64 1114111))), .none⟩]) .skip)) (.seq (.seq (.reg [⟨(.some 46), (.mv (.t 4)), .none⟩, ⟨(.some 47), (.bin .geq (.t 46) (.k (.int .i64 55296))), .none⟩, ⟨(.some 48), (.mv (.t 47)), .none⟩,
  ⟨(.some 49), (.mv (.t 4)), (.some (48, true))⟩, ⟨(.some 50), (.bin .leq (.t 49) (.k (.int .i64 57343))), (.some (48, true))⟩, ⟨(.some 51), (.pick (.t 48) (.t 50) (.k (.bool false))), .none⟩]) (.cond
  (.t 51) (.reg [⟨(.some 4), (.mv (.k (.int .i64 57344))), .none⟩]) .skip)) (.seq (.reg [⟨(.some 52), (.mv (.t 4)), .none⟩, ⟨(.some 53), (.mv (.t 5)), .none⟩, ⟨(.some 54), (.bin .leq (.t 52) (.t 53)),
  .none⟩, ⟨(.some 2), (.mv (.t 54)), .none⟩]) .ret)))))))))))
theorem c37 : Try.f37.body.bind (cCode Try.prog 55) = some a37 := by kernel_rfl
theorem r37 : Try.f37.results.toList = [(.tmp 2)] := by kernel_rfl
theorem n37 : Try.f37.ntmps = 55 := by kernel_rfl
theorem e37 : Enters Try.prog 37 := enters_of Try.func37 (by kernel_rfl) (by kernel_rfl)

def gapI (x : Int) : Int := if 55296 ≤ x ∧ x ≤ 57343 then 57344 else x
def clampLo (f l : Int) : Int := gapI (if l < f then f else l)
def clampHi (t : Int) : Int := if t > 1114111 then 1114111 else t
def fromI (n : Nat) : Int := if n = 2 then 128 else if n = 3 then 2048 else if n = 4 then 65536 else 0
def goesB : List Nat → Bool
  | [] => false
  | c :: t => if longN c = 0 ∨ longN c < t.length + 1 ∨ t.all isTail = false then false else
    decide (clampLo (fromI (longN c)) (numI 0 (longN c - 1) (subN (longN c) c) t) ≤ clampHi (numI 63 (longN c - 1) (subN (longN c) c) t))
theorem longN_le (c : Nat) : longN c ≤ 4 := by unfold longN; (repeat' split) <;> omega

set_option maxRecDepth 10000 in
set_option maxHeartbeats 4000000 in
theorem goes_pure (b : List Nat) (hb : ∀ x ∈ b, x ≤ 255) (hl : b.length ≤ 1099511627776) : Pure Try.prog 37 [.sl 5 (octs b) none] [] (.lit (.bool (goesB b))) := by
  refine pure0 Try.func37 c37 n37 e37 r37 (by simp) rfl ?_
  match b, hb, hl with
  | [], _, _ =>
    have e0 : (((0 : Nat) : Int) == 0) = true := rfl
    have e00 : (octs []).length = 0 := rfl
    simp only [a37, astart, argSlots, go_sem, Nat.reduceAdd, Nat.reduceEqDiff, Nat.reduceLT, reduceIte, reduceCtorEq, Nat.reduceBEq, Int.reduceLT, Int.reduceToNat, Int.reducePow, Nat.reduceLeDiff, Int.reduceLE, Nat.reduceMul, Nat.reduceSub, e00, e0]
    simp only [Done, resAV, resL, resOne, look_nil, look_cons, Nat.reduceEqDiff, if_true, if_false, reduceIte, ite_true, ite_false, Nat.zero_ne_one, Nat.one_ne_zero, reduceCtorEq, true_or, or_true, true_and, Option.some.injEq, AV.lit.injEq, Value.int.injEq, Value.bool.injEq]
    rfl
  | c :: t, hb, hl =>
    have hc := hb c (List.mem_cons_self ..)
    have ht : ∀ y ∈ t, y ≤ 255 := fun y hy => hb y (List.mem_cons_of_mem _ hy)
    have hl2 : t.length ≤ 1099511627776 := by simp only [List.length_cons] at hl; omega
    have hlo : (octs (c :: t)).length = t.length + 1 := by simp [octs]
    have e0 : (((t.length + 1 : Nat) : Int) == 0) = false := by simp only [beq_eq_false_iff_ne, ne_eq]; omega
    have hg0 : (octs (c :: t))[0]? = some [.int .u8 (c : Int)] := rfl
    have hn4 := longN_le c
    simp only [a37, astart, argSlots, go_sem, Nat.reduceAdd, Nat.reduceEqDiff, Nat.reduceLT, reduceIte, reduceCtorEq, Nat.reduceBEq, Int.reduceLT, Int.reduceToNat, Int.reducePow, Nat.reduceLeDiff, Int.reduceLE, Nat.reduceMul, Nat.reduceSub, hlo, e0, hg0]
    refine callGo_pure (long_pure c) (by rfl) ?_
    have hgo : goesB (c :: t) = if longN c = 0 ∨ longN c < t.length + 1 ∨ t.all isTail = false then false else decide (clampLo (fromI (longN c)) (numI 0 (longN c - 1) (subN (longN c) c) t) ≤ clampHi (numI 63 (longN c - 1) (subN (longN c) c) t)) := rfl
    have hnum : ∀ f : Int, 0 ≤ f ∧ f ≤ 63 → 1 ≤ longN c → Pure Try.prog 39 [.sl 5 (octs (c :: t)) none, .lit (.int .i64 (longN c : Nat)), .lit (.int .i64 f)] [] (.lit (.int .i64 (numI f (longN c - 1) (subN (longN c) c) t))) :=
      fun f hf h1 => number_pure c t hc ht hl2 (longN c) ⟨h1, hn4⟩ f hf
    generalize longN c = n at hn4 hgo hnum
    by_cases hn0 : n = 0
    · have e1 : (((n : Nat) : Int) == 0) = true := by rw [hn0]; rfl
      rw [if_pos (.inl hn0)] at hgo
      rw [hgo]
      simp only [e1, go_sem, Nat.reduceAdd, Nat.reduceEqDiff, Nat.reduceLT, reduceIte, reduceCtorEq, Nat.reduceBEq, Int.reduceLT, Int.reduceToNat, Int.reducePow, Nat.reduceLeDiff, Int.reduceLE, Nat.reduceMul, Nat.reduceSub]
      simp only [Done, resAV, resL, resOne, look_nil, look_cons, Nat.reduceEqDiff, if_true, if_false, reduceIte, ite_true, ite_false, Nat.zero_ne_one, Nat.one_ne_zero, reduceCtorEq, true_or, or_true, true_and, Option.some.injEq, AV.lit.injEq, Value.int.injEq, Value.bool.injEq]
    have e1 : (((n : Nat) : Int) == 0) = false := by simp only [beq_eq_false_iff_ne, ne_eq]; omega
    by_cases hlen : n < t.length + 1
    · have e2 : decide (((t.length + 1 : Nat) : Int) > (n : Int)) = true := by simp only [decide_eq_true_eq]; omega
      rw [if_pos (.inr (.inl hlen))] at hgo
      rw [hgo]
      simp only [e1, e2, hlo, go_sem, Nat.reduceAdd, Nat.reduceEqDiff, Nat.reduceLT, reduceIte, reduceCtorEq, Nat.reduceBEq, Int.reduceLT, Int.reduceToNat, Int.reducePow, Nat.reduceLeDiff, Int.reduceLE, Nat.reduceMul, Nat.reduceSub]
      simp only [Done, resAV, resL, resOne, look_nil, look_cons, Nat.reduceEqDiff, if_true, if_false, reduceIte, ite_true, ite_false, Nat.zero_ne_one, Nat.one_ne_zero, reduceCtorEq, true_or, or_true, true_and, Option.some.injEq, AV.lit.injEq, Value.int.injEq, Value.bool.injEq]
    have e2 : decide (((t.length + 1 : Nat) : Int) > (n : Int)) = false := by simp only [decide_eq_false_iff_not]; omega
    simp only [e1, e2, hlo, go_sem, Nat.reduceAdd, Nat.reduceEqDiff, Nat.reduceLT, reduceIte, reduceCtorEq, Nat.reduceBEq, Int.reduceLT, Int.reduceToNat, Int.reducePow, Nat.reduceLeDiff, Int.reduceLE, Nat.reduceMul, Nat.reduceSub]
    refine callGo_pure (tails_pure (c :: t) (by simp only [List.length_cons]; omega)) (by rfl) ?_
    have htd : (c :: t).drop 1 = t := rfl
    rw [htd]
    by_cases hta : t.all isTail = false
    · rw [if_pos (.inr (.inr hta))] at hgo
      rw [hgo]
      simp only [hta, go_sem, Nat.reduceAdd, Nat.reduceEqDiff, Nat.reduceLT, reduceIte, reduceCtorEq, Nat.reduceBEq, Int.reduceLT, Int.reduceToNat, Int.reducePow, Nat.reduceLeDiff, Int.reduceLE, Nat.reduceMul, Nat.reduceSub]
      simp only [Done, resAV, resL, resOne, look_nil, look_cons, Nat.reduceEqDiff, if_true, if_false, reduceIte, ite_true, ite_false, Nat.zero_ne_one, Nat.one_ne_zero, reduceCtorEq, true_or, or_true, true_and, Option.some.injEq, AV.lit.injEq, Value.int.injEq, Value.bool.injEq]
    rw [if_neg (by intro h; rcases h with h | h | h; exact hn0 h; exact hlen h; exact hta h)] at hgo
    rw [Bool.not_eq_false] at hta
    simp only [hta, go_sem, Nat.reduceAdd, Nat.reduceEqDiff, Nat.reduceLT, reduceIte, reduceCtorEq, Nat.reduceBEq, Int.reduceLT, Int.reduceToNat, Int.reducePow, Nat.reduceLeDiff, Int.reduceLE, Nat.reduceMul, Nat.reduceSub]
    refine callGo_pure (hnum 0 (by omega) (by omega)) (by rfl) ?_
    simp only [go_sem, Nat.reduceAdd, Nat.reduceEqDiff, Nat.reduceLT, reduceIte, reduceCtorEq, Nat.reduceBEq, Int.reduceLT, Int.reduceToNat, Int.reducePow, Nat.reduceLeDiff, Int.reduceLE, Nat.reduceMul, Nat.reduceSub]
    refine callGo_pure (hnum 63 (by omega) (by omega)) (by rfl) ?_
    generalize numI 0 (n - 1) (subN n c) t = L at hgo
    generalize numI 63 (n - 1) (subN n c) t = T at hgo
    have hN : n = 1 ∨ n = 2 ∨ n = 3 ∨ n = 4 := by omega
    clear hnum
    rcases hN with rfl | rfl | rfl | rfl
    · have e3 : (((1 : Nat) : Int)) = 1 := rfl
      have hfr : fromI 1 = 0 := rfl
      rw [hfr] at hgo
      simp only [e3, go_sem, Nat.reduceAdd, Nat.reduceEqDiff, Nat.reduceLT, reduceIte, reduceCtorEq, Nat.reduceBEq, Int.reduceLT, Int.reduceToNat, Int.reducePow, Nat.reduceLeDiff, Int.reduceLE, Nat.reduceMul, Nat.reduceSub, Int.reduceBEq]
      refine cGo_split (fun hA => ?_) (fun hA => ?_) <;> (try simp only [decide_eq_true_eq, decide_eq_false_iff_not] at hA)
      · simp only [go_sem, Nat.reduceAdd, Nat.reduceEqDiff, Nat.reduceLT, reduceIte, reduceCtorEq, Nat.reduceBEq, Int.reduceLT, Int.reduceToNat, Int.reducePow, Nat.reduceLeDiff, Int.reduceLE, Nat.reduceMul, Nat.reduceSub]
        refine cGo_split (fun hB => ?_) (fun hB => ?_) <;> (try simp only [decide_eq_true_eq, decide_eq_false_iff_not] at hB)
        · simp only [go_sem, Nat.reduceAdd, Nat.reduceEqDiff, Nat.reduceLT, reduceIte, reduceCtorEq, Nat.reduceBEq, Int.reduceLT, Int.reduceToNat, Int.reducePow, Nat.reduceLeDiff, Int.reduceLE, Nat.reduceMul, Nat.reduceSub, Int.reduceLE, Int.reduceGE, ge_iff_le]
          have k1 : clampLo 0 L = 0 := by unfold clampLo gapI; (repeat' split) <;> omega
          have k2 : clampHi T = 1114111 := by unfold clampHi; split <;> omega
          rw [hgo, k1, k2]
          simp only [Done, resAV, resL, resOne, look_nil, look_cons, Nat.reduceEqDiff, if_true, if_false, reduceIte, ite_true, ite_false, Nat.zero_ne_one, Nat.one_ne_zero, reduceCtorEq, true_or, or_true, true_and, Option.some.injEq, AV.lit.injEq, Value.int.injEq, Value.bool.injEq]
          all_goals rfl
        · simp only [go_sem, Nat.reduceAdd, Nat.reduceEqDiff, Nat.reduceLT, reduceIte, reduceCtorEq, Nat.reduceBEq, Int.reduceLT, Int.reduceToNat, Int.reducePow, Nat.reduceLeDiff, Int.reduceLE, Nat.reduceMul, Nat.reduceSub, Int.reduceLE, Int.reduceGE, ge_iff_le]
          have k1 : clampLo 0 L = 0 := by unfold clampLo gapI; (repeat' split) <;> omega
          have k2 : clampHi T = T := by unfold clampHi; split <;> omega
          rw [hgo, k1, k2]
          simp only [Done, resAV, resL, resOne, look_nil, look_cons, Nat.reduceEqDiff, if_true, if_false, reduceIte, ite_true, ite_false, Nat.zero_ne_one, Nat.one_ne_zero, reduceCtorEq, true_or, or_true, true_and, Option.some.injEq, AV.lit.injEq, Value.int.injEq, Value.bool.injEq]
          all_goals rfl
      · simp only [go_sem, Nat.reduceAdd, Nat.reduceEqDiff, Nat.reduceLT, reduceIte, reduceCtorEq, Nat.reduceBEq, Int.reduceLT, Int.reduceToNat, Int.reducePow, Nat.reduceLeDiff, Int.reduceLE, Nat.reduceMul, Nat.reduceSub]
        refine cGo_split (fun hB => ?_) (fun hB => ?_) <;> (try simp only [decide_eq_true_eq, decide_eq_false_iff_not] at hB)
        · simp only [go_sem, Nat.reduceAdd, Nat.reduceEqDiff, Nat.reduceLT, reduceIte, reduceCtorEq, Nat.reduceBEq, Int.reduceLT, Int.reduceToNat, Int.reducePow, Nat.reduceLeDiff, Int.reduceLE, Nat.reduceMul, Nat.reduceSub]
          refine gGo_splitT (fun hC => ?_) (fun hC => ?_) <;> simp only [hC, go_sem, Nat.reduceAdd, Nat.reduceEqDiff, Nat.reduceLT, reduceIte, reduceCtorEq, Nat.reduceBEq, Int.reduceLT, Int.reduceToNat, Int.reducePow, Nat.reduceLeDiff, Int.reduceLE, Nat.reduceMul, Nat.reduceSub] <;> (try simp only [decide_eq_true_eq, decide_eq_false_iff_not] at hC)
          · refine cGo_split (fun hD => ?_) (fun hD => ?_) <;> (try simp only [decide_eq_true_eq, decide_eq_false_iff_not] at hD)
            · simp only [go_sem, Nat.reduceAdd, Nat.reduceEqDiff, Nat.reduceLT, reduceIte, reduceCtorEq, Nat.reduceBEq, Int.reduceLT, Int.reduceToNat, Int.reducePow, Nat.reduceLeDiff, Int.reduceLE, Nat.reduceMul, Nat.reduceSub]
              have k1 : clampLo 0 L = 57344 := by unfold clampLo gapI; (repeat' split) <;> omega
              have k2 : clampHi T = 1114111 := by unfold clampHi; split <;> omega
              rw [hgo, k1, k2]
              simp only [Done, resAV, resL, resOne, look_nil, look_cons, Nat.reduceEqDiff, if_true, if_false, reduceIte, ite_true, ite_false, Nat.zero_ne_one, Nat.one_ne_zero, reduceCtorEq, true_or, or_true, true_and, Option.some.injEq, AV.lit.injEq, Value.int.injEq, Value.bool.injEq]
              all_goals rfl
            · simp only [go_sem, Nat.reduceAdd, Nat.reduceEqDiff, Nat.reduceLT, reduceIte, reduceCtorEq, Nat.reduceBEq, Int.reduceLT, Int.reduceToNat, Int.reducePow, Nat.reduceLeDiff, Int.reduceLE, Nat.reduceMul, Nat.reduceSub]
              have k1 : clampLo 0 L = L := by unfold clampLo gapI; (repeat' split) <;> omega
              have k2 : clampHi T = 1114111 := by unfold clampHi; split <;> omega
              rw [hgo, k1, k2]
              simp only [Done, resAV, resL, resOne, look_nil, look_cons, Nat.reduceEqDiff, if_true, if_false, reduceIte, ite_true, ite_false, Nat.zero_ne_one, Nat.one_ne_zero, reduceCtorEq, true_or, or_true, true_and, Option.some.injEq, AV.lit.injEq, Value.int.injEq, Value.bool.injEq]
              all_goals rfl
          · have k1 : clampLo 0 L = L := by unfold clampLo gapI; (repeat' split) <;> omega
            have k2 : clampHi T = 1114111 := by unfold clampHi; split <;> omega
            rw [hgo, k1, k2]
            simp only [Done, resAV, resL, resOne, look_nil, look_cons, Nat.reduceEqDiff, if_true, if_false, reduceIte, ite_true, ite_false, Nat.zero_ne_one, Nat.one_ne_zero, reduceCtorEq, true_or, or_true, true_and, Option.some.injEq, AV.lit.injEq, Value.int.injEq, Value.bool.injEq]
            all_goals rfl
        · simp only [go_sem, Nat.reduceAdd, Nat.reduceEqDiff, Nat.reduceLT, reduceIte, reduceCtorEq, Nat.reduceBEq, Int.reduceLT, Int.reduceToNat, Int.reducePow, Nat.reduceLeDiff, Int.reduceLE, Nat.reduceMul, Nat.reduceSub]
          refine gGo_splitT (fun hC => ?_) (fun hC => ?_) <;> simp only [hC, go_sem, Nat.reduceAdd, Nat.reduceEqDiff, Nat.reduceLT, reduceIte, reduceCtorEq, Nat.reduceBEq, Int.reduceLT, Int.reduceToNat, Int.reducePow, Nat.reduceLeDiff, Int.reduceLE, Nat.reduceMul, Nat.reduceSub] <;> (try simp only [decide_eq_true_eq, decide_eq_false_iff_not] at hC)
          · refine cGo_split (fun hD => ?_) (fun hD => ?_) <;> (try simp only [decide_eq_true_eq, decide_eq_false_iff_not] at hD)
            · simp only [go_sem, Nat.reduceAdd, Nat.reduceEqDiff, Nat.reduceLT, reduceIte, reduceCtorEq, Nat.reduceBEq, Int.reduceLT, Int.reduceToNat, Int.reducePow, Nat.reduceLeDiff, Int.reduceLE, Nat.reduceMul, Nat.reduceSub]
              have k1 : clampLo 0 L = 57344 := by unfold clampLo gapI; (repeat' split) <;> omega
              have k2 : clampHi T = T := by unfold clampHi; split <;> omega
              rw [hgo, k1, k2]
              simp only [Done, resAV, resL, resOne, look_nil, look_cons, Nat.reduceEqDiff, if_true, if_false, reduceIte, ite_true, ite_false, Nat.zero_ne_one, Nat.one_ne_zero, reduceCtorEq, true_or, or_true, true_and, Option.some.injEq, AV.lit.injEq, Value.int.injEq, Value.bool.injEq]
              all_goals rfl
            · simp only [go_sem, Nat.reduceAdd, Nat.reduceEqDiff, Nat.reduceLT, reduceIte, reduceCtorEq, Nat.reduceBEq, Int.reduceLT, Int.reduceToNat, Int.reducePow, Nat.reduceLeDiff, Int.reduceLE, Nat.reduceMul, Nat.reduceSub]
              have k1 : clampLo 0 L = L := by unfold clampLo gapI; (repeat' split) <;> omega
              have k2 : clampHi T = T := by unfold clampHi; split <;> omega
              rw [hgo, k1, k2]
              simp only [Done, resAV, resL, resOne, look_nil, look_cons, Nat.reduceEqDiff, if_true, if_false, reduceIte, ite_true, ite_false, Nat.zero_ne_one, Nat.one_ne_zero, reduceCtorEq, true_or, or_true, true_and, Option.some.injEq, AV.lit.injEq, Value.int.injEq, Value.bool.injEq]
              all_goals rfl
          · have k1 : clampLo 0 L = L := by unfold clampLo gapI; (repeat' split) <;> omega
            have k2 : clampHi T = T := by unfold clampHi; split <;> omega
            rw [hgo, k1, k2]
            simp only [Done, resAV, resL, resOne, look_nil, look_cons, Nat.reduceEqDiff, if_true, if_false, reduceIte, ite_true, ite_false, Nat.zero_ne_one, Nat.one_ne_zero, reduceCtorEq, true_or, or_true, true_and, Option.some.injEq, AV.lit.injEq, Value.int.injEq, Value.bool.injEq]
            all_goals rfl
    · have e3 : (((2 : Nat) : Int)) = 2 := rfl
      have hfr : fromI 2 = 128 := rfl
      rw [hfr] at hgo
      simp only [e3, go_sem, Nat.reduceAdd, Nat.reduceEqDiff, Nat.reduceLT, reduceIte, reduceCtorEq, Nat.reduceBEq, Int.reduceLT, Int.reduceToNat, Int.reducePow, Nat.reduceLeDiff, Int.reduceLE, Nat.reduceMul, Nat.reduceSub, Int.reduceBEq]
      refine cGo_split (fun hA => ?_) (fun hA => ?_) <;> (try simp only [decide_eq_true_eq, decide_eq_false_iff_not] at hA)
      · simp only [go_sem, Nat.reduceAdd, Nat.reduceEqDiff, Nat.reduceLT, reduceIte, reduceCtorEq, Nat.reduceBEq, Int.reduceLT, Int.reduceToNat, Int.reducePow, Nat.reduceLeDiff, Int.reduceLE, Nat.reduceMul, Nat.reduceSub]
        refine cGo_split (fun hB => ?_) (fun hB => ?_) <;> (try simp only [decide_eq_true_eq, decide_eq_false_iff_not] at hB)
        · simp only [go_sem, Nat.reduceAdd, Nat.reduceEqDiff, Nat.reduceLT, reduceIte, reduceCtorEq, Nat.reduceBEq, Int.reduceLT, Int.reduceToNat, Int.reducePow, Nat.reduceLeDiff, Int.reduceLE, Nat.reduceMul, Nat.reduceSub, Int.reduceLE, Int.reduceGE, ge_iff_le]
          have k1 : clampLo 128 L = 128 := by unfold clampLo gapI; (repeat' split) <;> omega
          have k2 : clampHi T = 1114111 := by unfold clampHi; split <;> omega
          rw [hgo, k1, k2]
          simp only [Done, resAV, resL, resOne, look_nil, look_cons, Nat.reduceEqDiff, if_true, if_false, reduceIte, ite_true, ite_false, Nat.zero_ne_one, Nat.one_ne_zero, reduceCtorEq, true_or, or_true, true_and, Option.some.injEq, AV.lit.injEq, Value.int.injEq, Value.bool.injEq]
          all_goals rfl
        · simp only [go_sem, Nat.reduceAdd, Nat.reduceEqDiff, Nat.reduceLT, reduceIte, reduceCtorEq, Nat.reduceBEq, Int.reduceLT, Int.reduceToNat, Int.reducePow, Nat.reduceLeDiff, Int.reduceLE, Nat.reduceMul, Nat.reduceSub, Int.reduceLE, Int.reduceGE, ge_iff_le]
          have k1 : clampLo 128 L = 128 := by unfold clampLo gapI; (repeat' split) <;> omega
          have k2 : clampHi T = T := by unfold clampHi; split <;> omega
          rw [hgo, k1, k2]
          simp only [Done, resAV, resL, resOne, look_nil, look_cons, Nat.reduceEqDiff, if_true, if_false, reduceIte, ite_true, ite_false, Nat.zero_ne_one, Nat.one_ne_zero, reduceCtorEq, true_or, or_true, true_and, Option.some.injEq, AV.lit.injEq, Value.int.injEq, Value.bool.injEq]
          all_goals rfl
      · simp only [go_sem, Nat.reduceAdd, Nat.reduceEqDiff, Nat.reduceLT, reduceIte, reduceCtorEq, Nat.reduceBEq, Int.reduceLT, Int.reduceToNat, Int.reducePow, Nat.reduceLeDiff, Int.reduceLE, Nat.reduceMul, Nat.reduceSub]
        refine cGo_split (fun hB => ?_) (fun hB => ?_) <;> (try simp only [decide_eq_true_eq, decide_eq_false_iff_not] at hB)
        · simp only [go_sem, Nat.reduceAdd, Nat.reduceEqDiff, Nat.reduceLT, reduceIte, reduceCtorEq, Nat.reduceBEq, Int.reduceLT, Int.reduceToNat, Int.reducePow, Nat.reduceLeDiff, Int.reduceLE, Nat.reduceMul, Nat.reduceSub]
          refine gGo_splitT (fun hC => ?_) (fun hC => ?_) <;> simp only [hC, go_sem, Nat.reduceAdd, Nat.reduceEqDiff, Nat.reduceLT, reduceIte, reduceCtorEq, Nat.reduceBEq, Int.reduceLT, Int.reduceToNat, Int.reducePow, Nat.reduceLeDiff, Int.reduceLE, Nat.reduceMul, Nat.reduceSub] <;> (try simp only [decide_eq_true_eq, decide_eq_false_iff_not] at hC)
          · refine cGo_split (fun hD => ?_) (fun hD => ?_) <;> (try simp only [decide_eq_true_eq, decide_eq_false_iff_not] at hD)
            · simp only [go_sem, Nat.reduceAdd, Nat.reduceEqDiff, Nat.reduceLT, reduceIte, reduceCtorEq, Nat.reduceBEq, Int.reduceLT, Int.reduceToNat, Int.reducePow, Nat.reduceLeDiff, Int.reduceLE, Nat.reduceMul, Nat.reduceSub]
              have k1 : clampLo 128 L = 57344 := by unfold clampLo gapI; (repeat' split) <;> omega
              have k2 : clampHi T = 1114111 := by unfold clampHi; split <;> omega
              rw [hgo, k1, k2]
              simp only [Done, resAV, resL, resOne, look_nil, look_cons, Nat.reduceEqDiff, if_true, if_false, reduceIte, ite_true, ite_false, Nat.zero_ne_one, Nat.one_ne_zero, reduceCtorEq, true_or, or_true, true_and, Option.some.injEq, AV.lit.injEq, Value.int.injEq, Value.bool.injEq]
              all_goals rfl
            · simp only [go_sem, Nat.reduceAdd, Nat.reduceEqDiff, Nat.reduceLT, reduceIte, reduceCtorEq, Nat.reduceBEq, Int.reduceLT, Int.reduceToNat, Int.reducePow, Nat.reduceLeDiff, Int.reduceLE, Nat.reduceMul, Nat.reduceSub]
              have k1 : clampLo 128 L = L := by unfold clampLo gapI; (repeat' split) <;> omega
              have k2 : clampHi T = 1114111 := by unfold clampHi; split <;> omega
              rw [hgo, k1, k2]
              simp only [Done, resAV, resL, resOne, look_nil, look_cons, Nat.reduceEqDiff, if_true, if_false, reduceIte, ite_true, ite_false, Nat.zero_ne_one, Nat.one_ne_zero, reduceCtorEq, true_or, or_true, true_and, Option.some.injEq, AV.lit.injEq, Value.int.injEq, Value.bool.injEq]
              all_goals rfl
          · have k1 : clampLo 128 L = L := by unfold clampLo gapI; (repeat' split) <;> omega
            have k2 : clampHi T = 1114111 := by unfold clampHi; split <;> omega
            rw [hgo, k1, k2]
            simp only [Done, resAV, resL, resOne, look_nil, look_cons, Nat.reduceEqDiff, if_true, if_false, reduceIte, ite_true, ite_false, Nat.zero_ne_one, Nat.one_ne_zero, reduceCtorEq, true_or, or_true, true_and, Option.some.injEq, AV.lit.injEq, Value.int.injEq, Value.bool.injEq]
            all_goals rfl
        · simp only [go_sem, Nat.reduceAdd, Nat.reduceEqDiff, Nat.reduceLT, reduceIte, reduceCtorEq, Nat.reduceBEq, Int.reduceLT, Int.reduceToNat, Int.reducePow, Nat.reduceLeDiff, Int.reduceLE, Nat.reduceMul, Nat.reduceSub]
          refine gGo_splitT (fun hC => ?_) (fun hC => ?_) <;> simp only [hC, go_sem, Nat.reduceAdd, Nat.reduceEqDiff, Nat.reduceLT, reduceIte, reduceCtorEq, Nat.reduceBEq, Int.reduceLT, Int.reduceToNat, Int.reducePow, Nat.reduceLeDiff, Int.reduceLE, Nat.reduceMul, Nat.reduceSub] <;> (try simp only [decide_eq_true_eq, decide_eq_false_iff_not] at hC)
          · refine cGo_split (fun hD => ?_) (fun hD => ?_) <;> (try simp only [decide_eq_true_eq, decide_eq_false_iff_not] at hD)
            · simp only [go_sem, Nat.reduceAdd, Nat.reduceEqDiff, Nat.reduceLT, reduceIte, reduceCtorEq, Nat.reduceBEq, Int.reduceLT, Int.reduceToNat, Int.reducePow, Nat.reduceLeDiff, Int.reduceLE, Nat.reduceMul, Nat.reduceSub]
              have k1 : clampLo 128 L = 57344 := by unfold clampLo gapI; (repeat' split) <;> omega
              have k2 : clampHi T = T := by unfold clampHi; split <;> omega
              rw [hgo, k1, k2]
              simp only [Done, resAV, resL, resOne, look_nil, look_cons, Nat.reduceEqDiff, if_true, if_false, reduceIte, ite_true, ite_false, Nat.zero_ne_one, Nat.one_ne_zero, reduceCtorEq, true_or, or_true, true_and, Option.some.injEq, AV.lit.injEq, Value.int.injEq, Value.bool.injEq]
              all_goals rfl
            · simp only [go_sem, Nat.reduceAdd, Nat.reduceEqDiff, Nat.reduceLT, reduceIte, reduceCtorEq, Nat.reduceBEq, Int.reduceLT, Int.reduceToNat, Int.reducePow, Nat.reduceLeDiff, Int.reduceLE, Nat.reduceMul, Nat.reduceSub]
              have k1 : clampLo 128 L = L := by unfold clampLo gapI; (repeat' split) <;> omega
              have k2 : clampHi T = T := by unfold clampHi; split <;> omega
              rw [hgo, k1, k2]
              simp only [Done, resAV, resL, resOne, look_nil, look_cons, Nat.reduceEqDiff, if_true, if_false, reduceIte, ite_true, ite_false, Nat.zero_ne_one, Nat.one_ne_zero, reduceCtorEq, true_or, or_true, true_and, Option.some.injEq, AV.lit.injEq, Value.int.injEq, Value.bool.injEq]
              all_goals rfl
          · have k1 : clampLo 128 L = L := by unfold clampLo gapI; (repeat' split) <;> omega
            have k2 : clampHi T = T := by unfold clampHi; split <;> omega
            rw [hgo, k1, k2]
            simp only [Done, resAV, resL, resOne, look_nil, look_cons, Nat.reduceEqDiff, if_true, if_false, reduceIte, ite_true, ite_false, Nat.zero_ne_one, Nat.one_ne_zero, reduceCtorEq, true_or, or_true, true_and, Option.some.injEq, AV.lit.injEq, Value.int.injEq, Value.bool.injEq]
            all_goals rfl
    · have e3 : (((3 : Nat) : Int)) = 3 := rfl
      have hfr : fromI 3 = 2048 := rfl
      rw [hfr] at hgo
      simp only [e3, go_sem, Nat.reduceAdd, Nat.reduceEqDiff, Nat.reduceLT, reduceIte, reduceCtorEq, Nat.reduceBEq, Int.reduceLT, Int.reduceToNat, Int.reducePow, Nat.reduceLeDiff, Int.reduceLE, Nat.reduceMul, Nat.reduceSub, Int.reduceBEq]
      refine cGo_split (fun hA => ?_) (fun hA => ?_) <;> (try simp only [decide_eq_true_eq, decide_eq_false_iff_not] at hA)
      · simp only [go_sem, Nat.reduceAdd, Nat.reduceEqDiff, Nat.reduceLT, reduceIte, reduceCtorEq, Nat.reduceBEq, Int.reduceLT, Int.reduceToNat, Int.reducePow, Nat.reduceLeDiff, Int.reduceLE, Nat.reduceMul, Nat.reduceSub]
        refine cGo_split (fun hB => ?_) (fun hB => ?_) <;> (try simp only [decide_eq_true_eq, decide_eq_false_iff_not] at hB)
        · simp only [go_sem, Nat.reduceAdd, Nat.reduceEqDiff, Nat.reduceLT, reduceIte, reduceCtorEq, Nat.reduceBEq, Int.reduceLT, Int.reduceToNat, Int.reducePow, Nat.reduceLeDiff, Int.reduceLE, Nat.reduceMul, Nat.reduceSub, Int.reduceLE, Int.reduceGE, ge_iff_le]
          have k1 : clampLo 2048 L = 2048 := by unfold clampLo gapI; (repeat' split) <;> omega
          have k2 : clampHi T = 1114111 := by unfold clampHi; split <;> omega
          rw [hgo, k1, k2]
          simp only [Done, resAV, resL, resOne, look_nil, look_cons, Nat.reduceEqDiff, if_true, if_false, reduceIte, ite_true, ite_false, Nat.zero_ne_one, Nat.one_ne_zero, reduceCtorEq, true_or, or_true, true_and, Option.some.injEq, AV.lit.injEq, Value.int.injEq, Value.bool.injEq]
          all_goals rfl
        · simp only [go_sem, Nat.reduceAdd, Nat.reduceEqDiff, Nat.reduceLT, reduceIte, reduceCtorEq, Nat.reduceBEq, Int.reduceLT, Int.reduceToNat, Int.reducePow, Nat.reduceLeDiff, Int.reduceLE, Nat.reduceMul, Nat.reduceSub, Int.reduceLE, Int.reduceGE, ge_iff_le]
          have k1 : clampLo 2048 L = 2048 := by unfold clampLo gapI; (repeat' split) <;> omega
          have k2 : clampHi T = T := by unfold clampHi; split <;> omega
          rw [hgo, k1, k2]
          simp only [Done, resAV, resL, resOne, look_nil, look_cons, Nat.reduceEqDiff, if_true, if_false, reduceIte, ite_true, ite_false, Nat.zero_ne_one, Nat.one_ne_zero, reduceCtorEq, true_or, or_true, true_and, Option.some.injEq, AV.lit.injEq, Value.int.injEq, Value.bool.injEq]
          all_goals rfl
      · simp only [go_sem, Nat.reduceAdd, Nat.reduceEqDiff, Nat.reduceLT, reduceIte, reduceCtorEq, Nat.reduceBEq, Int.reduceLT, Int.reduceToNat, Int.reducePow, Nat.reduceLeDiff, Int.reduceLE, Nat.reduceMul, Nat.reduceSub]
        refine cGo_split (fun hB => ?_) (fun hB => ?_) <;> (try simp only [decide_eq_true_eq, decide_eq_false_iff_not] at hB)
        · simp only [go_sem, Nat.reduceAdd, Nat.reduceEqDiff, Nat.reduceLT, reduceIte, reduceCtorEq, Nat.reduceBEq, Int.reduceLT, Int.reduceToNat, Int.reducePow, Nat.reduceLeDiff, Int.reduceLE, Nat.reduceMul, Nat.reduceSub]
          refine gGo_splitT (fun hC => ?_) (fun hC => ?_) <;> simp only [hC, go_sem, Nat.reduceAdd, Nat.reduceEqDiff, Nat.reduceLT, reduceIte, reduceCtorEq, Nat.reduceBEq, Int.reduceLT, Int.reduceToNat, Int.reducePow, Nat.reduceLeDiff, Int.reduceLE, Nat.reduceMul, Nat.reduceSub] <;> (try simp only [decide_eq_true_eq, decide_eq_false_iff_not] at hC)
          · refine cGo_split (fun hD => ?_) (fun hD => ?_) <;> (try simp only [decide_eq_true_eq, decide_eq_false_iff_not] at hD)
            · simp only [go_sem, Nat.reduceAdd, Nat.reduceEqDiff, Nat.reduceLT, reduceIte, reduceCtorEq, Nat.reduceBEq, Int.reduceLT, Int.reduceToNat, Int.reducePow, Nat.reduceLeDiff, Int.reduceLE, Nat.reduceMul, Nat.reduceSub]
              have k1 : clampLo 2048 L = 57344 := by unfold clampLo gapI; (repeat' split) <;> omega
              have k2 : clampHi T = 1114111 := by unfold clampHi; split <;> omega
              rw [hgo, k1, k2]
              simp only [Done, resAV, resL, resOne, look_nil, look_cons, Nat.reduceEqDiff, if_true, if_false, reduceIte, ite_true, ite_false, Nat.zero_ne_one, Nat.one_ne_zero, reduceCtorEq, true_or, or_true, true_and, Option.some.injEq, AV.lit.injEq, Value.int.injEq, Value.bool.injEq]
              all_goals rfl
            · simp only [go_sem, Nat.reduceAdd, Nat.reduceEqDiff, Nat.reduceLT, reduceIte, reduceCtorEq, Nat.reduceBEq, Int.reduceLT, Int.reduceToNat, Int.reducePow, Nat.reduceLeDiff, Int.reduceLE, Nat.reduceMul, Nat.reduceSub]
              have k1 : clampLo 2048 L = L := by unfold clampLo gapI; (repeat' split) <;> omega
              have k2 : clampHi T = 1114111 := by unfold clampHi; split <;> omega
              rw [hgo, k1, k2]
              simp only [Done, resAV, resL, resOne, look_nil, look_cons, Nat.reduceEqDiff, if_true, if_false, reduceIte, ite_true, ite_false, Nat.zero_ne_one, Nat.one_ne_zero, reduceCtorEq, true_or, or_true, true_and, Option.some.injEq, AV.lit.injEq, Value.int.injEq, Value.bool.injEq]
              all_goals rfl
          · have k1 : clampLo 2048 L = L := by unfold clampLo gapI; (repeat' split) <;> omega
            have k2 : clampHi T = 1114111 := by unfold clampHi; split <;> omega
            rw [hgo, k1, k2]
            simp only [Done, resAV, resL, resOne, look_nil, look_cons, Nat.reduceEqDiff, if_true, if_false, reduceIte, ite_true, ite_false, Nat.zero_ne_one, Nat.one_ne_zero, reduceCtorEq, true_or, or_true, true_and, Option.some.injEq, AV.lit.injEq, Value.int.injEq, Value.bool.injEq]
            all_goals rfl
        · simp only [go_sem, Nat.reduceAdd, Nat.reduceEqDiff, Nat.reduceLT, reduceIte, reduceCtorEq, Nat.reduceBEq, Int.reduceLT, Int.reduceToNat, Int.reducePow, Nat.reduceLeDiff, Int.reduceLE, Nat.reduceMul, Nat.reduceSub]
          refine gGo_splitT (fun hC => ?_) (fun hC => ?_) <;> simp only [hC, go_sem, Nat.reduceAdd, Nat.reduceEqDiff, Nat.reduceLT, reduceIte, reduceCtorEq, Nat.reduceBEq, Int.reduceLT, Int.reduceToNat, Int.reducePow, Nat.reduceLeDiff, Int.reduceLE, Nat.reduceMul, Nat.reduceSub] <;> (try simp only [decide_eq_true_eq, decide_eq_false_iff_not] at hC)
          · refine cGo_split (fun hD => ?_) (fun hD => ?_) <;> (try simp only [decide_eq_true_eq, decide_eq_false_iff_not] at hD)
            · simp only [go_sem, Nat.reduceAdd, Nat.reduceEqDiff, Nat.reduceLT, reduceIte, reduceCtorEq, Nat.reduceBEq, Int.reduceLT, Int.reduceToNat, Int.reducePow, Nat.reduceLeDiff, Int.reduceLE, Nat.reduceMul, Nat.reduceSub]
              have k1 : clampLo 2048 L = 57344 := by unfold clampLo gapI; (repeat' split) <;> omega
              have k2 : clampHi T = T := by unfold clampHi; split <;> omega
              rw [hgo, k1, k2]
              simp only [Done, resAV, resL, resOne, look_nil, look_cons, Nat.reduceEqDiff, if_true, if_false, reduceIte, ite_true, ite_false, Nat.zero_ne_one, Nat.one_ne_zero, reduceCtorEq, true_or, or_true, true_and, Option.some.injEq, AV.lit.injEq, Value.int.injEq, Value.bool.injEq]
              all_goals rfl
            · simp only [go_sem, Nat.reduceAdd, Nat.reduceEqDiff, Nat.reduceLT, reduceIte, reduceCtorEq, Nat.reduceBEq, Int.reduceLT, Int.reduceToNat, Int.reducePow, Nat.reduceLeDiff, Int.reduceLE, Nat.reduceMul, Nat.reduceSub]
              have k1 : clampLo 2048 L = L := by unfold clampLo gapI; (repeat' split) <;> omega
              have k2 : clampHi T = T := by unfold clampHi; split <;> omega
              rw [hgo, k1, k2]
              simp only [Done, resAV, resL, resOne, look_nil, look_cons, Nat.reduceEqDiff, if_true, if_false, reduceIte, ite_true, ite_false, Nat.zero_ne_one, Nat.one_ne_zero, reduceCtorEq, true_or, or_true, true_and, Option.some.injEq, AV.lit.injEq, Value.int.injEq, Value.bool.injEq]
              all_goals rfl
          · have k1 : clampLo 2048 L = L := by unfold clampLo gapI; (repeat' split) <;> omega
            have k2 : clampHi T = T := by unfold clampHi; split <;> omega
            rw [hgo, k1, k2]
            simp only [Done, resAV, resL, resOne, look_nil, look_cons, Nat.reduceEqDiff, if_true, if_false, reduceIte, ite_true, ite_false, Nat.zero_ne_one, Nat.one_ne_zero, reduceCtorEq, true_or, or_true, true_and, Option.some.injEq, AV.lit.injEq, Value.int.injEq, Value.bool.injEq]
            all_goals rfl
    · have e3 : (((4 : Nat) : Int)) = 4 := rfl
      have hfr : fromI 4 = 65536 := rfl
      rw [hfr] at hgo
      simp only [e3, go_sem, Nat.reduceAdd, Nat.reduceEqDiff, Nat.reduceLT, reduceIte, reduceCtorEq, Nat.reduceBEq, Int.reduceLT, Int.reduceToNat, Int.reducePow, Nat.reduceLeDiff, Int.reduceLE, Nat.reduceMul, Nat.reduceSub, Int.reduceBEq]
      refine cGo_split (fun hA => ?_) (fun hA => ?_) <;> (try simp only [decide_eq_true_eq, decide_eq_false_iff_not] at hA)
      · simp only [go_sem, Nat.reduceAdd, Nat.reduceEqDiff, Nat.reduceLT, reduceIte, reduceCtorEq, Nat.reduceBEq, Int.reduceLT, Int.reduceToNat, Int.reducePow, Nat.reduceLeDiff, Int.reduceLE, Nat.reduceMul, Nat.reduceSub]
        refine cGo_split (fun hB => ?_) (fun hB => ?_) <;> (try simp only [decide_eq_true_eq, decide_eq_false_iff_not] at hB)
        · simp only [go_sem, Nat.reduceAdd, Nat.reduceEqDiff, Nat.reduceLT, reduceIte, reduceCtorEq, Nat.reduceBEq, Int.reduceLT, Int.reduceToNat, Int.reducePow, Nat.reduceLeDiff, Int.reduceLE, Nat.reduceMul, Nat.reduceSub, Int.reduceLE, Int.reduceGE, ge_iff_le]
          have k1 : clampLo 65536 L = 65536 := by unfold clampLo gapI; (repeat' split) <;> omega
          have k2 : clampHi T = 1114111 := by unfold clampHi; split <;> omega
          rw [hgo, k1, k2]
          simp only [Done, resAV, resL, resOne, look_nil, look_cons, Nat.reduceEqDiff, if_true, if_false, reduceIte, ite_true, ite_false, Nat.zero_ne_one, Nat.one_ne_zero, reduceCtorEq, true_or, or_true, true_and, Option.some.injEq, AV.lit.injEq, Value.int.injEq, Value.bool.injEq]
          all_goals rfl
        · simp only [go_sem, Nat.reduceAdd, Nat.reduceEqDiff, Nat.reduceLT, reduceIte, reduceCtorEq, Nat.reduceBEq, Int.reduceLT, Int.reduceToNat, Int.reducePow, Nat.reduceLeDiff, Int.reduceLE, Nat.reduceMul, Nat.reduceSub, Int.reduceLE, Int.reduceGE, ge_iff_le]
          have k1 : clampLo 65536 L = 65536 := by unfold clampLo gapI; (repeat' split) <;> omega
          have k2 : clampHi T = T := by unfold clampHi; split <;> omega
          rw [hgo, k1, k2]
          simp only [Done, resAV, resL, resOne, look_nil, look_cons, Nat.reduceEqDiff, if_true, if_false, reduceIte, ite_true, ite_false, Nat.zero_ne_one, Nat.one_ne_zero, reduceCtorEq, true_or, or_true, true_and, Option.some.injEq, AV.lit.injEq, Value.int.injEq, Value.bool.injEq]
          all_goals rfl
      · simp only [go_sem, Nat.reduceAdd, Nat.reduceEqDiff, Nat.reduceLT, reduceIte, reduceCtorEq, Nat.reduceBEq, Int.reduceLT, Int.reduceToNat, Int.reducePow, Nat.reduceLeDiff, Int.reduceLE, Nat.reduceMul, Nat.reduceSub]
        refine cGo_split (fun hB => ?_) (fun hB => ?_) <;> (try simp only [decide_eq_true_eq, decide_eq_false_iff_not] at hB)
        · simp only [go_sem, Nat.reduceAdd, Nat.reduceEqDiff, Nat.reduceLT, reduceIte, reduceCtorEq, Nat.reduceBEq, Int.reduceLT, Int.reduceToNat, Int.reducePow, Nat.reduceLeDiff, Int.reduceLE, Nat.reduceMul, Nat.reduceSub]
          refine gGo_splitT (fun hC => ?_) (fun hC => ?_) <;> simp only [hC, go_sem, Nat.reduceAdd, Nat.reduceEqDiff, Nat.reduceLT, reduceIte, reduceCtorEq, Nat.reduceBEq, Int.reduceLT, Int.reduceToNat, Int.reducePow, Nat.reduceLeDiff, Int.reduceLE, Nat.reduceMul, Nat.reduceSub] <;> (try simp only [decide_eq_true_eq, decide_eq_false_iff_not] at hC)
          · refine cGo_split (fun hD => ?_) (fun hD => ?_) <;> (try simp only [decide_eq_true_eq, decide_eq_false_iff_not] at hD)
            · simp only [go_sem, Nat.reduceAdd, Nat.reduceEqDiff, Nat.reduceLT, reduceIte, reduceCtorEq, Nat.reduceBEq, Int.reduceLT, Int.reduceToNat, Int.reducePow, Nat.reduceLeDiff, Int.reduceLE, Nat.reduceMul, Nat.reduceSub]
              have k1 : clampLo 65536 L = 57344 := by unfold clampLo gapI; (repeat' split) <;> omega
              have k2 : clampHi T = 1114111 := by unfold clampHi; split <;> omega
              rw [hgo, k1, k2]
              simp only [Done, resAV, resL, resOne, look_nil, look_cons, Nat.reduceEqDiff, if_true, if_false, reduceIte, ite_true, ite_false, Nat.zero_ne_one, Nat.one_ne_zero, reduceCtorEq, true_or, or_true, true_and, Option.some.injEq, AV.lit.injEq, Value.int.injEq, Value.bool.injEq]
              all_goals rfl
            · simp only [go_sem, Nat.reduceAdd, Nat.reduceEqDiff, Nat.reduceLT, reduceIte, reduceCtorEq, Nat.reduceBEq, Int.reduceLT, Int.reduceToNat, Int.reducePow, Nat.reduceLeDiff, Int.reduceLE, Nat.reduceMul, Nat.reduceSub]
              have k1 : clampLo 65536 L = L := by unfold clampLo gapI; (repeat' split) <;> omega
              have k2 : clampHi T = 1114111 := by unfold clampHi; split <;> omega
              rw [hgo, k1, k2]
              simp only [Done, resAV, resL, resOne, look_nil, look_cons, Nat.reduceEqDiff, if_true, if_false, reduceIte, ite_true, ite_false, Nat.zero_ne_one, Nat.one_ne_zero, reduceCtorEq, true_or, or_true, true_and, Option.some.injEq, AV.lit.injEq, Value.int.injEq, Value.bool.injEq]
              all_goals rfl
          · have k1 : clampLo 65536 L = L := by unfold clampLo gapI; (repeat' split) <;> omega
            have k2 : clampHi T = 1114111 := by unfold clampHi; split <;> omega
            rw [hgo, k1, k2]
            simp only [Done, resAV, resL, resOne, look_nil, look_cons, Nat.reduceEqDiff, if_true, if_false, reduceIte, ite_true, ite_false, Nat.zero_ne_one, Nat.one_ne_zero, reduceCtorEq, true_or, or_true, true_and, Option.some.injEq, AV.lit.injEq, Value.int.injEq, Value.bool.injEq]
            all_goals rfl
        · simp only [go_sem, Nat.reduceAdd, Nat.reduceEqDiff, Nat.reduceLT, reduceIte, reduceCtorEq, Nat.reduceBEq, Int.reduceLT, Int.reduceToNat, Int.reducePow, Nat.reduceLeDiff, Int.reduceLE, Nat.reduceMul, Nat.reduceSub]
          refine gGo_splitT (fun hC => ?_) (fun hC => ?_) <;> simp only [hC, go_sem, Nat.reduceAdd, Nat.reduceEqDiff, Nat.reduceLT, reduceIte, reduceCtorEq, Nat.reduceBEq, Int.reduceLT, Int.reduceToNat, Int.reducePow, Nat.reduceLeDiff, Int.reduceLE, Nat.reduceMul, Nat.reduceSub] <;> (try simp only [decide_eq_true_eq, decide_eq_false_iff_not] at hC)
          · refine cGo_split (fun hD => ?_) (fun hD => ?_) <;> (try simp only [decide_eq_true_eq, decide_eq_false_iff_not] at hD)
            · simp only [go_sem, Nat.reduceAdd, Nat.reduceEqDiff, Nat.reduceLT, reduceIte, reduceCtorEq, Nat.reduceBEq, Int.reduceLT, Int.reduceToNat, Int.reducePow, Nat.reduceLeDiff, Int.reduceLE, Nat.reduceMul, Nat.reduceSub]
              have k1 : clampLo 65536 L = 57344 := by unfold clampLo gapI; (repeat' split) <;> omega
              have k2 : clampHi T = T := by unfold clampHi; split <;> omega
              rw [hgo, k1, k2]
              simp only [Done, resAV, resL, resOne, look_nil, look_cons, Nat.reduceEqDiff, if_true, if_false, reduceIte, ite_true, ite_false, Nat.zero_ne_one, Nat.one_ne_zero, reduceCtorEq, true_or, or_true, true_and, Option.some.injEq, AV.lit.injEq, Value.int.injEq, Value.bool.injEq]
              all_goals rfl
            · simp only [go_sem, Nat.reduceAdd, Nat.reduceEqDiff, Nat.reduceLT, reduceIte, reduceCtorEq, Nat.reduceBEq, Int.reduceLT, Int.reduceToNat, Int.reducePow, Nat.reduceLeDiff, Int.reduceLE, Nat.reduceMul, Nat.reduceSub]
              have k1 : clampLo 65536 L = L := by unfold clampLo gapI; (repeat' split) <;> omega
              have k2 : clampHi T = T := by unfold clampHi; split <;> omega
              rw [hgo, k1, k2]
              simp only [Done, resAV, resL, resOne, look_nil, look_cons, Nat.reduceEqDiff, if_true, if_false, reduceIte, ite_true, ite_false, Nat.zero_ne_one, Nat.one_ne_zero, reduceCtorEq, true_or, or_true, true_and, Option.some.injEq, AV.lit.injEq, Value.int.injEq, Value.bool.injEq]
              all_goals rfl
          · have k1 : clampLo 65536 L = L := by unfold clampLo gapI; (repeat' split) <;> omega
            have k2 : clampHi T = T := by unfold clampHi; split <;> omega
            rw [hgo, k1, k2]
            simp only [Done, resAV, resL, resOne, look_nil, look_cons, Nat.reduceEqDiff, if_true, if_false, reduceIte, ite_true, ite_false, Nat.zero_ne_one, Nat.one_ne_zero, reduceCtorEq, true_or, or_true, true_and, Option.some.injEq, AV.lit.injEq, Value.int.injEq, Value.bool.injEq]
            all_goals rfl
end Go.Proofs.Ytbnaepdeakcljaa
