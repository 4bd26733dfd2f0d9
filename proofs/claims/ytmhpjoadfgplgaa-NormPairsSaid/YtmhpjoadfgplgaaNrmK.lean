/-
THE STATEMENT NormSame. What is taken apart, or put together, is so for good, and the one says of the other what it says of itself. Conditions: none.
-/
import Derived.Test.YtmhpjoadfgplgaaNrmG
import Derived.Test.YtmhpjoadfgplgaaRows
set_option linter.unusedSimpArgs false
set_option linter.unusedVariables false
set_option linter.unusedSectionVars false
namespace Go.Proofs.Ytmhpjoadfgplgaa
open Go Go.Ab
def a12 : ACode :=
  (.seq (.reg [⟨(.some 4), (.mv (.k (.bool false))), .none⟩]) (.seq (.seq (.reg [⟨(.some 11), (.mv (.t 0)), .none⟩, ⟨(.some 12), (.len (.t 11)), .none⟩, ⟨(.some 13), (.bin .gtr (.t 12) (.k (.int .i64
  200))), .none⟩, ⟨(.some 14), (.mv (.t 13)), .none⟩, ⟨(.some 15), (.mv (.t 1)), (.some (14, false))⟩, ⟨(.some 16), (.len (.t 15)), (.some (14, false))⟩, ⟨(.some 17), (.bin .gtr (.t 16) (.k (.int .i64
  200))), (.some (14, false))⟩, ⟨(.some 18), (.pick (.t 14) (.k (.bool true)) (.t 17)), .none⟩]) (.cond (.t 18) (.seq (.reg [⟨(.some 19), (.call (.f 24) []), .none⟩, ⟨(.some 4), (.mv (.t 19)), .none⟩])
  .ret) .skip)) (.seq (.reg [⟨(.some 5), (.mv (.f 19)), .none⟩]) (.seq (.reg [⟨(.some 20), (.bs 21 1 []), .none⟩, ⟨(.some 21), (.mv (.t 0)), .none⟩, ⟨(.some 22), (.app 21 4 (.t 20) (.t 21)), .none⟩,
  ⟨(.some 6), (.mv (.t 22)), .none⟩]) (.seq (.reg [⟨(.some 23), (.mv (.t 0)), .none⟩, ⟨(.some 24), (.call (.f 25) [(.t 23)]), .none⟩, ⟨(.some 25), (.mv (.t 0)), .none⟩, ⟨(.some 26), (.call (.f 28) [(.t
  25)]), .none⟩, ⟨(.some 7), (.mv (.t 24)), .none⟩, ⟨(.some 8), (.mv (.t 26)), .none⟩]) (.seq (.reg [⟨(.some 27), (.mv (.t 1)), .none⟩, ⟨(.some 28), (.call (.f 25) [(.t 27)]), .none⟩, ⟨(.some 29), (.mv
  (.t 1)), .none⟩, ⟨(.some 30), (.call (.f 28) [(.t 29)]), .none⟩, ⟨(.some 9), (.mv (.t 28)), .none⟩, ⟨(.some 10), (.mv (.t 30)), .none⟩]) (.seq (.reg [⟨(.some 31), (.mv (.t 5)), .none⟩, ⟨(.some 32),
  (.mv (.t 7)), .none⟩, ⟨(.some 33), (.call (.f 25) [(.t 32)]), .none⟩, ⟨(.some 34), (.mv (.t 7)), .none⟩, ⟨(.some 35), (.call (.t 31) [(.t 33), (.t 34)]), .none⟩, ⟨(.some 36), (.mv (.t 35)), .none⟩,
  ⟨(.some 37), (.mv (.t 5)), (.some (36, true))⟩, ⟨(.some 38), (.mv (.t 8)), (.some (36, true))⟩, ⟨(.some 39), (.call (.f 28) [(.t 38)]), (.some (36, true))⟩, ⟨(.some 40), (.mv (.t 8)), (.some (36,
  true))⟩, ⟨(.some 41), (.call (.t 37) [(.t 39), (.t 40)]), (.some (36, true))⟩, ⟨(.some 42), (.pick (.t 36) (.t 41) (.k (.bool false))), .none⟩, ⟨(.some 43), (.mv (.t 42)), .none⟩, ⟨(.some 44), (.mv
  (.t 5)), (.some (43, true))⟩, ⟨(.some 45), (.mv (.t 8)), (.some (43, true))⟩, ⟨(.some 46), (.call (.f 25) [(.t 45)]), (.some (43, true))⟩, ⟨(.some 47), (.mv (.t 7)), (.some (43, true))⟩, ⟨(.some 48),
  (.call (.t 44) [(.t 46), (.t 47)]), (.some (43, true))⟩, ⟨(.some 49), (.pick (.t 43) (.t 48) (.k (.bool false))), .none⟩, ⟨(.some 50), (.mv (.t 49)), .none⟩, ⟨(.some 51), (.mv (.t 5)), (.some (50,
  true))⟩, ⟨(.some 52), (.mv (.t 7)), (.some (50, true))⟩, ⟨(.some 53), (.call (.f 28) [(.t 52)]), (.some (50, true))⟩, ⟨(.some 54), (.mv (.t 8)), (.some (50, true))⟩, ⟨(.some 55), (.call (.t 51) [(.t
  53), (.t 54)]), (.some (50, true))⟩, ⟨(.some 56), (.pick (.t 50) (.t 55) (.k (.bool false))), .none⟩, ⟨(.some 57), (.mv (.t 56)), .none⟩, ⟨(.some 58), (.mv (.t 5)), (.some (57, true))⟩, ⟨(.some 59),
  (.mv (.t 7)), (.some (57, true))⟩, ⟨(.some 60), (.mv (.t 9)), (.some (57, true))⟩, ⟨(.some 61), (.call (.t 58) [(.t 59), (.t 60)]), (.some (57, true))⟩, ⟨(.some 62), (.mv (.t 5)), (.some (57, true))⟩,
  ⟨(.some 63), (.mv (.t 8)), (.some (57, true))⟩, ⟨(.some 64), (.mv (.t 10)), (.some (57, true))⟩, ⟨(.some 65), (.call (.t 62) [(.t 63), (.t 64)]), (.some (57, true))⟩, ⟨(.some 66), (.eqB false (.t 61)
  (.t 65)), (.some (57, true))⟩, ⟨(.some 67), (.pick (.t 57) (.t 66) (.k (.bool false))), .none⟩, ⟨(.some 68), (.mv (.t 67)), .none⟩, ⟨(.some 69), (.mv (.t 8)), (.some (68, true))⟩, ⟨(.some 70), (.call
  (.f 34) [(.t 69)]), (.some (68, true))⟩, ⟨(.some 71), (.pick (.t 68) (.t 70) (.k (.bool false))), .none⟩, ⟨(.some 72), (.mv (.t 71)), .none⟩, ⟨(.some 73), (.mv (.t 5)), (.some (72, true))⟩, ⟨(.some
  74), (.mv (.t 0)), (.some (72, true))⟩, ⟨(.some 75), (.mv (.t 6)), (.some (72, true))⟩, ⟨(.some 76), (.call (.t 73) [(.t 74), (.t 75)]), (.some (72, true))⟩, ⟨(.some 77), (.pick (.t 72) (.t 76) (.k
  (.bool false))), .none⟩, ⟨(.some 78), (.mv (.t 77)), .none⟩, ⟨(.some 79), (.mv (.t 8)), (.some (78, true))⟩, ⟨(.some 80), (.len (.t 79)), (.some (78, true))⟩, ⟨(.some 81), (.mv (.t 7)), (.some (78,
  true))⟩, ⟨(.some 82), (.len (.t 81)), (.some (78, true))⟩, ⟨(.some 83), (.bin .leq (.t 80) (.t 82)), (.some (78, true))⟩, ⟨(.some 84), (.pick (.t 78) (.t 83) (.k (.bool false))), .none⟩, ⟨(.some 85),
  (.mv (.t 84)), .none⟩, ⟨(.some 86), (.call (.f 24) []), (.some (85, true))⟩, ⟨(.some 87), (.pick (.t 85) (.t 86) (.k (.bool false))), .none⟩, ⟨(.some 4), (.mv (.t 87)), .none⟩]) .ret)))))))
theorem c12 : Try.f12.body.bind (cCode Try.prog 88) = some a12 := by kernel_rfl
theorem r12 : Try.f12.results.toList = [(.tmp 4)] := by kernel_rfl
theorem n12 : Try.f12.ntmps = 88 := by kernel_rfl
theorem e12 : Enters Try.prog 12 := enters_of Try.func12 (by kernel_rfl) (by kernel_rfl)

theorem nfc_i32 {l : List Int} (h : I32 l) : I32 (nfcP T cls l) := by
  have key : ∀ (rest a : List Int) (s : Int) (t : List Int), I32 (a ++ s :: t) → I32 rest → I32 (compS T cls a s t rest) := by
    intro rest
    induction rest with
    | nil => intro a s t h1 _; rw [compS]; exact h1
    | cons c rest ih =>
      intro a s t h1 h2
      have h2' : I32 rest := fun x hx => h2 x (by simp [hx])
      have hc := h2 c (by simp)
      have hs := h1 s (by simp)
      rw [compS]
      split
      · rename_i m hm
        split at hm
        · have hm32 := joined_i32 hs hc hm
          refine ih a m t (fun x hx => ?_) h2'
          rcases List.mem_append.1 hx with hx | hx
          · exact h1 x (by simp [hx])
          · rcases List.mem_cons.1 hx with rfl | hx
            · exact hm32
            · exact h1 x (by simp [hx])
        · cases hm
      · split
        · refine ih (a ++ s :: t) c [] (fun x hx => ?_) h2'
          rcases List.mem_append.1 hx with hx | hx
          · exact h1 x hx
          · simp only [List.mem_cons, List.not_mem_nil, or_false] at hx
            subst hx; exact hc
        · refine ih a s (t ++ [c]) (fun x hx => ?_) h2'
          rw [show a ++ s :: (t ++ [c]) = (a ++ s :: t) ++ [c] by simp] at hx
          rcases List.mem_append.1 hx with hx | hx
          · exact h1 x hx
          · simp only [List.mem_cons, List.not_mem_nil, or_false] at hx
            subst hx; exact hc
  have key0 : ∀ (rest t : List Int), I32 t → I32 rest → I32 (comp0 T cls t rest) := by
    intro rest
    induction rest with
    | nil => intro t h1 _; rw [comp0]; exact h1
    | cons c rest ih =>
      intro t h1 h2
      have h2' : I32 rest := fun x hx => h2 x (by simp [hx])
      have hc := h2 c (by simp)
      have hsn : I32 (t ++ [c]) := fun x hx => by
        rcases List.mem_append.1 hx with hx | hx
        · exact h1 x hx
        · simp only [List.mem_cons, List.not_mem_nil, or_false] at hx
          subst hx; exact hc
      rw [comp0]
      split
      · exact key rest t c [] hsn h2'
      · exact ih _ hsn h2'
  exact key0 _ [] (by intro x hx; simp at hx) (nfd_i32 h)

set_option maxRecDepth 10000 in
set_option maxHeartbeats 1000000 in
theorem normSame_pure (l : List Int) (hl : Runes l) (o : List Int) (ho : Runes o) : Pure Try.prog 12 [rS l none, rS o none] [] (.lit (.bool true)) := by
  refine pure0 Try.func12 c12 n12 e12 r12 (by simp) rfl ?_
  have h32 := hl.2
  have o32 := ho.2
  have small : l.length ≤ 200 → o.length ≤ 200 → awp Try.prog 0 a12 (Done Try.prog [.tmp 4] (.lit (.bool true))) (astart [rS l none, rS o none] [] [] 0) := fun h1 h2 => by
    have g1 : decide ((l.length : Int) > 200) = false := by simp only [decide_eq_false_iff_not]; omega
    have g2 : decide ((o.length : Int) > 200) = false := by simp only [decide_eq_false_iff_not]; omega
    have a1 := nfd_len l
    have a2 := nfc_length (T := T) (cc := cls) l
    have a3 := nfd_len o
    have a4 := nfc_length (T := T) (cc := cls) o
    have d32 := nfd_i32 h32
    have c32 := nfc_i32 h32
    have q1 := NFD_pure (nfdP T cls l) (by omega) d32
    rw [nfd_idem nf] at q1
    have q2 := NFC_pure (nfcP T cls l) (by omega) c32
    rw [nfc_nfc nf] at q2
    have q3 := NFD_pure (nfcP T cls l) (by omega) c32
    rw [nfd_nfc nf] at q3
    have q4 := NFC_pure (nfdP T cls l) (by omega) d32
    rw [nfc_nfd nf] at q4
    have q5 := Is_pure (nfcP T cls l) (by omega) c32
    rw [nfc_nfc nf, beq_self_eq_true] at q5
    have e1 : ((nfdP T cls l == nfdP T cls o) == (nfcP T cls l == nfcP T cls o)) = true := by
      rw [beq_iff_eq, Bool.eq_iff_iff, beq_iff_eq, beq_iff_eq]; exact nfd_iff_nfc nf l o
    have e2 : decide (((nfcP T cls l).length : Int) ≤ ((nfdP T cls l).length : Int)) = true := by simp only [decide_eq_true_eq]; omega
    simp only [a12, astart, argSlots, runes_length, g1, g2, go_sem, Nat.reduceAdd, Nat.reduceEqDiff, Nat.reduceLT, reduceIte, reduceCtorEq, Nat.reduceBEq, Int.reduceLT, Int.reduceToNat, Int.reducePow, Nat.reduceLeDiff, Int.reduceLE, Nat.reduceMul, Nat.reduceSub]
    refine empty_sl ?_
    simp only [runes_length, beq_self_eq_true, go_sem, Nat.reduceAdd, Nat.reduceEqDiff, Nat.reduceLT, reduceIte, reduceCtorEq, Nat.reduceBEq, Int.reduceLT, Int.reduceToNat, Int.reducePow, Nat.reduceLeDiff, Int.reduceLE, Nat.reduceMul, Nat.reduceSub]
    refine ⟨by omega, ?_⟩
    refine callGo_pure (NFD_pure l (by omega) h32) (by rfl) ?_
    simp only [go_sem, Nat.reduceAdd, Nat.reduceEqDiff, Nat.reduceLT, reduceIte, reduceCtorEq, Nat.reduceBEq, Int.reduceLT, Int.reduceToNat, Int.reducePow, Nat.reduceLeDiff, Int.reduceLE, Nat.reduceMul, Nat.reduceSub]
    refine callGo_pure (NFC_pure l (by omega) h32) (by rfl) ?_
    simp only [go_sem, Nat.reduceAdd, Nat.reduceEqDiff, Nat.reduceLT, reduceIte, reduceCtorEq, Nat.reduceBEq, Int.reduceLT, Int.reduceToNat, Int.reducePow, Nat.reduceLeDiff, Int.reduceLE, Nat.reduceMul, Nat.reduceSub]
    refine callGo_pure (NFD_pure o (by omega) o32) (by rfl) ?_
    simp only [go_sem, Nat.reduceAdd, Nat.reduceEqDiff, Nat.reduceLT, reduceIte, reduceCtorEq, Nat.reduceBEq, Int.reduceLT, Int.reduceToNat, Int.reducePow, Nat.reduceLeDiff, Int.reduceLE, Nat.reduceMul, Nat.reduceSub]
    refine callGo_pure (NFC_pure o (by omega) o32) (by rfl) ?_
    simp only [go_sem, Nat.reduceAdd, Nat.reduceEqDiff, Nat.reduceLT, reduceIte, reduceCtorEq, Nat.reduceBEq, Int.reduceLT, Int.reduceToNat, Int.reducePow, Nat.reduceLeDiff, Int.reduceLE, Nat.reduceMul, Nat.reduceSub]
    refine callGo_pure q1 (by rfl) ?_
    simp only [go_sem, Nat.reduceAdd, Nat.reduceEqDiff, Nat.reduceLT, reduceIte, reduceCtorEq, Nat.reduceBEq, Int.reduceLT, Int.reduceToNat, Int.reducePow, Nat.reduceLeDiff, Int.reduceLE, Nat.reduceMul, Nat.reduceSub]
    refine callGo_pure (Same_pure (nfdP T cls l) (nfdP T cls l) (by omega)) (by rfl) ?_
    simp only [beq_self_eq_true, go_sem, Nat.reduceAdd, Nat.reduceEqDiff, Nat.reduceLT, reduceIte, reduceCtorEq, Nat.reduceBEq, Int.reduceLT, Int.reduceToNat, Int.reducePow, Nat.reduceLeDiff, Int.reduceLE, Nat.reduceMul, Nat.reduceSub]
    refine callGo_pure q2 (by rfl) ?_
    simp only [go_sem, Nat.reduceAdd, Nat.reduceEqDiff, Nat.reduceLT, reduceIte, reduceCtorEq, Nat.reduceBEq, Int.reduceLT, Int.reduceToNat, Int.reducePow, Nat.reduceLeDiff, Int.reduceLE, Nat.reduceMul, Nat.reduceSub]
    refine callGo_pure (Same_pure (nfcP T cls l) (nfcP T cls l) (by omega)) (by rfl) ?_
    simp only [beq_self_eq_true, go_sem, Nat.reduceAdd, Nat.reduceEqDiff, Nat.reduceLT, reduceIte, reduceCtorEq, Nat.reduceBEq, Int.reduceLT, Int.reduceToNat, Int.reducePow, Nat.reduceLeDiff, Int.reduceLE, Nat.reduceMul, Nat.reduceSub]
    refine callGo_pure q3 (by rfl) ?_
    simp only [go_sem, Nat.reduceAdd, Nat.reduceEqDiff, Nat.reduceLT, reduceIte, reduceCtorEq, Nat.reduceBEq, Int.reduceLT, Int.reduceToNat, Int.reducePow, Nat.reduceLeDiff, Int.reduceLE, Nat.reduceMul, Nat.reduceSub]
    refine callGo_pure (Same_pure (nfdP T cls l) (nfdP T cls l) (by omega)) (by rfl) ?_
    simp only [beq_self_eq_true, go_sem, Nat.reduceAdd, Nat.reduceEqDiff, Nat.reduceLT, reduceIte, reduceCtorEq, Nat.reduceBEq, Int.reduceLT, Int.reduceToNat, Int.reducePow, Nat.reduceLeDiff, Int.reduceLE, Nat.reduceMul, Nat.reduceSub]
    refine callGo_pure q4 (by rfl) ?_
    simp only [go_sem, Nat.reduceAdd, Nat.reduceEqDiff, Nat.reduceLT, reduceIte, reduceCtorEq, Nat.reduceBEq, Int.reduceLT, Int.reduceToNat, Int.reducePow, Nat.reduceLeDiff, Int.reduceLE, Nat.reduceMul, Nat.reduceSub]
    refine callGo_pure (Same_pure (nfcP T cls l) (nfcP T cls l) (by omega)) (by rfl) ?_
    simp only [beq_self_eq_true, go_sem, Nat.reduceAdd, Nat.reduceEqDiff, Nat.reduceLT, reduceIte, reduceCtorEq, Nat.reduceBEq, Int.reduceLT, Int.reduceToNat, Int.reducePow, Nat.reduceLeDiff, Int.reduceLE, Nat.reduceMul, Nat.reduceSub]
    refine callGo_pure (Same_pure (nfdP T cls l) (nfdP T cls o) (by omega)) (by rfl) ?_
    simp only [go_sem, Nat.reduceAdd, Nat.reduceEqDiff, Nat.reduceLT, reduceIte, reduceCtorEq, Nat.reduceBEq, Int.reduceLT, Int.reduceToNat, Int.reducePow, Nat.reduceLeDiff, Int.reduceLE, Nat.reduceMul, Nat.reduceSub]
    refine callGo_pure (Same_pure (nfcP T cls l) (nfcP T cls o) (by omega)) (by rfl) ?_
    simp only [e1, go_sem, Nat.reduceAdd, Nat.reduceEqDiff, Nat.reduceLT, reduceIte, reduceCtorEq, Nat.reduceBEq, Int.reduceLT, Int.reduceToNat, Int.reducePow, Nat.reduceLeDiff, Int.reduceLE, Nat.reduceMul, Nat.reduceSub]
    refine callGo_pure q5 (by rfl) ?_
    simp only [go_sem, Nat.reduceAdd, Nat.reduceEqDiff, Nat.reduceLT, reduceIte, reduceCtorEq, Nat.reduceBEq, Int.reduceLT, Int.reduceToNat, Int.reducePow, Nat.reduceLeDiff, Int.reduceLE, Nat.reduceMul, Nat.reduceSub]
    refine callGo_pure (Same_pure l l (by omega)) (by rfl) ?_
    simp only [beq_self_eq_true, runes_length, e2, go_sem, Nat.reduceAdd, Nat.reduceEqDiff, Nat.reduceLT, reduceIte, reduceCtorEq, Nat.reduceBEq, Int.reduceLT, Int.reduceToNat, Int.reducePow, Nat.reduceLeDiff, Int.reduceLE, Nat.reduceMul, Nat.reduceSub]
    refine callGo_pure awake_pure (by rfl) ?_
    simp only [go_sem, Nat.reduceAdd, Nat.reduceEqDiff, Nat.reduceLT, reduceIte, reduceCtorEq, Nat.reduceBEq, Int.reduceLT, Int.reduceToNat, Int.reducePow, Nat.reduceLeDiff, Int.reduceLE, Nat.reduceMul, Nat.reduceSub]
    simp only [Done, resAV, resL, resOne, look_nil, look_cons, Nat.reduceEqDiff, if_true, if_false, reduceIte, ite_true, ite_false, Nat.zero_ne_one, Nat.one_ne_zero, reduceCtorEq, true_or, or_true, true_and, Option.some.injEq, AV.lit.injEq, Value.int.injEq, Value.bool.injEq]
  by_cases h1 : l.length ≤ 200
  · by_cases h2 : o.length ≤ 200
    · exact small h1 h2
    · have g1 : decide ((l.length : Int) > 200) = false := by simp only [decide_eq_false_iff_not]; omega
      have g2 : decide ((o.length : Int) > 200) = true := by simp only [decide_eq_true_eq]; omega
      simp only [a12, astart, argSlots, runes_length, g1, g2, go_sem, Nat.reduceAdd, Nat.reduceEqDiff, Nat.reduceLT, reduceIte, reduceCtorEq, Nat.reduceBEq, Int.reduceLT, Int.reduceToNat, Int.reducePow, Nat.reduceLeDiff, Int.reduceLE, Nat.reduceMul, Nat.reduceSub]
      refine callGo_pure awake_pure (by rfl) ?_
      simp only [go_sem, Nat.reduceAdd, Nat.reduceEqDiff, Nat.reduceLT, reduceIte, reduceCtorEq, Nat.reduceBEq, Int.reduceLT, Int.reduceToNat, Int.reducePow, Nat.reduceLeDiff, Int.reduceLE, Nat.reduceMul, Nat.reduceSub]
      simp only [Done, resAV, resL, resOne, look_nil, look_cons, Nat.reduceEqDiff, if_true, if_false, reduceIte, ite_true, ite_false, Nat.zero_ne_one, Nat.one_ne_zero, reduceCtorEq, true_or, or_true, true_and, Option.some.injEq, AV.lit.injEq, Value.int.injEq, Value.bool.injEq]
  · have g1 : decide ((l.length : Int) > 200) = true := by simp only [decide_eq_true_eq]; omega
    simp only [a12, astart, argSlots, runes_length, g1, go_sem, Nat.reduceAdd, Nat.reduceEqDiff, Nat.reduceLT, reduceIte, reduceCtorEq, Nat.reduceBEq, Int.reduceLT, Int.reduceToNat, Int.reducePow, Nat.reduceLeDiff, Int.reduceLE, Nat.reduceMul, Nat.reduceSub]
    refine callGo_pure awake_pure (by rfl) ?_
    simp only [go_sem, Nat.reduceAdd, Nat.reduceEqDiff, Nat.reduceLT, reduceIte, reduceCtorEq, Nat.reduceBEq, Int.reduceLT, Int.reduceToNat, Int.reducePow, Nat.reduceLeDiff, Int.reduceLE, Nat.reduceMul, Nat.reduceSub]
    simp only [Done, resAV, resL, resOne, look_nil, look_cons, Nat.reduceEqDiff, if_true, if_false, reduceIte, ite_true, ite_false, Nat.zero_ne_one, Nat.one_ne_zero, reduceCtorEq, true_or, or_true, true_and, Option.some.injEq, AV.lit.injEq, Value.int.injEq, Value.bool.injEq]

theorem normSame_any (avs : List AV) (h : Args Try.prog Try.f12.params.toList avs) : Pure Try.prog 12 avs [] (.lit (.bool true)) := by
  have hp : Try.f12.params.toList = [22, 22] := by kernel_rfl
  rw [hp] at h
  obtain ⟨av0, rest0, rfl, a0, h0⟩ := h
  obtain ⟨av1, rest1, rfl, a1, rfl⟩ := h0
  obtain ⟨z0, rfl, w0, s0⟩ := arg_ints (e := 21) (k := .i32) (by kernel_rfl) (by kernel_rfl) a0
  rw [show Try.prog.bytesOf 21 = 4 from by kernel_rfl] at s0
  obtain ⟨z1, rfl, w1, s1⟩ := arg_ints (e := 21) (k := .i32) (by kernel_rfl) (by kernel_rfl) a1
  rw [show Try.prog.bytesOf 21 = 4 from by kernel_rfl] at s1
  exact normSame_pure z0 ⟨by omega, fun n hn => by simpa [Lit.wf, IntKind.min, IntKind.max, IntKind.signed, IntKind.bits] using w0 n hn⟩ z1 ⟨by omega, fun n hn => by simpa [Lit.wf, IntKind.min, IntKind.max, IntKind.signed, IntKind.bits] using w1 n hn⟩

set_option maxRecDepth 100000 in
theorem normSame_lifted (os : Os) (started : os.Started) (H : Type) (enc : TypeId × Value → H) :
    ReturnsInHanded {} Try.checked os 12 .any (Rows.normSameSpec.pre6 enc Try.prog Try.f12 Rows.normSameRow.domain false) (Rows.normSameSpec.post enc Try.prog Try.f12 false true false false) := by
  refine law_returns (C := Try.checked) (tb := 4) (by kernel_rfl) started (by kernel_rfl) Try.func12
    (ChangeSpec.witness6 (enc := enc) (C := Try.checked) false ⟨#[], #[.slice none 0 0, .slice none 0 0], []⟩ 8 (by kernel_rfl) (by kernel_rfl) (by kernel_rfl) (by kernel_rfl))
    (by kernel_rfl) (by kernel_rfl) rfl rfl (by kernel_rfl) (by kernel_rfl) ?_ normSame_any
  intro ds hds
  have hp : Try.f12.params.toList = [22, 22] := by kernel_rfl
  rw [hp] at hds
  match ds, hds with
  | [d0, d1], _ => exact ⟨rfl, rfl, rfl⟩

theorem normSame_holds : Rows.NormSameSaid :=
  OpenClaim.holds_of_wide 12 Try.f12 rfl rfl rfl rfl rfl rfl rfl ⟨rfl, rfl, rfl, rfl, rfl⟩ rfl rfl rfl rfl rfl (by kernel_rfl) Try.func12 (by kernel_rfl)
    (of_decide_eq_true (by kernel_rfl)) (by unfold Func.isWrapper; first | (rw [if_pos (by decide +kernel)]; kernel_rfl) | (rw [if_neg (by decide +kernel)]; exact ⟨rfl, rfl⟩))
    (fun os started H enc _ => normSame_lifted os started H enc)
end Go.Proofs.Ytmhpjoadfgplgaa
