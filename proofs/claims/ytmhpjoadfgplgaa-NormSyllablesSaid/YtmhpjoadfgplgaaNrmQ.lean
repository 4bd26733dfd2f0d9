/-
THE STATEMENT NormSyllables. A syllable is taken apart into two or three, and these make it again, one by one; unlike ones are unlike; and what is neither of both makes none. Conditions: none.
-/
import Derived.Test.YtmhpjoadfgplgaaNrmG
import Derived.Test.YtmhpjoadfgplgaaRows
set_option linter.unusedSimpArgs false
set_option linter.unusedVariables false
set_option linter.unusedSectionVars false
namespace Go.Proofs.Ytmhpjoadfgplgaa
open Go Go.Ab
def a9_7 : ACode :=
  (.seq (.reg [⟨(.some 103), (.mv (.t 7)), .none⟩, ⟨(.some 104), (.mv (.t 2)), .none⟩, ⟨(.some 105), (.call (.f 29) [(.t 103), (.t 104)]), .none⟩, ⟨(.some 102), (.mv (.t 105)), .none⟩, ⟨(.some 106),
  (.ext (.t 102) 0), .none⟩, ⟨(.some 107), (.ext (.t 102) 1), .none⟩, ⟨(.some 13), (.mv (.t 106)), .none⟩, ⟨(.some 14), (.mv (.t 107)), .none⟩]) (.seq (.reg [⟨(.some 108), (.mv (.t 14)), .none⟩, ⟨(.some
  109), (.mv (.t 0)), .none⟩, ⟨(.some 110), (.bin .rem (.t 109) (.k (.int .u16 11172))), .none⟩, ⟨(.some 111), (.bin .rem (.t 110) (.k (.int .u16 28))), .none⟩, ⟨(.some 112), (.bin .eql (.t 111) (.k
  (.int .u16 0))), .none⟩, ⟨(.some 113), (.mv (.t 112)), .none⟩, ⟨(.some 114), (.mv (.t 2)), (.some (113, true))⟩, ⟨(.some 115), (.bin .gtr (.t 114) (.k (.int .i32 4519))), (.some (113, true))⟩, ⟨(.some
  116), (.pick (.t 113) (.t 115) (.k (.bool false))), .none⟩, ⟨(.some 117), (.mv (.t 116)), .none⟩, ⟨(.some 118), (.mv (.t 2)), (.some (117, true))⟩, ⟨(.some 119), (.bin .leq (.t 118) (.k (.int .i32
  4546))), (.some (117, true))⟩, ⟨(.some 120), (.pick (.t 117) (.t 119) (.k (.bool false))), .none⟩, ⟨(.some 121), (.eqB false (.t 108) (.t 120)), .none⟩, ⟨(.some 122), (.mv (.t 121)), .none⟩, ⟨(.some
  123), (.call (.f 24) []), (.some (122, true))⟩, ⟨(.some 124), (.pick (.t 122) (.t 123) (.k (.bool false))), .none⟩, ⟨(.some 6), (.mv (.t 124)), .none⟩]) .ret))
def a9_6 : ACode :=
  (.seq (.seq (.reg [⟨(.some 78), (.mv (.t 12)), .none⟩, ⟨(.some 79), (.not (.t 78)), .none⟩, ⟨(.some 80), (.mv (.t 79)), .none⟩, ⟨(.some 81), (.mv (.t 11)), (.some (80, false))⟩, ⟨(.some 82), (.mv (.t
  7)), (.some (80, false))⟩, ⟨(.some 83), (.bin .neq (.t 81) (.t 82)), (.some (80, false))⟩, ⟨(.some 84), (.pick (.t 80) (.k (.bool true)) (.t 83)), .none⟩, ⟨(.some 85), (.mv (.t 84)), .none⟩, ⟨(.some
  86), (.mv (.t 9)), (.some (85, false))⟩, ⟨(.some 87), (.call (.f 28) [(.t 86)]), (.some (85, false))⟩, ⟨(.some 88), (.mv (.t 7)), (.some (85, false))⟩, ⟨(.some 89), (.bs 21 1 [(.t 88)]), (.some (85,
  false))⟩, ⟨(.some 90), (.call (.f 19) [(.t 87), (.t 89)]), (.some (85, false))⟩, ⟨(.some 91), (.not (.t 90)), (.some (85, false))⟩, ⟨(.some 92), (.pick (.t 85) (.k (.bool true)) (.t 91)), .none⟩,
  ⟨(.some 93), (.mv (.t 92)), .none⟩, ⟨(.some 94), (.mv (.t 7)), (.some (93, false))⟩, ⟨(.some 95), (.bs 21 1 [(.t 94)]), (.some (93, false))⟩, ⟨(.some 96), (.call (.f 28) [(.t 95)]), (.some (93,
  false))⟩, ⟨(.some 97), (.mv (.t 7)), (.some (93, false))⟩, ⟨(.some 98), (.bs 21 1 [(.t 97)]), (.some (93, false))⟩, ⟨(.some 99), (.call (.f 19) [(.t 96), (.t 98)]), (.some (93, false))⟩, ⟨(.some 100),
  (.not (.t 99)), (.some (93, false))⟩, ⟨(.some 101), (.pick (.t 93) (.k (.bool true)) (.t 100)), .none⟩]) (.cond (.t 101) (.seq (.reg [⟨(.some 6), (.mv (.k (.bool false))), .none⟩]) .ret) .skip)) a9_7)
def a9 : ACode :=
  (.seq (.reg [⟨(.some 6), (.mv (.k (.bool false))), .none⟩]) (.seq (.reg [⟨(.some 15), (.mv (.t 0)), .none⟩, ⟨(.some 16), (.bin .rem (.t 15) (.k (.int .u16 11172))), .none⟩, ⟨(.some 17), (.cvI .i32 (.t
  16)), .none⟩, ⟨(.some 18), (.bin .add (.k (.int .i32 44032)) (.t 17)), .none⟩, ⟨(.some 19), (.mv (.t 1)), .none⟩, ⟨(.some 20), (.bin .rem (.t 19) (.k (.int .u16 11172))), .none⟩, ⟨(.some 21), (.cvI
  .i32 (.t 20)), .none⟩, ⟨(.some 22), (.bin .add (.k (.int .i32 44032)) (.t 21)), .none⟩, ⟨(.some 7), (.mv (.t 18)), .none⟩, ⟨(.some 8), (.mv (.t 22)), .none⟩]) (.seq (.reg [⟨(.some 23), (.mv (.t 7)),
  .none⟩, ⟨(.some 24), (.call (.f 26) [(.t 23)]), .none⟩, ⟨(.some 25), (.mv (.t 8)), .none⟩, ⟨(.some 26), (.call (.f 26) [(.t 25)]), .none⟩, ⟨(.some 9), (.mv (.t 24)), .none⟩, ⟨(.some 10), (.mv (.t
  26)), .none⟩]) (.seq (.seq (.reg [⟨(.some 27), (.mv (.t 9)), .none⟩, ⟨(.some 28), (.len (.t 27)), .none⟩, ⟨(.some 29), (.bin .lss (.t 28) (.k (.int .i64 2))), .none⟩, ⟨(.some 30), (.mv (.t 29)),
  .none⟩, ⟨(.some 31), (.mv (.t 9)), (.some (30, false))⟩, ⟨(.some 32), (.len (.t 31)), (.some (30, false))⟩, ⟨(.some 33), (.bin .gtr (.t 32) (.k (.int .i64 3))), (.some (30, false))⟩, ⟨(.some 34),
  (.pick (.t 30) (.k (.bool true)) (.t 33)), .none⟩, ⟨(.some 35), (.mv (.t 34)), .none⟩, ⟨(.some 36), (.mv (.t 9)), (.some (35, false))⟩, ⟨(.some 37), (.mv (.t 10)), (.some (35, false))⟩, ⟨(.some 38),
  (.call (.f 19) [(.t 36), (.t 37)]), (.some (35, false))⟩, ⟨(.some 39), (.mv (.t 7)), (.some (35, false))⟩, ⟨(.some 40), (.mv (.t 8)), (.some (35, false))⟩, ⟨(.some 41), (.bin .eql (.t 39) (.t 40)),
  (.some (35, false))⟩, ⟨(.some 42), (.eqB true (.t 38) (.t 41)), (.some (35, false))⟩, ⟨(.some 43), (.pick (.t 35) (.k (.bool true)) (.t 42)), .none⟩, ⟨(.some 44), (.mv (.t 43)), .none⟩, ⟨(.some 45),
  (.mv (.t 9)), (.some (44, false))⟩, ⟨(.some 46), (.len (.t 45)), (.some (44, false))⟩, ⟨(.some 47), (.bin .eql (.t 46) (.k (.int .i64 2))), (.some (44, false))⟩, ⟨(.some 48), (.mv (.t 0)), (.some (44,
  false))⟩, ⟨(.some 49), (.bin .rem (.t 48) (.k (.int .u16 11172))), (.some (44, false))⟩, ⟨(.some 50), (.bin .rem (.t 49) (.k (.int .u16 28))), (.some (44, false))⟩, ⟨(.some 51), (.bin .eql (.t 50) (.k
  (.int .u16 0))), (.some (44, false))⟩, ⟨(.some 52), (.eqB true (.t 47) (.t 51)), (.some (44, false))⟩, ⟨(.some 53), (.pick (.t 44) (.k (.bool true)) (.t 52)), .none⟩]) (.cond (.t 53) (.seq (.reg
  [⟨(.some 6), (.mv (.k (.bool false))), .none⟩]) .ret) .skip)) (.seq (.dreg [⟨(.some 55), (.mv (.t 9)), .none⟩, ⟨(.some 56), (.ia 21 (.t 55) (.k (.int .i64 0))), .none⟩, ⟨(.some 57), (.ld .none (.t
  56)), .none⟩, ⟨(.some 58), (.mv (.t 9)), .none⟩, ⟨(.some 59), (.ia 21 (.t 58) (.k (.int .i64 1))), .none⟩, ⟨(.some 60), (.ld .none (.t 59)), .none⟩, ⟨(.some 61), (.call (.f 29) [(.t 57), (.t 60)]),
  .none⟩, ⟨(.some 54), (.mv (.t 61)), .none⟩, ⟨(.some 62), (.ext (.t 54) 0), .none⟩, ⟨(.some 63), (.ext (.t 54) 1), .none⟩, ⟨(.some 11), (.mv (.t 62)), .none⟩, ⟨(.some 12), (.mv (.t 63)), .none⟩]) (.seq
  (.seq (.reg [⟨(.some 64), (.mv (.t 9)), .none⟩, ⟨(.some 65), (.len (.t 64)), .none⟩, ⟨(.some 66), (.bin .eql (.t 65) (.k (.int .i64 3))), .none⟩, ⟨(.some 67), (.mv (.t 66)), .none⟩, ⟨(.some 68), (.mv
  (.t 12)), (.some (67, true))⟩, ⟨(.some 69), (.pick (.t 67) (.t 68) (.k (.bool false))), .none⟩]) (.cond (.t 69) (.reg [⟨(.some 71), (.mv (.t 11)), .none⟩, ⟨(.some 72), (.mv (.t 9)), .none⟩, ⟨(.some
  73), (.ia 21 (.t 72) (.k (.int .i64 2))), .none⟩, ⟨(.some 74), (.ld .none (.t 73)), .none⟩, ⟨(.some 75), (.call (.f 29) [(.t 71), (.t 74)]), .none⟩, ⟨(.some 70), (.mv (.t 75)), .none⟩, ⟨(.some 76),
  (.ext (.t 70) 0), .none⟩, ⟨(.some 77), (.ext (.t 70) 1), .none⟩, ⟨(.some 11), (.mv (.t 76)), .none⟩, ⟨(.some 12), (.mv (.t 77)), .none⟩]) .skip)) a9_6))))))
theorem c9 : Try.f9.body.bind (cCode Try.prog 125) = some a9 := by kernel_rfl
theorem r9 : Try.f9.results.toList = [(.tmp 6)] := by kernel_rfl
theorem n9 : Try.f9.ntmps = 125 := by kernel_rfl
theorem e9 : Enters Try.prog 9 := enters_of Try.func9 (by kernel_rfl) (by kernel_rfl)

theorem sylP_inj {s t : Int} (hs : 0 ≤ s ∧ s < 11172) (ht : 0 ≤ t ∧ t < 11172) (h : sylP s = sylP t) : s = t := by
  have h1 := syl_comp nf hs.1 hs.2
  have h2 := syl_comp nf ht.1 ht.2
  rw [h, h2] at h1
  simp only [List.cons.injEq, and_true] at h1
  omega
theorem i32_cons' {x : Int} {l : List Int} (hx : -2147483648 ≤ x ∧ x ≤ 2147483647) (h : I32 l) : I32 (x :: l) := fun y hy => by
  rcases List.mem_cons.1 hy with rfl | hy
  · exact hx
  · exact h y hy
theorem i32_nil : I32 [] := fun x hx => by simp at hx

/-- The last clause. -/
theorem syl_more {s : Int} (hs : 0 ≤ s ∧ s < 11172) {r v : Int} {bb : Bool} (hj : joinE (joinP T (s + 44032) r) = .tu [.lit (.int .i32 v), .lit (.bool bb)]) : bb = (decide (s % 28 = 0) && (decide (r > 4519) && decide (r ≤ 4546))) := by
  have h1 := syl_join nf (a := s + 44032) (by omega) (by omega) r
  rw [show s + 44032 - 44032 = s by omega] at h1
  rw [← h1]
  cases hjp : joinP T (s + 44032) r with
  | none =>
    rw [hjp] at hj
    simp only [joinE, AV.tu.injEq, List.cons.injEq, AV.lit.injEq, Value.bool.injEq, and_true] at hj
    rw [← hj.2]; rfl
  | some m =>
    rw [hjp] at hj
    simp only [joinE, AV.tu.injEq, List.cons.injEq, AV.lit.injEq, Value.bool.injEq, and_true] at hj
    rw [← hj.2]; rfl
theorem joinE_ex (o : Option Int) : ∃ v : Int, ∃ b : Bool, joinE o = .tu [.lit (.int .i32 v), .lit (.bool b)] := by
  cases o with
  | none => exact ⟨0, false, rfl⟩
  | some r => exact ⟨r, true, rfl⟩

set_option maxRecDepth 10000 in
set_option maxHeartbeats 1000000 in
theorem syl_last (p : Int) (hp : 0 ≤ p ∧ p ≤ 65535) (r : Int) (hr : -2147483648 ≤ r ∧ r ≤ 2147483647) {sl : List (Nat × Option AV)} {tp : List (Nat × TypeId)} {nx : Nat} (h0 : Ab.look sl 0 = some (.lit (.int .u16 p))) (h2 : Ab.look sl 2 = some (.lit (.int .i32 r))) (h7 : Ab.look sl 7 = some (.lit (.int .i32 (p % 11172 + 44032)))) :
    awp Try.prog 0 a9_7 (Done Try.prog [.tmp 6] (.lit (.bool true))) ⟨sl, [], tp, nx⟩ := by
  obtain ⟨v, bb, hj⟩ := joinE_ex (joinP T (p % 11172 + 44032) r)
  have hbb := syl_more (by omega) hj
  have j1 := Join_pure (a := p % 11172 + 44032) (b := r) (by omega) hr
  rw [hj] at j1
  have c1 : ((11172 : Int) = 0) = False := by simp
  have c2 : ((28 : Int) = 0) = False := by simp
  have d1 : p.tmod 11172 = p % 11172 := fmod_nn _ _ (by omega)
  have d2 : (p % 11172).tmod 28 = p % 11172 % 28 := fmod_nn _ _ (by omega)
  have w1 : IntKind.u16.wrap (p % 11172) = p % 11172 := IntWalk.u16_in _ (by omega)
  have w2 : IntKind.u16.wrap (p % 11172 % 28) = p % 11172 % 28 := IntWalk.u16_in _ (by omega)
  simp only [a9_7, h0, h2, h7, go_sem, Nat.reduceAdd, Nat.reduceEqDiff, Nat.reduceLT, reduceIte, reduceCtorEq, Nat.reduceBEq, Int.reduceLT, Int.reduceToNat, Int.reducePow, Nat.reduceLeDiff, Int.reduceLE, Nat.reduceMul, Nat.reduceSub]
  refine callGo_pure j1 (by rfl) ?_
  by_cases g1 : p % 11172 % 28 = 0
  · have e1 : (p % 11172 % 28 == 0) = true := beq_iff_eq.2 g1
    have e1' : decide (p % 11172 % 28 = 0) = true := dec_of g1
    by_cases g2 : r > 4519
    · have e2 := dec_of g2
      rw [e1', e2, Bool.true_and, Bool.true_and] at hbb
      subst hbb
      simp only [h0, h2, c1, c2, d1, d2, w1, w2, e1, e2, beq_self_eq_true, go_sem, Nat.reduceAdd, Nat.reduceEqDiff, Nat.reduceLT, reduceIte, reduceCtorEq, Nat.reduceBEq, Int.reduceLT, Int.reduceToNat, Int.reducePow, Nat.reduceLeDiff, Int.reduceLE, Nat.reduceMul, Nat.reduceSub]
      refine callGo_pure awake_pure (by rfl) ?_
      simp only [go_sem, Nat.reduceAdd, Nat.reduceEqDiff, Nat.reduceLT, reduceIte, reduceCtorEq, Nat.reduceBEq, Int.reduceLT, Int.reduceToNat, Int.reducePow, Nat.reduceLeDiff, Int.reduceLE, Nat.reduceMul, Nat.reduceSub]
      simp only [Done, resAV, resL, resOne, look_nil, look_cons, Nat.reduceEqDiff, if_true, if_false, reduceIte, ite_true, ite_false, Nat.zero_ne_one, Nat.one_ne_zero, reduceCtorEq, true_or, or_true, true_and, Option.some.injEq, AV.lit.injEq, Value.int.injEq, Value.bool.injEq]
    · have e2 := dec_no g2
      rw [e1', e2, Bool.true_and, Bool.false_and] at hbb
      subst hbb
      simp only [h0, h2, c1, c2, d1, d2, w1, w2, e1, e2, beq_self_eq_true, go_sem, Nat.reduceAdd, Nat.reduceEqDiff, Nat.reduceLT, reduceIte, reduceCtorEq, Nat.reduceBEq, Int.reduceLT, Int.reduceToNat, Int.reducePow, Nat.reduceLeDiff, Int.reduceLE, Nat.reduceMul, Nat.reduceSub]
      refine callGo_pure awake_pure (by rfl) ?_
      simp only [go_sem, Nat.reduceAdd, Nat.reduceEqDiff, Nat.reduceLT, reduceIte, reduceCtorEq, Nat.reduceBEq, Int.reduceLT, Int.reduceToNat, Int.reducePow, Nat.reduceLeDiff, Int.reduceLE, Nat.reduceMul, Nat.reduceSub]
      simp only [Done, resAV, resL, resOne, look_nil, look_cons, Nat.reduceEqDiff, if_true, if_false, reduceIte, ite_true, ite_false, Nat.zero_ne_one, Nat.one_ne_zero, reduceCtorEq, true_or, or_true, true_and, Option.some.injEq, AV.lit.injEq, Value.int.injEq, Value.bool.injEq]
  · have e1 : (p % 11172 % 28 == 0) = false := beq_eq_false_iff_ne.2 g1
    have e1' : decide (p % 11172 % 28 = 0) = false := dec_no g1
    rw [e1', Bool.false_and] at hbb
    subst hbb
    simp only [h0, h2, c1, c2, d1, d2, w1, w2, e1, beq_self_eq_true, go_sem, Nat.reduceAdd, Nat.reduceEqDiff, Nat.reduceLT, reduceIte, reduceCtorEq, Nat.reduceBEq, Int.reduceLT, Int.reduceToNat, Int.reducePow, Nat.reduceLeDiff, Int.reduceLE, Nat.reduceMul, Nat.reduceSub]
    refine callGo_pure awake_pure (by rfl) ?_
    simp only [go_sem, Nat.reduceAdd, Nat.reduceEqDiff, Nat.reduceLT, reduceIte, reduceCtorEq, Nat.reduceBEq, Int.reduceLT, Int.reduceToNat, Int.reducePow, Nat.reduceLeDiff, Int.reduceLE, Nat.reduceMul, Nat.reduceSub]
    simp only [Done, resAV, resL, resOne, look_nil, look_cons, Nat.reduceEqDiff, if_true, if_false, reduceIte, ite_true, ite_false, Nat.zero_ne_one, Nat.one_ne_zero, reduceCtorEq, true_or, or_true, true_and, Option.some.injEq, AV.lit.injEq, Value.int.injEq, Value.bool.injEq]

set_option maxRecDepth 10000 in
set_option maxHeartbeats 1000000 in
theorem syl_mid (p : Int) (hp : 0 ≤ p ∧ p ≤ 65535) (r : Int) (hr : -2147483648 ≤ r ∧ r ≤ 2147483647) {sl : List (Nat × Option AV)} {tp : List (Nat × TypeId)} {nx : Nat} {tt : Option Nat} (h0 : Ab.look sl 0 = some (.lit (.int .u16 p))) (h2 : Ab.look sl 2 = some (.lit (.int .i32 r))) (h7 : Ab.look sl 7 = some (.lit (.int .i32 (p % 11172 + 44032))))
    (h9 : Ab.look sl 9 = some (rS (sylP (p % 11172)) tt)) (h11 : Ab.look sl 11 = some (.lit (.int .i32 (p % 11172 + 44032)))) (h12 : Ab.look sl 12 = some (.lit (.bool true))) :
    awp Try.prog 0 a9_6 (Done Try.prog [.tmp 6] (.lit (.bool true))) ⟨sl, [], tp, nx⟩ := by
  have e1 : ((p % 11172 + 44032) != (p % 11172 + 44032)) = false := by simp
  have hsl : (sylP (p % 11172)).length ≤ 3 := by unfold sylP; split <;> simp
  have s32 : I32 (sylP (p % 11172)) := fun x hx => by
    have := sylP_mem nf (s := p % 11172) (by omega) (by omega) hx
    omega
  have hsn := syl_nfc nf (s := p % 11172) (by omega) (by omega)
  have q1 := NFC_pure (sylP (p % 11172)) (by omega) s32
  rw [hsn.1] at q1
  have q2 := NFC_pure [p % 11172 + 44032] (by simp) (i32_cons' (by omega) i32_nil)
  rw [hsn.2] at q2
  simp only [a9_6, h7, h9, h11, h12, e1, go_sem, Nat.reduceAdd, Nat.reduceEqDiff, Nat.reduceLT, reduceIte, reduceCtorEq, Nat.reduceBEq, Int.reduceLT, Int.reduceToNat, Int.reducePow, Nat.reduceLeDiff, Int.reduceLE, Nat.reduceMul, Nat.reduceSub]
  refine callGo_pure q1 (by rfl) ?_
  simp only [h7, go_sem, Nat.reduceAdd, Nat.reduceEqDiff, Nat.reduceLT, reduceIte, reduceCtorEq, Nat.reduceBEq, Int.reduceLT, Int.reduceToNat, Int.reducePow, Nat.reduceLeDiff, Int.reduceLE, Nat.reduceMul, Nat.reduceSub]
  refine callGo_pure (Same_pure [p % 11172 + 44032] [p % 11172 + 44032] (by simp)) (by rfl) ?_
  simp only [h7, beq_self_eq_true, Bool.not_true, go_sem, Nat.reduceAdd, Nat.reduceEqDiff, Nat.reduceLT, reduceIte, reduceCtorEq, Nat.reduceBEq, Int.reduceLT, Int.reduceToNat, Int.reducePow, Nat.reduceLeDiff, Int.reduceLE, Nat.reduceMul, Nat.reduceSub]
  refine callGo_pure q2 (by rfl) ?_
  simp only [h7, go_sem, Nat.reduceAdd, Nat.reduceEqDiff, Nat.reduceLT, reduceIte, reduceCtorEq, Nat.reduceBEq, Int.reduceLT, Int.reduceToNat, Int.reducePow, Nat.reduceLeDiff, Int.reduceLE, Nat.reduceMul, Nat.reduceSub]
  refine callGo_pure (Same_pure [p % 11172 + 44032] [p % 11172 + 44032] (by simp)) (by rfl) ?_
  simp only [beq_self_eq_true, Bool.not_true, go_sem, Nat.reduceAdd, Nat.reduceEqDiff, Nat.reduceLT, reduceIte, reduceCtorEq, Nat.reduceBEq, Int.reduceLT, Int.reduceToNat, Int.reducePow, Nat.reduceLeDiff, Int.reduceLE, Nat.reduceMul, Nat.reduceSub]
  exact syl_last p hp r hr (by simp only [h0, go_sem, Nat.reduceAdd, Nat.reduceEqDiff, Nat.reduceLT, reduceIte, reduceCtorEq, Nat.reduceBEq, Int.reduceLT, Int.reduceToNat, Int.reducePow, Nat.reduceLeDiff, Int.reduceLE, Nat.reduceMul, Nat.reduceSub]) (by simp only [h2, go_sem, Nat.reduceAdd, Nat.reduceEqDiff, Nat.reduceLT, reduceIte, reduceCtorEq, Nat.reduceBEq, Int.reduceLT, Int.reduceToNat, Int.reducePow, Nat.reduceLeDiff, Int.reduceLE, Nat.reduceMul, Nat.reduceSub]) (by simp only [h7, go_sem, Nat.reduceAdd, Nat.reduceEqDiff, Nat.reduceLT, reduceIte, reduceCtorEq, Nat.reduceBEq, Int.reduceLT, Int.reduceToNat, Int.reducePow, Nat.reduceLeDiff, Int.reduceLE, Nat.reduceMul, Nat.reduceSub])

set_option maxRecDepth 10000 in
set_option maxHeartbeats 1000000 in
theorem normSyllables_pure (p : Int) (hp : 0 ≤ p ∧ p ≤ 65535) (q : Int) (hq : 0 ≤ q ∧ q ≤ 65535) (r : Int) (hr : -2147483648 ≤ r ∧ r ≤ 2147483647) :
    Pure Try.prog 9 [.lit (.int .u16 p), .lit (.int .u16 q), .lit (.int .i32 r)] [] (.lit (.bool true)) := by
  refine pure0 Try.func9 c9 n9 e9 r9 (by simp) rfl ?_
  have c1 : ((11172 : Int) = 0) = False := by simp
  have c2 : ((28 : Int) = 0) = False := by simp
  have d1 : p.tmod 11172 = p % 11172 := fmod_nn _ _ (by omega)
  have d1' : q.tmod 11172 = q % 11172 := fmod_nn _ _ (by omega)
  have d2 : (p % 11172).tmod 28 = p % 11172 % 28 := fmod_nn _ _ (by omega)
  have w1 : IntKind.u16.wrap (p % 11172) = p % 11172 := IntWalk.u16_in _ (by omega)
  have w1' : IntKind.u16.wrap (q % 11172) = q % 11172 := IntWalk.u16_in _ (by omega)
  have w2 : IntKind.u16.wrap (p % 11172 % 28) = p % 11172 % 28 := IntWalk.u16_in _ (by omega)
  have w3 : IntKind.i32.wrap (p % 11172) = p % 11172 := wrap_i32 _ (by omega) (by omega)
  have w3' : IntKind.i32.wrap (q % 11172) = q % 11172 := wrap_i32 _ (by omega) (by omega)
  have w4 : IntKind.i32.wrap (44032 + p % 11172) = p % 11172 + 44032 := by rw [wrap_i32 _ (by omega) (by omega)]; omega
  have w4' : IntKind.i32.wrap (44032 + q % 11172) = q % 11172 + 44032 := by rw [wrap_i32 _ (by omega) (by omega)]; omega
  have y1 := Split_pure (p % 11172 + 44032) (by omega)
  rw [syl_split nf (by omega) (by omega), show p % 11172 + 44032 - 44032 = p % 11172 by omega] at y1
  have y2 := Split_pure (q % 11172 + 44032) (by omega)
  rw [syl_split nf (by omega) (by omega), show q % 11172 + 44032 - 44032 = q % 11172 by omega] at y2
  have hsl : (sylP (p % 11172)).length ≤ 3 := by unfold sylP; split <;> simp
  have e3 : ((sylP (p % 11172) == sylP (q % 11172)) == (p % 11172 + 44032 == q % 11172 + 44032)) = true := by
    rw [beq_iff_eq, Bool.eq_iff_iff, beq_iff_eq, beq_iff_eq]
    constructor
    · intro h; rw [sylP_inj (by omega) (by omega) h]
    · intro h; rw [show p % 11172 = q % 11172 by omega]
  have tailm := fun (sl : List (Nat × Option AV)) (tp : List (Nat × TypeId)) (nx : Nat) (tt : Option Nat) => syl_mid p hp r hr (sl := sl) (tp := tp) (nx := nx) (tt := tt)
  generalize hs : p % 11172 = s at *
  have k1 : 0 ≤ s := by omega
  have k2 : s < 11172 := by omega
  simp only [a9, astart, argSlots, c1, d1, d1', w1, w1', w3, w3', w4, w4', go_sem, Nat.reduceAdd, Nat.reduceEqDiff, Nat.reduceLT, reduceIte, reduceCtorEq, Nat.reduceBEq, Int.reduceLT, Int.reduceToNat, Int.reducePow, Nat.reduceLeDiff, Int.reduceLE, Nat.reduceMul, Nat.reduceSub]
  refine callGo_pure y1 (by rfl) ?_
  simp only [go_sem, Nat.reduceAdd, Nat.reduceEqDiff, Nat.reduceLT, reduceIte, reduceCtorEq, Nat.reduceBEq, Int.reduceLT, Int.reduceToNat, Int.reducePow, Nat.reduceLeDiff, Int.reduceLE, Nat.reduceMul, Nat.reduceSub]
  refine callGo_pure y2 (by rfl) ?_
  by_cases g : s % 28 = 0
  · have hl : sylP s = [4352 + s / 588, 4449 + s / 28 % 21] := by unfold sylP; rw [if_pos g]
    have e4 : (s % 28 == 0) = true := by simp [g]
    have hj : joinP T (4352 + s / 588) (4449 + s / 28 % 21) = some (s + 44032) := by
      unfold joinP
      rw [if_pos (by omega)]
      congr 1; omega
    have j1 := Join_pure (a := 4352 + s / 588) (b := 4449 + s / 28 % 21) (by omega) (by omega)
    rw [hj] at j1
    have f1 : decide ((2 : Int) < 2) = false := rfl
    have f2 : decide ((2 : Int) > 3) = false := rfl
    have f3 : ((2 : Int) == 2) = true := rfl
    have f4 : ((2 : Int) == 3) = false := rfl
    have f5 : ((2 : Nat) : Int) = 2 := rfl
    rw [hl] at e3 hsl tailm ⊢
    simp only [rS, runes, Int.natCast_one, f5, f1, f2, go_sem, Nat.reduceAdd, Nat.reduceEqDiff, Nat.reduceLT, reduceIte, reduceCtorEq, Nat.reduceBEq, Int.reduceLT, Int.reduceToNat, Int.reducePow, Nat.reduceLeDiff, Int.reduceLE, Nat.reduceMul, Nat.reduceSub]
    refine callGo_pure (Same_pure [4352 + s / 588, 4449 + s / 28 % 21] (sylP (q % 11172)) (by simp)) (by rfl) ?_
    simp only [e3, e4, f3, f5, c1, c2, d1, d2, w1, w2, beq_self_eq_true, Bool.not_true, go_sem, Nat.reduceAdd, Nat.reduceEqDiff, Nat.reduceLT, reduceIte, reduceCtorEq, Nat.reduceBEq, Int.reduceLT, Int.reduceToNat, Int.reducePow, Nat.reduceLeDiff, Int.reduceLE, Nat.reduceMul, Nat.reduceSub]
    refine dcallGo_pure j1 (by rfl) (by rfl) ?_
    simp only [joinE, f4, f5, go_sem, Nat.reduceAdd, Nat.reduceEqDiff, Nat.reduceLT, reduceIte, reduceCtorEq, Nat.reduceBEq, Int.reduceLT, Int.reduceToNat, Int.reducePow, Nat.reduceLeDiff, Int.reduceLE, Nat.reduceMul, Nat.reduceSub]
    exact tailm _ _ _ _ (by simp only [go_sem, Nat.reduceAdd, Nat.reduceEqDiff, Nat.reduceLT, reduceIte, reduceCtorEq, Nat.reduceBEq, Int.reduceLT, Int.reduceToNat, Int.reducePow, Nat.reduceLeDiff, Int.reduceLE, Nat.reduceMul, Nat.reduceSub]) (by simp only [go_sem, Nat.reduceAdd, Nat.reduceEqDiff, Nat.reduceLT, reduceIte, reduceCtorEq, Nat.reduceBEq, Int.reduceLT, Int.reduceToNat, Int.reducePow, Nat.reduceLeDiff, Int.reduceLE, Nat.reduceMul, Nat.reduceSub]) (by simp only [go_sem, Nat.reduceAdd, Nat.reduceEqDiff, Nat.reduceLT, reduceIte, reduceCtorEq, Nat.reduceBEq, Int.reduceLT, Int.reduceToNat, Int.reducePow, Nat.reduceLeDiff, Int.reduceLE, Nat.reduceMul, Nat.reduceSub]) (by simp only [go_sem, Nat.reduceAdd, Nat.reduceEqDiff, Nat.reduceLT, reduceIte, reduceCtorEq, Nat.reduceBEq, Int.reduceLT, Int.reduceToNat, Int.reducePow, Nat.reduceLeDiff, Int.reduceLE, Nat.reduceMul, Nat.reduceSub]; rfl) (by simp only [go_sem, Nat.reduceAdd, Nat.reduceEqDiff, Nat.reduceLT, reduceIte, reduceCtorEq, Nat.reduceBEq, Int.reduceLT, Int.reduceToNat, Int.reducePow, Nat.reduceLeDiff, Int.reduceLE, Nat.reduceMul, Nat.reduceSub]) (by simp only [go_sem, Nat.reduceAdd, Nat.reduceEqDiff, Nat.reduceLT, reduceIte, reduceCtorEq, Nat.reduceBEq, Int.reduceLT, Int.reduceToNat, Int.reducePow, Nat.reduceLeDiff, Int.reduceLE, Nat.reduceMul, Nat.reduceSub])
  · have hl : sylP s = [4352 + s / 588, 4449 + s / 28 % 21, 4519 + s % 28] := by unfold sylP; rw [if_neg g]
    have e4 : (s % 28 == 0) = false := by simp [g]
    have hj : joinP T (4352 + s / 588) (4449 + s / 28 % 21) = some (s - s % 28 + 44032) := by
      unfold joinP
      rw [if_pos (by omega)]
      congr 1; omega
    have hj2 : joinP T (s - s % 28 + 44032) (4519 + s % 28) = some (s + 44032) := by
      unfold joinP
      rw [if_neg (by omega), if_pos (by omega)]
      congr 1; omega
    have j1 := Join_pure (a := 4352 + s / 588) (b := 4449 + s / 28 % 21) (by omega) (by omega)
    rw [hj] at j1
    have j2 := Join_pure (a := s - s % 28 + 44032) (b := 4519 + s % 28) (by omega) (by omega)
    rw [hj2] at j2
    have f1 : decide ((3 : Int) < 2) = false := rfl
    have f2 : decide ((3 : Int) > 3) = false := rfl
    have f3 : ((3 : Int) == 2) = false := rfl
    have f4 : ((3 : Int) == 3) = true := rfl
    have f5 : ((3 : Nat) : Int) = 3 := rfl
    rw [hl] at e3 hsl tailm ⊢
    simp only [rS, runes, Int.natCast_one, f5, f1, f2, go_sem, Nat.reduceAdd, Nat.reduceEqDiff, Nat.reduceLT, reduceIte, reduceCtorEq, Nat.reduceBEq, Int.reduceLT, Int.reduceToNat, Int.reducePow, Nat.reduceLeDiff, Int.reduceLE, Nat.reduceMul, Nat.reduceSub]
    refine callGo_pure (Same_pure [4352 + s / 588, 4449 + s / 28 % 21, 4519 + s % 28] (sylP (q % 11172)) (by simp)) (by rfl) ?_
    simp only [e3, e4, f3, f5, c1, c2, d1, d2, w1, w2, beq_self_eq_true, Bool.not_true, go_sem, Nat.reduceAdd, Nat.reduceEqDiff, Nat.reduceLT, reduceIte, reduceCtorEq, Nat.reduceBEq, Int.reduceLT, Int.reduceToNat, Int.reducePow, Nat.reduceLeDiff, Int.reduceLE, Nat.reduceMul, Nat.reduceSub]
    refine dcallGo_pure j1 (by rfl) (by rfl) ?_
    simp only [joinE, f4, f5, go_sem, Nat.reduceAdd, Nat.reduceEqDiff, Nat.reduceLT, reduceIte, reduceCtorEq, Nat.reduceBEq, Int.reduceLT, Int.reduceToNat, Int.reducePow, Nat.reduceLeDiff, Int.reduceLE, Nat.reduceMul, Nat.reduceSub]
    refine callGo_pure j2 (by rfl) ?_
    simp only [joinE, go_sem, Nat.reduceAdd, Nat.reduceEqDiff, Nat.reduceLT, reduceIte, reduceCtorEq, Nat.reduceBEq, Int.reduceLT, Int.reduceToNat, Int.reducePow, Nat.reduceLeDiff, Int.reduceLE, Nat.reduceMul, Nat.reduceSub]
    exact tailm _ _ _ _ (by simp only [go_sem, Nat.reduceAdd, Nat.reduceEqDiff, Nat.reduceLT, reduceIte, reduceCtorEq, Nat.reduceBEq, Int.reduceLT, Int.reduceToNat, Int.reducePow, Nat.reduceLeDiff, Int.reduceLE, Nat.reduceMul, Nat.reduceSub]) (by simp only [go_sem, Nat.reduceAdd, Nat.reduceEqDiff, Nat.reduceLT, reduceIte, reduceCtorEq, Nat.reduceBEq, Int.reduceLT, Int.reduceToNat, Int.reducePow, Nat.reduceLeDiff, Int.reduceLE, Nat.reduceMul, Nat.reduceSub]) (by simp only [go_sem, Nat.reduceAdd, Nat.reduceEqDiff, Nat.reduceLT, reduceIte, reduceCtorEq, Nat.reduceBEq, Int.reduceLT, Int.reduceToNat, Int.reducePow, Nat.reduceLeDiff, Int.reduceLE, Nat.reduceMul, Nat.reduceSub]) (by simp only [go_sem, Nat.reduceAdd, Nat.reduceEqDiff, Nat.reduceLT, reduceIte, reduceCtorEq, Nat.reduceBEq, Int.reduceLT, Int.reduceToNat, Int.reducePow, Nat.reduceLeDiff, Int.reduceLE, Nat.reduceMul, Nat.reduceSub]; rfl) (by simp only [go_sem, Nat.reduceAdd, Nat.reduceEqDiff, Nat.reduceLT, reduceIte, reduceCtorEq, Nat.reduceBEq, Int.reduceLT, Int.reduceToNat, Int.reducePow, Nat.reduceLeDiff, Int.reduceLE, Nat.reduceMul, Nat.reduceSub]) (by simp only [go_sem, Nat.reduceAdd, Nat.reduceEqDiff, Nat.reduceLT, reduceIte, reduceCtorEq, Nat.reduceBEq, Int.reduceLT, Int.reduceToNat, Int.reducePow, Nat.reduceLeDiff, Int.reduceLE, Nat.reduceMul, Nat.reduceSub])

theorem normSyllables_any (avs : List AV) (h : Args Try.prog Try.f9.params.toList avs) : Pure Try.prog 9 avs [] (.lit (.bool true)) := by
  have hp : Try.f9.params.toList = [33, 33, 21] := by kernel_rfl
  rw [hp] at h
  obtain ⟨av0, rest0, rfl, a0, h0⟩ := h
  obtain ⟨av1, rest1, rfl, a1, h1⟩ := h0
  obtain ⟨av2, rest2, rfl, a2, rfl⟩ := h1
  obtain ⟨z0, rfl, w0⟩ := arg_int (k := .u16) (by kernel_rfl) a0
  obtain ⟨z1, rfl, w1⟩ := arg_int (k := .u16) (by kernel_rfl) a1
  obtain ⟨z2, rfl, w2⟩ := arg_int (k := .i32) (by kernel_rfl) a2
  exact normSyllables_pure z0 (by simpa [Lit.wf, IntKind.min, IntKind.max, IntKind.signed, IntKind.bits] using w0) z1 (by simpa [Lit.wf, IntKind.min, IntKind.max, IntKind.signed, IntKind.bits] using w1) z2 (by simpa [Lit.wf, IntKind.min, IntKind.max, IntKind.signed, IntKind.bits] using w2)

set_option maxRecDepth 100000 in
theorem normSyllables_lifted (os : Os) (started : os.Started) (H : Type) (enc : TypeId × Value → H) :
    ReturnsInHanded {} Try.checked os 9 .any (Rows.normSyllablesSpec.pre6 enc Try.prog Try.f9 Rows.normSyllablesRow.domain false) (Rows.normSyllablesSpec.post enc Try.prog Try.f9 false true false false) := by
  refine law_returns (C := Try.checked) (tb := 4) (by kernel_rfl) started (by kernel_rfl) Try.func9
    (ChangeSpec.witness6 (enc := enc) (C := Try.checked) false ⟨#[], #[.int .u16 0, .int .u16 0, .int .i32 0], []⟩ 8 (by kernel_rfl) (by kernel_rfl) (by kernel_rfl) (by kernel_rfl))
    (by kernel_rfl) (by kernel_rfl) rfl rfl (by kernel_rfl) (by kernel_rfl) ?_ normSyllables_any
  intro ds hds
  have hp : Try.f9.params.toList = [33, 33, 21] := by kernel_rfl
  rw [hp] at hds
  match ds, hds with
  | [d0, d1, d2], _ => exact ⟨rfl, rfl, rfl⟩

theorem normSyllables_holds : Rows.NormSyllablesSaid :=
  OpenClaim.holds_of_wide 9 Try.f9 rfl rfl rfl rfl rfl rfl rfl ⟨rfl, rfl, rfl, rfl, rfl⟩ rfl rfl rfl rfl rfl (by kernel_rfl) Try.func9 (by kernel_rfl)
    (of_decide_eq_true (by kernel_rfl)) (by unfold Func.isWrapper; first | (rw [if_pos (by decide +kernel)]; kernel_rfl) | (rw [if_neg (by decide +kernel)]; exact ⟨rfl, rfl⟩))
    (fun os started H enc _ => normSyllables_lifted os started H enc)
end Go.Proofs.Ytmhpjoadfgplgaa
