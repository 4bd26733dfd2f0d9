/-
THE STATEMENT NormTells. What code points are taken apart, and put together, what two make, and whether a row is put together, is as the document says. Conditions: none.
-/
import Derived.Test.YtmhpjoadfgplgaaNrmG
import Derived.Test.YtmhpjoadfgplgaaRows
set_option linter.unusedSimpArgs false
set_option linter.unusedVariables false
set_option linter.unusedSectionVars false
namespace Go.Proofs.Ytmhpjoadfgplgaa
open Go Go.Ab
def a11 : ACode :=
  (.seq (.reg [⟨(.some 6), (.mv (.k (.bool false))), .none⟩]) (.seq (.seq (.reg [⟨(.some 13), (.mv (.t 0)), .none⟩, ⟨(.some 14), (.len (.t 13)), .none⟩, ⟨(.some 15), (.bin .gtr (.t 14) (.k (.int .i64
  200))), .none⟩]) (.cond (.t 15) (.seq (.reg [⟨(.some 16), (.call (.f 24) []), .none⟩, ⟨(.some 6), (.mv (.t 16)), .none⟩]) .ret) .skip)) (.seq (.reg [⟨(.some 18), (.mv (.t 1)), .none⟩, ⟨(.some 19),
  (.mv (.t 2)), .none⟩, ⟨(.some 20), (.call (.f 29) [(.t 18), (.t 19)]), .none⟩, ⟨(.some 17), (.mv (.t 20)), .none⟩, ⟨(.some 21), (.ext (.t 17) 0), .none⟩, ⟨(.some 22), (.ext (.t 17) 1), .none⟩, ⟨(.some
  7), (.mv (.t 21)), .none⟩, ⟨(.some 8), (.mv (.t 22)), .none⟩]) (.seq (.reg [⟨(.some 24), (.mv (.t 1)), .none⟩, ⟨(.some 25), (.mv (.t 2)), .none⟩, ⟨(.some 26), (.call (.f 30) [(.t 24), (.t 25)]),
  .none⟩, ⟨(.some 23), (.mv (.t 26)), .none⟩, ⟨(.some 27), (.ext (.t 23) 0), .none⟩, ⟨(.some 28), (.ext (.t 23) 1), .none⟩, ⟨(.some 9), (.mv (.t 27)), .none⟩, ⟨(.some 10), (.mv (.t 28)), .none⟩]) (.seq
  (.reg [⟨(.some 11), (.mv (.f 19)), .none⟩]) (.seq (.seq (.reg [⟨(.some 29), (.mv (.t 7)), .none⟩, ⟨(.some 30), (.mv (.t 9)), .none⟩, ⟨(.some 31), (.bin .neq (.t 29) (.t 30)), .none⟩, ⟨(.some 32), (.mv
  (.t 31)), .none⟩, ⟨(.some 33), (.mv (.t 8)), (.some (32, false))⟩, ⟨(.some 34), (.mv (.t 10)), (.some (32, false))⟩, ⟨(.some 35), (.eqB true (.t 33) (.t 34)), (.some (32, false))⟩, ⟨(.some 36), (.pick
  (.t 32) (.k (.bool true)) (.t 35)), .none⟩, ⟨(.some 37), (.mv (.t 36)), .none⟩, ⟨(.some 38), (.mv (.t 11)), (.some (37, false))⟩, ⟨(.some 39), (.mv (.t 1)), (.some (37, false))⟩, ⟨(.some 40), (.call
  (.f 26) [(.t 39)]), (.some (37, false))⟩, ⟨(.some 41), (.mv (.t 1)), (.some (37, false))⟩, ⟨(.some 42), (.call (.f 31) [(.t 41)]), (.some (37, false))⟩, ⟨(.some 43), (.call (.t 38) [(.t 40), (.t
  42)]), (.some (37, false))⟩, ⟨(.some 44), (.not (.t 43)), (.some (37, false))⟩, ⟨(.some 45), (.pick (.t 37) (.k (.bool true)) (.t 44)), .none⟩, ⟨(.some 46), (.mv (.t 45)), .none⟩, ⟨(.some 47), (.mv
  (.t 11)), (.some (46, false))⟩, ⟨(.some 48), (.mv (.t 0)), (.some (46, false))⟩, ⟨(.some 49), (.call (.f 25) [(.t 48)]), (.some (46, false))⟩, ⟨(.some 50), (.mv (.t 0)), (.some (46, false))⟩, ⟨(.some
  51), (.call (.f 32) [(.t 50)]), (.some (46, false))⟩, ⟨(.some 52), (.call (.t 47) [(.t 49), (.t 51)]), (.some (46, false))⟩, ⟨(.some 53), (.not (.t 52)), (.some (46, false))⟩, ⟨(.some 54), (.pick (.t
  46) (.k (.bool true)) (.t 53)), .none⟩]) (.cond (.t 54) (.seq (.reg [⟨(.some 6), (.mv (.k (.bool false))), .none⟩]) .ret) .skip)) (.seq (.reg [⟨(.some 55), (.mv (.t 0)), .none⟩, ⟨(.some 56), (.call
  (.f 33) [(.t 55)]), .none⟩, ⟨(.some 12), (.mv (.t 56)), .none⟩]) (.seq (.reg [⟨(.some 57), (.mv (.t 11)), .none⟩, ⟨(.some 58), (.mv (.t 0)), .none⟩, ⟨(.some 59), (.call (.f 28) [(.t 58)]), .none⟩,
  ⟨(.some 60), (.mv (.t 12)), .none⟩, ⟨(.some 61), (.call (.t 57) [(.t 59), (.t 60)]), .none⟩, ⟨(.some 62), (.mv (.t 61)), .none⟩, ⟨(.some 63), (.mv (.t 0)), (.some (62, true))⟩, ⟨(.some 64), (.call (.f
  34) [(.t 63)]), (.some (62, true))⟩, ⟨(.some 65), (.mv (.t 11)), (.some (62, true))⟩, ⟨(.some 66), (.mv (.t 0)), (.some (62, true))⟩, ⟨(.some 67), (.mv (.t 12)), (.some (62, true))⟩, ⟨(.some 68),
  (.call (.t 65) [(.t 66), (.t 67)]), (.some (62, true))⟩, ⟨(.some 69), (.eqB false (.t 64) (.t 68)), (.some (62, true))⟩, ⟨(.some 70), (.pick (.t 62) (.t 69) (.k (.bool false))), .none⟩, ⟨(.some 71),
  (.mv (.t 70)), .none⟩, ⟨(.some 72), (.call (.f 24) []), (.some (71, true))⟩, ⟨(.some 73), (.pick (.t 71) (.t 72) (.k (.bool false))), .none⟩, ⟨(.some 6), (.mv (.t 73)), .none⟩]) .ret))))))))
theorem c11 : Try.f11.body.bind (cCode Try.prog 74) = some a11 := by kernel_rfl
theorem r11 : Try.f11.results.toList = [(.tmp 6)] := by kernel_rfl
theorem n11 : Try.f11.ntmps = 74 := by kernel_rfl
theorem e11 : Enters Try.prog 11 := enters_of Try.func11 (by kernel_rfl) (by kernel_rfl)

theorem joinE_fst (o : Option Int) : ∃ v : Int, ∃ b : Bool, joinE o = .tu [.lit (.int .i32 v), .lit (.bool b)] := by
  cases o with
  | none => exact ⟨0, false, rfl⟩
  | some r => exact ⟨r, true, rfl⟩

set_option maxRecDepth 10000 in
set_option maxHeartbeats 1000000 in
theorem normTells_pure (l : List Int) (hl : Runes l) (a : Int) (ha : -2147483648 ≤ a ∧ a ≤ 2147483647) (b : Int) (hb : -2147483648 ≤ b ∧ b ≤ 2147483647) :
    Pure Try.prog 11 [rS l none, .lit (.int .i32 a), .lit (.int .i32 b)] [] (.lit (.bool true)) := by
  refine pure0 Try.func11 c11 n11 e11 r11 (by simp) rfl ?_
  have h32 := hl.2
  simp only [a11, astart, argSlots, runes_length, go_sem, Nat.reduceAdd, Nat.reduceEqDiff, Nat.reduceLT, reduceIte, reduceCtorEq, Nat.reduceBEq, Int.reduceLT, Int.reduceToNat, Int.reducePow, Nat.reduceLeDiff, Int.reduceLE, Nat.reduceMul, Nat.reduceSub]
  refine cGo_split (fun h => ?_) (fun h => ?_)
  · simp only [go_sem, Nat.reduceAdd, Nat.reduceEqDiff, Nat.reduceLT, reduceIte, reduceCtorEq, Nat.reduceBEq, Int.reduceLT, Int.reduceToNat, Int.reducePow, Nat.reduceLeDiff, Int.reduceLE, Nat.reduceMul, Nat.reduceSub]
    refine callGo_pure awake_pure (by rfl) ?_
    simp only [go_sem, Nat.reduceAdd, Nat.reduceEqDiff, Nat.reduceLT, reduceIte, reduceCtorEq, Nat.reduceBEq, Int.reduceLT, Int.reduceToNat, Int.reducePow, Nat.reduceLeDiff, Int.reduceLE, Nat.reduceMul, Nat.reduceSub]
    simp only [Done, resAV, resL, resOne, look_nil, look_cons, Nat.reduceEqDiff, if_true, if_false, reduceIte, ite_true, ite_false, Nat.zero_ne_one, Nat.one_ne_zero, reduceCtorEq, true_or, or_true, true_and, Option.some.injEq, AV.lit.injEq, Value.int.injEq, Value.bool.injEq]
  · simp only [decide_eq_false_iff_not] at h
    have hl2 : l.length ≤ 1000 := by omega
    have n1 := nfd_len l
    have n2 := nfc_length (T := T) (cc := cls) l
    have s1 := splitP_len a
    obtain ⟨v, bb, hj⟩ := joinE_fst (joinP T a b)
    have j1 := Join_pure ha hb
    have j2 := refJoin_pure ha hb
    rw [hj] at j1 j2
    have e1 : (v != v) = false := by simp
    have e2 : (bb != bb) = false := by simp
    have e3 : ((nfcP T cls l == l) == (l == nfcP T cls l)) = true := by
      rw [beq_iff_eq, Bool.eq_iff_iff, beq_iff_eq, beq_iff_eq]; exact eq_comm
    simp only [go_sem, Nat.reduceAdd, Nat.reduceEqDiff, Nat.reduceLT, reduceIte, reduceCtorEq, Nat.reduceBEq, Int.reduceLT, Int.reduceToNat, Int.reducePow, Nat.reduceLeDiff, Int.reduceLE, Nat.reduceMul, Nat.reduceSub]
    refine callGo_pure j1 (by rfl) ?_
    simp only [go_sem, Nat.reduceAdd, Nat.reduceEqDiff, Nat.reduceLT, reduceIte, reduceCtorEq, Nat.reduceBEq, Int.reduceLT, Int.reduceToNat, Int.reducePow, Nat.reduceLeDiff, Int.reduceLE, Nat.reduceMul, Nat.reduceSub]
    refine callGo_pure j2 (by rfl) ?_
    simp only [e1, e2, beq_self_eq_true, Bool.not_true, go_sem, Nat.reduceAdd, Nat.reduceEqDiff, Nat.reduceLT, reduceIte, reduceCtorEq, Nat.reduceBEq, Int.reduceLT, Int.reduceToNat, Int.reducePow, Nat.reduceLeDiff, Int.reduceLE, Nat.reduceMul, Nat.reduceSub]
    refine callGo_pure (Split_pure a ha) (by rfl) ?_
    simp only [go_sem, Nat.reduceAdd, Nat.reduceEqDiff, Nat.reduceLT, reduceIte, reduceCtorEq, Nat.reduceBEq, Int.reduceLT, Int.reduceToNat, Int.reducePow, Nat.reduceLeDiff, Int.reduceLE, Nat.reduceMul, Nat.reduceSub]
    refine callGo_pure (refSplit_pure a ha) (by rfl) ?_
    simp only [go_sem, Nat.reduceAdd, Nat.reduceEqDiff, Nat.reduceLT, reduceIte, reduceCtorEq, Nat.reduceBEq, Int.reduceLT, Int.reduceToNat, Int.reducePow, Nat.reduceLeDiff, Int.reduceLE, Nat.reduceMul, Nat.reduceSub]
    refine callGo_pure (Same_pure (splitP T a) (splitP T a) (by omega)) (by rfl) ?_
    simp only [beq_self_eq_true, Bool.not_true, go_sem, Nat.reduceAdd, Nat.reduceEqDiff, Nat.reduceLT, reduceIte, reduceCtorEq, Nat.reduceBEq, Int.reduceLT, Int.reduceToNat, Int.reducePow, Nat.reduceLeDiff, Int.reduceLE, Nat.reduceMul, Nat.reduceSub]
    refine callGo_pure (NFD_pure l hl2 h32) (by rfl) ?_
    simp only [go_sem, Nat.reduceAdd, Nat.reduceEqDiff, Nat.reduceLT, reduceIte, reduceCtorEq, Nat.reduceBEq, Int.reduceLT, Int.reduceToNat, Int.reducePow, Nat.reduceLeDiff, Int.reduceLE, Nat.reduceMul, Nat.reduceSub]
    refine callGo_pure (refNFD_pure l hl2 h32) (by rfl) ?_
    simp only [go_sem, Nat.reduceAdd, Nat.reduceEqDiff, Nat.reduceLT, reduceIte, reduceCtorEq, Nat.reduceBEq, Int.reduceLT, Int.reduceToNat, Int.reducePow, Nat.reduceLeDiff, Int.reduceLE, Nat.reduceMul, Nat.reduceSub]
    refine callGo_pure (Same_pure (nfdP T cls l) (nfdP T cls l) (by omega)) (by rfl) ?_
    simp only [beq_self_eq_true, Bool.not_true, go_sem, Nat.reduceAdd, Nat.reduceEqDiff, Nat.reduceLT, reduceIte, reduceCtorEq, Nat.reduceBEq, Int.reduceLT, Int.reduceToNat, Int.reducePow, Nat.reduceLeDiff, Int.reduceLE, Nat.reduceMul, Nat.reduceSub]
    refine callGo_pure (refNFC_pure l hl2 h32) (by rfl) ?_
    simp only [go_sem, Nat.reduceAdd, Nat.reduceEqDiff, Nat.reduceLT, reduceIte, reduceCtorEq, Nat.reduceBEq, Int.reduceLT, Int.reduceToNat, Int.reducePow, Nat.reduceLeDiff, Int.reduceLE, Nat.reduceMul, Nat.reduceSub]
    refine callGo_pure (NFC_pure l hl2 h32) (by rfl) ?_
    simp only [go_sem, Nat.reduceAdd, Nat.reduceEqDiff, Nat.reduceLT, reduceIte, reduceCtorEq, Nat.reduceBEq, Int.reduceLT, Int.reduceToNat, Int.reducePow, Nat.reduceLeDiff, Int.reduceLE, Nat.reduceMul, Nat.reduceSub]
    refine callGo_pure (Same_pure (nfcP T cls l) (nfcP T cls l) (by omega)) (by rfl) ?_
    simp only [beq_self_eq_true, go_sem, Nat.reduceAdd, Nat.reduceEqDiff, Nat.reduceLT, reduceIte, reduceCtorEq, Nat.reduceBEq, Int.reduceLT, Int.reduceToNat, Int.reducePow, Nat.reduceLeDiff, Int.reduceLE, Nat.reduceMul, Nat.reduceSub]
    refine callGo_pure (Is_pure l hl2 h32) (by rfl) ?_
    simp only [go_sem, Nat.reduceAdd, Nat.reduceEqDiff, Nat.reduceLT, reduceIte, reduceCtorEq, Nat.reduceBEq, Int.reduceLT, Int.reduceToNat, Int.reducePow, Nat.reduceLeDiff, Int.reduceLE, Nat.reduceMul, Nat.reduceSub]
    refine callGo_pure (Same_pure l (nfcP T cls l) (by omega)) (by rfl) ?_
    simp only [e3, go_sem, Nat.reduceAdd, Nat.reduceEqDiff, Nat.reduceLT, reduceIte, reduceCtorEq, Nat.reduceBEq, Int.reduceLT, Int.reduceToNat, Int.reducePow, Nat.reduceLeDiff, Int.reduceLE, Nat.reduceMul, Nat.reduceSub]
    refine callGo_pure awake_pure (by rfl) ?_
    simp only [go_sem, Nat.reduceAdd, Nat.reduceEqDiff, Nat.reduceLT, reduceIte, reduceCtorEq, Nat.reduceBEq, Int.reduceLT, Int.reduceToNat, Int.reducePow, Nat.reduceLeDiff, Int.reduceLE, Nat.reduceMul, Nat.reduceSub]
    simp only [Done, resAV, resL, resOne, look_nil, look_cons, Nat.reduceEqDiff, if_true, if_false, reduceIte, ite_true, ite_false, Nat.zero_ne_one, Nat.one_ne_zero, reduceCtorEq, true_or, or_true, true_and, Option.some.injEq, AV.lit.injEq, Value.int.injEq, Value.bool.injEq]

theorem normTells_any (avs : List AV) (h : Args Try.prog Try.f11.params.toList avs) : Pure Try.prog 11 avs [] (.lit (.bool true)) := by
  have hp : Try.f11.params.toList = [22, 21, 21] := by kernel_rfl
  rw [hp] at h
  obtain ⟨av0, rest0, rfl, a0, h0⟩ := h
  obtain ⟨av1, rest1, rfl, a1, h1⟩ := h0
  obtain ⟨av2, rest2, rfl, a2, rfl⟩ := h1
  obtain ⟨z0, rfl, w0, s0⟩ := arg_ints (e := 21) (k := .i32) (by kernel_rfl) (by kernel_rfl) a0
  rw [show Try.prog.bytesOf 21 = 4 from by kernel_rfl] at s0
  obtain ⟨z1, rfl, w1⟩ := arg_int (k := .i32) (by kernel_rfl) a1
  obtain ⟨z2, rfl, w2⟩ := arg_int (k := .i32) (by kernel_rfl) a2
  exact normTells_pure z0 ⟨by omega, fun n hn => by simpa [Lit.wf, IntKind.min, IntKind.max, IntKind.signed, IntKind.bits] using w0 n hn⟩ z1 (by simpa [Lit.wf, IntKind.min, IntKind.max, IntKind.signed, IntKind.bits] using w1) z2 (by simpa [Lit.wf, IntKind.min, IntKind.max, IntKind.signed, IntKind.bits] using w2)

set_option maxRecDepth 100000 in
theorem normTells_lifted (os : Os) (started : os.Started) (H : Type) (enc : TypeId × Value → H) :
    ReturnsInHanded {} Try.checked os 11 .any (Rows.normTellsSpec.pre6 enc Try.prog Try.f11 Rows.normTellsRow.domain false) (Rows.normTellsSpec.post enc Try.prog Try.f11 false true false false) := by
  refine law_returns (C := Try.checked) (tb := 4) (by kernel_rfl) started (by kernel_rfl) Try.func11
    (ChangeSpec.witness6 (enc := enc) (C := Try.checked) false ⟨#[], #[.slice none 0 0, .int .i32 0, .int .i32 0], []⟩ 8 (by kernel_rfl) (by kernel_rfl) (by kernel_rfl) (by kernel_rfl))
    (by kernel_rfl) (by kernel_rfl) rfl rfl (by kernel_rfl) (by kernel_rfl) ?_ normTells_any
  intro ds hds
  have hp : Try.f11.params.toList = [22, 21, 21] := by kernel_rfl
  rw [hp] at hds
  match ds, hds with
  | [d0, d1, d2], _ => exact ⟨rfl, rfl, rfl⟩

theorem normTells_holds : Rows.NormTellsSaid :=
  OpenClaim.holds_of_wide 11 Try.f11 rfl rfl rfl rfl rfl rfl rfl ⟨rfl, rfl, rfl, rfl, rfl⟩ rfl rfl rfl rfl rfl (by kernel_rfl) Try.func11 (by kernel_rfl)
    (of_decide_eq_true (by kernel_rfl)) (by unfold Func.isWrapper; first | (rw [if_pos (by decide +kernel)]; kernel_rfl) | (rw [if_neg (by decide +kernel)]; exact ⟨rfl, rfl⟩))
    (fun os started H enc _ => normTells_lifted os started H enc)
end Go.Proofs.Ytmhpjoadfgplgaa
