/-
Whether a label is bidi, and which clause it fails, is as the document has it; the examples hold: so the law answers true, whatever it is handed. Conditions: none.
-/
import Derived.Test.YtocaeclhmkojiaaRul2
import Derived.Test.YtocaeclhmkojiaaRows
set_option linter.unusedSimpArgs false
set_option linter.unusedVariables false
set_option linter.unusedSectionVars false
namespace Go.Proofs.Ytocaeclhmkojiaa
open Go Go.Ab Go.ChangeShapes Go.WideShapes Go.ChangeAt Go.RowKit
def a54 : ACode :=
  (.seq (.reg [⟨(.some 4), (.mv (.k (.bool false))), .none⟩]) (.seq (.reg [⟨(.some 5), (.mv (.t 1)), .none⟩, ⟨(.some 6), (.call (.f 19) [(.t 5)]), .none⟩, ⟨(.some 7), (.mv (.t 0)), .none⟩, ⟨(.some 8),
  (.bin .eql (.t 6) (.t 7)), .none⟩, ⟨(.some 4), (.mv (.t 8)), .none⟩]) .ret))
theorem c54 : Try.f54.body.bind (cCode Try.prog 9) = some a54 := by kernel_rfl
theorem r54 : Try.f54.results.toList = [(.tmp 4)] := by kernel_rfl
theorem n54 : Try.f54.ntmps = 9 := by kernel_rfl
theorem e54 : Enters Try.prog 54 := enters_of Try.func54 (by kernel_rfl) (by kernel_rfl)
def a21 : ACode :=
  (.seq (.reg [⟨(.some 0), (.mv (.k (.bool false))), .none⟩]) (.seq (.reg [⟨(.some 1), (.bs 21 1 [(.k (.int .i32 1488)), (.k (.int .i32 49))]), .none⟩, ⟨(.some 2), (.call (.f 54) [(.k (.int .u8 0)), (.t
  1)]), .none⟩, ⟨(.some 3), (.mv (.t 2)), .none⟩, ⟨(.some 4), (.bs 21 1 [(.k (.int .i32 1488)), (.k (.int .i32 97))]), (.some (3, true))⟩, ⟨(.some 5), (.call (.f 54) [(.k (.int .u8 10)), (.t 4)]),
  (.some (3, true))⟩, ⟨(.some 6), (.pick (.t 3) (.t 5) (.k (.bool false))), .none⟩, ⟨(.some 7), (.mv (.t 6)), .none⟩, ⟨(.some 8), (.bs 21 1 [(.k (.int .i32 1488)), (.k (.int .i32 45))]), (.some (7,
  true))⟩, ⟨(.some 9), (.call (.f 54) [(.k (.int .u8 11)), (.t 8)]), (.some (7, true))⟩, ⟨(.some 10), (.pick (.t 7) (.t 9) (.k (.bool false))), .none⟩, ⟨(.some 11), (.mv (.t 10)), .none⟩, ⟨(.some 12),
  (.bs 21 1 [(.k (.int .i32 1575)), (.k (.int .i32 49)), (.k (.int .i32 1633))]), (.some (11, true))⟩, ⟨(.some 13), (.call (.f 54) [(.k (.int .u8 12)), (.t 12)]), (.some (11, true))⟩, ⟨(.some 14),
  (.pick (.t 11) (.t 13) (.k (.bool false))), .none⟩, ⟨(.some 15), (.mv (.t 14)), .none⟩, ⟨(.some 16), (.bs 21 1 [(.k (.int .i32 49)), (.k (.int .i32 1488))]), (.some (15, true))⟩, ⟨(.some 17), (.call
  (.f 54) [(.k (.int .u8 9)), (.t 16)]), (.some (15, true))⟩, ⟨(.some 18), (.pick (.t 15) (.t 17) (.k (.bool false))), .none⟩, ⟨(.some 19), (.mv (.t 18)), .none⟩, ⟨(.some 20), (.bs 21 1 [(.k (.int .i32
  97)), (.k (.int .i32 49))]), (.some (19, true))⟩, ⟨(.some 21), (.call (.f 54) [(.k (.int .u8 0)), (.t 20)]), (.some (19, true))⟩, ⟨(.some 22), (.pick (.t 19) (.t 21) (.k (.bool false))), .none⟩,
  ⟨(.some 23), (.mv (.t 22)), .none⟩, ⟨(.some 24), (.bs 21 1 [(.k (.int .i32 97)), (.k (.int .i32 45))]), (.some (23, true))⟩, ⟨(.some 25), (.call (.f 54) [(.k (.int .u8 11)), (.t 24)]), (.some (23,
  true))⟩, ⟨(.some 26), (.pick (.t 23) (.t 25) (.k (.bool false))), .none⟩, ⟨(.some 27), (.mv (.t 26)), .none⟩, ⟨(.some 28), (.bs 21 1 [(.k (.int .i32 97)), (.k (.int .i32 1488))]), (.some (27, true))⟩,
  ⟨(.some 29), (.call (.f 54) [(.k (.int .u8 10)), (.t 28)]), (.some (27, true))⟩, ⟨(.some 30), (.pick (.t 27) (.t 29) (.k (.bool false))), .none⟩, ⟨(.some 31), (.mv (.t 30)), .none⟩, ⟨(.some 32), (.bs
  21 1 [(.k (.int .i32 1488)), (.k (.int .i32 1463))]), (.some (31, true))⟩, ⟨(.some 33), (.call (.f 54) [(.k (.int .u8 0)), (.t 32)]), (.some (31, true))⟩, ⟨(.some 34), (.pick (.t 31) (.t 33) (.k
  (.bool false))), .none⟩, ⟨(.some 35), (.mv (.t 34)), .none⟩, ⟨(.some 36), (.bs 21 1 [(.k (.int .i32 1633))]), (.some (35, true))⟩, ⟨(.some 37), (.call (.f 17) [(.t 36)]), (.some (35, true))⟩, ⟨(.some
  38), (.pick (.t 35) (.t 37) (.k (.bool false))), .none⟩, ⟨(.some 39), (.mv (.t 38)), .none⟩, ⟨(.some 40), (.bs 21 1 [(.k (.int .i32 97)), (.k (.int .i32 49))]), (.some (39, true))⟩, ⟨(.some 41),
  (.call (.f 17) [(.t 40)]), (.some (39, true))⟩, ⟨(.some 42), (.not (.t 41)), (.some (39, true))⟩, ⟨(.some 43), (.pick (.t 39) (.t 42) (.k (.bool false))), .none⟩, ⟨(.some 0), (.mv (.t 43)), .none⟩])
  .ret))
theorem c21 : Try.f21.body.bind (cCode Try.prog 44) = some a21 := by kernel_rfl
theorem r21 : Try.f21.results.toList = [(.tmp 0)] := by kernel_rfl
theorem n21 : Try.f21.ntmps = 44 := by kernel_rfl
theorem e21 : Enters Try.prog 21 := enters_of Try.func21 (by kernel_rfl) (by kernel_rfl)
def a3 : ACode :=
  (.seq (.reg [⟨(.some 2), (.mv (.k (.bool false))), .none⟩]) (.seq (.reg [⟨(.some 3), (.mv (.t 0)), .none⟩, ⟨(.some 4), (.len (.t 3)), .none⟩, ⟨(.some 5), (.bin .gtr (.t 4) (.k (.int .i64 200))),
  .none⟩, ⟨(.some 6), (.mv (.t 5)), .none⟩, ⟨(.some 7), (.mv (.t 0)), (.some (6, false))⟩, ⟨(.some 8), (.call (.f 17) [(.t 7)]), (.some (6, false))⟩, ⟨(.some 9), (.mv (.t 0)), (.some (6, false))⟩,
  ⟨(.some 10), (.call (.f 18) [(.t 9)]), (.some (6, false))⟩, ⟨(.some 11), (.eqB false (.t 8) (.t 10)), (.some (6, false))⟩, ⟨(.some 12), (.mv (.t 11)), (.some (6, false))⟩, ⟨(.some 13), (.mv (.t 0)),
  (.some (12, true))⟩, ⟨(.some 14), (.call (.f 19) [(.t 13)]), (.some (12, true))⟩, ⟨(.some 15), (.mv (.t 0)), (.some (12, true))⟩, ⟨(.some 16), (.call (.f 20) [(.t 15)]), (.some (12, true))⟩, ⟨(.some
  17), (.bin .eql (.t 14) (.t 16)), (.some (12, true))⟩, ⟨(.some 18), (.pick (.t 12) (.t 17) (.k (.bool false))), (.some (6, false))⟩, ⟨(.some 19), (.mv (.t 18)), (.some (6, false))⟩, ⟨(.some 20),
  (.call (.f 21) []), (.some (19, true))⟩, ⟨(.some 21), (.pick (.t 19) (.t 20) (.k (.bool false))), (.some (6, false))⟩, ⟨(.some 22), (.pick (.t 6) (.k (.bool true)) (.t 21)), .none⟩, ⟨(.some 2), (.mv
  (.t 22)), .none⟩]) .ret))
theorem c3 : Try.f3.body.bind (cCode Try.prog 23) = some a3 := by kernel_rfl
theorem r3 : Try.f3.results.toList = [(.tmp 2)] := by kernel_rfl
theorem n3 : Try.f3.ntmps = 23 := by kernel_rfl
theorem e3 : Enters Try.prog 3 := enters_of Try.func3 (by kernel_rfl) (by kernel_rfl)

/-- A label that is handed in. -/
def Runes (l : List Int) : Prop := l.length ≤ 35184372088064 ∧ I32 l

theorem fls_pure (want : Int) (l : List Int) (b : Bool) (hl : l.length ≤ 4611686018427387904) (hb : (ruleOf l == want) = b) : Pure Try.prog 54 [.lit (.int .u8 want), .sl 21 (runes l) none] [] (.lit (.bool b)) := by
  refine pure0 Try.func54 c54 n54 e54 r54 (by simp) rfl ?_
  simp only [a54, astart, argSlots, go_sem, Nat.reduceAdd, Nat.reduceEqDiff, Nat.reduceLT, reduceIte, reduceCtorEq, Nat.reduceBEq, Int.reduceLT, Int.reduceToNat, Int.reducePow, Nat.reduceLeDiff, Int.reduceLE, Nat.reduceMul, Nat.reduceSub]
  refine callGo_pure (rule_pure l hl) (by rfl) ?_
  simp only [go_sem, Nat.reduceAdd, Nat.reduceEqDiff, Nat.reduceLT, reduceIte, reduceCtorEq, Nat.reduceBEq, Int.reduceLT, Int.reduceToNat, Int.reducePow, Nat.reduceLeDiff, Int.reduceLE, Nat.reduceMul, Nat.reduceSub, hb]
  simp only [Done, resAV, resL, resOne, look_nil, look_cons, Nat.reduceEqDiff, if_true, if_false, reduceIte, ite_true, ite_false, Nat.zero_ne_one, Nat.one_ne_zero, reduceCtorEq, true_or, or_true, true_and, Option.some.injEq, AV.lit.injEq, Value.int.injEq, Value.bool.injEq]

theorem bid_pure (l : List Int) (b : Bool) (hl : l.length ≤ 4611686018427387904) (hb : bidiOf l = b) : Pure Try.prog 17 [.sl 21 (runes l) none] [] (.lit (.bool b)) := by
  subst hb; exact bidi_pure l hl

set_option maxRecDepth 10000 in
theorem awake09_pure : Pure Try.prog 21 [] [] (.lit (.bool true)) := by
  refine pure0 Try.func21 c21 n21 e21 r21 (by simp) rfl ?_
  simp only [a21, astart, argSlots, go_sem, Nat.reduceAdd, Nat.reduceEqDiff, Nat.reduceLT, reduceIte, reduceCtorEq, Nat.reduceBEq, Int.reduceLT, Int.reduceToNat, Int.reducePow, Nat.reduceLeDiff, Int.reduceLE, Nat.reduceMul, Nat.reduceSub]
  refine callGo_pure (fls_pure 0 [1488, 49] true (by simp) (by rw [rule_same]; decide +kernel)) (by rfl) ?_
  simp only [go_sem, Nat.reduceAdd, Nat.reduceEqDiff, Nat.reduceLT, reduceIte, reduceCtorEq, Nat.reduceBEq, Int.reduceLT, Int.reduceToNat, Int.reducePow, Nat.reduceLeDiff, Int.reduceLE, Nat.reduceMul, Nat.reduceSub]
  refine callGo_pure (fls_pure 10 [1488, 97] true (by simp) (by rw [rule_same]; decide +kernel)) (by rfl) ?_
  simp only [go_sem, Nat.reduceAdd, Nat.reduceEqDiff, Nat.reduceLT, reduceIte, reduceCtorEq, Nat.reduceBEq, Int.reduceLT, Int.reduceToNat, Int.reducePow, Nat.reduceLeDiff, Int.reduceLE, Nat.reduceMul, Nat.reduceSub]
  refine callGo_pure (fls_pure 11 [1488, 45] true (by simp) (by rw [rule_same]; decide +kernel)) (by rfl) ?_
  simp only [go_sem, Nat.reduceAdd, Nat.reduceEqDiff, Nat.reduceLT, reduceIte, reduceCtorEq, Nat.reduceBEq, Int.reduceLT, Int.reduceToNat, Int.reducePow, Nat.reduceLeDiff, Int.reduceLE, Nat.reduceMul, Nat.reduceSub]
  refine callGo_pure (fls_pure 12 [1575, 49, 1633] true (by simp) (by rw [rule_same]; decide +kernel)) (by rfl) ?_
  simp only [go_sem, Nat.reduceAdd, Nat.reduceEqDiff, Nat.reduceLT, reduceIte, reduceCtorEq, Nat.reduceBEq, Int.reduceLT, Int.reduceToNat, Int.reducePow, Nat.reduceLeDiff, Int.reduceLE, Nat.reduceMul, Nat.reduceSub]
  refine callGo_pure (fls_pure 9 [49, 1488] true (by simp) (by rw [rule_same]; decide +kernel)) (by rfl) ?_
  simp only [go_sem, Nat.reduceAdd, Nat.reduceEqDiff, Nat.reduceLT, reduceIte, reduceCtorEq, Nat.reduceBEq, Int.reduceLT, Int.reduceToNat, Int.reducePow, Nat.reduceLeDiff, Int.reduceLE, Nat.reduceMul, Nat.reduceSub]
  refine callGo_pure (fls_pure 0 [97, 49] true (by simp) (by rw [rule_same]; decide +kernel)) (by rfl) ?_
  simp only [go_sem, Nat.reduceAdd, Nat.reduceEqDiff, Nat.reduceLT, reduceIte, reduceCtorEq, Nat.reduceBEq, Int.reduceLT, Int.reduceToNat, Int.reducePow, Nat.reduceLeDiff, Int.reduceLE, Nat.reduceMul, Nat.reduceSub]
  refine callGo_pure (fls_pure 11 [97, 45] true (by simp) (by rw [rule_same]; decide +kernel)) (by rfl) ?_
  simp only [go_sem, Nat.reduceAdd, Nat.reduceEqDiff, Nat.reduceLT, reduceIte, reduceCtorEq, Nat.reduceBEq, Int.reduceLT, Int.reduceToNat, Int.reducePow, Nat.reduceLeDiff, Int.reduceLE, Nat.reduceMul, Nat.reduceSub]
  refine callGo_pure (fls_pure 10 [97, 1488] true (by simp) (by rw [rule_same]; decide +kernel)) (by rfl) ?_
  simp only [go_sem, Nat.reduceAdd, Nat.reduceEqDiff, Nat.reduceLT, reduceIte, reduceCtorEq, Nat.reduceBEq, Int.reduceLT, Int.reduceToNat, Int.reducePow, Nat.reduceLeDiff, Int.reduceLE, Nat.reduceMul, Nat.reduceSub]
  refine callGo_pure (fls_pure 0 [1488, 1463] true (by simp) (by rw [rule_same]; decide +kernel)) (by rfl) ?_
  simp only [go_sem, Nat.reduceAdd, Nat.reduceEqDiff, Nat.reduceLT, reduceIte, reduceCtorEq, Nat.reduceBEq, Int.reduceLT, Int.reduceToNat, Int.reducePow, Nat.reduceLeDiff, Int.reduceLE, Nat.reduceMul, Nat.reduceSub]
  refine callGo_pure (bid_pure [1633] true (by simp) (by rw [bidi_same]; decide +kernel)) (by rfl) ?_
  simp only [go_sem, Nat.reduceAdd, Nat.reduceEqDiff, Nat.reduceLT, reduceIte, reduceCtorEq, Nat.reduceBEq, Int.reduceLT, Int.reduceToNat, Int.reducePow, Nat.reduceLeDiff, Int.reduceLE, Nat.reduceMul, Nat.reduceSub]
  refine callGo_pure (bid_pure [97, 49] false (by simp) (by rw [bidi_same]; decide +kernel)) (by rfl) ?_
  simp only [go_sem, Nat.reduceAdd, Nat.reduceEqDiff, Nat.reduceLT, reduceIte, reduceCtorEq, Nat.reduceBEq, Int.reduceLT, Int.reduceToNat, Int.reducePow, Nat.reduceLeDiff, Int.reduceLE, Nat.reduceMul, Nat.reduceSub]
  simp only [Done, resAV, resL, resOne, look_nil, look_cons, Nat.reduceEqDiff, if_true, if_false, reduceIte, ite_true, ite_false, Nat.zero_ne_one, Nat.one_ne_zero, reduceCtorEq, true_or, or_true, true_and, Option.some.injEq, AV.lit.injEq, Value.int.injEq, Value.bool.injEq]

set_option maxRecDepth 10000 in
theorem ruleTells_pure (l : List Int) (h : Runes l) : Pure Try.prog 3 [.sl 21 (runes l) none] [] (.lit (.bool true)) := by
  have hl : l.length ≤ 4611686018427387904 := by have := h.1; omega
  refine pure0 Try.func3 c3 n3 e3 r3 (by simp) rfl ?_
  simp only [a3, astart, argSlots, go_sem, Nat.reduceAdd, Nat.reduceEqDiff, Nat.reduceLT, reduceIte, reduceCtorEq, Nat.reduceBEq, Int.reduceLT, Int.reduceToNat, Int.reducePow, Nat.reduceLeDiff, Int.reduceLE, Nat.reduceMul, Nat.reduceSub]
  refine gGo_splitF (fun h1 => ?_) (fun h1 => ?_)
  · simp only [h1, go_sem, Nat.reduceAdd, Nat.reduceEqDiff, Nat.reduceLT, reduceIte, reduceCtorEq, Nat.reduceBEq, Int.reduceLT, Int.reduceToNat, Int.reducePow, Nat.reduceLeDiff, Int.reduceLE, Nat.reduceMul, Nat.reduceSub]
    refine callGo_pure (bidi_pure l hl) (by rfl) ?_
    simp only [go_sem, Nat.reduceAdd, Nat.reduceEqDiff, Nat.reduceLT, reduceIte, reduceCtorEq, Nat.reduceBEq, Int.reduceLT, Int.reduceToNat, Int.reducePow, Nat.reduceLeDiff, Int.reduceLE, Nat.reduceMul, Nat.reduceSub]
    refine callGo_pure (refBidi_pure l hl h.2) (by rfl) ?_
    simp only [go_sem, Nat.reduceAdd, Nat.reduceEqDiff, Nat.reduceLT, reduceIte, reduceCtorEq, Nat.reduceBEq, Int.reduceLT, Int.reduceToNat, Int.reducePow, Nat.reduceLeDiff, Int.reduceLE, Nat.reduceMul, Nat.reduceSub, bidi_same, beq_self_eq_true]
    refine callGo_pure (rule_pure l hl) (by rfl) ?_
    simp only [go_sem, Nat.reduceAdd, Nat.reduceEqDiff, Nat.reduceLT, reduceIte, reduceCtorEq, Nat.reduceBEq, Int.reduceLT, Int.reduceToNat, Int.reducePow, Nat.reduceLeDiff, Int.reduceLE, Nat.reduceMul, Nat.reduceSub]
    refine callGo_pure (refRule_pure l hl h.2) (by rfl) ?_
    simp only [go_sem, Nat.reduceAdd, Nat.reduceEqDiff, Nat.reduceLT, reduceIte, reduceCtorEq, Nat.reduceBEq, Int.reduceLT, Int.reduceToNat, Int.reducePow, Nat.reduceLeDiff, Int.reduceLE, Nat.reduceMul, Nat.reduceSub, rule_same, beq_self_eq_true]
    refine callGo_pure awake09_pure (by rfl) ?_
    simp only [go_sem, Nat.reduceAdd, Nat.reduceEqDiff, Nat.reduceLT, reduceIte, reduceCtorEq, Nat.reduceBEq, Int.reduceLT, Int.reduceToNat, Int.reducePow, Nat.reduceLeDiff, Int.reduceLE, Nat.reduceMul, Nat.reduceSub]
    simp only [Done, resAV, resL, resOne, look_nil, look_cons, Nat.reduceEqDiff, if_true, if_false, reduceIte, ite_true, ite_false, Nat.zero_ne_one, Nat.one_ne_zero, reduceCtorEq, true_or, or_true, true_and, Option.some.injEq, AV.lit.injEq, Value.int.injEq, Value.bool.injEq]
  · simp only [h1, go_sem, Nat.reduceAdd, Nat.reduceEqDiff, Nat.reduceLT, reduceIte, reduceCtorEq, Nat.reduceBEq, Int.reduceLT, Int.reduceToNat, Int.reducePow, Nat.reduceLeDiff, Int.reduceLE, Nat.reduceMul, Nat.reduceSub]
    simp only [Done, resAV, resL, resOne, look_nil, look_cons, Nat.reduceEqDiff, if_true, if_false, reduceIte, ite_true, ite_false, Nat.zero_ne_one, Nat.one_ne_zero, reduceCtorEq, true_or, or_true, true_and, Option.some.injEq, AV.lit.injEq, Value.int.injEq, Value.bool.injEq]

theorem ruleTells_any (avs : List AV) (h : Args Try.prog Try.f3.params.toList avs) : Pure Try.prog 3 avs [] (.lit (.bool true)) := by
  have hp : Try.f3.params.toList = [22] := by kernel_rfl
  rw [hp] at h
  obtain ⟨av0, rest0, rfl, a0, rfl⟩ := h
  obtain ⟨z0, rfl, w0, s0⟩ := arg_ints (e := 21) (k := .i32) (by kernel_rfl) (by kernel_rfl) a0
  rw [show Try.prog.bytesOf 21 = 4 from by kernel_rfl] at s0
  exact ruleTells_pure z0 ⟨by omega, fun n hn => by simpa [Lit.wf, IntKind.min, IntKind.max, IntKind.signed, IntKind.bits] using w0 n hn⟩

set_option maxRecDepth 100000 in
theorem ruleTells_lifted (os : Os) (started : os.Started) (H : Type) (enc : TypeId × Value → H) :
    ReturnsInHanded {} Try.checked os 3 .any (Rows.ruleTellsSpec.pre6 enc Try.prog Try.f3 Rows.ruleTellsRow.domain false) (Rows.ruleTellsSpec.post enc Try.prog Try.f3 false true false false) := by
  refine law_returns (C := Try.checked) (tb := 4) (by kernel_rfl) started (by kernel_rfl) Try.func3
    (ChangeSpec.witness6 (enc := enc) (C := Try.checked) false ⟨#[], #[.slice none 0 0], []⟩ 8 (by kernel_rfl) (by kernel_rfl) (by kernel_rfl) (by kernel_rfl))
    (by kernel_rfl) (by kernel_rfl) rfl rfl (by kernel_rfl) (by kernel_rfl) ?_ ruleTells_any
  intro ds hds
  have hp : Try.f3.params.toList = [22] := by kernel_rfl
  rw [hp] at hds
  match ds, hds with
  | [d0], _ => exact ⟨rfl, rfl, rfl⟩

theorem ruleTells_holds : Rows.RuleTellsSaid :=
  OpenClaim.holds_of_wide 3 Try.f3 rfl rfl rfl rfl rfl rfl rfl ⟨rfl, rfl, rfl, rfl, rfl⟩ rfl rfl rfl rfl rfl (by kernel_rfl) Try.func3 (by kernel_rfl)
    (of_decide_eq_true (by kernel_rfl)) (by unfold Func.isWrapper; first | (rw [if_pos (by decide +kernel)]; kernel_rfl) | (rw [if_neg (by decide +kernel)]; exact ⟨rfl, rfl⟩))
    (fun os started H enc _ => ruleTells_lifted os started H enc)
end Go.Proofs.Ytocaeclhmkojiaa
