/-
Digits, and which code points are safe. Conditions: none.
-/
import Derived.Test.YteekelelcbfekaaAbSet
import Derived.Test.YteekelelcbfekaaProg
import Derived.Test.YteekelelcbfekaaChecked
import Derived.KernelRfl
import Derived.Lib.Strings
import Derived.Lib.Slices
import Derived.Lib.Walk
import Derived.Lib.Bytealg
import Derived.Test.YteekelelcbfekaaSafM1
set_option linter.unusedSimpArgs false
set_option linter.unusedVariables false
set_option linter.unusedSectionVars false

/-! ## Saf1 -/

namespace Go.Proofs.Yteekelelcbfekaa
open Go Go.Ab Go.ChangeShapes Go.WideShapes Go.ChangeAt Go.RowKit

set_option maxHeartbeats 1000000 in
set_option maxRecDepth 100000 in
theorem liteIndexByte (s : ByteArray) (c : Int) (w : World) :
    Calls Try.prog 63 #[.string s, .int .u8 c] w fun e w' => e = .returned (.int .i64 (Lib.indexByte s.data.toList c.toNat.toUInt8)) ∧ w' = w := by
  go_enter Try.func63, Try.ntmps63
  go_wp2
  rw [run_callFunc_extern Try.func66 (by kernel_rfl) (by kernel_rfl) (by kernel_rfl) (e := Extern.BytealgIndexByte.indexByte) (by kernel_rfl), Lib.run_indexByteString]
  simp only [Result.andThen]
  rw [Oper.upon_value]
  go_wp2
  go_ret
  exact ⟨rfl, rfl⟩

/-- From a contract of the library to one of ours. -/
theorem pure_of_calls {g : FuncId} {vs : List Value} {v : Value} (he : Enters Try.prog g) (h : ∀ w, Calls Try.prog g vs.toArray w fun e w' => e = .returned v ∧ w' = w) : Pure Try.prog g (vs.map .lit) [] (.lit v) := by
  refine ⟨he, fun w p vs' hp hr => ?_⟩
  have hvs : ∀ (l : List Value) (l' : List Value), RepL Try.prog (topC w p) w (l.map .lit) l' → l' = l := by
    intro l
    induction l with
    | nil => intro l' h; simpa only [List.map_nil, RepL] using h
    | cons x l ih =>
      intro l' h
      simp only [List.map_cons, RepL, Rep] at h
      obtain ⟨a, b, rfl, rfl, h2⟩ := h
      rw [ih b h2]
  have e : vs' = vs.toArray := by rw [← hvs vs vs'.toList hr, Array.toArray_toList]
  subst e
  refine (h w).mono ?_
  rintro e w' ⟨rfl, rfl⟩
  exact ⟨v, topC w' p, rfl, Ext.refl _ _ _, rfl, ⟨by simp, by simp, by simp [idx], by simp [idx], by simp [idx], by simp [idx], Below.refl _ _, Nat.le_refl _, hp, fun _ _ h _ => h⟩, by simp only [Rep]⟩

theorem ixLite_enters : Enters Try.prog 63 := enters_of Try.func63 (by kernel_rfl) (by kernel_rfl)
theorem ixLite_pure (s : ByteArray) (c : Int) : Pure Try.prog 63 [.lit (.string s), .lit (.int .u8 c)] [] (.lit (.int .i64 (Lib.indexByte s.data.toList c.toNat.toUInt8))) :=
  pure_of_calls (vs := [.string s, .int .u8 c]) ixLite_enters fun w => liteIndexByte s c w
end Go.Proofs.Yteekelelcbfekaa

/-! ## Saf2 -/

namespace Go.Proofs.Yteekelelcbfekaa
open Go Go.Ab Go.ChangeShapes Go.WideShapes Go.ChangeAt Go.RowKit
def a61 : ACode :=
  (.seq (.reg [⟨(.some 4), (.mv (.k (.int .i64 0))), .none⟩]) (.seq (.reg [⟨(.some 5), (.mv (.t 0)), .none⟩, ⟨(.some 6), (.mv (.t 1)), .none⟩, ⟨(.some 7), (.call (.f 63) [(.t 5), (.t 6)]), .none⟩,
  ⟨(.some 4), (.mv (.t 7)), .none⟩]) .ret))
theorem c61 : Try.f61.body.bind (cCode Try.prog 8) = some a61 := by kernel_rfl
theorem r61 : Try.f61.results.toList = [(.tmp 4)] := by kernel_rfl
theorem n61 : Try.f61.ntmps = 8 := by kernel_rfl
theorem e61 : Enters Try.prog 61 := enters_of Try.func61 (by kernel_rfl) (by kernel_rfl)
def a47 : ACode :=
  (.seq (.reg [⟨(.some 2), (.mv (.k (.int .i64 0))), .none⟩, ⟨(.some 3), (.mv (.k (.bool false))), .none⟩]) (.seq (.seq (.reg [⟨(.some 5), (.mv (.t 0)), .none⟩, ⟨(.some 6), (.bin .geq (.t 5) (.k (.int
  .u8 97))), .none⟩, ⟨(.some 7), (.mv (.t 6)), .none⟩, ⟨(.some 8), (.mv (.t 0)), (.some (7, true))⟩, ⟨(.some 9), (.bin .leq (.t 8) (.k (.int .u8 102))), (.some (7, true))⟩, ⟨(.some 10), (.pick (.t 7)
  (.t 9) (.k (.bool false))), .none⟩]) (.cond (.t 10) (.reg [⟨(.some 11), (.mv (.t 0)), .none⟩, ⟨(.some 12), (.bin .sub (.t 11) (.k (.int .u8 32))), .none⟩, ⟨(.some 0), (.mv (.t 12)), .none⟩]) .skip))
  (.seq (.reg [⟨(.some 13), (.mv (.t 0)), .none⟩, ⟨(.some 14), (.call (.f 61) [(.k (.string ⟨#[48, 49, 50, 51, 52, 53, 54, 55, 56, 57, 65, 66, 67, 68, 69, 70]⟩)), (.t 13)]), .none⟩, ⟨(.some 4), (.mv (.t
  14)), .none⟩]) (.seq (.reg [⟨(.some 15), (.mv (.t 4)), .none⟩, ⟨(.some 16), (.mx (.t 15) (.k (.int .i64 0))), .none⟩, ⟨(.some 17), (.mv (.t 4)), .none⟩, ⟨(.some 18), (.bin .geq (.t 17) (.k (.int .i64
  0))), .none⟩, ⟨(.some 2), (.mv (.t 16)), .none⟩, ⟨(.some 3), (.mv (.t 18)), .none⟩]) .ret))))
theorem c47 : Try.f47.body.bind (cCode Try.prog 19) = some a47 := by kernel_rfl
theorem r47 : Try.f47.results.toList = [(.tmp 2), (.tmp 3)] := by kernel_rfl
theorem n47 : Try.f47.ntmps = 19 := by kernel_rfl
theorem e47 : Enters Try.prog 47 := enters_of Try.func47 (by kernel_rfl) (by kernel_rfl)
def a43 : ACode :=
  (.seq (.reg [⟨(.some 2), (.mv (.k (.int .i64 0))), .none⟩, ⟨(.some 3), (.mv (.k (.bool false))), .none⟩]) (.seq (.block 0 (.seq (.reg [⟨(.some 5), (.mv (.t 0)), .none⟩, ⟨(.some 6), (.bin .geq (.t 5)
  (.k (.int .u8 48))), .none⟩, ⟨(.some 7), (.mv (.t 6)), .none⟩, ⟨(.some 8), (.mv (.t 0)), (.some (7, true))⟩, ⟨(.some 9), (.bin .leq (.t 8) (.k (.int .u8 57))), (.some (7, true))⟩, ⟨(.some 10), (.pick
  (.t 7) (.t 9) (.k (.bool false))), .none⟩, ⟨(.some 4), (.mv (.t 10)), .none⟩]) (.cond (.t 4) (.seq (.reg [⟨(.some 11), (.mv (.t 0)), .none⟩, ⟨(.some 12), (.cvI .i64 (.t 11)), .none⟩, ⟨(.some 13),
  (.bin .sub (.t 12) (.k (.int .i64 48))), .none⟩, ⟨(.some 2), (.mv (.t 13)), .none⟩, ⟨(.some 3), (.mv (.k (.bool true))), .none⟩]) .ret) (.seq (.reg [⟨(.some 15), (.mv (.t 0)), .none⟩, ⟨(.some 16),
  (.bin .geq (.t 15) (.k (.int .u8 97))), .none⟩, ⟨(.some 17), (.mv (.t 16)), .none⟩, ⟨(.some 18), (.mv (.t 0)), (.some (17, true))⟩, ⟨(.some 19), (.bin .leq (.t 18) (.k (.int .u8 102))), (.some (17,
  true))⟩, ⟨(.some 20), (.pick (.t 17) (.t 19) (.k (.bool false))), .none⟩, ⟨(.some 14), (.mv (.t 20)), .none⟩]) (.cond (.t 14) (.seq (.reg [⟨(.some 21), (.mv (.t 0)), .none⟩, ⟨(.some 22), (.cvI .i64
  (.t 21)), .none⟩, ⟨(.some 23), (.bin .sub (.t 22) (.k (.int .i64 97))), .none⟩, ⟨(.some 24), (.bin .add (.t 23) (.k (.int .i64 10))), .none⟩, ⟨(.some 2), (.mv (.t 24)), .none⟩, ⟨(.some 3), (.mv (.k
  (.bool true))), .none⟩]) .ret) (.seq (.reg [⟨(.some 26), (.mv (.t 0)), .none⟩, ⟨(.some 27), (.bin .geq (.t 26) (.k (.int .u8 65))), .none⟩, ⟨(.some 28), (.mv (.t 27)), .none⟩, ⟨(.some 29), (.mv (.t
  0)), (.some (28, true))⟩, ⟨(.some 30), (.bin .leq (.t 29) (.k (.int .u8 70))), (.some (28, true))⟩, ⟨(.some 31), (.pick (.t 28) (.t 30) (.k (.bool false))), .none⟩, ⟨(.some 25), (.mv (.t 31)),
  .none⟩]) (.cond (.t 25) (.seq (.reg [⟨(.some 32), (.mv (.t 0)), .none⟩, ⟨(.some 33), (.cvI .i64 (.t 32)), .none⟩, ⟨(.some 34), (.bin .sub (.t 33) (.k (.int .i64 65))), .none⟩, ⟨(.some 35), (.bin .add
  (.t 34) (.k (.int .i64 10))), .none⟩, ⟨(.some 2), (.mv (.t 35)), .none⟩, ⟨(.some 3), (.mv (.k (.bool true))), .none⟩]) .ret) .skip))))))) (.seq (.reg [⟨(.some 2), (.mv (.k (.int .i64 0))), .none⟩,
  ⟨(.some 3), (.mv (.k (.bool false))), .none⟩]) .ret)))
theorem c43 : Try.f43.body.bind (cCode Try.prog 36) = some a43 := by kernel_rfl
theorem r43 : Try.f43.results.toList = [(.tmp 2), (.tmp 3)] := by kernel_rfl
theorem n43 : Try.f43.ntmps = 36 := by kernel_rfl
theorem e43 : Enters Try.prog 43 := enters_of Try.func43 (by kernel_rfl) (by kernel_rfl)

theorem ixByte_pure (s : ByteArray) (c : Int) : Pure Try.prog 61 [.lit (.string s), .lit (.int .u8 c)] [] (.lit (.int .i64 (Lib.indexByte s.data.toList c.toNat.toUInt8))) := by
  refine pure0 Try.func61 c61 n61 e61 r61 (by simp) rfl ?_
  simp only [a61, astart, argSlots, go_sem, Nat.reduceAdd, Nat.reduceEqDiff, Nat.reduceLT, reduceIte, reduceCtorEq, Nat.reduceBEq, Int.reduceLT, Int.reduceToNat, Int.reducePow, Nat.reduceLeDiff, Int.reduceLE, Nat.reduceMul, Nat.reduceSub]
  refine callGo_pure (ixLite_pure s c) (by rfl) ?_
  simp only [go_sem, Nat.reduceAdd, Nat.reduceEqDiff, Nat.reduceLT, reduceIte, reduceCtorEq, Nat.reduceBEq, Int.reduceLT, Int.reduceToNat, Int.reducePow, Nat.reduceLeDiff, Int.reduceLE, Nat.reduceMul, Nat.reduceSub]
  simp only [Done, resAV, resL, resOne, look_nil, look_cons, Nat.reduceEqDiff, if_true, if_false, reduceIte, ite_true, ite_false, Nat.zero_ne_one, Nat.one_ne_zero, reduceCtorEq, true_or, or_true, true_and, Option.some.injEq, AV.lit.injEq, Value.int.injEq, Value.bool.injEq]

/-- A digit's number. -/
def hexOf (c : Nat) : Option Nat := if 48 ≤ c ∧ c ≤ 57 then some (c - 48) else if 97 ≤ c ∧ c ≤ 102 then some (c - 87) else if 65 ≤ c ∧ c ≤ 70 then some (c - 55) else none
def digA (c : Nat) : AV := .tu [.lit (.int .i64 (((hexOf c).getD 0 : Nat) : Int)), .lit (.bool (hexOf c).isSome)]
def ixD (c : Nat) : Int := Lib.indexByte [48, 49, 50, 51, 52, 53, 54, 55, 56, 57, 65, 66, 67, 68, 69, 70] c.toUInt8
theorem ixD_hex : ∀ c < 256, (if ixD (if 97 ≤ c ∧ c ≤ 102 then c - 32 else c) < 0 then (0 : Int) else ixD (if 97 ≤ c ∧ c ≤ 102 then c - 32 else c)) = (((hexOf c).getD 0 : Nat) : Int) ∧
    decide (ixD (if 97 ≤ c ∧ c ≤ 102 then c - 32 else c) ≥ 0) = (hexOf c).isSome := by decide +kernel

theorem ixD_fold' (d : Nat) : Lib.indexByte [48, 49, 50, 51, 52, 53, 54, 55, 56, 57, 65, 66, 67, 68, 69, 70] d.toUInt8 = ixD d := rfl
theorem ixD_fold (d : Nat) : Lib.indexByte [48, 49, 50, 51, 52, 53, 54, 55, 56, 57, 65, 66, 67, 68, 69, 70] ((d : Int)).toNat.toUInt8 = ixD d := by rw [Int.toNat_natCast]; rfl
set_option maxRecDepth 10000 in
theorem digit_pure (c : Nat) (h : c ≤ 255) : Pure Try.prog 47 [.lit (.int .u8 (c : Int))] [] (digA c) := by
  have hx := ixD_hex c (by omega)
  unfold digA
  rw [← hx.1, ← hx.2]
  obtain ⟨d, hd⟩ : ∃ d, d = if 97 ≤ c ∧ c ≤ 102 then c - 32 else c := ⟨_, rfl⟩
  rw [← hd]
  refine pure0 Try.func47 c47 n47 e47 r47 (by simp) rfl ?_
  simp only [a47, astart, argSlots, go_sem, Nat.reduceAdd, Nat.reduceEqDiff, Nat.reduceLT, reduceIte, reduceCtorEq, Nat.reduceBEq, Int.reduceLT, Int.reduceToNat, Int.reducePow, Nat.reduceLeDiff, Int.reduceLE, Nat.reduceMul, Nat.reduceSub]
  by_cases h1 : 97 ≤ c
  · have a1 : decide ((c : Int) ≥ 97) = true := by simp only [decide_eq_true_eq]; omega
    by_cases h2 : c ≤ 102
    · have a2 : decide ((c : Int) ≤ 102) = true := by simp only [decide_eq_true_eq]; omega
      rw [if_pos ⟨h1, h2⟩] at hd
      have hw : IntKind.u8.wrap ((c : Int) - 32) = (d : Int) := by rw [wrap_u8 _ (by omega) (by omega)]; omega
      simp only [a1, a2, hw, go_sem, Nat.reduceAdd, Nat.reduceEqDiff, Nat.reduceLT, reduceIte, reduceCtorEq, Nat.reduceBEq, Int.reduceLT, Int.reduceToNat, Int.reducePow, Nat.reduceLeDiff, Int.reduceLE, Nat.reduceMul, Nat.reduceSub]
      refine callGo_pure (ixByte_pure _ _) (by rfl) ?_
      simp only [go_sem, Nat.reduceAdd, Nat.reduceEqDiff, Nat.reduceLT, reduceIte, reduceCtorEq, Nat.reduceBEq, Int.reduceLT, Int.reduceToNat, Int.reducePow, Nat.reduceLeDiff, Int.reduceLE, Nat.reduceMul, Nat.reduceSub, ixD_fold, ixD_fold']
      simp only [Done, resAV, resL, resOne, look_nil, look_cons, Nat.reduceEqDiff, if_true, if_false, reduceIte, ite_true, ite_false, Nat.zero_ne_one, Nat.one_ne_zero, reduceCtorEq, true_or, or_true, true_and, Option.some.injEq, AV.lit.injEq, Value.int.injEq, Value.bool.injEq]
    · have a2 : decide ((c : Int) ≤ 102) = false := by simp only [decide_eq_false_iff_not]; omega
      rw [if_neg (by omega)] at hd
      subst hd
      simp only [a1, a2, go_sem, Nat.reduceAdd, Nat.reduceEqDiff, Nat.reduceLT, reduceIte, reduceCtorEq, Nat.reduceBEq, Int.reduceLT, Int.reduceToNat, Int.reducePow, Nat.reduceLeDiff, Int.reduceLE, Nat.reduceMul, Nat.reduceSub]
      refine callGo_pure (ixByte_pure _ _) (by rfl) ?_
      simp only [go_sem, Nat.reduceAdd, Nat.reduceEqDiff, Nat.reduceLT, reduceIte, reduceCtorEq, Nat.reduceBEq, Int.reduceLT, Int.reduceToNat, Int.reducePow, Nat.reduceLeDiff, Int.reduceLE, Nat.reduceMul, Nat.reduceSub, ixD_fold, ixD_fold']
      simp only [Done, resAV, resL, resOne, look_nil, look_cons, Nat.reduceEqDiff, if_true, if_false, reduceIte, ite_true, ite_false, Nat.zero_ne_one, Nat.one_ne_zero, reduceCtorEq, true_or, or_true, true_and, Option.some.injEq, AV.lit.injEq, Value.int.injEq, Value.bool.injEq]
  · have a1 : decide ((c : Int) ≥ 97) = false := by simp only [decide_eq_false_iff_not]; omega
    rw [if_neg (by omega)] at hd
    subst hd
    simp only [a1, go_sem, Nat.reduceAdd, Nat.reduceEqDiff, Nat.reduceLT, reduceIte, reduceCtorEq, Nat.reduceBEq, Int.reduceLT, Int.reduceToNat, Int.reducePow, Nat.reduceLeDiff, Int.reduceLE, Nat.reduceMul, Nat.reduceSub]
    refine callGo_pure (ixByte_pure _ _) (by rfl) ?_
    simp only [go_sem, Nat.reduceAdd, Nat.reduceEqDiff, Nat.reduceLT, reduceIte, reduceCtorEq, Nat.reduceBEq, Int.reduceLT, Int.reduceToNat, Int.reducePow, Nat.reduceLeDiff, Int.reduceLE, Nat.reduceMul, Nat.reduceSub, ixD_fold, ixD_fold']
    simp only [Done, resAV, resL, resOne, look_nil, look_cons, Nat.reduceEqDiff, if_true, if_false, reduceIte, ite_true, ite_false, Nat.zero_ne_one, Nat.one_ne_zero, reduceCtorEq, true_or, or_true, true_and, Option.some.injEq, AV.lit.injEq, Value.int.injEq, Value.bool.injEq]

theorem refDigit_pure (c : Nat) (h : c ≤ 255) : Pure Try.prog 43 [.lit (.int .u8 (c : Int))] [] (digA c) := by
  unfold digA
  have hw : IntKind.i64.wrap (c : Int) = (c : Int) := wrap_i64 _ (by omega) (by omega)
  refine pure0 Try.func43 c43 n43 e43 r43 (by simp) rfl ?_
  rcases (by omega : (c < 48) ∨ (48 ≤ c ∧ c ≤ 57) ∨ (58 ≤ c ∧ c < 65) ∨ (65 ≤ c ∧ c ≤ 70) ∨ (71 ≤ c ∧ c < 97) ∨ (97 ≤ c ∧ c ≤ 102) ∨ (102 < c)) with h1 | h1 | h1 | h1 | h1 | h1 | h1
  · have hv : hexOf c = none := by unfold hexOf; (repeat' split) <;> first | rfl | (exfalso; omega)
    have b1 : decide ((c : Int) ≥ 48) = false := by simp only [decide_eq_false_iff_not]; omega
    have b2 : decide ((c : Int) ≤ 57) = true := by simp only [decide_eq_true_eq]; omega
    have b3 : decide ((c : Int) ≥ 97) = false := by simp only [decide_eq_false_iff_not]; omega
    have b4 : decide ((c : Int) ≤ 102) = true := by simp only [decide_eq_true_eq]; omega
    have b5 : decide ((c : Int) ≥ 65) = false := by simp only [decide_eq_false_iff_not]; omega
    have b6 : decide ((c : Int) ≤ 70) = true := by simp only [decide_eq_true_eq]; omega
    have w1 := hw
    have w2 := hw
    rw [hv]
    simp only [a43, astart, argSlots, b1, b2, b3, b4, b5, b6, hw, w1, w2, go_sem, Nat.reduceAdd, Nat.reduceEqDiff, Nat.reduceLT, reduceIte, reduceCtorEq, Nat.reduceBEq, Int.reduceLT, Int.reduceToNat, Int.reducePow, Nat.reduceLeDiff, Int.reduceLE, Nat.reduceMul, Nat.reduceSub]
    simp only [Done, resAV, resL, resOne, look_nil, look_cons, Nat.reduceEqDiff, if_true, if_false, reduceIte, ite_true, ite_false, Nat.zero_ne_one, Nat.one_ne_zero, reduceCtorEq, true_or, or_true, true_and, Option.some.injEq, AV.lit.injEq, Value.int.injEq, Value.bool.injEq]
    rfl
  · have hv : hexOf c = some (c - 48) := by unfold hexOf; (repeat' split) <;> first | rfl | (exfalso; omega)
    have b1 : decide ((c : Int) ≥ 48) = true := by simp only [decide_eq_true_eq]; omega
    have b2 : decide ((c : Int) ≤ 57) = true := by simp only [decide_eq_true_eq]; omega
    have b3 : decide ((c : Int) ≥ 97) = false := by simp only [decide_eq_false_iff_not]; omega
    have b4 : decide ((c : Int) ≤ 102) = true := by simp only [decide_eq_true_eq]; omega
    have b5 : decide ((c : Int) ≥ 65) = false := by simp only [decide_eq_false_iff_not]; omega
    have b6 : decide ((c : Int) ≤ 70) = true := by simp only [decide_eq_true_eq]; omega
    have w1 : IntKind.i64.wrap ((c : Int) - 48) = ((c - 48 : Nat) : Int) := by rw [wrap_i64 _ (by omega) (by omega)]; omega
    have w2 := w1
    rw [hv]
    simp only [a43, astart, argSlots, b1, b2, b3, b4, b5, b6, hw, w1, w2, go_sem, Nat.reduceAdd, Nat.reduceEqDiff, Nat.reduceLT, reduceIte, reduceCtorEq, Nat.reduceBEq, Int.reduceLT, Int.reduceToNat, Int.reducePow, Nat.reduceLeDiff, Int.reduceLE, Nat.reduceMul, Nat.reduceSub]
    simp only [Done, resAV, resL, resOne, look_nil, look_cons, Nat.reduceEqDiff, if_true, if_false, reduceIte, ite_true, ite_false, Nat.zero_ne_one, Nat.one_ne_zero, reduceCtorEq, true_or, or_true, true_and, Option.some.injEq, AV.lit.injEq, Value.int.injEq, Value.bool.injEq]
    rfl
  · have hv : hexOf c = none := by unfold hexOf; (repeat' split) <;> first | rfl | (exfalso; omega)
    have b1 : decide ((c : Int) ≥ 48) = true := by simp only [decide_eq_true_eq]; omega
    have b2 : decide ((c : Int) ≤ 57) = false := by simp only [decide_eq_false_iff_not]; omega
    have b3 : decide ((c : Int) ≥ 97) = false := by simp only [decide_eq_false_iff_not]; omega
    have b4 : decide ((c : Int) ≤ 102) = true := by simp only [decide_eq_true_eq]; omega
    have b5 : decide ((c : Int) ≥ 65) = false := by simp only [decide_eq_false_iff_not]; omega
    have b6 : decide ((c : Int) ≤ 70) = true := by simp only [decide_eq_true_eq]; omega
    have w1 := hw
    have w2 := hw
    rw [hv]
    simp only [a43, astart, argSlots, b1, b2, b3, b4, b5, b6, hw, w1, w2, go_sem, Nat.reduceAdd, Nat.reduceEqDiff, Nat.reduceLT, reduceIte, reduceCtorEq, Nat.reduceBEq, Int.reduceLT, Int.reduceToNat, Int.reducePow, Nat.reduceLeDiff, Int.reduceLE, Nat.reduceMul, Nat.reduceSub]
    simp only [Done, resAV, resL, resOne, look_nil, look_cons, Nat.reduceEqDiff, if_true, if_false, reduceIte, ite_true, ite_false, Nat.zero_ne_one, Nat.one_ne_zero, reduceCtorEq, true_or, or_true, true_and, Option.some.injEq, AV.lit.injEq, Value.int.injEq, Value.bool.injEq]
    rfl
  · have hv : hexOf c = some (c - 55) := by unfold hexOf; (repeat' split) <;> first | rfl | (exfalso; omega)
    have b1 : decide ((c : Int) ≥ 48) = true := by simp only [decide_eq_true_eq]; omega
    have b2 : decide ((c : Int) ≤ 57) = false := by simp only [decide_eq_false_iff_not]; omega
    have b3 : decide ((c : Int) ≥ 97) = false := by simp only [decide_eq_false_iff_not]; omega
    have b4 : decide ((c : Int) ≤ 102) = true := by simp only [decide_eq_true_eq]; omega
    have b5 : decide ((c : Int) ≥ 65) = true := by simp only [decide_eq_true_eq]; omega
    have b6 : decide ((c : Int) ≤ 70) = true := by simp only [decide_eq_true_eq]; omega
    have w1 : IntKind.i64.wrap ((c : Int) - 65) = (c : Int) - 65 := wrap_i64 _ (by omega) (by omega)
    have w2 : IntKind.i64.wrap ((c : Int) - 65 + 10) = ((c - 55 : Nat) : Int) := by rw [wrap_i64 _ (by omega) (by omega)]; omega
    rw [hv]
    simp only [a43, astart, argSlots, b1, b2, b3, b4, b5, b6, hw, w1, w2, go_sem, Nat.reduceAdd, Nat.reduceEqDiff, Nat.reduceLT, reduceIte, reduceCtorEq, Nat.reduceBEq, Int.reduceLT, Int.reduceToNat, Int.reducePow, Nat.reduceLeDiff, Int.reduceLE, Nat.reduceMul, Nat.reduceSub]
    simp only [Done, resAV, resL, resOne, look_nil, look_cons, Nat.reduceEqDiff, if_true, if_false, reduceIte, ite_true, ite_false, Nat.zero_ne_one, Nat.one_ne_zero, reduceCtorEq, true_or, or_true, true_and, Option.some.injEq, AV.lit.injEq, Value.int.injEq, Value.bool.injEq]
    rfl
  · have hv : hexOf c = none := by unfold hexOf; (repeat' split) <;> first | rfl | (exfalso; omega)
    have b1 : decide ((c : Int) ≥ 48) = true := by simp only [decide_eq_true_eq]; omega
    have b2 : decide ((c : Int) ≤ 57) = false := by simp only [decide_eq_false_iff_not]; omega
    have b3 : decide ((c : Int) ≥ 97) = false := by simp only [decide_eq_false_iff_not]; omega
    have b4 : decide ((c : Int) ≤ 102) = true := by simp only [decide_eq_true_eq]; omega
    have b5 : decide ((c : Int) ≥ 65) = true := by simp only [decide_eq_true_eq]; omega
    have b6 : decide ((c : Int) ≤ 70) = false := by simp only [decide_eq_false_iff_not]; omega
    have w1 := hw
    have w2 := hw
    rw [hv]
    simp only [a43, astart, argSlots, b1, b2, b3, b4, b5, b6, hw, w1, w2, go_sem, Nat.reduceAdd, Nat.reduceEqDiff, Nat.reduceLT, reduceIte, reduceCtorEq, Nat.reduceBEq, Int.reduceLT, Int.reduceToNat, Int.reducePow, Nat.reduceLeDiff, Int.reduceLE, Nat.reduceMul, Nat.reduceSub]
    simp only [Done, resAV, resL, resOne, look_nil, look_cons, Nat.reduceEqDiff, if_true, if_false, reduceIte, ite_true, ite_false, Nat.zero_ne_one, Nat.one_ne_zero, reduceCtorEq, true_or, or_true, true_and, Option.some.injEq, AV.lit.injEq, Value.int.injEq, Value.bool.injEq]
    rfl
  · have hv : hexOf c = some (c - 87) := by unfold hexOf; (repeat' split) <;> first | rfl | (exfalso; omega)
    have b1 : decide ((c : Int) ≥ 48) = true := by simp only [decide_eq_true_eq]; omega
    have b2 : decide ((c : Int) ≤ 57) = false := by simp only [decide_eq_false_iff_not]; omega
    have b3 : decide ((c : Int) ≥ 97) = true := by simp only [decide_eq_true_eq]; omega
    have b4 : decide ((c : Int) ≤ 102) = true := by simp only [decide_eq_true_eq]; omega
    have b5 : decide ((c : Int) ≥ 65) = true := by simp only [decide_eq_true_eq]; omega
    have b6 : decide ((c : Int) ≤ 70) = false := by simp only [decide_eq_false_iff_not]; omega
    have w1 : IntKind.i64.wrap ((c : Int) - 97) = (c : Int) - 97 := wrap_i64 _ (by omega) (by omega)
    have w2 : IntKind.i64.wrap ((c : Int) - 97 + 10) = ((c - 87 : Nat) : Int) := by rw [wrap_i64 _ (by omega) (by omega)]; omega
    rw [hv]
    simp only [a43, astart, argSlots, b1, b2, b3, b4, b5, b6, hw, w1, w2, go_sem, Nat.reduceAdd, Nat.reduceEqDiff, Nat.reduceLT, reduceIte, reduceCtorEq, Nat.reduceBEq, Int.reduceLT, Int.reduceToNat, Int.reducePow, Nat.reduceLeDiff, Int.reduceLE, Nat.reduceMul, Nat.reduceSub]
    simp only [Done, resAV, resL, resOne, look_nil, look_cons, Nat.reduceEqDiff, if_true, if_false, reduceIte, ite_true, ite_false, Nat.zero_ne_one, Nat.one_ne_zero, reduceCtorEq, true_or, or_true, true_and, Option.some.injEq, AV.lit.injEq, Value.int.injEq, Value.bool.injEq]
    rfl
  · have hv : hexOf c = none := by unfold hexOf; (repeat' split) <;> first | rfl | (exfalso; omega)
    have b1 : decide ((c : Int) ≥ 48) = true := by simp only [decide_eq_true_eq]; omega
    have b2 : decide ((c : Int) ≤ 57) = false := by simp only [decide_eq_false_iff_not]; omega
    have b3 : decide ((c : Int) ≥ 97) = true := by simp only [decide_eq_true_eq]; omega
    have b4 : decide ((c : Int) ≤ 102) = false := by simp only [decide_eq_false_iff_not]; omega
    have b5 : decide ((c : Int) ≥ 65) = true := by simp only [decide_eq_true_eq]; omega
    have b6 : decide ((c : Int) ≤ 70) = false := by simp only [decide_eq_false_iff_not]; omega
    have w1 := hw
    have w2 := hw
    rw [hv]
    simp only [a43, astart, argSlots, b1, b2, b3, b4, b5, b6, hw, w1, w2, go_sem, Nat.reduceAdd, Nat.reduceEqDiff, Nat.reduceLT, reduceIte, reduceCtorEq, Nat.reduceBEq, Int.reduceLT, Int.reduceToNat, Int.reducePow, Nat.reduceLeDiff, Int.reduceLE, Nat.reduceMul, Nat.reduceSub]
    simp only [Done, resAV, resL, resOne, look_nil, look_cons, Nat.reduceEqDiff, if_true, if_false, reduceIte, ite_true, ite_false, Nat.zero_ne_one, Nat.one_ne_zero, reduceCtorEq, true_or, or_true, true_and, Option.some.injEq, AV.lit.injEq, Value.int.injEq, Value.bool.injEq]
    rfl
end Go.Proofs.Yteekelelcbfekaa

/-! ## Saf3 -/

namespace Go.Proofs.Yteekelelcbfekaa
open Go Go.Ab Go.ChangeShapes Go.WideShapes Go.ChangeAt Go.RowKit
def a37 : ACode :=
  (.seq (.reg [⟨(.some 4), (.mv (.k (.int .i64 0))), .none⟩]) (.seq (.seq (.reg [⟨(.some 6), (.mv (.t 0)), .none⟩, ⟨(.some 7), (.len (.t 6)), .none⟩, ⟨(.some 8), (.mv (.k (.int .i64 0))), .none⟩])
  (.block 0 (.loop (.seq (.reg [⟨(.some 9), (.bin .lss (.t 8) (.t 7)), .none⟩]) (.seq (.cond (.t 9) .skip (.exit 0)) (.seq (.block 1 (.seq (.reg [⟨(.some 10), (.mv (.t 8)), .none⟩, ⟨(.some 5), (.mv (.t
  10)), .none⟩]) (.seq (.reg [⟨(.some 11), (.mv (.t 1)), .none⟩, ⟨(.some 12), (.mv (.t 0)), .none⟩, ⟨(.some 13), (.mv (.t 5)), .none⟩, ⟨(.some 14), (.ia 21 (.t 12) (.t 13)), .none⟩, ⟨(.some 15), (.ld
  .none (.t 14)), .none⟩, ⟨(.some 16), (.bin .eql (.t 11) (.t 15)), .none⟩]) (.cond (.t 16) (.seq (.reg [⟨(.some 17), (.mv (.t 5)), .none⟩, ⟨(.some 4), (.mv (.t 17)), .none⟩]) .ret) .skip)))) (.reg
  [⟨(.some 18), (.bin .add (.t 8) (.k (.int .i64 1))), .none⟩, ⟨(.some 8), (.mv (.t 18)), .none⟩]))))))) (.seq (.reg [⟨(.some 4), (.mv (.k (.int .i64 (-1)))), .none⟩]) .ret)))
theorem c37 : Try.f37.body.bind (cCode Try.prog 19) = some a37 := by kernel_rfl
theorem r37 : Try.f37.results.toList = [(.tmp 4)] := by kernel_rfl
theorem n37 : Try.f37.ntmps = 19 := by kernel_rfl
theorem e37 : Enters Try.prog 37 := enters_of Try.func37 (by kernel_rfl) (by kernel_rfl)
def a21 : ACode :=
  (.seq (.reg [⟨(.some 4), (.mv (.k (.bool false))), .none⟩]) (.seq (.reg [⟨(.some 5), (.mv (.t 0)), .none⟩, ⟨(.some 6), (.mv (.t 1)), .none⟩, ⟨(.some 7), (.call (.f 37) [(.t 5), (.t 6)]), .none⟩,
  ⟨(.some 8), (.bin .geq (.t 7) (.k (.int .i64 0))), .none⟩, ⟨(.some 4), (.mv (.t 8)), .none⟩]) .ret))
theorem c21 : Try.f21.body.bind (cCode Try.prog 9) = some a21 := by kernel_rfl
theorem r21 : Try.f21.results.toList = [(.tmp 4)] := by kernel_rfl
theorem n21 : Try.f21.ntmps = 9 := by kernel_rfl
theorem e21 : Enters Try.prog 21 := enters_of Try.func21 (by kernel_rfl) (by kernel_rfl)

theorem index32_pure (l : List Int) (x : Int) (hl : l.length ≤ 1000000) : Pure Try.prog 37 [.sl 21 (runes l) none, .lit (.int .i32 x)] [] (.lit (.int .i64 (if l.any (fun (s : Int) => x == s) then ((l.findIdx fun (s : Int) => x == s : Nat) : Int) else -1))) := by
  refine pure0 Try.func37 c37 n37 e37 r37 (by simp) rfl ?_
  simp only [a37, astart, argSlots, go_sem, Nat.reduceAdd, Nat.reduceEqDiff, Nat.reduceLT, reduceIte, reduceCtorEq, Nat.reduceBEq, Int.reduceLT, Int.reduceToNat, Int.reducePow, Nat.reduceLeDiff, Int.reduceLE, Nat.reduceMul, Nat.reduceSub, runes_length]
  refine loop_to l.length (fun i => ⟨[(0, some (.sl 21 (runes l) none)), (1, some (.lit (.int .i32 x))), (7, some (.lit (.int .i64 l.length))), (8, some (.lit (.int .i64 i)))], [], [], 0⟩)
    (fun i => ∀ j : Nat, j < i → ∀ r, l[j]? = some r → (x == r) = false) (weak_by [] List.nodup_nil rfl ?_ trivial trivial (by simp)) (fun j hj => by omega) ?_ ?_
  · simp only [go_sem, Nat.reduceAdd, Nat.reduceEqDiff, Nat.reduceLT, reduceIte, reduceCtorEq, Nat.reduceBEq, Int.reduceLT, Int.reduceToNat, Int.reducePow, Nat.reduceLeDiff, Int.reduceLE, Nat.reduceMul, Nat.reduceSub, slotsBy, boxesBy, tipsBy, rawAt, nm, AV.ren, AV.renL, AV.under, AV.underL, List.all_nil, List.all_cons, bne_self_eq_false, List.getD_cons_zero, List.getD_cons_succ, List.length_nil, List.length_cons, and_true, true_and, Int.natCast_zero]
  · intro i hi hp
    simp only [go_sem, Nat.reduceAdd, Nat.reduceEqDiff, Nat.reduceLT, reduceIte, reduceCtorEq, Nat.reduceBEq, Int.reduceLT, Int.reduceToNat, Int.reducePow, Nat.reduceLeDiff, Int.reduceLE, Nat.reduceMul, Nat.reduceSub, dec_lt hi, hi, runes_get l i hi, Int.natCast_nonneg, Int.toNat_natCast]
    cases he : (x == l[i])
    · simp only [go_sem, Nat.reduceAdd, Nat.reduceEqDiff, Nat.reduceLT, reduceIte, reduceCtorEq, Nat.reduceBEq, Int.reduceLT, Int.reduceToNat, Int.reducePow, Nat.reduceLeDiff, Int.reduceLE, Nat.reduceMul, Nat.reduceSub]
      simp (disch := omega) only [wrap_i64]
      refine ⟨weak_by [] List.nodup_nil rfl ?_ trivial trivial (by simp), ?_⟩
      · simp only [go_sem, Nat.reduceAdd, Nat.reduceEqDiff, Nat.reduceLT, reduceIte, reduceCtorEq, Nat.reduceBEq, Int.reduceLT, Int.reduceToNat, Int.reducePow, Nat.reduceLeDiff, Int.reduceLE, Nat.reduceMul, Nat.reduceSub, slotsBy, boxesBy, tipsBy, rawAt, nm, AV.ren, AV.renL, AV.under, AV.underL, List.all_nil, List.all_cons, bne_self_eq_false, List.getD_cons_zero, List.getD_cons_succ, List.length_nil, List.length_cons, and_true, true_and, Int.natCast_add, Int.natCast_one]
      · intro j hj r hjr
        rcases Nat.lt_succ_iff_lt_or_eq.1 hj with hj | hj
        · exact hp j hj r hjr
        · subst hj
          rw [List.getElem?_eq_getElem hi, Option.some.injEq] at hjr
          subst hjr; exact he
    · simp only [go_sem, Nat.reduceAdd, Nat.reduceEqDiff, Nat.reduceLT, reduceIte, reduceCtorEq, Nat.reduceBEq, Int.reduceLT, Int.reduceToNat, Int.reducePow, Nat.reduceLeDiff, Int.reduceLE, Nat.reduceMul, Nat.reduceSub]
      simp only [Done, resAV, resL, resOne, look_nil, look_cons, Nat.reduceEqDiff, if_true, if_false, reduceIte, ite_true, ite_false, Nat.zero_ne_one, Nat.one_ne_zero, reduceCtorEq, true_or, or_true, true_and, Option.some.injEq, AV.lit.injEq, Value.int.injEq, Value.bool.injEq]
      have hany : l.any (fun (s : Int) => x == s) = true := List.any_eq_true.2 ⟨_, List.getElem_mem hi, he⟩
      rw [if_pos hany]
      have hf : l.findIdx (fun (s : Int) => x == s) = i := by
        rw [List.findIdx_eq hi]
        refine ⟨he, fun j hj => ?_⟩
        exact hp j hj _ (List.getElem?_eq_getElem _)
      rw [hf]
  · intro hp
    simp only [go_sem, Nat.reduceAdd, Nat.reduceEqDiff, Nat.reduceLT, reduceIte, reduceCtorEq, Nat.reduceBEq, Int.reduceLT, Int.reduceToNat, Int.reducePow, Nat.reduceLeDiff, Int.reduceLE, Nat.reduceMul, Nat.reduceSub, dec_irr]
    simp only [Done, resAV, resL, resOne, look_nil, look_cons, Nat.reduceEqDiff, if_true, if_false, reduceIte, ite_true, ite_false, Nat.zero_ne_one, Nat.one_ne_zero, reduceCtorEq, true_or, or_true, true_and, Option.some.injEq, AV.lit.injEq, Value.int.injEq, Value.bool.injEq]
    rw [if_neg]
    rw [List.any_eq_true]
    rintro ⟨r, hr, he⟩
    obtain ⟨j, hj, rfl⟩ := List.mem_iff_getElem.1 hr
    rw [hp j hj _ (List.getElem?_eq_getElem hj)] at he
    cases he
theorem contains32_pure (l : List Int) (x : Int) (hl : l.length ≤ 1000000) : Pure Try.prog 21 [.sl 21 (runes l) none, .lit (.int .i32 x)] [] (.lit (.bool (l.any fun (s : Int) => x == s))) := by
  refine pure0 Try.func21 c21 n21 e21 r21 (by simp) rfl ?_
  simp only [a21, astart, argSlots, go_sem, Nat.reduceAdd, Nat.reduceEqDiff, Nat.reduceLT, reduceIte, reduceCtorEq, Nat.reduceBEq, Int.reduceLT, Int.reduceToNat, Int.reducePow, Nat.reduceLeDiff, Int.reduceLE, Nat.reduceMul, Nat.reduceSub]
  refine callGo_pure (index32_pure l x hl) (by rfl) ?_
  simp only [go_sem, Nat.reduceAdd, Nat.reduceEqDiff, Nat.reduceLT, reduceIte, reduceCtorEq, Nat.reduceBEq, Int.reduceLT, Int.reduceToNat, Int.reducePow, Nat.reduceLeDiff, Int.reduceLE, Nat.reduceMul, Nat.reduceSub]
  simp only [Done, resAV, resL, resOne, look_nil, look_cons, Nat.reduceEqDiff, if_true, if_false, reduceIte, ite_true, ite_false, Nat.zero_ne_one, Nat.one_ne_zero, reduceCtorEq, true_or, or_true, true_and, Option.some.injEq, AV.lit.injEq, Value.int.injEq, Value.bool.injEq]
  cases h : l.any fun (s : Int) => x == s
  · simp
  · simp

end Go.Proofs.Yteekelelcbfekaa

/-! ## Mc -/

namespace Go.Proofs.Yteekelelcbfekaa
open Go Go.Ab Go.ChangeShapes Go.WideShapes Go.ChangeAt Go.RowKit
/-- How many of each class: in the order in which they came. -/
def inc : List (Int × Int) → Int → List (Int × Int)
  | [], c => [(c, 1)]
  | (k, n) :: ms, c => if k = c then (k, n + 1) :: ms else (k, n) :: inc ms c
def getN : List (Int × Int) → Int → Int
  | [], _ => 0
  | (k, n) :: ms, c => if k = c then n else getN ms c
def mc (ms : List (Int × Int)) : List AV := ms.flatMap fun p => [.lit (.int .u8 p.1), .lit (.int .i64 p.2)]
theorem mc_nil : mc [] = [] := rfl
theorem mc_cons (k n : Int) (ms : List (Int × Int)) : mc ((k, n) :: ms) = .lit (.int .u8 k) :: .lit (.int .i64 n) :: mc ms := rfl
theorem mc_lkp (c : Int) : ∀ (ms : List (Int × Int)) (i : Nat), (findA (.int .u8 c) (mc ms) i).map (lkpV false (.int .i64 0)) = some (.lit (.int .i64 (getN ms c)))
  | [], i => rfl
  | (k, n) :: ms, i => by
    rw [mc_cons, findA_cons, eqKey_int]
    by_cases h : k = c
    · subst h; simp [findO, getN, lkpV]
    · have : (c == k) = false := by simpa using fun e => h e.symm
      rw [this, findO_f, mc_lkp c ms, getN, if_neg h]
theorem mc_shift (c : Int) (ms : List (Int × Int)) : ∀ (i : Nat), findA (.int .u8 c) (mc ms) i = (findA (.int .u8 c) (mc ms) 0).map (fun o => o.map (fun p => (p.1 + i, p.2))) := by
  induction ms with
  | nil => intro i; rfl
  | cons p ms ih =>
    obtain ⟨k, n⟩ := p
    intro i
    simp only [mc_cons, findA_cons, eqKey_int]
    cases hck : (c == k)
    · rw [findO_f, findO_f, ih (i + 1), ih (0 + 1), Option.map_map]
      congr 1
      funext o
      cases o
      · rfl
      · simp only [Function.comp, Option.map_some, Option.some.injEq, Prod.mk.injEq, and_true]; omega
    · simp [findO]
theorem mc_set (j : Nat) (v : AV) (a b : AV) (l : List AV) : (a :: b :: l).set (2 * (j + 1) + 1) v = a :: b :: l.set (2 * j + 1) v := by
  rw [show 2 * (j + 1) + 1 = (2 * j + 1) + 1 + 1 by omega, List.set_cons_succ, List.set_cons_succ]
theorem mc_mup (c : Int) (k0 e0 : TypeId) : ∀ (ms : List (Int × Int)), mupF k0 e0 ms.length (mc ms) (.int .u8 c) (.lit (.int .i64 (getN ms c + 1))) (findA (.int .u8 c) (mc ms) 0) = some (.ob (.map k0 e0 (inc ms c).length) (mc (inc ms c)))
  | [] => rfl
  | (k, n) :: ms => by
    have ih := mc_mup c k0 e0 ms
    by_cases h : k = c
    · subst h
      simp [mc_cons, findA_cons, eqKey_int, findO, mupF, getN, inc]
    · have h' : (c == k) = false := by simpa using fun e => h e.symm
      have hf : findA (.int .u8 c) (mc ((k, n) :: ms)) 0 = findA (.int .u8 c) (mc ms) (0 + 1) := by rw [mc_cons, findA_cons, eqKey_int, h', findO_f]
      rw [hf, mc_shift c ms (0 + 1)]
      simp only [getN, inc, if_neg h]
      cases hq : findA (.int .u8 c) (mc ms) 0 with
      | none => rw [hq] at ih; simp [mupF] at ih
      | some o =>
        rw [hq] at ih
        cases o with
        | none =>
          simp only [mupF, Option.some.injEq, AV.ob.injEq, OK.map.injEq, true_and] at ih
          simp only [Option.map_some, Option.map_none, mupF, Option.some.injEq, AV.ob.injEq, OK.map.injEq, true_and, List.length_cons, mc_cons, List.cons_append, ← ih.2, ← ih.1, and_self]
        | some p =>
          obtain ⟨j, u⟩ := p
          simp only [mupF, Option.some.injEq, AV.ob.injEq, OK.map.injEq, true_and] at ih
          simp only [Option.map_some, mupF, Option.some.injEq, AV.ob.injEq, OK.map.injEq, true_and, List.length_cons, mc_cons, ← ih.2, ← ih.1, show j + (0 + 1) = j + 1 from rfl, mc_set, and_self]

theorem mc_ren (f : Nat → Nat) (ms : List (Int × Int)) : AV.renL f (mc ms) = mc ms := by
  induction ms with
  | nil => rfl
  | cons p ms ih => obtain ⟨k, n⟩ := p; simp only [mc_cons, AV.renL, AV.ren, ih]
theorem mc_under (n : Nat) (ms : List (Int × Int)) : AV.underL n (mc ms) = true := by
  induction ms with
  | nil => rfl
  | cons p ms ih => obtain ⟨k, m⟩ := p; simp only [mc_cons, AV.underL, AV.under, ih, Bool.and_self]

theorem getN_inc (ms : List (Int × Int)) (c d : Int) : getN (inc ms c) d = if c = d then getN ms d + 1 else getN ms d := by
  induction ms with
  | nil => simp [inc, getN]
  | cons p ms ih =>
    obtain ⟨k, n⟩ := p
    by_cases h : k = c
    · subst h
      by_cases h2 : k = d <;> simp [inc, getN, h2]
    · by_cases h2 : k = d
      · subst h2
        have : ¬ c = k := fun e => h e.symm
        simp [inc, getN, h, this]
      · simp [inc, getN, h, h2, ih]
theorem keys_inc (ms : List (Int × Int)) (c : Int) : ∀ p ∈ inc ms c, p.1 = c ∨ ∃ q ∈ ms, q.1 = p.1 := by
  induction ms with
  | nil => intro p hp; simp [inc] at hp; exact .inl (by rw [hp])
  | cons q ms ih =>
    obtain ⟨k, n⟩ := q
    intro p hp
    by_cases h : k = c
    · simp only [inc, if_pos h] at hp
      rcases List.mem_cons.1 hp with rfl | hp
      · exact .inl h
      · exact .inr ⟨p, List.mem_cons_of_mem _ hp, rfl⟩
    · simp only [inc, if_neg h] at hp
      rcases List.mem_cons.1 hp with rfl | hp
      · exact .inr ⟨_, List.mem_cons_self, rfl⟩
      · rcases ih p hp with h1 | ⟨q, h1, h2⟩
        · exact .inl h1
        · exact .inr ⟨q, List.mem_cons_of_mem _ h1, h2⟩
theorem mc_get : ∀ {ms : List (Int × Int)} {i : Nat} {key : AV}, (mc ms)[2 * i]? = some key → ∃ p ∈ ms, key = .lit (.int .u8 p.1)
  | [], i, key, h => by simp [mc] at h
  | (k, n) :: ms, 0, key, h => by
    simp only [mc_cons, Nat.mul_zero, List.getElem?_cons_zero, Option.some.injEq] at h
    exact ⟨_, List.mem_cons_self, h.symm⟩
  | (k, n) :: ms, i + 1, key, h => by
    rw [mc_cons, show 2 * (i + 1) = 2 * i + 1 + 1 by omega, List.getElem?_cons_succ, List.getElem?_cons_succ] at h
    obtain ⟨p, h1, h2⟩ := mc_get h
    exact ⟨p, List.mem_cons_of_mem _ h1, h2⟩

/-- Some keys, counted. -/
def incs : List Nat → List (Int × Int) → List (Int × Int)
  | [], ms => ms
  | s :: l, ms => incs l (inc ms s)
theorem incs_append (l q : List Nat) (ms : List (Int × Int)) : incs (l ++ q) ms = incs q (incs l ms) := by
  induction l generalizing ms with
  | nil => rfl
  | cons s l ih => simp only [List.cons_append, incs]; exact ih _
theorem incs_take {l : List Nat} {i : Nat} (hi : i < l.length) (ms : List (Int × Int)) : incs (l.take (i + 1)) ms = inc (incs (l.take i) ms) (l[i] : Nat) := by
  rw [List.take_succ_eq_append_getElem hi, incs_append]; rfl
theorem getN_incs (l : List Nat) (ms : List (Int × Int)) (d : Int) : getN (incs l ms) d = getN ms d + (l.countP fun (s : Nat) => (s : Int) == d : Nat) := by
  induction l generalizing ms with
  | nil => simp [incs]
  | cons s l ih =>
    rw [incs, ih, getN_inc, List.countP_cons]
    by_cases h : (s : Int) = d <;> simp [h]; omega
theorem inc_keys (ms : List (Int × Int)) (c : Int) : (inc ms c).map (·.1) = if c ∈ ms.map (·.1) then ms.map (·.1) else ms.map (·.1) ++ [c] := by
  induction ms with
  | nil => simp [inc]
  | cons p ms ih =>
    obtain ⟨k, n⟩ := p
    by_cases h : k = c
    · subst h; simp [inc]
    · have h' : ¬ c = k := fun e => h e.symm
      simp only [inc, if_neg h, List.map_cons, ih, List.mem_cons, h', false_or]
      split <;> simp
theorem incs_nodup (l : List Nat) (ms : List (Int × Int)) (h : (ms.map (·.1)).Nodup) : ((incs l ms).map (·.1)).Nodup := by
  induction l generalizing ms with
  | nil => exact h
  | cons s l ih =>
    refine ih _ ?_
    rw [inc_keys]
    split
    · exact h
    · rename_i hn
      refine List.nodup_append.2 ⟨h, by simp, fun a ha b hb => ?_⟩
      simp only [List.mem_singleton] at hb
      subst hb
      exact fun e => hn (e ▸ ha)
theorem incs_mem (l : List Nat) (ms : List (Int × Int)) (c : Int) : c ∈ (incs l ms).map (·.1) ↔ c ∈ ms.map (·.1) ∨ ∃ s ∈ l, (s : Int) = c := by
  induction l generalizing ms with
  | nil => simp [incs]
  | cons s l ih =>
    rw [incs, ih, inc_keys]
    by_cases hm : (s : Int) ∈ ms.map (·.1)
    · rw [if_pos hm]
      constructor
      · rintro (h | ⟨x, h1, h2⟩)
        · exact .inl h
        · exact .inr ⟨x, List.mem_cons_of_mem _ h1, h2⟩
      · rintro (h | ⟨x, h1, h2⟩)
        · exact .inl h
        · rcases List.mem_cons.1 h1 with rfl | h1
          · exact .inl (h2 ▸ hm)
          · exact .inr ⟨x, h1, h2⟩
    · rw [if_neg hm]
      simp only [List.mem_append, List.mem_singleton]
      constructor
      · rintro ((h | h) | ⟨x, h1, h2⟩)
        · exact .inl h
        · exact .inr ⟨s, List.mem_cons_self, h.symm⟩
        · exact .inr ⟨x, List.mem_cons_of_mem _ h1, h2⟩
      · rintro (h | ⟨x, h1, h2⟩)
        · exact .inl (.inl h)
        · rcases List.mem_cons.1 h1 with rfl | h1
          · exact .inl (.inr h2.symm)
          · exact .inr ⟨x, h1, h2⟩
theorem incs_length (l : List Nat) (ms : List (Int × Int)) : (incs l ms).length ≤ ms.length + l.length := by
  induction l generalizing ms with
  | nil => simp [incs]
  | cons s l ih =>
    have h1 := ih (inc ms s)
    have h2 : (inc ms s).length ≤ ms.length + 1 := by
      have := congrArg List.length (inc_keys ms s)
      rw [List.length_map] at this
      rw [this]
      split <;> simp
    simp only [incs, List.length_cons]
    omega
end Go.Proofs.Yteekelelcbfekaa

/-! ## Saf4 -/

namespace Go.Proofs.Yteekelelcbfekaa
open Go Go.Ab Go.ChangeShapes Go.WideShapes Go.ChangeAt Go.RowKit
def a8 : ACode :=
  (.seq (.reg [⟨(.some 2), (.mv (.k (.bool false))), .none⟩]) (.seq (.seq (.reg [⟨(.some 6), (.mv (.t 0)), .none⟩, ⟨(.some 7), (.bin .lss (.t 6) (.k (.int .i32 128))), .none⟩, ⟨(.some 8), (.mv (.t 7)),
  .none⟩, ⟨(.some 9), (.bs 21 1 [(.k (.int .i32 8260)), (.k (.int .i32 8725)), (.k (.int .i32 12290)), (.k (.int .i32 65294)), (.k (.int .i32 65295)), (.k (.int .i32 65306)), (.k (.int .i32 65533))]),
  (.some (8, false))⟩, ⟨(.some 10), (.mv (.t 0)), (.some (8, false))⟩, ⟨(.some 11), (.call (.f 21) [(.t 9), (.t 10)]), (.some (8, false))⟩, ⟨(.some 12), (.pick (.t 8) (.k (.bool true)) (.t 11)),
  .none⟩]) (.cond (.t 12) (.seq (.reg [⟨(.some 2), (.mv (.k (.bool false))), .none⟩]) .ret) .skip)) (.seq (.reg [⟨(.some 13), (.xe .mkm []), .none⟩, ⟨.none, (.xe .mup [(.t 13), (.k (.int .u8 1)), (.k
  (.int .i64 1))]), .none⟩, ⟨.none, (.xe .mup [(.t 13), (.k (.int .u8 2)), (.k (.int .i64 1))]), .none⟩, ⟨.none, (.xe .mup [(.t 13), (.k (.int .u8 3)), (.k (.int .i64 1))]), .none⟩, ⟨.none, (.xe .mup
  [(.t 13), (.k (.int .u8 4)), (.k (.int .i64 1))]), .none⟩, ⟨.none, (.xe .mup [(.t 13), (.k (.int .u8 5)), (.k (.int .i64 1))]), .none⟩, ⟨.none, (.xe .mup [(.t 13), (.k (.int .u8 6)), (.k (.int .i64
  1))]), .none⟩, ⟨.none, (.xe .mup [(.t 13), (.k (.int .u8 7)), (.k (.int .i64 1))]), .none⟩, ⟨(.some 14), (.mv (.t 13)), .none⟩, ⟨(.some 3), (.mv (.t 14)), .none⟩]) (.seq (.reg [⟨(.some 15), (.xe .mkm
  []), .none⟩, ⟨.none, (.xe .mup [(.t 15), (.k (.int .u8 9)), (.k (.int .i64 1))]), .none⟩, ⟨.none, (.xe .mup [(.t 15), (.k (.int .u8 10)), (.k (.int .i64 1))]), .none⟩, ⟨.none, (.xe .mup [(.t 15), (.k
  (.int .u8 11)), (.k (.int .i64 1))]), .none⟩, ⟨.none, (.xe .mup [(.t 15), (.k (.int .u8 12)), (.k (.int .i64 1))]), .none⟩, ⟨.none, (.xe .mup [(.t 15), (.k (.int .u8 14)), (.k (.int .i64 1))]),
  .none⟩, ⟨.none, (.xe .mup [(.t 15), (.k (.int .u8 15)), (.k (.int .i64 1))]), .none⟩, ⟨.none, (.xe .mup [(.t 15), (.k (.int .u8 16)), (.k (.int .i64 1))]), .none⟩, ⟨.none, (.xe .mup [(.t 15), (.k
  (.int .u8 17)), (.k (.int .i64 1))]), .none⟩, ⟨.none, (.xe .mup [(.t 15), (.k (.int .u8 18)), (.k (.int .i64 1))]), .none⟩, ⟨.none, (.xe .mup [(.t 15), (.k (.int .u8 19)), (.k (.int .i64 1))]),
  .none⟩, ⟨.none, (.xe .mup [(.t 15), (.k (.int .u8 20)), (.k (.int .i64 1))]), .none⟩, ⟨.none, (.xe .mup [(.t 15), (.k (.int .u8 21)), (.k (.int .i64 1))]), .none⟩, ⟨.none, (.xe .mup [(.t 15), (.k
  (.int .u8 22)), (.k (.int .i64 1))]), .none⟩, ⟨(.some 16), (.mv (.t 15)), .none⟩, ⟨(.some 4), (.mv (.t 16)), .none⟩]) (.seq (.reg [⟨(.some 17), (.mv (.t 0)), .none⟩, ⟨(.some 18), (.call (.f 22) [(.t
  17)]), .none⟩, ⟨(.some 5), (.alc 48 [(.int .u8 0), (.int .u8 0), (.int .u8 0), (.int .u8 0), (.int .u8 0), (.int .u8 0), (.int .u8 0)]), .none⟩, ⟨.none, (.st 7 (.t 5) (.t 18)), .none⟩]) (.seq (.reg
  [⟨(.some 19), (.mv (.t 3)), .none⟩, ⟨(.some 20), (.fa 0 (.t 5)), .none⟩, ⟨(.some 21), (.ld .none (.t 20)), .none⟩, ⟨(.some 22), (.xv (.lkp false (.int .i64 0)) [(.t 19), (.t 21)]), .none⟩, ⟨(.some
  23), (.bin .eql (.t 22) (.k (.int .i64 1))), .none⟩, ⟨(.some 24), (.mv (.t 23)), .none⟩, ⟨(.some 25), (.mv (.t 4)), (.some (24, true))⟩, ⟨(.some 26), (.fa 1 (.t 5)), (.some (24, true))⟩, ⟨(.some 27),
  (.ld .none (.t 26)), (.some (24, true))⟩, ⟨(.some 28), (.xv (.lkp false (.int .i64 0)) [(.t 25), (.t 27)]), (.some (24, true))⟩, ⟨(.some 29), (.bin .eql (.t 28) (.k (.int .i64 0))), (.some (24,
  true))⟩, ⟨(.some 30), (.pick (.t 24) (.t 29) (.k (.bool false))), .none⟩, ⟨(.some 2), (.mv (.t 30)), .none⟩]) .ret))))))
theorem c8 : Try.f8.body.bind (cCode Try.prog 31) = some a8 := by kernel_rfl
theorem r8 : Try.f8.results.toList = [(.tmp 2)] := by kernel_rfl
theorem n8 : Try.f8.ntmps = 31 := by kernel_rfl
theorem e8 : Enters Try.prog 8 := enters_of Try.func8 (by kernel_rfl) (by kernel_rfl)

def unsafeL : List Int := [8260, 8725, 12290, 65294, 65295, 65306, 65533]
def catsM : List (Int × Int) := [(1, 1), (2, 1), (3, 1), (4, 1), (5, 1), (6, 1), (7, 1)]
def notM : List (Int × Int) := [(9, 1), (10, 1), (11, 1), (12, 1), (14, 1), (15, 1), (16, 1), (17, 1), (18, 1), (19, 1), (20, 1), (21, 1), (22, 1)]
/-- May it be shown? -/
def safeOf (r : Int) : Bool := !(decide (r < 128) || unsafeL.any fun s => r == s) && (getN catsM (rowAt r).cat == 1 && getN notM (rowAt r).bidi == 0)

set_option maxRecDepth 10000 in
theorem safe_pure (r : Int) : Pure Try.prog 8 [.lit (.int .i32 r)] [] (.lit (.bool (safeOf r))) := by
  unfold safeOf
  refine pure0 Try.func8 c8 n8 e8 r8 (by simp) rfl ?_
  simp only [a8, astart, argSlots, go_sem, Nat.reduceAdd, Nat.reduceEqDiff, Nat.reduceLT, reduceIte, reduceCtorEq, Nat.reduceBEq, Int.reduceLT, Int.reduceToNat, Int.reducePow, Nat.reduceLeDiff, Int.reduceLE, Nat.reduceMul, Nat.reduceSub]
  by_cases h1 : r < 128
  · have a1 : decide (r < 128) = true := by simpa using h1
    simp only [a1, go_sem, Nat.reduceAdd, Nat.reduceEqDiff, Nat.reduceLT, reduceIte, reduceCtorEq, Nat.reduceBEq, Int.reduceLT, Int.reduceToNat, Int.reducePow, Nat.reduceLeDiff, Int.reduceLE, Nat.reduceMul, Nat.reduceSub]
    simp only [Done, resAV, resL, resOne, look_nil, look_cons, Nat.reduceEqDiff, if_true, if_false, reduceIte, ite_true, ite_false, Nat.zero_ne_one, Nat.one_ne_zero, reduceCtorEq, true_or, or_true, true_and, Option.some.injEq, AV.lit.injEq, Value.int.injEq, Value.bool.injEq]
    rfl
  have a1 : decide (r < 128) = false := by simpa using h1
  simp only [a1, go_sem, Nat.reduceAdd, Nat.reduceEqDiff, Nat.reduceLT, reduceIte, reduceCtorEq, Nat.reduceBEq, Int.reduceLT, Int.reduceToNat, Int.reducePow, Nat.reduceLeDiff, Int.reduceLE, Nat.reduceMul, Nat.reduceSub]
  refine callGo_pure (contains32_pure unsafeL r (by simp [unsafeL])) (by rfl) ?_
  cases a2 : unsafeL.any fun s => r == s
  · simp only [a2, go_sem, Nat.reduceAdd, Nat.reduceEqDiff, Nat.reduceLT, reduceIte, reduceCtorEq, Nat.reduceBEq, Int.reduceLT, Int.reduceToNat, Int.reducePow, Nat.reduceLeDiff, Int.reduceLE, Nat.reduceMul, Nat.reduceSub, Int.reduceBEq]
    refine callGo_pure (of_pure _) (by rfl) ?_
    have hc := mc_lkp (rowAt r).cat catsM 0
    have hn := mc_lkp (rowAt r).bidi notM 0
    generalize getN catsM (rowAt r).cat = g at hc
    generalize getN notM (rowAt r).bidi = f at hn
    simp only [catsM, mc_cons, mc_nil, findA_cons, findA_nil, eqKey_int, Nat.zero_add, Nat.reduceAdd] at hc
    simp only [notM, mc_cons, mc_nil, findA_cons, findA_nil, eqKey_int, Nat.zero_add, Nat.reduceAdd] at hn
    simp only [go_sem, Nat.reduceAdd, Nat.reduceEqDiff, Nat.reduceLT, reduceIte, reduceCtorEq, Nat.reduceBEq, Int.reduceLT, Int.reduceToNat, Int.reducePow, Nat.reduceLeDiff, Int.reduceLE, Nat.reduceMul, Nat.reduceSub, Row.prop, hc]
    cases b1 : g == 1
    · simp only [go_sem, Nat.reduceAdd, Nat.reduceEqDiff, Nat.reduceLT, reduceIte, reduceCtorEq, Nat.reduceBEq, Int.reduceLT, Int.reduceToNat, Int.reducePow, Nat.reduceLeDiff, Int.reduceLE, Nat.reduceMul, Nat.reduceSub, b1]
      simp only [Done, resAV, resL, resOne, look_nil, look_cons, Nat.reduceEqDiff, if_true, if_false, reduceIte, ite_true, ite_false, Nat.zero_ne_one, Nat.one_ne_zero, reduceCtorEq, true_or, or_true, true_and, Option.some.injEq, AV.lit.injEq, Value.int.injEq, Value.bool.injEq]
      rfl
    · simp only [go_sem, Nat.reduceAdd, Nat.reduceEqDiff, Nat.reduceLT, reduceIte, reduceCtorEq, Nat.reduceBEq, Int.reduceLT, Int.reduceToNat, Int.reducePow, Nat.reduceLeDiff, Int.reduceLE, Nat.reduceMul, Nat.reduceSub, b1, hn]
      simp only [Done, resAV, resL, resOne, look_nil, look_cons, Nat.reduceEqDiff, if_true, if_false, reduceIte, ite_true, ite_false, Nat.zero_ne_one, Nat.one_ne_zero, reduceCtorEq, true_or, or_true, true_and, Option.some.injEq, AV.lit.injEq, Value.int.injEq, Value.bool.injEq]
      rfl
  · simp only [a2, go_sem, Nat.reduceAdd, Nat.reduceEqDiff, Nat.reduceLT, reduceIte, reduceCtorEq, Nat.reduceBEq, Int.reduceLT, Int.reduceToNat, Int.reducePow, Nat.reduceLeDiff, Int.reduceLE, Nat.reduceMul, Nat.reduceSub]
    simp only [Done, resAV, resL, resOne, look_nil, look_cons, Nat.reduceEqDiff, if_true, if_false, reduceIte, ite_true, ite_false, Nat.zero_ne_one, Nat.one_ne_zero, reduceCtorEq, true_or, or_true, true_and, Option.some.injEq, AV.lit.injEq, Value.int.injEq, Value.bool.injEq]
    rfl
end Go.Proofs.Yteekelelcbfekaa

/-! ## Saf5 -/

namespace Go.Proofs.Yteekelelcbfekaa
open Go Go.Ab Go.ChangeShapes Go.WideShapes Go.ChangeAt Go.RowKit
def a9 : ACode :=
  (.seq (.reg [⟨(.some 2), (.mv (.k (.bool false))), .none⟩]) (.seq (.seq (.reg [⟨(.some 4), (.mv (.t 0)), .none⟩]) (.block 0 (.seq (.seq (.reg [⟨(.some 6), (.bin .eql (.t 4) (.k (.int .i32 8260))),
  .none⟩, ⟨(.some 5), (.mv (.t 6)), .none⟩]) (.cond (.t 5) .skip (.seq (.reg [⟨(.some 7), (.bin .eql (.t 4) (.k (.int .i32 8725))), .none⟩, ⟨(.some 5), (.mv (.t 7)), .none⟩]) (.cond (.t 5) .skip (.seq
  (.reg [⟨(.some 8), (.bin .eql (.t 4) (.k (.int .i32 12290))), .none⟩, ⟨(.some 5), (.mv (.t 8)), .none⟩]) (.cond (.t 5) .skip (.seq (.reg [⟨(.some 9), (.bin .eql (.t 4) (.k (.int .i32 65294))), .none⟩,
  ⟨(.some 5), (.mv (.t 9)), .none⟩]) (.cond (.t 5) .skip (.seq (.reg [⟨(.some 10), (.bin .eql (.t 4) (.k (.int .i32 65295))), .none⟩, ⟨(.some 5), (.mv (.t 10)), .none⟩]) (.cond (.t 5) .skip (.seq (.reg
  [⟨(.some 11), (.bin .eql (.t 4) (.k (.int .i32 65306))), .none⟩, ⟨(.some 5), (.mv (.t 11)), .none⟩]) (.cond (.t 5) .skip (.reg [⟨(.some 12), (.bin .eql (.t 4) (.k (.int .i32 65533))), .none⟩, ⟨(.some
  5), (.mv (.t 12)), .none⟩]))))))))))))) (.cond (.t 5) (.seq (.reg [⟨(.some 2), (.mv (.k (.bool false))), .none⟩]) .ret) .skip)))) (.seq (.seq (.reg [⟨(.some 13), (.mv (.t 0)), .none⟩, ⟨(.some 14),
  (.bin .leq (.t 13) (.k (.int .i32 127))), .none⟩]) (.cond (.t 14) (.seq (.reg [⟨(.some 2), (.mv (.k (.bool false))), .none⟩]) .ret) .skip)) (.seq (.reg [⟨(.some 15), (.mv (.t 0)), .none⟩, ⟨(.some 16),
  (.call (.f 23) [(.t 15)]), .none⟩, ⟨(.some 3), (.alc 48 [(.int .u8 0), (.int .u8 0), (.int .u8 0), (.int .u8 0), (.int .u8 0), (.int .u8 0), (.int .u8 0)]), .none⟩, ⟨.none, (.st 7 (.t 3) (.t 16)),
  .none⟩]) (.seq (.seq (.reg [⟨(.some 17), (.fa 0 (.t 3)), .none⟩, ⟨(.some 18), (.ld .none (.t 17)), .none⟩, ⟨(.some 19), (.bin .lss (.t 18) (.k (.int .u8 1))), .none⟩, ⟨(.some 20), (.mv (.t 19)),
  .none⟩, ⟨(.some 21), (.fa 0 (.t 3)), (.some (20, false))⟩, ⟨(.some 22), (.ld .none (.t 21)), (.some (20, false))⟩, ⟨(.some 23), (.bin .gtr (.t 22) (.k (.int .u8 7))), (.some (20, false))⟩, ⟨(.some
  24), (.pick (.t 20) (.k (.bool true)) (.t 23)), .none⟩]) (.cond (.t 24) (.seq (.reg [⟨(.some 2), (.mv (.k (.bool false))), .none⟩]) .ret) .skip)) (.seq (.seq (.reg [⟨(.some 25), (.fa 1 (.t 3)),
  .none⟩, ⟨(.some 26), (.ld .none (.t 25)), .none⟩]) (.block 1 (.seq (.seq (.reg [⟨(.some 28), (.bin .eql (.t 26) (.k (.int .u8 9))), .none⟩, ⟨(.some 27), (.mv (.t 28)), .none⟩]) (.cond (.t 27) .skip
  (.seq (.reg [⟨(.some 29), (.bin .eql (.t 26) (.k (.int .u8 10))), .none⟩, ⟨(.some 27), (.mv (.t 29)), .none⟩]) (.cond (.t 27) .skip (.seq (.reg [⟨(.some 30), (.bin .eql (.t 26) (.k (.int .u8 11))),
  .none⟩, ⟨(.some 27), (.mv (.t 30)), .none⟩]) (.cond (.t 27) .skip (.seq (.reg [⟨(.some 31), (.bin .eql (.t 26) (.k (.int .u8 12))), .none⟩, ⟨(.some 27), (.mv (.t 31)), .none⟩]) (.cond (.t 27) .skip
  (.seq (.reg [⟨(.some 32), (.bin .eql (.t 26) (.k (.int .u8 14))), .none⟩, ⟨(.some 27), (.mv (.t 32)), .none⟩]) (.cond (.t 27) .skip (.seq (.reg [⟨(.some 33), (.bin .eql (.t 26) (.k (.int .u8 15))),
  .none⟩, ⟨(.some 27), (.mv (.t 33)), .none⟩]) (.cond (.t 27) .skip (.seq (.reg [⟨(.some 34), (.bin .eql (.t 26) (.k (.int .u8 16))), .none⟩, ⟨(.some 27), (.mv (.t 34)), .none⟩]) (.cond (.t 27) .skip
  (.seq (.reg [⟨(.some 35), (.bin .eql (.t 26) (.k (.int .u8 17))), .none⟩, ⟨(.some 27), (.mv (.t 35)), .none⟩]) (.cond (.t 27) .skip (.seq (.reg [⟨(.some 36), (.bin .eql (.t 26) (.k (.int .u8 18))),
  .none⟩, ⟨(.some 27), (.mv (.t 36)), .none⟩]) (.cond (.t 27) .skip (.seq (.reg [⟨(.some 37), (.bin .eql (.t 26) (.k (.int .u8 19))), .none⟩, ⟨(.some 27), (.mv (.t 37)), .none⟩]) (.cond (.t 27) .skip
  (.seq (.reg [⟨(.some 38), (.bin .eql (.t 26) (.k (.int .u8 20))), .none⟩, ⟨(.some 27), (.mv (.t 38)), .none⟩]) (.cond (.t 27) .skip (.seq (.reg [⟨(.some 39), (.bin .eql (.t 26) (.k (.int .u8 21))),
  .none⟩, ⟨(.some 27), (.mv (.t 39)), .none⟩]) (.cond (.t 27) .skip (.reg [⟨(.some 40), (.bin .eql (.t 26) (.k (.int .u8 22))), .none⟩, ⟨(.some 27), (.mv (.t 40)), .none⟩])))))))))))))))))))))))))
  (.cond (.t 27) (.seq (.reg [⟨(.some 2), (.mv (.k (.bool false))), .none⟩]) .ret) .skip)))) (.seq (.reg [⟨(.some 2), (.mv (.k (.bool true))), .none⟩]) .ret)))))))
theorem c9 : Try.f9.body.bind (cCode Try.prog 41) = some a9 := by kernel_rfl
theorem r9 : Try.f9.results.toList = [(.tmp 2)] := by kernel_rfl
theorem n9 : Try.f9.ntmps = 41 := by kernel_rfl
theorem e9 : Enters Try.prog 9 := enters_of Try.func9 (by kernel_rfl) (by kernel_rfl)

theorem getN_cats (c : Int) : getN catsM c = if 1 ≤ c ∧ c ≤ 7 then 1 else 0 := by
  simp only [catsM, getN]
  (repeat' split) <;> first | rfl | (exfalso; omega)
set_option maxRecDepth 10000 in
set_option maxHeartbeats 4000000 in
theorem refSafe_pure (r : Int) (h32 : -2147483648 ≤ r ∧ r ≤ 2147483647) : Pure Try.prog 9 [.lit (.int .i32 r)] [] (.lit (.bool (safeOf r))) := by
  refine pure0 Try.func9 c9 n9 e9 r9 (by simp) rfl ?_
  simp only [a9, astart, argSlots, go_sem, Nat.reduceAdd, Nat.reduceEqDiff, Nat.reduceLT, reduceIte, reduceCtorEq, Nat.reduceBEq, Int.reduceLT, Int.reduceToNat, Int.reducePow, Nat.reduceLeDiff, Int.reduceLE, Nat.reduceMul, Nat.reduceSub]
  by_cases r0 : r = 8260
  · subst r0
    have hs : safeOf 8260 = false := by decide +kernel
    simp only [go_sem, Nat.reduceAdd, Nat.reduceEqDiff, Nat.reduceLT, reduceIte, reduceCtorEq, Nat.reduceBEq, Int.reduceLT, Int.reduceToNat, Int.reducePow, Nat.reduceLeDiff, Int.reduceLE, Nat.reduceMul, Nat.reduceSub, Int.reduceBEq]
    simp only [Done, resAV, resL, resOne, look_nil, look_cons, Nat.reduceEqDiff, if_true, if_false, reduceIte, ite_true, ite_false, Nat.zero_ne_one, Nat.one_ne_zero, reduceCtorEq, true_or, or_true, true_and, Option.some.injEq, AV.lit.injEq, Value.int.injEq, Value.bool.injEq]
    exact hs.symm
  have r0 : (r == 8260) = false := by simpa using r0
  by_cases r1 : r = 8725
  · subst r1
    have hs : safeOf 8725 = false := by decide +kernel
    simp only [go_sem, Nat.reduceAdd, Nat.reduceEqDiff, Nat.reduceLT, reduceIte, reduceCtorEq, Nat.reduceBEq, Int.reduceLT, Int.reduceToNat, Int.reducePow, Nat.reduceLeDiff, Int.reduceLE, Nat.reduceMul, Nat.reduceSub, Int.reduceBEq]
    simp only [Done, resAV, resL, resOne, look_nil, look_cons, Nat.reduceEqDiff, if_true, if_false, reduceIte, ite_true, ite_false, Nat.zero_ne_one, Nat.one_ne_zero, reduceCtorEq, true_or, or_true, true_and, Option.some.injEq, AV.lit.injEq, Value.int.injEq, Value.bool.injEq]
    exact hs.symm
  have r1 : (r == 8725) = false := by simpa using r1
  by_cases r2 : r = 12290
  · subst r2
    have hs : safeOf 12290 = false := by decide +kernel
    simp only [go_sem, Nat.reduceAdd, Nat.reduceEqDiff, Nat.reduceLT, reduceIte, reduceCtorEq, Nat.reduceBEq, Int.reduceLT, Int.reduceToNat, Int.reducePow, Nat.reduceLeDiff, Int.reduceLE, Nat.reduceMul, Nat.reduceSub, Int.reduceBEq]
    simp only [Done, resAV, resL, resOne, look_nil, look_cons, Nat.reduceEqDiff, if_true, if_false, reduceIte, ite_true, ite_false, Nat.zero_ne_one, Nat.one_ne_zero, reduceCtorEq, true_or, or_true, true_and, Option.some.injEq, AV.lit.injEq, Value.int.injEq, Value.bool.injEq]
    exact hs.symm
  have r2 : (r == 12290) = false := by simpa using r2
  by_cases r3 : r = 65294
  · subst r3
    have hs : safeOf 65294 = false := by decide +kernel
    simp only [go_sem, Nat.reduceAdd, Nat.reduceEqDiff, Nat.reduceLT, reduceIte, reduceCtorEq, Nat.reduceBEq, Int.reduceLT, Int.reduceToNat, Int.reducePow, Nat.reduceLeDiff, Int.reduceLE, Nat.reduceMul, Nat.reduceSub, Int.reduceBEq]
    simp only [Done, resAV, resL, resOne, look_nil, look_cons, Nat.reduceEqDiff, if_true, if_false, reduceIte, ite_true, ite_false, Nat.zero_ne_one, Nat.one_ne_zero, reduceCtorEq, true_or, or_true, true_and, Option.some.injEq, AV.lit.injEq, Value.int.injEq, Value.bool.injEq]
    exact hs.symm
  have r3 : (r == 65294) = false := by simpa using r3
  by_cases r4 : r = 65295
  · subst r4
    have hs : safeOf 65295 = false := by decide +kernel
    simp only [go_sem, Nat.reduceAdd, Nat.reduceEqDiff, Nat.reduceLT, reduceIte, reduceCtorEq, Nat.reduceBEq, Int.reduceLT, Int.reduceToNat, Int.reducePow, Nat.reduceLeDiff, Int.reduceLE, Nat.reduceMul, Nat.reduceSub, Int.reduceBEq]
    simp only [Done, resAV, resL, resOne, look_nil, look_cons, Nat.reduceEqDiff, if_true, if_false, reduceIte, ite_true, ite_false, Nat.zero_ne_one, Nat.one_ne_zero, reduceCtorEq, true_or, or_true, true_and, Option.some.injEq, AV.lit.injEq, Value.int.injEq, Value.bool.injEq]
    exact hs.symm
  have r4 : (r == 65295) = false := by simpa using r4
  by_cases r5 : r = 65306
  · subst r5
    have hs : safeOf 65306 = false := by decide +kernel
    simp only [go_sem, Nat.reduceAdd, Nat.reduceEqDiff, Nat.reduceLT, reduceIte, reduceCtorEq, Nat.reduceBEq, Int.reduceLT, Int.reduceToNat, Int.reducePow, Nat.reduceLeDiff, Int.reduceLE, Nat.reduceMul, Nat.reduceSub, Int.reduceBEq]
    simp only [Done, resAV, resL, resOne, look_nil, look_cons, Nat.reduceEqDiff, if_true, if_false, reduceIte, ite_true, ite_false, Nat.zero_ne_one, Nat.one_ne_zero, reduceCtorEq, true_or, or_true, true_and, Option.some.injEq, AV.lit.injEq, Value.int.injEq, Value.bool.injEq]
    exact hs.symm
  have r5 : (r == 65306) = false := by simpa using r5
  by_cases r6 : r = 65533
  · subst r6
    have hs : safeOf 65533 = false := by decide +kernel
    simp only [go_sem, Nat.reduceAdd, Nat.reduceEqDiff, Nat.reduceLT, reduceIte, reduceCtorEq, Nat.reduceBEq, Int.reduceLT, Int.reduceToNat, Int.reducePow, Nat.reduceLeDiff, Int.reduceLE, Nat.reduceMul, Nat.reduceSub, Int.reduceBEq]
    simp only [Done, resAV, resL, resOne, look_nil, look_cons, Nat.reduceEqDiff, if_true, if_false, reduceIte, ite_true, ite_false, Nat.zero_ne_one, Nat.one_ne_zero, reduceCtorEq, true_or, or_true, true_and, Option.some.injEq, AV.lit.injEq, Value.int.injEq, Value.bool.injEq]
    exact hs.symm
  have r6 : (r == 65533) = false := by simpa using r6
  have hany : (unsafeL.any fun s => r == s) = false := by simp only [unsafeL, List.any_cons, List.any_nil, r0, r1, r2, r3, r4, r5, r6, Bool.or_false]
  by_cases h1 : r ≤ 127
  · have a1 : decide (r ≤ 127) = true := by simpa using h1
    have hs : safeOf r = false := by unfold safeOf; rw [decide_eq_true (show r < 128 by omega)]; rfl
    simp only [r0, r1, r2, r3, r4, r5, r6, a1, go_sem, Nat.reduceAdd, Nat.reduceEqDiff, Nat.reduceLT, reduceIte, reduceCtorEq, Nat.reduceBEq, Int.reduceLT, Int.reduceToNat, Int.reducePow, Nat.reduceLeDiff, Int.reduceLE, Nat.reduceMul, Nat.reduceSub]
    simp only [Done, resAV, resL, resOne, look_nil, look_cons, Nat.reduceEqDiff, if_true, if_false, reduceIte, ite_true, ite_false, Nat.zero_ne_one, Nat.one_ne_zero, reduceCtorEq, true_or, or_true, true_and, Option.some.injEq, AV.lit.injEq, Value.int.injEq, Value.bool.injEq]
    exact hs.symm
  have a1 : decide (r ≤ 127) = false := by simpa using h1
  have hso : safeOf r = (getN catsM (rowAt r).cat == 1 && getN notM (rowAt r).bidi == 0) := by unfold safeOf; rw [decide_eq_false (show ¬ r < 128 by omega), hany]; rfl
  rw [hso, getN_cats]
  simp only [r0, r1, r2, r3, r4, r5, r6, a1, go_sem, Nat.reduceAdd, Nat.reduceEqDiff, Nat.reduceLT, reduceIte, reduceCtorEq, Nat.reduceBEq, Int.reduceLT, Int.reduceToNat, Int.reducePow, Nat.reduceLeDiff, Int.reduceLE, Nat.reduceMul, Nat.reduceSub]
  refine callGo_pure (refOf_pure _ h32) (by rfl) ?_
  simp only [go_sem, Nat.reduceAdd, Nat.reduceEqDiff, Nat.reduceLT, reduceIte, reduceCtorEq, Nat.reduceBEq, Int.reduceLT, Int.reduceToNat, Int.reducePow, Nat.reduceLeDiff, Int.reduceLE, Nat.reduceMul, Nat.reduceSub, Row.prop]
  generalize (rowAt r).bidi = b
  generalize (rowAt r).cat = c
  by_cases h2 : c < 1
  · have a2 : decide (c < 1) = true := by simpa using h2
    rw [if_neg (by omega)]
    simp only [a2, go_sem, Nat.reduceAdd, Nat.reduceEqDiff, Nat.reduceLT, reduceIte, reduceCtorEq, Nat.reduceBEq, Int.reduceLT, Int.reduceToNat, Int.reducePow, Nat.reduceLeDiff, Int.reduceLE, Nat.reduceMul, Nat.reduceSub]
    simp only [Done, resAV, resL, resOne, look_nil, look_cons, Nat.reduceEqDiff, if_true, if_false, reduceIte, ite_true, ite_false, Nat.zero_ne_one, Nat.one_ne_zero, reduceCtorEq, true_or, or_true, true_and, Option.some.injEq, AV.lit.injEq, Value.int.injEq, Value.bool.injEq]
    rfl
  have a2 : decide (c < 1) = false := by simpa using h2
  by_cases h3 : c > 7
  · have a3 : decide (c > 7) = true := by simpa using h3
    rw [if_neg (by omega)]
    simp only [a2, a3, go_sem, Nat.reduceAdd, Nat.reduceEqDiff, Nat.reduceLT, reduceIte, reduceCtorEq, Nat.reduceBEq, Int.reduceLT, Int.reduceToNat, Int.reducePow, Nat.reduceLeDiff, Int.reduceLE, Nat.reduceMul, Nat.reduceSub]
    simp only [Done, resAV, resL, resOne, look_nil, look_cons, Nat.reduceEqDiff, if_true, if_false, reduceIte, ite_true, ite_false, Nat.zero_ne_one, Nat.one_ne_zero, reduceCtorEq, true_or, or_true, true_and, Option.some.injEq, AV.lit.injEq, Value.int.injEq, Value.bool.injEq]
    rfl
  have a3 : decide (c > 7) = false := by simpa using h3
  rw [if_pos (by omega)]
  simp only [a2, a3, go_sem, Nat.reduceAdd, Nat.reduceEqDiff, Nat.reduceLT, reduceIte, reduceCtorEq, Nat.reduceBEq, Int.reduceLT, Int.reduceToNat, Int.reducePow, Nat.reduceLeDiff, Int.reduceLE, Nat.reduceMul, Nat.reduceSub]
  by_cases b0 : b = 9
  · subst b0
    simp only [go_sem, Nat.reduceAdd, Nat.reduceEqDiff, Nat.reduceLT, reduceIte, reduceCtorEq, Nat.reduceBEq, Int.reduceLT, Int.reduceToNat, Int.reducePow, Nat.reduceLeDiff, Int.reduceLE, Nat.reduceMul, Nat.reduceSub, Int.reduceBEq]
    simp only [Done, resAV, resL, resOne, look_nil, look_cons, Nat.reduceEqDiff, if_true, if_false, reduceIte, ite_true, ite_false, Nat.zero_ne_one, Nat.one_ne_zero, reduceCtorEq, true_or, or_true, true_and, Option.some.injEq, AV.lit.injEq, Value.int.injEq, Value.bool.injEq]
    rfl
  have b0 : (b == 9) = false := by simpa using b0
  by_cases b1 : b = 10
  · subst b1
    simp only [go_sem, Nat.reduceAdd, Nat.reduceEqDiff, Nat.reduceLT, reduceIte, reduceCtorEq, Nat.reduceBEq, Int.reduceLT, Int.reduceToNat, Int.reducePow, Nat.reduceLeDiff, Int.reduceLE, Nat.reduceMul, Nat.reduceSub, Int.reduceBEq]
    simp only [Done, resAV, resL, resOne, look_nil, look_cons, Nat.reduceEqDiff, if_true, if_false, reduceIte, ite_true, ite_false, Nat.zero_ne_one, Nat.one_ne_zero, reduceCtorEq, true_or, or_true, true_and, Option.some.injEq, AV.lit.injEq, Value.int.injEq, Value.bool.injEq]
    rfl
  have b1 : (b == 10) = false := by simpa using b1
  by_cases b2 : b = 11
  · subst b2
    simp only [go_sem, Nat.reduceAdd, Nat.reduceEqDiff, Nat.reduceLT, reduceIte, reduceCtorEq, Nat.reduceBEq, Int.reduceLT, Int.reduceToNat, Int.reducePow, Nat.reduceLeDiff, Int.reduceLE, Nat.reduceMul, Nat.reduceSub, Int.reduceBEq]
    simp only [Done, resAV, resL, resOne, look_nil, look_cons, Nat.reduceEqDiff, if_true, if_false, reduceIte, ite_true, ite_false, Nat.zero_ne_one, Nat.one_ne_zero, reduceCtorEq, true_or, or_true, true_and, Option.some.injEq, AV.lit.injEq, Value.int.injEq, Value.bool.injEq]
    rfl
  have b2 : (b == 11) = false := by simpa using b2
  by_cases b3 : b = 12
  · subst b3
    simp only [go_sem, Nat.reduceAdd, Nat.reduceEqDiff, Nat.reduceLT, reduceIte, reduceCtorEq, Nat.reduceBEq, Int.reduceLT, Int.reduceToNat, Int.reducePow, Nat.reduceLeDiff, Int.reduceLE, Nat.reduceMul, Nat.reduceSub, Int.reduceBEq]
    simp only [Done, resAV, resL, resOne, look_nil, look_cons, Nat.reduceEqDiff, if_true, if_false, reduceIte, ite_true, ite_false, Nat.zero_ne_one, Nat.one_ne_zero, reduceCtorEq, true_or, or_true, true_and, Option.some.injEq, AV.lit.injEq, Value.int.injEq, Value.bool.injEq]
    rfl
  have b3 : (b == 12) = false := by simpa using b3
  by_cases b4 : b = 14
  · subst b4
    simp only [go_sem, Nat.reduceAdd, Nat.reduceEqDiff, Nat.reduceLT, reduceIte, reduceCtorEq, Nat.reduceBEq, Int.reduceLT, Int.reduceToNat, Int.reducePow, Nat.reduceLeDiff, Int.reduceLE, Nat.reduceMul, Nat.reduceSub, Int.reduceBEq]
    simp only [Done, resAV, resL, resOne, look_nil, look_cons, Nat.reduceEqDiff, if_true, if_false, reduceIte, ite_true, ite_false, Nat.zero_ne_one, Nat.one_ne_zero, reduceCtorEq, true_or, or_true, true_and, Option.some.injEq, AV.lit.injEq, Value.int.injEq, Value.bool.injEq]
    rfl
  have b4 : (b == 14) = false := by simpa using b4
  by_cases b5 : b = 15
  · subst b5
    simp only [go_sem, Nat.reduceAdd, Nat.reduceEqDiff, Nat.reduceLT, reduceIte, reduceCtorEq, Nat.reduceBEq, Int.reduceLT, Int.reduceToNat, Int.reducePow, Nat.reduceLeDiff, Int.reduceLE, Nat.reduceMul, Nat.reduceSub, Int.reduceBEq]
    simp only [Done, resAV, resL, resOne, look_nil, look_cons, Nat.reduceEqDiff, if_true, if_false, reduceIte, ite_true, ite_false, Nat.zero_ne_one, Nat.one_ne_zero, reduceCtorEq, true_or, or_true, true_and, Option.some.injEq, AV.lit.injEq, Value.int.injEq, Value.bool.injEq]
    rfl
  have b5 : (b == 15) = false := by simpa using b5
  by_cases b6 : b = 16
  · subst b6
    simp only [go_sem, Nat.reduceAdd, Nat.reduceEqDiff, Nat.reduceLT, reduceIte, reduceCtorEq, Nat.reduceBEq, Int.reduceLT, Int.reduceToNat, Int.reducePow, Nat.reduceLeDiff, Int.reduceLE, Nat.reduceMul, Nat.reduceSub, Int.reduceBEq]
    simp only [Done, resAV, resL, resOne, look_nil, look_cons, Nat.reduceEqDiff, if_true, if_false, reduceIte, ite_true, ite_false, Nat.zero_ne_one, Nat.one_ne_zero, reduceCtorEq, true_or, or_true, true_and, Option.some.injEq, AV.lit.injEq, Value.int.injEq, Value.bool.injEq]
    rfl
  have b6 : (b == 16) = false := by simpa using b6
  by_cases b7 : b = 17
  · subst b7
    simp only [go_sem, Nat.reduceAdd, Nat.reduceEqDiff, Nat.reduceLT, reduceIte, reduceCtorEq, Nat.reduceBEq, Int.reduceLT, Int.reduceToNat, Int.reducePow, Nat.reduceLeDiff, Int.reduceLE, Nat.reduceMul, Nat.reduceSub, Int.reduceBEq]
    simp only [Done, resAV, resL, resOne, look_nil, look_cons, Nat.reduceEqDiff, if_true, if_false, reduceIte, ite_true, ite_false, Nat.zero_ne_one, Nat.one_ne_zero, reduceCtorEq, true_or, or_true, true_and, Option.some.injEq, AV.lit.injEq, Value.int.injEq, Value.bool.injEq]
    rfl
  have b7 : (b == 17) = false := by simpa using b7
  by_cases b8 : b = 18
  · subst b8
    simp only [go_sem, Nat.reduceAdd, Nat.reduceEqDiff, Nat.reduceLT, reduceIte, reduceCtorEq, Nat.reduceBEq, Int.reduceLT, Int.reduceToNat, Int.reducePow, Nat.reduceLeDiff, Int.reduceLE, Nat.reduceMul, Nat.reduceSub, Int.reduceBEq]
    simp only [Done, resAV, resL, resOne, look_nil, look_cons, Nat.reduceEqDiff, if_true, if_false, reduceIte, ite_true, ite_false, Nat.zero_ne_one, Nat.one_ne_zero, reduceCtorEq, true_or, or_true, true_and, Option.some.injEq, AV.lit.injEq, Value.int.injEq, Value.bool.injEq]
    rfl
  have b8 : (b == 18) = false := by simpa using b8
  by_cases b9 : b = 19
  · subst b9
    simp only [go_sem, Nat.reduceAdd, Nat.reduceEqDiff, Nat.reduceLT, reduceIte, reduceCtorEq, Nat.reduceBEq, Int.reduceLT, Int.reduceToNat, Int.reducePow, Nat.reduceLeDiff, Int.reduceLE, Nat.reduceMul, Nat.reduceSub, Int.reduceBEq]
    simp only [Done, resAV, resL, resOne, look_nil, look_cons, Nat.reduceEqDiff, if_true, if_false, reduceIte, ite_true, ite_false, Nat.zero_ne_one, Nat.one_ne_zero, reduceCtorEq, true_or, or_true, true_and, Option.some.injEq, AV.lit.injEq, Value.int.injEq, Value.bool.injEq]
    rfl
  have b9 : (b == 19) = false := by simpa using b9
  by_cases b10 : b = 20
  · subst b10
    simp only [go_sem, Nat.reduceAdd, Nat.reduceEqDiff, Nat.reduceLT, reduceIte, reduceCtorEq, Nat.reduceBEq, Int.reduceLT, Int.reduceToNat, Int.reducePow, Nat.reduceLeDiff, Int.reduceLE, Nat.reduceMul, Nat.reduceSub, Int.reduceBEq]
    simp only [Done, resAV, resL, resOne, look_nil, look_cons, Nat.reduceEqDiff, if_true, if_false, reduceIte, ite_true, ite_false, Nat.zero_ne_one, Nat.one_ne_zero, reduceCtorEq, true_or, or_true, true_and, Option.some.injEq, AV.lit.injEq, Value.int.injEq, Value.bool.injEq]
    rfl
  have b10 : (b == 20) = false := by simpa using b10
  by_cases b11 : b = 21
  · subst b11
    simp only [go_sem, Nat.reduceAdd, Nat.reduceEqDiff, Nat.reduceLT, reduceIte, reduceCtorEq, Nat.reduceBEq, Int.reduceLT, Int.reduceToNat, Int.reducePow, Nat.reduceLeDiff, Int.reduceLE, Nat.reduceMul, Nat.reduceSub, Int.reduceBEq]
    simp only [Done, resAV, resL, resOne, look_nil, look_cons, Nat.reduceEqDiff, if_true, if_false, reduceIte, ite_true, ite_false, Nat.zero_ne_one, Nat.one_ne_zero, reduceCtorEq, true_or, or_true, true_and, Option.some.injEq, AV.lit.injEq, Value.int.injEq, Value.bool.injEq]
    rfl
  have b11 : (b == 21) = false := by simpa using b11
  by_cases b12 : b = 22
  · subst b12
    simp only [go_sem, Nat.reduceAdd, Nat.reduceEqDiff, Nat.reduceLT, reduceIte, reduceCtorEq, Nat.reduceBEq, Int.reduceLT, Int.reduceToNat, Int.reducePow, Nat.reduceLeDiff, Int.reduceLE, Nat.reduceMul, Nat.reduceSub, Int.reduceBEq]
    simp only [Done, resAV, resL, resOne, look_nil, look_cons, Nat.reduceEqDiff, if_true, if_false, reduceIte, ite_true, ite_false, Nat.zero_ne_one, Nat.one_ne_zero, reduceCtorEq, true_or, or_true, true_and, Option.some.injEq, AV.lit.injEq, Value.int.injEq, Value.bool.injEq]
    rfl
  have b12 : (b == 22) = false := by simpa using b12
  have hz : getN notM b = 0 := by
    have f0 : ¬ (9 : Int) = b := fun e => by subst e; cases b0
    have f1 : ¬ (10 : Int) = b := fun e => by subst e; cases b1
    have f2 : ¬ (11 : Int) = b := fun e => by subst e; cases b2
    have f3 : ¬ (12 : Int) = b := fun e => by subst e; cases b3
    have f4 : ¬ (14 : Int) = b := fun e => by subst e; cases b4
    have f5 : ¬ (15 : Int) = b := fun e => by subst e; cases b5
    have f6 : ¬ (16 : Int) = b := fun e => by subst e; cases b6
    have f7 : ¬ (17 : Int) = b := fun e => by subst e; cases b7
    have f8 : ¬ (18 : Int) = b := fun e => by subst e; cases b8
    have f9 : ¬ (19 : Int) = b := fun e => by subst e; cases b9
    have f10 : ¬ (20 : Int) = b := fun e => by subst e; cases b10
    have f11 : ¬ (21 : Int) = b := fun e => by subst e; cases b11
    have f12 : ¬ (22 : Int) = b := fun e => by subst e; cases b12
    simp only [notM, getN, f0, f1, f2, f3, f4, f5, f6, f7, f8, f9, f10, f11, f12, if_false]
  rw [hz]
  simp only [b0, b1, b2, b3, b4, b5, b6, b7, b8, b9, b10, b11, b12, go_sem, Nat.reduceAdd, Nat.reduceEqDiff, Nat.reduceLT, reduceIte, reduceCtorEq, Nat.reduceBEq, Int.reduceLT, Int.reduceToNat, Int.reducePow, Nat.reduceLeDiff, Int.reduceLE, Nat.reduceMul, Nat.reduceSub]
  simp only [Done, resAV, resL, resOne, look_nil, look_cons, Nat.reduceEqDiff, if_true, if_false, reduceIte, ite_true, ite_false, Nat.zero_ne_one, Nat.one_ne_zero, reduceCtorEq, true_or, or_true, true_and, Option.some.injEq, AV.lit.injEq, Value.int.injEq, Value.bool.injEq]
  rfl
end Go.Proofs.Yteekelelcbfekaa
