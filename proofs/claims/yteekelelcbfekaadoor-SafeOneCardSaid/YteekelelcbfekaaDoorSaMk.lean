/-
Digits. Conditions: none.
-/
import Derived.Test.YteekelelcbfekaaDoorAbSet
import Derived.Test.YteekelelcbfekaaDoorProg
import Derived.Test.YteekelelcbfekaaDoorChecked
import Derived.KernelRfl
import Derived.Lib.Strings
import Derived.Lib.Slices
import Derived.Lib.Walk
import Derived.Lib.Bytealg
set_option linter.unusedSimpArgs false
set_option linter.unusedVariables false
set_option linter.unusedSectionVars false

/-! ## Saf1D -/

namespace Go.Proofs.YteekelelcbfekaaDoor
open Go Go.Ab Go.ChangeShapes Go.WideShapes Go.ChangeAt Go.RowKit

set_option maxHeartbeats 1000000 in
set_option maxRecDepth 100000 in
theorem liteIndexByte (s : ByteArray) (c : Int) (w : World) :
    Calls Tryd.prog 72 #[.string s, .int .u8 c] w fun e w' => e = .returned (.int .i64 (Lib.indexByte s.data.toList c.toNat.toUInt8)) ∧ w' = w := by
  go_enter Tryd.func72, Tryd.ntmps72
  go_wp2
  rw [run_callFunc_extern Tryd.func78 (by kernel_rfl) (by kernel_rfl) (by kernel_rfl) (e := Extern.BytealgIndexByte.indexByte) (by kernel_rfl), Lib.run_indexByteString]
  simp only [Result.andThen]
  rw [Oper.upon_value]
  go_wp2
  go_ret
  exact ⟨rfl, rfl⟩

/-- From a contract of the library to one of ours. -/
theorem pure_of_calls {g : FuncId} {vs : List Value} {v : Value} (he : Enters Tryd.prog g) (h : ∀ w, Calls Tryd.prog g vs.toArray w fun e w' => e = .returned v ∧ w' = w) : Pure Tryd.prog g (vs.map .lit) [] (.lit v) := by
  refine ⟨he, fun w p vs' hp hr => ?_⟩
  have hvs : ∀ (l : List Value) (l' : List Value), RepL Tryd.prog (topC w p) w (l.map .lit) l' → l' = l := by
    intro l
    induction l with
    | nil => intro l' h; simpa only [List.map_nil, RepL] using h
    | cons x l ih =>
      intro l' h
      simp only [List.map_cons, RepL, Rep] at h
      obtain ⟨a, b, rfl, rfl, h2⟩ := h
      rw [ih b h2]
  have e : vs' = vs.toArray := by rw [← hvs vs vs'.toList hr, Array.toArray_toList]
  subst e
  refine (h w).mono ?_
  rintro e w' ⟨rfl, rfl⟩
  exact ⟨v, topC w' p, rfl, Ext.refl _ _ _, rfl, ⟨by simp, by simp, by simp [idx], by simp [idx], by simp [idx], by simp [idx], Below.refl _ _, Nat.le_refl _, hp, fun _ _ h _ => h⟩, by simp only [Rep]⟩

theorem ixLite_enters : Enters Tryd.prog 72 := enters_of Tryd.func72 (by kernel_rfl) (by kernel_rfl)
theorem ixLite_pure (s : ByteArray) (c : Int) : Pure Tryd.prog 72 [.lit (.string s), .lit (.int .u8 c)] [] (.lit (.int .i64 (Lib.indexByte s.data.toList c.toNat.toUInt8))) :=
  pure_of_calls (vs := [.string s, .int .u8 c]) ixLite_enters fun w => liteIndexByte s c w
end Go.Proofs.YteekelelcbfekaaDoor

/-! ## Saf2D -/

namespace Go.Proofs.YteekelelcbfekaaDoor
open Go Go.Ab Go.ChangeShapes Go.WideShapes Go.ChangeAt Go.RowKit
def a59 : ACode :=
  (.seq (.reg [⟨(.some 4), (.mv (.k (.int .i64 0))), .none⟩]) (.seq (.reg [⟨(.some 5), (.mv (.t 0)), .none⟩, ⟨(.some 6), (.mv (.t 1)), .none⟩, ⟨(.some 7), (.call (.f 72) [(.t 5), (.t 6)]), .none⟩,
  ⟨(.some 4), (.mv (.t 7)), .none⟩]) .ret))
theorem c59 : Tryd.f59.body.bind (cCode Tryd.prog 8) = some a59 := by kernel_rfl
theorem r59 : Tryd.f59.results.toList = [(.tmp 4)] := by kernel_rfl
theorem n59 : Tryd.f59.ntmps = 8 := by kernel_rfl
theorem e59 : Enters Tryd.prog 59 := Go.Ab.enters_of Tryd.func59 (by kernel_rfl) (by kernel_rfl)
def a38 : ACode :=
  (.seq (.reg [⟨(.some 2), (.mv (.k (.int .i64 0))), .none⟩, ⟨(.some 3), (.mv (.k (.bool false))), .none⟩]) (.seq (.seq (.reg [⟨(.some 5), (.mv (.t 0)), .none⟩, ⟨(.some 6), (.bin .geq (.t 5) (.k (.int
  .u8 97))), .none⟩, ⟨(.some 7), (.mv (.t 6)), .none⟩, ⟨(.some 8), (.mv (.t 0)), (.some (7, true))⟩, ⟨(.some 9), (.bin .leq (.t 8) (.k (.int .u8 102))), (.some (7, true))⟩, ⟨(.some 10), (.pick (.t 7)
  (.t 9) (.k (.bool false))), .none⟩]) (.cond (.t 10) (.reg [⟨(.some 11), (.mv (.t 0)), .none⟩, ⟨(.some 12), (.bin .sub (.t 11) (.k (.int .u8 32))), .none⟩, ⟨(.some 0), (.mv (.t 12)), .none⟩]) .skip))
  (.seq (.reg [⟨(.some 13), (.mv (.t 0)), .none⟩, ⟨(.some 14), (.call (.f 59) [(.k (.string ⟨#[48, 49, 50, 51, 52, 53, 54, 55, 56, 57, 65, 66, 67, 68, 69, 70]⟩)), (.t 13)]), .none⟩, ⟨(.some 4), (.mv (.t
  14)), .none⟩]) (.seq (.reg [⟨(.some 15), (.mv (.t 4)), .none⟩, ⟨(.some 16), (.mx (.t 15) (.k (.int .i64 0))), .none⟩, ⟨(.some 17), (.mv (.t 4)), .none⟩, ⟨(.some 18), (.bin .geq (.t 17) (.k (.int .i64
  0))), .none⟩, ⟨(.some 2), (.mv (.t 16)), .none⟩, ⟨(.some 3), (.mv (.t 18)), .none⟩]) .ret))))
theorem c38 : Tryd.f38.body.bind (cCode Tryd.prog 19) = some a38 := by kernel_rfl
theorem r38 : Tryd.f38.results.toList = [(.tmp 2), (.tmp 3)] := by kernel_rfl
theorem n38 : Tryd.f38.ntmps = 19 := by kernel_rfl
theorem e38 : Enters Tryd.prog 38 := Go.Ab.enters_of Tryd.func38 (by kernel_rfl) (by kernel_rfl)
theorem ixByte_pure (s : ByteArray) (c : Int) : Pure Tryd.prog 59 [.lit (.string s), .lit (.int .u8 c)] [] (.lit (.int .i64 (Lib.indexByte s.data.toList c.toNat.toUInt8))) := by
  refine pure0 Tryd.func59 c59 n59 e59 r59 (by simp) rfl ?_
  simp only [a59, astart, argSlots, go_sem, Nat.reduceAdd, Nat.reduceEqDiff, Nat.reduceLT, reduceIte, reduceCtorEq, Nat.reduceBEq, Int.reduceLT, Int.reduceToNat, Int.reducePow, Nat.reduceLeDiff, Int.reduceLE, Nat.reduceMul, Nat.reduceSub]
  refine callGo_pure (ixLite_pure s c) (by rfl) ?_
  simp only [go_sem, Nat.reduceAdd, Nat.reduceEqDiff, Nat.reduceLT, reduceIte, reduceCtorEq, Nat.reduceBEq, Int.reduceLT, Int.reduceToNat, Int.reducePow, Nat.reduceLeDiff, Int.reduceLE, Nat.reduceMul, Nat.reduceSub]
  simp only [Done, resAV, resL, resOne, look_nil, look_cons, Nat.reduceEqDiff, if_true, if_false, reduceIte, ite_true, ite_false, Nat.zero_ne_one, Nat.one_ne_zero, reduceCtorEq, true_or, or_true, true_and, Option.some.injEq, AV.lit.injEq, Value.int.injEq, Value.bool.injEq]

/-- A digit's number. -/
def hexOf (c : Nat) : Option Nat := if 48 ≤ c ∧ c ≤ 57 then some (c - 48) else if 97 ≤ c ∧ c ≤ 102 then some (c - 87) else if 65 ≤ c ∧ c ≤ 70 then some (c - 55) else none
def digA (c : Nat) : AV := .tu [.lit (.int .i64 (((hexOf c).getD 0 : Nat) : Int)), .lit (.bool (hexOf c).isSome)]
def ixD (c : Nat) : Int := Lib.indexByte [48, 49, 50, 51, 52, 53, 54, 55, 56, 57, 65, 66, 67, 68, 69, 70] c.toUInt8
theorem ixD_hex : ∀ c < 256, (if ixD (if 97 ≤ c ∧ c ≤ 102 then c - 32 else c) < 0 then (0 : Int) else ixD (if 97 ≤ c ∧ c ≤ 102 then c - 32 else c)) = (((hexOf c).getD 0 : Nat) : Int) ∧
    decide (ixD (if 97 ≤ c ∧ c ≤ 102 then c - 32 else c) ≥ 0) = (hexOf c).isSome := by decide +kernel

theorem ixD_fold (d : Nat) : Lib.indexByte [48, 49, 50, 51, 52, 53, 54, 55, 56, 57, 65, 66, 67, 68, 69, 70] ((d : Int)).toNat.toUInt8 = ixD d := by rw [Int.toNat_natCast]; rfl
set_option maxRecDepth 10000 in
theorem digit_pure (c : Nat) (h : c ≤ 255) : Pure Tryd.prog 38 [.lit (.int .u8 (c : Int))] [] (digA c) := by
  have hx := ixD_hex c (by omega)
  unfold digA
  rw [← hx.1, ← hx.2]
  obtain ⟨d, hd⟩ : ∃ d, d = if 97 ≤ c ∧ c ≤ 102 then c - 32 else c := ⟨_, rfl⟩
  rw [← hd]
  refine pure0 Tryd.func38 c38 n38 e38 r38 (by simp) rfl ?_
  simp only [a38, astart, argSlots, go_sem, Nat.reduceAdd, Nat.reduceEqDiff, Nat.reduceLT, reduceIte, reduceCtorEq, Nat.reduceBEq, Int.reduceLT, Int.reduceToNat, Int.reducePow, Nat.reduceLeDiff, Int.reduceLE, Nat.reduceMul, Nat.reduceSub]
  by_cases h1 : 97 ≤ c
  · have a1 : decide ((c : Int) ≥ 97) = true := by simp only [decide_eq_true_eq]; omega
    by_cases h2 : c ≤ 102
    · have a2 : decide ((c : Int) ≤ 102) = true := by simp only [decide_eq_true_eq]; omega
      rw [if_pos ⟨h1, h2⟩] at hd
      have hw : IntKind.u8.wrap ((c : Int) - 32) = (d : Int) := by rw [wrap_u8 _ (by omega) (by omega)]; omega
      simp only [a1, a2, hw, go_sem, Nat.reduceAdd, Nat.reduceEqDiff, Nat.reduceLT, reduceIte, reduceCtorEq, Nat.reduceBEq, Int.reduceLT, Int.reduceToNat, Int.reducePow, Nat.reduceLeDiff, Int.reduceLE, Nat.reduceMul, Nat.reduceSub]
      refine callGo_pure (ixByte_pure _ _) (by rfl) ?_
      simp only [go_sem, Nat.reduceAdd, Nat.reduceEqDiff, Nat.reduceLT, reduceIte, reduceCtorEq, Nat.reduceBEq, Int.reduceLT, Int.reduceToNat, Int.reducePow, Nat.reduceLeDiff, Int.reduceLE, Nat.reduceMul, Nat.reduceSub, ixD_fold]
      simp only [Done, resAV, resL, resOne, look_nil, look_cons, Nat.reduceEqDiff, if_true, if_false, reduceIte, ite_true, ite_false, Nat.zero_ne_one, Nat.one_ne_zero, reduceCtorEq, true_or, or_true, true_and, Option.some.injEq, AV.lit.injEq, Value.int.injEq, Value.bool.injEq]
    · have a2 : decide ((c : Int) ≤ 102) = false := by simp only [decide_eq_false_iff_not]; omega
      rw [if_neg (by omega)] at hd
      subst hd
      simp only [a1, a2, go_sem, Nat.reduceAdd, Nat.reduceEqDiff, Nat.reduceLT, reduceIte, reduceCtorEq, Nat.reduceBEq, Int.reduceLT, Int.reduceToNat, Int.reducePow, Nat.reduceLeDiff, Int.reduceLE, Nat.reduceMul, Nat.reduceSub]
      refine callGo_pure (ixByte_pure _ _) (by rfl) ?_
      simp only [go_sem, Nat.reduceAdd, Nat.reduceEqDiff, Nat.reduceLT, reduceIte, reduceCtorEq, Nat.reduceBEq, Int.reduceLT, Int.reduceToNat, Int.reducePow, Nat.reduceLeDiff, Int.reduceLE, Nat.reduceMul, Nat.reduceSub, ixD_fold]
      simp only [Done, resAV, resL, resOne, look_nil, look_cons, Nat.reduceEqDiff, if_true, if_false, reduceIte, ite_true, ite_false, Nat.zero_ne_one, Nat.one_ne_zero, reduceCtorEq, true_or, or_true, true_and, Option.some.injEq, AV.lit.injEq, Value.int.injEq, Value.bool.injEq]
  · have a1 : decide ((c : Int) ≥ 97) = false := by simp only [decide_eq_false_iff_not]; omega
    rw [if_neg (by omega)] at hd
    subst hd
    simp only [a1, go_sem, Nat.reduceAdd, Nat.reduceEqDiff, Nat.reduceLT, reduceIte, reduceCtorEq, Nat.reduceBEq, Int.reduceLT, Int.reduceToNat, Int.reducePow, Nat.reduceLeDiff, Int.reduceLE, Nat.reduceMul, Nat.reduceSub]
    refine callGo_pure (ixByte_pure _ _) (by rfl) ?_
    simp only [go_sem, Nat.reduceAdd, Nat.reduceEqDiff, Nat.reduceLT, reduceIte, reduceCtorEq, Nat.reduceBEq, Int.reduceLT, Int.reduceToNat, Int.reducePow, Nat.reduceLeDiff, Int.reduceLE, Nat.reduceMul, Nat.reduceSub, ixD_fold]
    simp only [Done, resAV, resL, resOne, look_nil, look_cons, Nat.reduceEqDiff, if_true, if_false, reduceIte, ite_true, ite_false, Nat.zero_ne_one, Nat.one_ne_zero, reduceCtorEq, true_or, or_true, true_and, Option.some.injEq, AV.lit.injEq, Value.int.injEq, Value.bool.injEq]

end Go.Proofs.YteekelelcbfekaaDoor
