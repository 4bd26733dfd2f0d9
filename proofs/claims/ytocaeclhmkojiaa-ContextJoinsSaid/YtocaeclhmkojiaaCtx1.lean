/-
What a label has at a place, and beside it: the inner functions of the package context. Conditions: none.
-/
import Derived.Test.YtocaeclhmkojiaaMix9
set_option linter.unusedSimpArgs false
set_option linter.unusedVariables false
set_option linter.unusedSectionVars false
namespace Go.Proofs.Ytocaeclhmkojiaa
open Go Go.Ab
def a87 : ACode :=
  (.seq (.reg [⟨(.some 2), (.box 80 (.t 0)), .none⟩, ⟨(.some 4), (.mv (.k (.int .i32 0))), .none⟩]) (.seq (.seq (.reg [⟨(.some 6), (.fa 1 (.t 2)), .none⟩, ⟨(.some 7), (.ld .none (.t 6)), .none⟩, ⟨(.some
  8), (.mv (.t 1)), .none⟩, ⟨(.some 9), (.bin .add (.t 7) (.t 8)), .none⟩, ⟨(.some 5), (.mv (.t 9)), .none⟩]) (.seq (.reg [⟨(.some 10), (.mv (.t 5)), .none⟩, ⟨(.some 11), (.bin .geq (.t 10) (.k (.int
  .i64 0))), .none⟩, ⟨(.some 12), (.mv (.t 11)), .none⟩, ⟨(.some 13), (.mv (.t 5)), (.some (12, true))⟩, ⟨(.some 14), (.fa 0 (.t 2)), (.some (12, true))⟩, ⟨(.some 15), (.ld .none (.t 14)), (.some (12,
  true))⟩, ⟨(.some 16), (.len (.t 15)), (.some (12, true))⟩, ⟨(.some 17), (.bin .lss (.t 13) (.t 16)), (.some (12, true))⟩, ⟨(.some 18), (.pick (.t 12) (.t 17) (.k (.bool false))), .none⟩]) (.cond (.t
  18) (.seq (.reg [⟨(.some 19), (.fa 0 (.t 2)), .none⟩, ⟨(.some 20), (.ld .none (.t 19)), .none⟩, ⟨(.some 21), (.mv (.t 5)), .none⟩, ⟨(.some 22), (.ia 21 (.t 20) (.t 21)), .none⟩, ⟨(.some 23), (.ld
  .none (.t 22)), .none⟩, ⟨(.some 4), (.mv (.t 23)), .none⟩]) .ret) .skip))) (.seq (.reg [⟨(.some 4), (.mv (.k (.int .i32 (-1)))), .none⟩]) .ret)))
theorem c87 : Try.f87.body.bind (cCode Try.prog 24) = some a87 := by kernel_rfl
theorem r87 : Try.f87.results.toList = [(.tmp 4)] := by kernel_rfl
theorem n87 : Try.f87.ntmps = 24 := by kernel_rfl
theorem e87 : Enters Try.prog 87 := enters_of Try.func87 (by kernel_rfl) (by kernel_rfl)
def a88 : ACode :=
  (.seq (.reg [⟨(.some 1), (.box 80 (.t 0)), .none⟩, ⟨(.some 2), (.mv (.k (.bool false))), .none⟩]) (.seq (.reg [⟨(.some 3), (.ld (.some 2) (.t 1)), .none⟩, ⟨(.some 4), (.call (.f 87) [(.t 3), (.k (.int
  .i64 (-1)))]), .none⟩, ⟨(.some 5), (.call (.f 22) [(.t 4)]), .none⟩, ⟨(.some 6), (.fld 3 .none (.t 5)), .none⟩, ⟨(.some 7), (.bin .eql (.t 6) (.k (.int .u8 9))), .none⟩, ⟨(.some 2), (.mv (.t 7)),
  .none⟩]) .ret))
theorem c88 : Try.f88.body.bind (cCode Try.prog 8) = some a88 := by kernel_rfl
theorem r88 : Try.f88.results.toList = [(.tmp 2)] := by kernel_rfl
theorem n88 : Try.f88.ntmps = 8 := by kernel_rfl
theorem e88 : Enters Try.prog 88 := enters_of Try.func88 (by kernel_rfl) (by kernel_rfl)
def a90 : ACode :=
  (.seq (.reg [⟨(.some 3), (.box 80 (.t 0)), .none⟩, ⟨(.some 6), (.mv (.k (.bool false))), .none⟩]) (.seq (.seq (.reg [⟨(.some 9), (.mv (.t 1)), .none⟩, ⟨(.some 7), (.mv (.t 9)), .none⟩]) (.block 0
  (.loop (.seq (.seq (.reg [⟨(.some 10), (.ld (.some 2) (.t 3)), .none⟩, ⟨(.some 11), (.mv (.t 7)), .none⟩, ⟨(.some 12), (.call (.f 87) [(.t 10), (.t 11)]), .none⟩, ⟨(.some 13), (.bin .geq (.t 12) (.k
  (.int .i32 0))), .none⟩]) (.cond (.t 13) .skip (.exit 0))) (.seq (.block 1 (.seq (.reg [⟨(.some 17), (.ld (.some 2) (.t 3)), .none⟩, ⟨(.some 18), (.mv (.t 7)), .none⟩, ⟨(.some 19), (.call (.f 87) [(.t
  17), (.t 18)]), .none⟩, ⟨(.some 20), (.call (.f 22) [(.t 19)]), .none⟩, ⟨(.some 21), (.fld 2 .none (.t 20)), .none⟩, ⟨(.some 8), (.mv (.t 21)), .none⟩]) (.seq (.reg [⟨(.some 22), (.mv (.t 8)), .none⟩,
  ⟨(.some 23), (.bin .neq (.t 22) (.k (.int .u8 2))), .none⟩]) (.cond (.t 23) (.seq (.reg [⟨(.some 24), (.mv (.t 8)), .none⟩, ⟨(.some 25), (.bin .eql (.t 24) (.k (.int .u8 3))), .none⟩, ⟨(.some 26),
  (.mv (.t 25)), .none⟩, ⟨(.some 27), (.mv (.t 8)), (.some (26, false))⟩, ⟨(.some 28), (.mv (.t 2)), (.some (26, false))⟩, ⟨(.some 29), (.bin .eql (.t 27) (.t 28)), (.some (26, false))⟩, ⟨(.some 30),
  (.pick (.t 26) (.k (.bool true)) (.t 29)), .none⟩, ⟨(.some 6), (.mv (.t 30)), .none⟩]) .ret) .skip)))) (.reg [⟨(.some 14), (.mv (.t 7)), .none⟩, ⟨(.some 15), (.mv (.t 1)), .none⟩, ⟨(.some 16), (.bin
  .add (.t 14) (.t 15)), .none⟩, ⟨(.some 7), (.mv (.t 16)), .none⟩])))))) (.seq (.reg [⟨(.some 6), (.mv (.k (.bool false))), .none⟩]) .ret)))
theorem c90 : Try.f90.body.bind (cCode Try.prog 31) = some a90 := by kernel_rfl
theorem r90 : Try.f90.results.toList = [(.tmp 6)] := by kernel_rfl
theorem n90 : Try.f90.ntmps = 31 := by kernel_rfl
theorem e90 : Enters Try.prog 90 := enters_of Try.func90 (by kernel_rfl) (by kernel_rfl)
def a94 : ACode :=
  (.seq (.reg [⟨(.some 2), (.box 80 (.t 0)), .none⟩, ⟨(.some 3), (.box 34 (.t 1)), .none⟩, ⟨(.some 4), (.mv (.k (.bool false))), .none⟩]) (.seq (.reg [⟨(.some 5), (.fa 0 (.t 2)), .none⟩, ⟨(.some 6),
  (.ld .none (.t 5)), .none⟩, ⟨(.some 7), (.mkf (.func 105) [] [(.t 3)]), .none⟩, ⟨(.some 8), (.call (.f 44) [(.t 6), (.t 7)]), .none⟩, ⟨(.some 4), (.mv (.t 8)), .none⟩]) .ret))
theorem c94 : Try.f94.body.bind (cCode Try.prog 9) = some a94 := by kernel_rfl
theorem r94 : Try.f94.results.toList = [(.tmp 4)] := by kernel_rfl
theorem n94 : Try.f94.ntmps = 9 := by kernel_rfl
theorem e94 : Enters Try.prog 94 := enters_of Try.func94 (by kernel_rfl) (by kernel_rfl)
def a105 : ACode :=
  (.seq (.reg [⟨(.some 3), (.mv (.k (.bool false))), .none⟩]) (.seq (.dreg [⟨(.some 4), (.ld .none (.t 1)), .none⟩, ⟨(.some 5), (.mv (.t 0)), .none⟩, ⟨(.some 6), (.call (.f 22) [(.t 5)]), .none⟩,
  ⟨(.some 7), (.fld 4 .none (.t 6)), .none⟩, ⟨(.some 8), (.call (.f 106) [(.t 4), (.t 7)]), .none⟩, ⟨(.some 3), (.mv (.t 8)), .none⟩]) .ret))
theorem c105 : Try.f105.body.bind (cCode Try.prog 9) = some a105 := by kernel_rfl
theorem r105 : Try.f105.results.toList = [(.tmp 3)] := by kernel_rfl
theorem n105 : Try.f105.ntmps = 9 := by kernel_rfl
theorem e105 : Enters Try.prog 105 := enters_of Try.func105 (by kernel_rfl) (by kernel_rfl)
def a96 : ACode :=
  (.seq (.reg [⟨(.some 2), (.box 80 (.t 0)), .none⟩, ⟨(.some 3), (.box 5 (.t 1)), .none⟩, ⟨(.some 4), (.mv (.k (.bool false))), .none⟩]) (.seq (.reg [⟨(.some 5), (.fa 0 (.t 2)), .none⟩, ⟨(.some 6), (.ld
  .none (.t 5)), .none⟩, ⟨(.some 7), (.mkf (.func 107) [] [(.t 3)]), .none⟩, ⟨(.some 8), (.call (.f 44) [(.t 6), (.t 7)]), .none⟩, ⟨(.some 4), (.mv (.t 8)), .none⟩]) .ret))
theorem c96 : Try.f96.body.bind (cCode Try.prog 9) = some a96 := by kernel_rfl
theorem r96 : Try.f96.results.toList = [(.tmp 4)] := by kernel_rfl
theorem n96 : Try.f96.ntmps = 9 := by kernel_rfl
theorem e96 : Enters Try.prog 96 := enters_of Try.func96 (by kernel_rfl) (by kernel_rfl)
def a107 : ACode :=
  (.seq (.reg [⟨(.some 3), (.mv (.k (.bool false))), .none⟩]) (.seq (.dreg [⟨(.some 4), (.mv (.t 0)), .none⟩, ⟨(.some 5), (.call (.f 22) [(.t 4)]), .none⟩, ⟨(.some 6), (.fld 5 .none (.t 5)), .none⟩,
  ⟨(.some 7), (.ld .none (.t 1)), .none⟩, ⟨(.some 8), (.bin .eql (.t 6) (.t 7)), .none⟩, ⟨(.some 3), (.mv (.t 8)), .none⟩]) .ret))
theorem c107 : Try.f107.body.bind (cCode Try.prog 9) = some a107 := by kernel_rfl
theorem r107 : Try.f107.results.toList = [(.tmp 3)] := by kernel_rfl
theorem n107 : Try.f107.ntmps = 9 := by kernel_rfl
theorem e107 : Enters Try.prog 107 := enters_of Try.func107 (by kernel_rfl) (by kernel_rfl)
def a106 : ACode :=
  (.seq (.reg [⟨(.some 4), (.mv (.k (.bool false))), .none⟩]) (.seq (.reg [⟨(.some 5), (.mv (.t 0)), .none⟩, ⟨(.some 6), (.mv (.t 1)), .none⟩, ⟨(.some 7), (.call (.f 108) [(.t 5), (.t 6)]), .none⟩,
  ⟨(.some 8), (.bin .geq (.t 7) (.k (.int .i64 0))), .none⟩, ⟨(.some 4), (.mv (.t 8)), .none⟩]) .ret))
theorem c106 : Try.f106.body.bind (cCode Try.prog 9) = some a106 := by kernel_rfl
theorem r106 : Try.f106.results.toList = [(.tmp 4)] := by kernel_rfl
theorem n106 : Try.f106.ntmps = 9 := by kernel_rfl
theorem e106 : Enters Try.prog 106 := enters_of Try.func106 (by kernel_rfl) (by kernel_rfl)
def a108 : ACode :=
  (.seq (.reg [⟨(.some 4), (.mv (.k (.int .i64 0))), .none⟩]) (.seq (.seq (.reg [⟨(.some 6), (.mv (.t 0)), .none⟩, ⟨(.some 7), (.len (.t 6)), .none⟩, ⟨(.some 8), (.mv (.k (.int .i64 0))), .none⟩])
  (.block 0 (.loop (.seq (.reg [⟨(.some 9), (.bin .lss (.t 8) (.t 7)), .none⟩]) (.seq (.cond (.t 9) .skip (.exit 0)) (.seq (.block 1 (.seq (.reg [⟨(.some 10), (.mv (.t 8)), .none⟩, ⟨(.some 5), (.mv (.t
  10)), .none⟩]) (.seq (.reg [⟨(.some 11), (.mv (.t 1)), .none⟩, ⟨(.some 12), (.mv (.t 0)), .none⟩, ⟨(.some 13), (.mv (.t 5)), .none⟩, ⟨(.some 14), (.ia 5 (.t 12) (.t 13)), .none⟩, ⟨(.some 15), (.ld
  .none (.t 14)), .none⟩, ⟨(.some 16), (.bin .eql (.t 11) (.t 15)), .none⟩]) (.cond (.t 16) (.seq (.reg [⟨(.some 17), (.mv (.t 5)), .none⟩, ⟨(.some 4), (.mv (.t 17)), .none⟩]) .ret) .skip)))) (.reg
  [⟨(.some 18), (.bin .add (.t 8) (.k (.int .i64 1))), .none⟩, ⟨(.some 8), (.mv (.t 18)), .none⟩]))))))) (.seq (.reg [⟨(.some 4), (.mv (.k (.int .i64 (-1)))), .none⟩]) .ret)))
theorem c108 : Try.f108.body.bind (cCode Try.prog 19) = some a108 := by kernel_rfl
theorem r108 : Try.f108.results.toList = [(.tmp 4)] := by kernel_rfl
theorem n108 : Try.f108.ntmps = 19 := by kernel_rfl
theorem e108 : Enters Try.prog 108 := enters_of Try.func108 (by kernel_rfl) (by kernel_rfl)
def a70 : ACode :=
  (.seq (.reg [⟨(.some 2), (.mv (.k (.int .i32 0))), .none⟩]) (.seq (.seq (.reg [⟨(.some 3), (.mv (.t 0)), .none⟩, ⟨(.some 4), (.call (.f 22) [(.t 3)]), .none⟩, ⟨(.some 5), (.fld 5 .none (.t 4)),
  .none⟩]) (.block 0 (.seq (.reg [⟨(.some 7), (.bin .eql (.t 5) (.k (.int .u8 2))), .none⟩, ⟨(.some 6), (.mv (.t 7)), .none⟩]) (.cond (.t 6) (.seq (.reg [⟨(.some 2), (.mv (.k (.int .i32 1632))),
  .none⟩]) .ret) (.seq (.reg [⟨(.some 9), (.bin .eql (.t 5) (.k (.int .u8 3))), .none⟩, ⟨(.some 8), (.mv (.t 9)), .none⟩]) (.cond (.t 8) (.seq (.reg [⟨(.some 2), (.mv (.k (.int .i32 1776))), .none⟩])
  .ret) .skip)))))) (.seq (.reg [⟨(.some 10), (.mv (.t 0)), .none⟩, ⟨(.some 2), (.mv (.t 10)), .none⟩]) .ret)))
theorem c70 : Try.f70.body.bind (cCode Try.prog 11) = some a70 := by kernel_rfl
theorem r70 : Try.f70.results.toList = [(.tmp 2)] := by kernel_rfl
theorem n70 : Try.f70.ntmps = 11 := by kernel_rfl
theorem e70 : Enters Try.prog 70 := enters_of Try.func70 (by kernel_rfl) (by kernel_rfl)

/-- The code point at a place; -1: there is none. -/
def atP (l : List Int) (k : Int) : Int := if 0 ≤ k ∧ k < l.length then l.getD k.toNat 0 else -1
theorem atP_in (l : List Int) (i : Nat) (h : i < l.length) : atP l (i : Int) = l[i] := by
  unfold atP
  rw [if_pos ⟨by omega, by omega⟩, Int.toNat_natCast, List.getD_eq_getElem?_getD, List.getElem?_eq_getElem h]
  rfl
theorem atP_out (l : List Int) (k : Int) (h : k < 0 ∨ (l.length : Int) ≤ k) : atP l k = -1 := by
  unfold atP
  rw [if_neg]
  omega

/-- A place, as it is handed on. -/
def plc (l : List Int) (i : Int) : AV := .ag [.sl 21 (runes l) none, .lit (.int .i64 i)]
def Small (n : Int) : Prop := -4611686018427387904 ≤ n ∧ n ≤ 4611686018427387903

set_option maxRecDepth 10000 in
theorem at_pure (l : List Int) (i b : Int) (hl : l.length ≤ 4611686018427387904) (hi : Small i) (hb : Small b) : Pure Try.prog 87 [plc l i, .lit (.int .i64 b)] [] (.lit (.int .i32 (atP l (i + b)))) := by
  refine pure0 Try.func87 c87 n87 e87 r87 (by simp) rfl ?_
  have hw : IntKind.i64.wrap (i + b) = i + b := wrap_i64 _ (by have := hi.1; have := hb.1; omega) (by have := hi.2; have := hb.2; omega)
  simp only [a87, plc, astart, argSlots, go_sem, Nat.reduceAdd, Nat.reduceEqDiff, Nat.reduceLT, reduceIte, reduceCtorEq, Nat.reduceBEq, Int.reduceLT, Int.reduceToNat, Int.reducePow, Nat.reduceLeDiff, Int.reduceLE, Nat.reduceMul, Nat.reduceSub, hw]
  by_cases h0 : 0 ≤ i + b
  · have e0 : decide (i + b ≥ 0) = true := by simpa using h0
    by_cases h1 : i + b < l.length
    · have e1 : decide (i + b < (l.length : Int)) = true := by simpa using h1
      obtain ⟨k, hk⟩ : ∃ k : Nat, i + b = k := ⟨(i + b).toNat, by omega⟩
      have hkl : k < l.length := by omega
      rw [hk] at h0 e0 e1
      simp only [e0, e1, hk, runes_length, go_sem, Nat.reduceAdd, Nat.reduceEqDiff, Nat.reduceLT, reduceIte, reduceCtorEq, Nat.reduceBEq, Int.reduceLT, Int.reduceToNat, Int.reducePow, Nat.reduceLeDiff, Int.reduceLE, Nat.reduceMul, Nat.reduceSub, hkl, runes_get l k hkl, Int.natCast_nonneg, Int.toNat_natCast]
      simp only [Done, resAV, resL, resOne, look_nil, look_cons, Nat.reduceEqDiff, if_true, if_false, reduceIte, ite_true, ite_false, Nat.zero_ne_one, Nat.one_ne_zero, reduceCtorEq, true_or, or_true, true_and, Option.some.injEq, AV.lit.injEq, Value.int.injEq, Value.bool.injEq]
      rw [atP_in l k hkl]
    · have e1 : decide (i + b < (l.length : Int)) = false := by simpa using h1
      simp only [e0, e1, runes_length, go_sem, Nat.reduceAdd, Nat.reduceEqDiff, Nat.reduceLT, reduceIte, reduceCtorEq, Nat.reduceBEq, Int.reduceLT, Int.reduceToNat, Int.reducePow, Nat.reduceLeDiff, Int.reduceLE, Nat.reduceMul, Nat.reduceSub]
      simp only [Done, resAV, resL, resOne, look_nil, look_cons, Nat.reduceEqDiff, if_true, if_false, reduceIte, ite_true, ite_false, Nat.zero_ne_one, Nat.one_ne_zero, reduceCtorEq, true_or, or_true, true_and, Option.some.injEq, AV.lit.injEq, Value.int.injEq, Value.bool.injEq]
      rw [atP_out l _ (.inr (by omega))]
  · have e0 : decide (i + b ≥ 0) = false := by simpa using h0
    simp only [e0, go_sem, Nat.reduceAdd, Nat.reduceEqDiff, Nat.reduceLT, reduceIte, reduceCtorEq, Nat.reduceBEq, Int.reduceLT, Int.reduceToNat, Int.reducePow, Nat.reduceLeDiff, Int.reduceLE, Nat.reduceMul, Nat.reduceSub]
    simp only [Done, resAV, resL, resOne, look_nil, look_cons, Nat.reduceEqDiff, if_true, if_false, reduceIte, ite_true, ite_false, Nat.zero_ne_one, Nat.one_ne_zero, reduceCtorEq, true_or, or_true, true_and, Option.some.injEq, AV.lit.injEq, Value.int.injEq, Value.bool.injEq]
    rw [atP_out l _ (.inl (by omega))]

def killedP (l : List Int) (i : Int) : Bool := (rowAt (atP l (i - 1))).ccc == 9
set_option maxRecDepth 10000 in
theorem killed_pure (l : List Int) (i : Int) (hl : l.length ≤ 4611686018427387904) (hi : Small i) : Pure Try.prog 88 [plc l i] [] (.lit (.bool (killedP l i))) := by
  refine pure0 Try.func88 c88 n88 e88 r88 (by simp) rfl ?_
  simp only [a88, plc, astart, argSlots, go_sem, Nat.reduceAdd, Nat.reduceEqDiff, Nat.reduceLT, reduceIte, reduceCtorEq, Nat.reduceBEq, Int.reduceLT, Int.reduceToNat, Int.reducePow, Nat.reduceLeDiff, Int.reduceLE, Nat.reduceMul, Nat.reduceSub]
  refine callGo_pure (at_pure l i (-1) hl hi ⟨by omega, by omega⟩) (by rfl) ?_
  simp only [go_sem, Nat.reduceAdd, Nat.reduceEqDiff, Nat.reduceLT, reduceIte, reduceCtorEq, Nat.reduceBEq, Int.reduceLT, Int.reduceToNat, Int.reducePow, Nat.reduceLeDiff, Int.reduceLE, Nat.reduceMul, Nat.reduceSub]
  refine callGo_pure (of_pure _) (by rfl) ?_
  simp only [go_sem, Nat.reduceAdd, Nat.reduceEqDiff, Nat.reduceLT, reduceIte, reduceCtorEq, Nat.reduceBEq, Int.reduceLT, Int.reduceToNat, Int.reducePow, Nat.reduceLeDiff, Int.reduceLE, Nat.reduceMul, Nat.reduceSub, Row.prop]
  simp only [Done, resAV, resL, resOne, look_nil, look_cons, Nat.reduceEqDiff, if_true, if_false, reduceIte, ite_true, ite_false, Nat.zero_ne_one, Nat.one_ne_zero, reduceCtorEq, true_or, or_true, true_and, Option.some.injEq, AV.lit.injEq, Value.int.injEq, Value.bool.injEq]
  rfl

/-- Is the next one into a direction that is not clear of one of two joining types? -/
def joinsP (l : List Int) (way side : Int) : Nat → Int → Bool
  | 0, _ => false
  | f + 1, k => if 0 ≤ atP l k then (if (rowAt (atP l k)).join = 2 then joinsP l way side f (k + way) else ((rowAt (atP l k)).join == 3 || (rowAt (atP l k)).join == side)) else false

set_option maxRecDepth 10000 in
theorem joins_pure (l : List Int) (i way side : Int) (hl : l.length ≤ 1000000) (hi : 0 ≤ i ∧ i < l.length) (hw : way = 1 ∨ way = -1) : Pure Try.prog 90 [plc l i, .lit (.int .i64 way), .lit (.int .u8 side)] [] (.lit (.bool (joinsP l way side (l.length + 2) (i + way)))) := by
  refine pure0 Try.func90 c90 n90 e90 r90 (by simp) rfl ?_
  simp only [a90, plc, astart, argSlots, go_sem, Nat.reduceAdd, Nat.reduceEqDiff, Nat.reduceLT, reduceIte, reduceCtorEq, Nat.reduceBEq, Int.reduceLT, Int.reduceToNat, Int.reducePow, Nat.reduceLeDiff, Int.reduceLE, Nat.reduceMul, Nat.reduceSub]
  generalize hJ : joinsP l way side (l.length + 2) (i + way) = J
  refine loop_to (l.length + 1) (fun n => ⟨[(1, some (.lit (.int .i64 way))), (2, some (.lit (.int .u8 side))), (3, some (.bp 0 0)), (7, some (.lit (.int .i64 (way * ((n : Int) + 1)))))], [(0, [.sl 21 (runes l) none, .lit (.int .i64 i)])], [], 1⟩)
    (fun n => (∀ m : Nat, m < n → 0 ≤ atP l (i + way * ((m : Int) + 1))) ∧ J = joinsP l way side (l.length + 2 - n) (i + way * ((n : Int) + 1)))
    (weak_by [0] (by simp) rfl ?_ ?_ trivial (by simp)) ⟨fun m hm => by omega, by rw [← hJ]; simp⟩ ?_ ?_
  · simp only [go_sem, Nat.reduceAdd, Nat.reduceEqDiff, Nat.reduceLT, reduceIte, reduceCtorEq, Nat.reduceBEq, Int.reduceLT, Int.reduceToNat, Int.reducePow, Nat.reduceLeDiff, Int.reduceLE, Nat.reduceMul, Nat.reduceSub, slotsBy, boxesBy, tipsBy, rawAt, nm, AV.ren, AV.renL, AV.under, AV.underL, List.all_nil, List.all_cons, bne_self_eq_false, List.getD_cons_zero, List.getD_cons_succ, List.length_nil, List.length_cons, and_true, true_and, Int.natCast_zero, Int.zero_add, Int.mul_one]
  · simp only [go_sem, Nat.reduceAdd, Nat.reduceEqDiff, Nat.reduceLT, reduceIte, reduceCtorEq, Nat.reduceBEq, Int.reduceLT, Int.reduceToNat, Int.reducePow, Nat.reduceLeDiff, Int.reduceLE, Nat.reduceMul, Nat.reduceSub, slotsBy, boxesBy, tipsBy, rawAt, nm, AV.ren, AV.renL, AV.under, AV.underL, List.all_nil, List.all_cons, bne_self_eq_false, List.getD_cons_zero, List.getD_cons_succ, List.length_nil, List.length_cons, and_true, true_and]
  · intro n hn hp
    obtain ⟨hp1, hp2⟩ := hp
    have hsm : Small (way * ((n : Int) + 1)) := by rcases hw with rfl | rfl <;> constructor <;> omega
    have hsi : Small i := ⟨by omega, by omega⟩
    have hwr : IntKind.i64.wrap (way * ((n : Int) + 1) + way) = way * (((n + 1 : Nat) : Int) + 1) := by
      rw [wrap_i64 _ (by rcases hw with rfl | rfl <;> omega) (by rcases hw with rfl | rfl <;> omega)]
      rcases hw with rfl | rfl <;> omega
    have hf : l.length + 2 - n = (l.length + 2 - (n + 1)) + 1 := by omega
    rw [hf, joinsP] at hp2
    have hnext : i + way * ((n : Int) + 1) + way = i + way * (((n + 1 : Nat) : Int) + 1) := by rcases hw with rfl | rfl <;> omega
    rw [hnext] at hp2
    have hat := at_pure l i (way * ((n : Int) + 1)) (by omega) hsi hsm
    have hdone : ∀ m : Nat, 0 ≤ atP l (i + way * ((n : Int) + 1)) → m < n + 1 → 0 ≤ atP l (i + way * ((m : Int) + 1)) := fun m h0 hm => by
      rcases Nat.lt_succ_iff_lt_or_eq.1 hm with hm | hm
      · exact hp1 m hm
      · subst hm; exact h0
    generalize atP l (i + way * ((n : Int) + 1)) = r at hp2 hdone hat
    simp only [go_sem, Nat.reduceAdd, Nat.reduceEqDiff, Nat.reduceLT, reduceIte, reduceCtorEq, Nat.reduceBEq, Int.reduceLT, Int.reduceToNat, Int.reducePow, Nat.reduceLeDiff, Int.reduceLE, Nat.reduceMul, Nat.reduceSub]
    refine callGo_pure hat (by rfl) ?_
    simp only [go_sem, Nat.reduceAdd, Nat.reduceEqDiff, Nat.reduceLT, reduceIte, reduceCtorEq, Nat.reduceBEq, Int.reduceLT, Int.reduceToNat, Int.reducePow, Nat.reduceLeDiff, Int.reduceLE, Nat.reduceMul, Nat.reduceSub]
    by_cases h0 : 0 ≤ r
    · have e0 : decide (r ≥ 0) = true := by simpa using h0
      rw [if_pos h0] at hp2
      simp only [e0, go_sem, Nat.reduceAdd, Nat.reduceEqDiff, Nat.reduceLT, reduceIte, reduceCtorEq, Nat.reduceBEq, Int.reduceLT, Int.reduceToNat, Int.reducePow, Nat.reduceLeDiff, Int.reduceLE, Nat.reduceMul, Nat.reduceSub]
      refine callGo_pure hat (by rfl) ?_
      simp only [go_sem, Nat.reduceAdd, Nat.reduceEqDiff, Nat.reduceLT, reduceIte, reduceCtorEq, Nat.reduceBEq, Int.reduceLT, Int.reduceToNat, Int.reducePow, Nat.reduceLeDiff, Int.reduceLE, Nat.reduceMul, Nat.reduceSub]
      refine callGo_pure (of_pure _) (by rfl) ?_
      simp only [go_sem, Nat.reduceAdd, Nat.reduceEqDiff, Nat.reduceLT, reduceIte, reduceCtorEq, Nat.reduceBEq, Int.reduceLT, Int.reduceToNat, Int.reducePow, Nat.reduceLeDiff, Int.reduceLE, Nat.reduceMul, Nat.reduceSub, Row.prop]
      by_cases h2 : (rowAt r).join = 2
      · have e2 : ((rowAt r).join != 2) = false := by simp [h2]
        rw [if_pos h2] at hp2
        simp only [e2, hwr, go_sem, Nat.reduceAdd, Nat.reduceEqDiff, Nat.reduceLT, reduceIte, reduceCtorEq, Nat.reduceBEq, Int.reduceLT, Int.reduceToNat, Int.reducePow, Nat.reduceLeDiff, Int.reduceLE, Nat.reduceMul, Nat.reduceSub]
        refine ⟨weak_by [0] (by simp) rfl ?_ ?_ trivial (by simp), fun m hm => hdone m h0 hm, hp2⟩
        · simp only [go_sem, Nat.reduceAdd, Nat.reduceEqDiff, Nat.reduceLT, reduceIte, reduceCtorEq, Nat.reduceBEq, Int.reduceLT, Int.reduceToNat, Int.reducePow, Nat.reduceLeDiff, Int.reduceLE, Nat.reduceMul, Nat.reduceSub, slotsBy, boxesBy, tipsBy, rawAt, nm, AV.ren, AV.renL, AV.under, AV.underL, List.all_nil, List.all_cons, bne_self_eq_false, List.getD_cons_zero, List.getD_cons_succ, List.length_nil, List.length_cons, and_true, true_and]
        · simp only [go_sem, Nat.reduceAdd, Nat.reduceEqDiff, Nat.reduceLT, reduceIte, reduceCtorEq, Nat.reduceBEq, Int.reduceLT, Int.reduceToNat, Int.reducePow, Nat.reduceLeDiff, Int.reduceLE, Nat.reduceMul, Nat.reduceSub, slotsBy, boxesBy, tipsBy, rawAt, nm, AV.ren, AV.renL, AV.under, AV.underL, List.all_nil, List.all_cons, bne_self_eq_false, List.getD_cons_zero, List.getD_cons_succ, List.length_nil, List.length_cons, and_true, true_and]
      · have e2 : ((rowAt r).join != 2) = true := by simp [h2]
        rw [if_neg h2] at hp2
        simp only [e2, go_sem, Nat.reduceAdd, Nat.reduceEqDiff, Nat.reduceLT, reduceIte, reduceCtorEq, Nat.reduceBEq, Int.reduceLT, Int.reduceToNat, Int.reducePow, Nat.reduceLeDiff, Int.reduceLE, Nat.reduceMul, Nat.reduceSub]
        by_cases h3 : (rowAt r).join = 3
        · have e3 : ((rowAt r).join == 3) = true := by simp [h3]
          simp only [e3, go_sem, Nat.reduceAdd, Nat.reduceEqDiff, Nat.reduceLT, reduceIte, reduceCtorEq, Nat.reduceBEq, Int.reduceLT, Int.reduceToNat, Int.reducePow, Nat.reduceLeDiff, Int.reduceLE, Nat.reduceMul, Nat.reduceSub]
          simp only [Done, resAV, resL, resOne, look_nil, look_cons, Nat.reduceEqDiff, if_true, if_false, reduceIte, ite_true, ite_false, Nat.zero_ne_one, Nat.one_ne_zero, reduceCtorEq, true_or, or_true, true_and, Option.some.injEq, AV.lit.injEq, Value.int.injEq, Value.bool.injEq]
          rw [hp2, e3]; rfl
        · have e3 : ((rowAt r).join == 3) = false := by simp [h3]
          simp only [e3, go_sem, Nat.reduceAdd, Nat.reduceEqDiff, Nat.reduceLT, reduceIte, reduceCtorEq, Nat.reduceBEq, Int.reduceLT, Int.reduceToNat, Int.reducePow, Nat.reduceLeDiff, Int.reduceLE, Nat.reduceMul, Nat.reduceSub]
          simp only [Done, resAV, resL, resOne, look_nil, look_cons, Nat.reduceEqDiff, if_true, if_false, reduceIte, ite_true, ite_false, Nat.zero_ne_one, Nat.one_ne_zero, reduceCtorEq, true_or, or_true, true_and, Option.some.injEq, AV.lit.injEq, Value.int.injEq, Value.bool.injEq]
          rw [hp2, e3]; rfl
    · have e0 : decide (r ≥ 0) = false := by simpa using h0
      rw [if_neg h0] at hp2
      simp only [e0, go_sem, Nat.reduceAdd, Nat.reduceEqDiff, Nat.reduceLT, reduceIte, reduceCtorEq, Nat.reduceBEq, Int.reduceLT, Int.reduceToNat, Int.reducePow, Nat.reduceLeDiff, Int.reduceLE, Nat.reduceMul, Nat.reduceSub]
      simp only [Done, resAV, resL, resOne, look_nil, look_cons, Nat.reduceEqDiff, if_true, if_false, reduceIte, ite_true, ite_false, Nat.zero_ne_one, Nat.one_ne_zero, reduceCtorEq, true_or, or_true, true_and, Option.some.injEq, AV.lit.injEq, Value.int.injEq, Value.bool.injEq]
      rw [hp2]
  · intro hp
    have := hp.1 l.length (by omega)
    rw [atP_out l _ (by rcases hw with rfl | rfl <;> omega)] at this
    omega

theorem index8_pure (l : List Nat) (x : Int) (hl : l.length ≤ 1000000) : Pure Try.prog 108 [.sl 5 (octs l) none, .lit (.int .u8 x)] [] (.lit (.int .i64 (if l.any (fun (s : Nat) => x == (s : Int)) then ((l.findIdx fun (s : Nat) => x == (s : Int) : Nat) : Int) else -1))) := by
  refine pure0 Try.func108 c108 n108 e108 r108 (by simp) rfl ?_
  simp only [a108, astart, argSlots, go_sem, Nat.reduceAdd, Nat.reduceEqDiff, Nat.reduceLT, reduceIte, reduceCtorEq, Nat.reduceBEq, Int.reduceLT, Int.reduceToNat, Int.reducePow, Nat.reduceLeDiff, Int.reduceLE, Nat.reduceMul, Nat.reduceSub, octs_length]
  refine loop_to l.length (fun i => ⟨[(0, some (.sl 5 (octs l) none)), (1, some (.lit (.int .u8 x))), (7, some (.lit (.int .i64 l.length))), (8, some (.lit (.int .i64 i)))], [], [], 0⟩)
    (fun i => ∀ j : Nat, j < i → ∀ r, l[j]? = some r → (x == (r : Int)) = false) (weak_by [] List.nodup_nil rfl ?_ trivial trivial (by simp)) (fun j hj => by omega) ?_ ?_
  · simp only [go_sem, Nat.reduceAdd, Nat.reduceEqDiff, Nat.reduceLT, reduceIte, reduceCtorEq, Nat.reduceBEq, Int.reduceLT, Int.reduceToNat, Int.reducePow, Nat.reduceLeDiff, Int.reduceLE, Nat.reduceMul, Nat.reduceSub, slotsBy, boxesBy, tipsBy, rawAt, nm, AV.ren, AV.renL, AV.under, AV.underL, List.all_nil, List.all_cons, bne_self_eq_false, List.getD_cons_zero, List.getD_cons_succ, List.length_nil, List.length_cons, and_true, true_and, Int.natCast_zero]
  · intro i hi hp
    simp only [go_sem, Nat.reduceAdd, Nat.reduceEqDiff, Nat.reduceLT, reduceIte, reduceCtorEq, Nat.reduceBEq, Int.reduceLT, Int.reduceToNat, Int.reducePow, Nat.reduceLeDiff, Int.reduceLE, Nat.reduceMul, Nat.reduceSub, hi, octs_get l i hi]
    cases he : (x == ((l[i] : Nat) : Int))
    · simp only [go_sem, Nat.reduceAdd, Nat.reduceEqDiff, Nat.reduceLT, reduceIte, reduceCtorEq, Nat.reduceBEq, Int.reduceLT, Int.reduceToNat, Int.reducePow, Nat.reduceLeDiff, Int.reduceLE, Nat.reduceMul, Nat.reduceSub]
      simp (disch := omega) only [wrap_i64]
      refine ⟨weak_by [] List.nodup_nil rfl ?_ trivial trivial (by simp), ?_⟩
      · simp only [go_sem, Nat.reduceAdd, Nat.reduceEqDiff, Nat.reduceLT, reduceIte, reduceCtorEq, Nat.reduceBEq, Int.reduceLT, Int.reduceToNat, Int.reducePow, Nat.reduceLeDiff, Int.reduceLE, Nat.reduceMul, Nat.reduceSub, slotsBy, boxesBy, tipsBy, rawAt, nm, AV.ren, AV.renL, AV.under, AV.underL, List.all_nil, List.all_cons, bne_self_eq_false, List.getD_cons_zero, List.getD_cons_succ, List.length_nil, List.length_cons, and_true, true_and, Int.natCast_add, Int.natCast_one]
      · intro j hj r hjr
        rcases Nat.lt_succ_iff_lt_or_eq.1 hj with hj | hj
        · exact hp j hj r hjr
        · subst hj
          rw [List.getElem?_eq_getElem hi, Option.some.injEq] at hjr
          subst hjr; exact he
    · simp only [go_sem, Nat.reduceAdd, Nat.reduceEqDiff, Nat.reduceLT, reduceIte, reduceCtorEq, Nat.reduceBEq, Int.reduceLT, Int.reduceToNat, Int.reducePow, Nat.reduceLeDiff, Int.reduceLE, Nat.reduceMul, Nat.reduceSub]
      simp only [Done, resAV, resL, resOne, look_nil, look_cons, Nat.reduceEqDiff, if_true, if_false, reduceIte, ite_true, ite_false, Nat.zero_ne_one, Nat.one_ne_zero, reduceCtorEq, true_or, or_true, true_and, Option.some.injEq, AV.lit.injEq, Value.int.injEq, Value.bool.injEq]
      have hany : l.any (fun (s : Nat) => x == (s : Int)) = true := List.any_eq_true.2 ⟨_, List.getElem_mem hi, he⟩
      rw [if_pos hany]
      have hf : l.findIdx (fun (s : Nat) => x == (s : Int)) = i := by
        rw [List.findIdx_eq hi]
        refine ⟨he, fun j hj => ?_⟩
        exact hp j hj _ (List.getElem?_eq_getElem _)
      rw [hf]
  · intro hp
    simp only [go_sem, Nat.reduceAdd, Nat.reduceEqDiff, Nat.reduceLT, reduceIte, reduceCtorEq, Nat.reduceBEq, Int.reduceLT, Int.reduceToNat, Int.reducePow, Nat.reduceLeDiff, Int.reduceLE, Nat.reduceMul, Nat.reduceSub]
    simp only [Done, resAV, resL, resOne, look_nil, look_cons, Nat.reduceEqDiff, if_true, if_false, reduceIte, ite_true, ite_false, Nat.zero_ne_one, Nat.one_ne_zero, reduceCtorEq, true_or, or_true, true_and, Option.some.injEq, AV.lit.injEq, Value.int.injEq, Value.bool.injEq]
    rw [if_neg]
    rw [List.any_eq_true]
    rintro ⟨r, hr, he⟩
    obtain ⟨j, hj, rfl⟩ := List.mem_iff_getElem.1 hr
    rw [hp j hj _ (List.getElem?_eq_getElem hj)] at he
    cases he
theorem contains8_pure (l : List Nat) (x : Int) (hl : l.length ≤ 1000000) : Pure Try.prog 106 [.sl 5 (octs l) none, .lit (.int .u8 x)] [] (.lit (.bool (l.any fun (s : Nat) => x == (s : Int)))) := by
  refine pure0 Try.func106 c106 n106 e106 r106 (by simp) rfl ?_
  simp only [a106, astart, argSlots, go_sem, Nat.reduceAdd, Nat.reduceEqDiff, Nat.reduceLT, reduceIte, reduceCtorEq, Nat.reduceBEq, Int.reduceLT, Int.reduceToNat, Int.reducePow, Nat.reduceLeDiff, Int.reduceLE, Nat.reduceMul, Nat.reduceSub]
  refine callGo_pure (index8_pure l x hl) (by rfl) ?_
  simp only [go_sem, Nat.reduceAdd, Nat.reduceEqDiff, Nat.reduceLT, reduceIte, reduceCtorEq, Nat.reduceBEq, Int.reduceLT, Int.reduceToNat, Int.reducePow, Nat.reduceLeDiff, Int.reduceLE, Nat.reduceMul, Nat.reduceSub]
  simp only [Done, resAV, resL, resOne, look_nil, look_cons, Nat.reduceEqDiff, if_true, if_false, reduceIte, ite_true, ite_false, Nat.zero_ne_one, Nat.one_ne_zero, reduceCtorEq, true_or, or_true, true_and, Option.some.injEq, AV.lit.injEq, Value.int.injEq, Value.bool.injEq]
  cases h : l.any fun (s : Nat) => x == (s : Int)
  · simp
  · simp

/-- Is one of a label of one of some scripts? -/
def scriptsP (l : List Int) (ss : List Nat) : Bool := l.any fun r => ss.any fun (s : Nat) => (rowAt r).script == (s : Int)
def digitsP (l : List Int) (d : Int) : Bool := l.any fun r => (rowAt r).digits == d

theorem scriptsTest (l : List Int) (ss : List Nat) (hs : ss.length ≤ 1000000) : IsTest 105 [] [.ep [.sl 5 (octs ss) none]] (fun r => ss.any fun (s : Nat) => (rowAt r).script == (s : Int)) l := ⟨rfl, rfl, rfl, rfl, fun r _ => by
  refine pure0 Try.func105 c105 n105 e105 r105 (by simp) rfl ?_
  simp only [a105, astart, argSlots, go_sem, Nat.reduceAdd, Nat.reduceEqDiff, Nat.reduceLT, reduceIte, reduceCtorEq, Nat.reduceBEq, Int.reduceLT, Int.reduceToNat, Int.reducePow, Nat.reduceLeDiff, Int.reduceLE, Nat.reduceMul, Nat.reduceSub]
  refine dcallGo_pure (of_pure _) (by rfl) rfl ?_
  simp only [go_sem, Nat.reduceAdd, Nat.reduceEqDiff, Nat.reduceLT, reduceIte, reduceCtorEq, Nat.reduceBEq, Int.reduceLT, Int.reduceToNat, Int.reducePow, Nat.reduceLeDiff, Int.reduceLE, Nat.reduceMul, Nat.reduceSub, Row.prop]
  refine dcallGo_pure (contains8_pure ss _ hs) (by rfl) rfl ?_
  simp only [go_sem, Nat.reduceAdd, Nat.reduceEqDiff, Nat.reduceLT, reduceIte, reduceCtorEq, Nat.reduceBEq, Int.reduceLT, Int.reduceToNat, Int.reducePow, Nat.reduceLeDiff, Int.reduceLE, Nat.reduceMul, Nat.reduceSub]
  simp only [Done, resAV, resL, resOne, look_nil, look_cons, Nat.reduceEqDiff, if_true, if_false, reduceIte, ite_true, ite_false, Nat.zero_ne_one, Nat.one_ne_zero, reduceCtorEq, true_or, or_true, true_and, Option.some.injEq, AV.lit.injEq, Value.int.injEq, Value.bool.injEq]⟩
theorem digitsTest (l : List Int) (d : Int) : IsTest 107 [] [.ep [.lit (.int .u8 d)]] (fun r => (rowAt r).digits == d) l := ⟨rfl, rfl, rfl, rfl, fun r _ => by
  refine pure0 Try.func107 c107 n107 e107 r107 (by simp) rfl ?_
  simp only [a107, astart, argSlots, go_sem, Nat.reduceAdd, Nat.reduceEqDiff, Nat.reduceLT, reduceIte, reduceCtorEq, Nat.reduceBEq, Int.reduceLT, Int.reduceToNat, Int.reducePow, Nat.reduceLeDiff, Int.reduceLE, Nat.reduceMul, Nat.reduceSub]
  refine dcallGo_pure (of_pure _) (by rfl) rfl ?_
  simp only [go_sem, Nat.reduceAdd, Nat.reduceEqDiff, Nat.reduceLT, reduceIte, reduceCtorEq, Nat.reduceBEq, Int.reduceLT, Int.reduceToNat, Int.reducePow, Nat.reduceLeDiff, Int.reduceLE, Nat.reduceMul, Nat.reduceSub, Row.prop]
  simp only [Done, resAV, resL, resOne, look_nil, look_cons, Nat.reduceEqDiff, if_true, if_false, reduceIte, ite_true, ite_false, Nat.zero_ne_one, Nat.one_ne_zero, reduceCtorEq, true_or, or_true, true_and, Option.some.injEq, AV.lit.injEq, Value.int.injEq, Value.bool.injEq]⟩

set_option maxRecDepth 10000 in
theorem placeScripts_pure (l : List Int) (i : Int) (ss : List Nat) (hl : l.length ≤ 4611686018427387904) (hs : ss.length ≤ 1000000) : Pure Try.prog 94 [plc l i, .sl 5 (octs ss) none] [] (.lit (.bool (scriptsP l ss))) := by
  refine pure0 Try.func94 c94 n94 e94 r94 (by simp) rfl ?_
  simp only [a94, plc, astart, argSlots, go_sem, Nat.reduceAdd, Nat.reduceEqDiff, Nat.reduceLT, reduceIte, reduceCtorEq, Nat.reduceBEq, Int.reduceLT, Int.reduceToNat, Int.reducePow, Nat.reduceLeDiff, Int.reduceLE, Nat.reduceMul, Nat.reduceSub]
  refine callGo_see (containsFunc_pure l hl (scriptsTest l ss hs)) (by rfl) rfl ?_
  simp only [go_sem, Nat.reduceAdd, Nat.reduceEqDiff, Nat.reduceLT, reduceIte, reduceCtorEq, Nat.reduceBEq, Int.reduceLT, Int.reduceToNat, Int.reducePow, Nat.reduceLeDiff, Int.reduceLE, Nat.reduceMul, Nat.reduceSub]
  simp only [Done, resAV, resL, resOne, look_nil, look_cons, Nat.reduceEqDiff, if_true, if_false, reduceIte, ite_true, ite_false, Nat.zero_ne_one, Nat.one_ne_zero, reduceCtorEq, true_or, or_true, true_and, Option.some.injEq, AV.lit.injEq, Value.int.injEq, Value.bool.injEq]
  rfl
set_option maxRecDepth 10000 in
theorem placeDigits_pure (l : List Int) (i d : Int) (hl : l.length ≤ 4611686018427387904) : Pure Try.prog 96 [plc l i, .lit (.int .u8 d)] [] (.lit (.bool (digitsP l d))) := by
  refine pure0 Try.func96 c96 n96 e96 r96 (by simp) rfl ?_
  simp only [a96, plc, astart, argSlots, go_sem, Nat.reduceAdd, Nat.reduceEqDiff, Nat.reduceLT, reduceIte, reduceCtorEq, Nat.reduceBEq, Int.reduceLT, Int.reduceToNat, Int.reducePow, Nat.reduceLeDiff, Int.reduceLE, Nat.reduceMul, Nat.reduceSub]
  refine callGo_see (containsFunc_pure l hl (digitsTest l d)) (by rfl) rfl ?_
  simp only [go_sem, Nat.reduceAdd, Nat.reduceEqDiff, Nat.reduceLT, reduceIte, reduceCtorEq, Nat.reduceBEq, Int.reduceLT, Int.reduceToNat, Int.reducePow, Nat.reduceLeDiff, Int.reduceLE, Nat.reduceMul, Nat.reduceSub]
  simp only [Done, resAV, resL, resOne, look_nil, look_cons, Nat.reduceEqDiff, if_true, if_false, reduceIte, ite_true, ite_false, Nat.zero_ne_one, Nat.one_ne_zero, reduceCtorEq, true_or, or_true, true_and, Option.some.injEq, AV.lit.injEq, Value.int.injEq, Value.bool.injEq]
  rfl

/-- By which a code point's rule is found. -/
def keyOf (r : Int) : Int := if (rowAt r).digits = 2 then 1632 else if (rowAt r).digits = 3 then 1776 else r
theorem key_pure (r : Int) : Pure Try.prog 70 [.lit (.int .i32 r)] [] (.lit (.int .i32 (keyOf r))) := by
  refine pure0 Try.func70 c70 n70 e70 r70 (by simp) rfl ?_
  simp only [a70, astart, argSlots, go_sem, Nat.reduceAdd, Nat.reduceEqDiff, Nat.reduceLT, reduceIte, reduceCtorEq, Nat.reduceBEq, Int.reduceLT, Int.reduceToNat, Int.reducePow, Nat.reduceLeDiff, Int.reduceLE, Nat.reduceMul, Nat.reduceSub]
  refine callGo_pure (of_pure _) (by rfl) ?_
  simp only [go_sem, Nat.reduceAdd, Nat.reduceEqDiff, Nat.reduceLT, reduceIte, reduceCtorEq, Nat.reduceBEq, Int.reduceLT, Int.reduceToNat, Int.reducePow, Nat.reduceLeDiff, Int.reduceLE, Nat.reduceMul, Nat.reduceSub, Row.prop]
  by_cases h2 : (rowAt r).digits = 2
  · have e2 : ((rowAt r).digits == 2) = true := by simp [h2]
    simp only [e2, go_sem, Nat.reduceAdd, Nat.reduceEqDiff, Nat.reduceLT, reduceIte, reduceCtorEq, Nat.reduceBEq, Int.reduceLT, Int.reduceToNat, Int.reducePow, Nat.reduceLeDiff, Int.reduceLE, Nat.reduceMul, Nat.reduceSub]
    simp only [Done, resAV, resL, resOne, look_nil, look_cons, Nat.reduceEqDiff, if_true, if_false, reduceIte, ite_true, ite_false, Nat.zero_ne_one, Nat.one_ne_zero, reduceCtorEq, true_or, or_true, true_and, Option.some.injEq, AV.lit.injEq, Value.int.injEq, Value.bool.injEq]
    simp [keyOf, h2]
  · have e2 : ((rowAt r).digits == 2) = false := by simp [h2]
    by_cases h3 : (rowAt r).digits = 3
    · have e3 : ((rowAt r).digits == 3) = true := by simp [h3]
      simp only [e2, e3, go_sem, Nat.reduceAdd, Nat.reduceEqDiff, Nat.reduceLT, reduceIte, reduceCtorEq, Nat.reduceBEq, Int.reduceLT, Int.reduceToNat, Int.reducePow, Nat.reduceLeDiff, Int.reduceLE, Nat.reduceMul, Nat.reduceSub]
      simp only [Done, resAV, resL, resOne, look_nil, look_cons, Nat.reduceEqDiff, if_true, if_false, reduceIte, ite_true, ite_false, Nat.zero_ne_one, Nat.one_ne_zero, reduceCtorEq, true_or, or_true, true_and, Option.some.injEq, AV.lit.injEq, Value.int.injEq, Value.bool.injEq]
      simp [keyOf, h3]
    · have e3 : ((rowAt r).digits == 3) = false := by simp [h3]
      simp only [e2, e3, go_sem, Nat.reduceAdd, Nat.reduceEqDiff, Nat.reduceLT, reduceIte, reduceCtorEq, Nat.reduceBEq, Int.reduceLT, Int.reduceToNat, Int.reducePow, Nat.reduceLeDiff, Int.reduceLE, Nat.reduceMul, Nat.reduceSub]
      simp only [Done, resAV, resL, resOne, look_nil, look_cons, Nat.reduceEqDiff, if_true, if_false, reduceIte, ite_true, ite_false, Nat.zero_ne_one, Nat.one_ne_zero, reduceCtorEq, true_or, or_true, true_and, Option.some.injEq, AV.lit.injEq, Value.int.injEq, Value.bool.injEq]
      simp [keyOf, h2, h3]
end Go.Proofs.Ytocaeclhmkojiaa
