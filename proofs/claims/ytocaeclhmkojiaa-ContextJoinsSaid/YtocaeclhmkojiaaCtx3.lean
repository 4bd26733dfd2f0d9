/-
The document's answer on a place of a label is the same. Conditions: none.
-/
import Derived.Test.YtocaeclhmkojiaaCtx2
import Derived.Test.YtocaeclhmkojiaaUcdF
set_option linter.unusedSimpArgs false
set_option linter.unusedVariables false
set_option linter.unusedSectionVars false
namespace Go.Proofs.Ytocaeclhmkojiaa
open Go Go.Ab
def a71 : ACode :=
  (.seq (.reg [⟨(.some 10), (.mv (.k (.bool false))), .none⟩]) (.seq (.block 0 (.loop (.seq (.seq (.reg [⟨(.some 12), (.mv (.t 1)), .none⟩, ⟨(.some 13), (.bin .geq (.t 12) (.k (.int .i64 0))), .none⟩,
  ⟨(.some 14), (.mv (.t 13)), .none⟩, ⟨(.some 15), (.mv (.t 1)), (.some (14, true))⟩, ⟨(.some 16), (.mv (.t 0)), (.some (14, true))⟩, ⟨(.some 17), (.len (.t 16)), (.some (14, true))⟩, ⟨(.some 18), (.bin
  .lss (.t 15) (.t 17)), (.some (14, true))⟩, ⟨(.some 19), (.pick (.t 14) (.t 18) (.k (.bool false))), .none⟩]) (.cond (.t 19) .skip (.exit 0))) (.block 1 (.seq (.reg [⟨(.some 20), (.mv (.t 0)), .none⟩,
  ⟨(.some 21), (.mv (.t 1)), .none⟩, ⟨(.some 22), (.ia 21 (.t 20) (.t 21)), .none⟩, ⟨(.some 23), (.ld .none (.t 22)), .none⟩, ⟨(.some 24), (.call (.f 66) [(.t 23)]), .none⟩, ⟨(.some 25), (.fld 2 .none
  (.t 24)), .none⟩, ⟨(.some 11), (.mv (.t 25)), .none⟩]) (.seq (.seq (.reg [⟨(.some 26), (.mv (.t 11)), .none⟩, ⟨(.some 27), (.mv (.t 3)), .none⟩, ⟨(.some 28), (.bin .eql (.t 26) (.t 27)), .none⟩,
  ⟨(.some 29), (.mv (.t 28)), .none⟩, ⟨(.some 30), (.mv (.t 11)), (.some (29, false))⟩, ⟨(.some 31), (.mv (.t 4)), (.some (29, false))⟩, ⟨(.some 32), (.bin .eql (.t 30) (.t 31)), (.some (29, false))⟩,
  ⟨(.some 33), (.pick (.t 29) (.k (.bool true)) (.t 32)), .none⟩]) (.cond (.t 33) (.seq (.reg [⟨(.some 10), (.mv (.k (.bool true))), .none⟩]) .ret) .skip)) (.seq (.seq (.reg [⟨(.some 34), (.mv (.t 11)),
  .none⟩, ⟨(.some 35), (.bin .neq (.t 34) (.k (.int .u8 2))), .none⟩]) (.cond (.t 35) (.seq (.reg [⟨(.some 10), (.mv (.k (.bool false))), .none⟩]) .ret) .skip)) (.reg [⟨(.some 36), (.mv (.t 1)), .none⟩,
  ⟨(.some 37), (.mv (.t 2)), .none⟩, ⟨(.some 38), (.bin .add (.t 36) (.t 37)), .none⟩, ⟨(.some 1), (.mv (.t 38)), .none⟩])))))))) (.seq (.reg [⟨(.some 10), (.mv (.k (.bool false))), .none⟩]) .ret)))
theorem c71 : Try.f71.body.bind (cCode Try.prog 39) = some a71 := by kernel_rfl
theorem r71 : Try.f71.results.toList = [(.tmp 10)] := by kernel_rfl
theorem n71 : Try.f71.ntmps = 39 := by kernel_rfl
theorem e71 : Enters Try.prog 71 := enters_of Try.func71 (by kernel_rfl) (by kernel_rfl)
def a73 : ACode :=
  (.seq (.reg [⟨(.some 8), (.mv (.k (.bool false))), .none⟩]) (.seq (.seq (.reg [⟨(.some 10), (.mv (.t 1)), .none⟩, ⟨(.some 9), (.mv (.t 10)), .none⟩]) (.block 0 (.loop (.seq (.seq (.reg [⟨(.some 11),
  (.mv (.t 9)), .none⟩, ⟨(.some 12), (.mv (.t 2)), .none⟩, ⟨(.some 13), (.bin .leq (.t 11) (.t 12)), .none⟩]) (.cond (.t 13) .skip (.exit 0))) (.seq (.block 1 (.seq (.reg [⟨(.some 16), (.mv (.t 9)),
  .none⟩, ⟨(.some 17), (.bin .geq (.t 16) (.k (.int .i64 0))), .none⟩, ⟨(.some 18), (.mv (.t 17)), .none⟩, ⟨(.some 19), (.mv (.t 9)), (.some (18, true))⟩, ⟨(.some 20), (.mv (.t 0)), (.some (18, true))⟩,
  ⟨(.some 21), (.len (.t 20)), (.some (18, true))⟩, ⟨(.some 22), (.bin .lss (.t 19) (.t 21)), (.some (18, true))⟩, ⟨(.some 23), (.pick (.t 18) (.t 22) (.k (.bool false))), .none⟩, ⟨(.some 24), (.mv (.t
  23)), .none⟩, ⟨(.some 25), (.mv (.t 0)), (.some (24, true))⟩, ⟨(.some 26), (.mv (.t 9)), (.some (24, true))⟩, ⟨(.some 27), (.ia 21 (.t 25) (.t 26)), (.some (24, true))⟩, ⟨(.some 28), (.ld .none (.t
  27)), (.some (24, true))⟩, ⟨(.some 29), (.call (.f 66) [(.t 28)]), (.some (24, true))⟩, ⟨(.some 30), (.fld 4 .none (.t 29)), (.some (24, true))⟩, ⟨(.some 31), (.mv (.t 3)), (.some (24, true))⟩,
  ⟨(.some 32), (.bin .eql (.t 30) (.t 31)), (.some (24, true))⟩, ⟨(.some 33), (.pick (.t 24) (.t 32) (.k (.bool false))), .none⟩]) (.cond (.t 33) (.seq (.reg [⟨(.some 8), (.mv (.k (.bool true))),
  .none⟩]) .ret) .skip))) (.reg [⟨(.some 14), (.mv (.t 9)), .none⟩, ⟨(.some 15), (.bin .add (.t 14) (.k (.int .i64 1))), .none⟩, ⟨(.some 9), (.mv (.t 15)), .none⟩])))))) (.seq (.reg [⟨(.some 8), (.mv
  (.k (.bool false))), .none⟩]) .ret)))
theorem c73 : Try.f73.body.bind (cCode Try.prog 34) = some a73 := by kernel_rfl
theorem r73 : Try.f73.results.toList = [(.tmp 8)] := by kernel_rfl
theorem n73 : Try.f73.ntmps = 34 := by kernel_rfl
theorem e73 : Enters Try.prog 73 := enters_of Try.func73 (by kernel_rfl) (by kernel_rfl)
def a74 : ACode :=
  (.seq (.reg [⟨(.some 6), (.mv (.k (.bool false))), .none⟩]) (.seq (.seq (.reg [⟨(.some 7), (.mv (.k (.int .i64 0))), .none⟩]) (.block 0 (.loop (.seq (.seq (.reg [⟨(.some 8), (.mv (.t 7)), .none⟩,
  ⟨(.some 9), (.mv (.t 0)), .none⟩, ⟨(.some 10), (.len (.t 9)), .none⟩, ⟨(.some 11), (.bin .lss (.t 8) (.t 10)), .none⟩]) (.cond (.t 11) .skip (.exit 0))) (.seq (.block 1 (.seq (.reg [⟨(.some 14), (.mv
  (.t 0)), .none⟩, ⟨(.some 15), (.mv (.t 7)), .none⟩, ⟨(.some 16), (.ia 21 (.t 14) (.t 15)), .none⟩, ⟨(.some 17), (.ld .none (.t 16)), .none⟩, ⟨(.some 18), (.mv (.t 1)), .none⟩, ⟨(.some 19), (.bin .geq
  (.t 17) (.t 18)), .none⟩, ⟨(.some 20), (.mv (.t 19)), .none⟩, ⟨(.some 21), (.mv (.t 0)), (.some (20, true))⟩, ⟨(.some 22), (.mv (.t 7)), (.some (20, true))⟩, ⟨(.some 23), (.ia 21 (.t 21) (.t 22)),
  (.some (20, true))⟩, ⟨(.some 24), (.ld .none (.t 23)), (.some (20, true))⟩, ⟨(.some 25), (.mv (.t 2)), (.some (20, true))⟩, ⟨(.some 26), (.bin .leq (.t 24) (.t 25)), (.some (20, true))⟩, ⟨(.some 27),
  (.pick (.t 20) (.t 26) (.k (.bool false))), .none⟩]) (.cond (.t 27) (.seq (.reg [⟨(.some 6), (.mv (.k (.bool true))), .none⟩]) .ret) .skip))) (.reg [⟨(.some 12), (.mv (.t 7)), .none⟩, ⟨(.some 13),
  (.bin .add (.t 12) (.k (.int .i64 1))), .none⟩, ⟨(.some 7), (.mv (.t 13)), .none⟩])))))) (.seq (.reg [⟨(.some 6), (.mv (.k (.bool false))), .none⟩]) .ret)))
theorem c74 : Try.f74.body.bind (cCode Try.prog 28) = some a74 := by kernel_rfl
theorem r74 : Try.f74.results.toList = [(.tmp 6)] := by kernel_rfl
theorem n74 : Try.f74.ntmps = 28 := by kernel_rfl
theorem e74 : Enters Try.prog 74 := enters_of Try.func74 (by kernel_rfl) (by kernel_rfl)
def a72 : ACode :=
  (.seq (.reg [⟨(.some 6), (.mv (.k (.bool false))), .none⟩]) (.seq (.reg [⟨(.some 7), (.mv (.t 1)), .none⟩, ⟨(.some 8), (.bin .geq (.t 7) (.k (.int .i64 0))), .none⟩, ⟨(.some 9), (.mv (.t 8)), .none⟩,
  ⟨(.some 10), (.mv (.t 1)), (.some (9, true))⟩, ⟨(.some 11), (.mv (.t 0)), (.some (9, true))⟩, ⟨(.some 12), (.len (.t 11)), (.some (9, true))⟩, ⟨(.some 13), (.bin .lss (.t 10) (.t 12)), (.some (9,
  true))⟩, ⟨(.some 14), (.pick (.t 9) (.t 13) (.k (.bool false))), .none⟩, ⟨(.some 15), (.mv (.t 14)), .none⟩, ⟨(.some 16), (.mv (.t 0)), (.some (15, true))⟩, ⟨(.some 17), (.mv (.t 1)), (.some (15,
  true))⟩, ⟨(.some 18), (.ia 21 (.t 16) (.t 17)), (.some (15, true))⟩, ⟨(.some 19), (.ld .none (.t 18)), (.some (15, true))⟩, ⟨(.some 20), (.mv (.t 2)), (.some (15, true))⟩, ⟨(.some 21), (.bin .eql (.t
  19) (.t 20)), (.some (15, true))⟩, ⟨(.some 22), (.pick (.t 15) (.t 21) (.k (.bool false))), .none⟩, ⟨(.some 6), (.mv (.t 22)), .none⟩]) .ret))
theorem c72 : Try.f72.body.bind (cCode Try.prog 23) = some a72 := by kernel_rfl
theorem r72 : Try.f72.results.toList = [(.tmp 6)] := by kernel_rfl
theorem n72 : Try.f72.ntmps = 23 := by kernel_rfl
theorem e72 : Enters Try.prog 72 := enters_of Try.func72 (by kernel_rfl) (by kernel_rfl)
def a38 : ACode :=
  (.seq (.reg [⟨(.some 4), (.mv (.k (.int .u8 0))), .none⟩]) (.seq (.seq (.reg [⟨(.some 9), (.mv (.t 1)), .none⟩, ⟨(.some 10), (.bin .lss (.t 9) (.k (.int .i64 0))), .none⟩, ⟨(.some 11), (.mv (.t 10)),
  .none⟩, ⟨(.some 12), (.mv (.t 1)), (.some (11, false))⟩, ⟨(.some 13), (.mv (.t 0)), (.some (11, false))⟩, ⟨(.some 14), (.len (.t 13)), (.some (11, false))⟩, ⟨(.some 15), (.bin .geq (.t 12) (.t 14)),
  (.some (11, false))⟩, ⟨(.some 16), (.pick (.t 11) (.k (.bool true)) (.t 15)), .none⟩]) (.cond (.t 16) (.seq (.reg [⟨(.some 4), (.mv (.k (.int .u8 0))), .none⟩]) .ret) .skip)) (.seq (.reg [⟨(.some 17),
  (.mv (.t 0)), .none⟩, ⟨(.some 18), (.mv (.t 1)), .none⟩, ⟨(.some 19), (.ia 21 (.t 17) (.t 18)), .none⟩, ⟨(.some 20), (.ld .none (.t 19)), .none⟩, ⟨(.some 5), (.mv (.t 20)), .none⟩]) (.seq (.reg
  [⟨(.some 21), (.mv (.t 1)), .none⟩, ⟨(.some 22), (.bin .gtr (.t 21) (.k (.int .i64 0))), .none⟩, ⟨(.some 23), (.mv (.t 22)), .none⟩, ⟨(.some 24), (.mv (.t 0)), (.some (23, true))⟩, ⟨(.some 25), (.mv
  (.t 1)), (.some (23, true))⟩, ⟨(.some 26), (.bin .sub (.t 25) (.k (.int .i64 1))), (.some (23, true))⟩, ⟨(.some 27), (.ia 21 (.t 24) (.t 26)), (.some (23, true))⟩, ⟨(.some 28), (.ld .none (.t 27)),
  (.some (23, true))⟩, ⟨(.some 29), (.call (.f 66) [(.t 28)]), (.some (23, true))⟩, ⟨(.some 30), (.fld 3 .none (.t 29)), (.some (23, true))⟩, ⟨(.some 31), (.bin .eql (.t 30) (.k (.int .u8 9))), (.some
  (23, true))⟩, ⟨(.some 32), (.pick (.t 23) (.t 31) (.k (.bool false))), .none⟩, ⟨(.some 6), (.mv (.t 32)), .none⟩]) (.seq (.reg [⟨(.some 7), (.mv (.k (.bool true))), .none⟩, ⟨(.some 8), (.mv (.k (.int
  .u8 8))), .none⟩]) (.seq (.block 0 (.seq (.reg [⟨(.some 34), (.mv (.t 5)), .none⟩, ⟨(.some 35), (.bin .eql (.t 34) (.k (.int .i32 8205))), .none⟩, ⟨(.some 33), (.mv (.t 35)), .none⟩]) (.cond (.t 33)
  (.reg [⟨(.some 36), (.mv (.t 6)), .none⟩, ⟨(.some 7), (.mv (.t 36)), .none⟩, ⟨(.some 8), (.mv (.k (.int .u8 7))), .none⟩]) (.seq (.reg [⟨(.some 38), (.mv (.t 5)), .none⟩, ⟨(.some 39), (.bin .eql (.t
  38) (.k (.int .i32 8204))), .none⟩, ⟨(.some 37), (.mv (.t 39)), .none⟩]) (.cond (.t 37) (.reg [⟨(.some 40), (.mv (.t 6)), .none⟩, ⟨(.some 41), (.mv (.t 40)), .none⟩, ⟨(.some 42), (.mv (.t 0)), (.some
  (41, false))⟩, ⟨(.some 43), (.mv (.t 1)), (.some (41, false))⟩, ⟨(.some 44), (.bin .sub (.t 43) (.k (.int .i64 1))), (.some (41, false))⟩, ⟨(.some 45), (.call (.f 71) [(.t 42), (.t 44), (.k (.int .i64
  (-1))), (.k (.int .u8 3)), (.k (.int .u8 4))]), (.some (41, false))⟩, ⟨(.some 46), (.mv (.t 45)), (.some (41, false))⟩, ⟨(.some 47), (.mv (.t 0)), (.some (46, true))⟩, ⟨(.some 48), (.mv (.t 1)),
  (.some (46, true))⟩, ⟨(.some 49), (.bin .add (.t 48) (.k (.int .i64 1))), (.some (46, true))⟩, ⟨(.some 50), (.call (.f 71) [(.t 47), (.t 49), (.k (.int .i64 1)), (.k (.int .u8 3)), (.k (.int .u8
  5))]), (.some (46, true))⟩, ⟨(.some 51), (.pick (.t 46) (.t 50) (.k (.bool false))), (.some (41, false))⟩, ⟨(.some 52), (.pick (.t 41) (.k (.bool true)) (.t 51)), .none⟩, ⟨(.some 7), (.mv (.t 52)),
  .none⟩, ⟨(.some 8), (.mv (.k (.int .u8 7))), .none⟩]) (.seq (.reg [⟨(.some 54), (.mv (.t 5)), .none⟩, ⟨(.some 55), (.bin .eql (.t 54) (.k (.int .i32 183))), .none⟩, ⟨(.some 53), (.mv (.t 55)),
  .none⟩]) (.cond (.t 53) (.reg [⟨(.some 56), (.mv (.t 0)), .none⟩, ⟨(.some 57), (.mv (.t 1)), .none⟩, ⟨(.some 58), (.bin .sub (.t 57) (.k (.int .i64 1))), .none⟩, ⟨(.some 59), (.call (.f 72) [(.t 56),
  (.t 58), (.k (.int .i32 108))]), .none⟩, ⟨(.some 60), (.mv (.t 59)), .none⟩, ⟨(.some 61), (.mv (.t 0)), (.some (60, true))⟩, ⟨(.some 62), (.mv (.t 1)), (.some (60, true))⟩, ⟨(.some 63), (.bin .add (.t
  62) (.k (.int .i64 1))), (.some (60, true))⟩, ⟨(.some 64), (.call (.f 72) [(.t 61), (.t 63), (.k (.int .i32 108))]), (.some (60, true))⟩, ⟨(.some 65), (.pick (.t 60) (.t 64) (.k (.bool false))),
  .none⟩, ⟨(.some 7), (.mv (.t 65)), .none⟩]) (.seq (.reg [⟨(.some 67), (.mv (.t 5)), .none⟩, ⟨(.some 68), (.bin .eql (.t 67) (.k (.int .i32 885))), .none⟩, ⟨(.some 66), (.mv (.t 68)), .none⟩]) (.cond
  (.t 66) (.reg [⟨(.some 69), (.mv (.t 0)), .none⟩, ⟨(.some 70), (.mv (.t 1)), .none⟩, ⟨(.some 71), (.bin .add (.t 70) (.k (.int .i64 1))), .none⟩, ⟨(.some 72), (.mv (.t 1)), .none⟩, ⟨(.some 73), (.bin
  .add (.t 72) (.k (.int .i64 1))), .none⟩, ⟨(.some 74), (.call (.f 73) [(.t 69), (.t 71), (.t 73), (.k (.int .u8 3))]), .none⟩, ⟨(.some 7), (.mv (.t 74)), .none⟩]) (.seq (.reg [⟨(.some 76), (.mv (.t
  5)), .none⟩, ⟨(.some 77), (.bin .eql (.t 76) (.k (.int .i32 1523))), .none⟩, ⟨(.some 78), (.mv (.t 77)), .none⟩, ⟨(.some 79), (.mv (.t 5)), (.some (78, false))⟩, ⟨(.some 80), (.bin .eql (.t 79) (.k
  (.int .i32 1524))), (.some (78, false))⟩, ⟨(.some 81), (.pick (.t 78) (.k (.bool true)) (.t 80)), .none⟩, ⟨(.some 75), (.mv (.t 81)), .none⟩]) (.cond (.t 75) (.reg [⟨(.some 82), (.mv (.t 0)), .none⟩,
  ⟨(.some 83), (.mv (.t 1)), .none⟩, ⟨(.some 84), (.bin .sub (.t 83) (.k (.int .i64 1))), .none⟩, ⟨(.some 85), (.mv (.t 1)), .none⟩, ⟨(.some 86), (.bin .sub (.t 85) (.k (.int .i64 1))), .none⟩, ⟨(.some
  87), (.call (.f 73) [(.t 82), (.t 84), (.t 86), (.k (.int .u8 5))]), .none⟩, ⟨(.some 7), (.mv (.t 87)), .none⟩]) (.seq (.reg [⟨(.some 89), (.mv (.t 5)), .none⟩, ⟨(.some 90), (.bin .eql (.t 89) (.k
  (.int .i32 12539))), .none⟩, ⟨(.some 88), (.mv (.t 90)), .none⟩]) (.cond (.t 88) (.reg [⟨(.some 91), (.mv (.t 0)), .none⟩, ⟨(.some 92), (.mv (.t 0)), .none⟩, ⟨(.some 93), (.len (.t 92)), .none⟩,
  ⟨(.some 94), (.call (.f 73) [(.t 91), (.k (.int .i64 0)), (.t 93), (.k (.int .u8 8))]), .none⟩, ⟨(.some 95), (.mv (.t 94)), .none⟩, ⟨(.some 96), (.mv (.t 0)), (.some (95, false))⟩, ⟨(.some 97), (.mv
  (.t 0)), (.some (95, false))⟩, ⟨(.some 98), (.len (.t 97)), (.some (95, false))⟩, ⟨(.some 99), (.call (.f 73) [(.t 96), (.k (.int .i64 0)), (.t 98), (.k (.int .u8 9))]), (.some (95, false))⟩, ⟨(.some
  100), (.pick (.t 95) (.k (.bool true)) (.t 99)), .none⟩, ⟨(.some 101), (.mv (.t 100)), .none⟩, ⟨(.some 102), (.mv (.t 0)), (.some (101, false))⟩, ⟨(.some 103), (.mv (.t 0)), (.some (101, false))⟩,
  ⟨(.some 104), (.len (.t 103)), (.some (101, false))⟩, ⟨(.some 105), (.call (.f 73) [(.t 102), (.k (.int .i64 0)), (.t 104), (.k (.int .u8 10))]), (.some (101, false))⟩, ⟨(.some 106), (.pick (.t 101)
  (.k (.bool true)) (.t 105)), .none⟩, ⟨(.some 7), (.mv (.t 106)), .none⟩]) (.seq (.reg [⟨(.some 108), (.mv (.t 5)), .none⟩, ⟨(.some 109), (.bin .geq (.t 108) (.k (.int .i32 1632))), .none⟩, ⟨(.some
  110), (.mv (.t 109)), .none⟩, ⟨(.some 111), (.mv (.t 5)), (.some (110, true))⟩, ⟨(.some 112), (.bin .leq (.t 111) (.k (.int .i32 1641))), (.some (110, true))⟩, ⟨(.some 113), (.pick (.t 110) (.t 112)
  (.k (.bool false))), .none⟩, ⟨(.some 107), (.mv (.t 113)), .none⟩]) (.cond (.t 107) (.reg [⟨(.some 114), (.mv (.t 0)), .none⟩, ⟨(.some 115), (.call (.f 74) [(.t 114), (.k (.int .i32 1776)), (.k (.int
  .i32 1785))]), .none⟩, ⟨(.some 116), (.not (.t 115)), .none⟩, ⟨(.some 7), (.mv (.t 116)), .none⟩]) (.seq (.reg [⟨(.some 118), (.mv (.t 5)), .none⟩, ⟨(.some 119), (.bin .geq (.t 118) (.k (.int .i32
  1776))), .none⟩, ⟨(.some 120), (.mv (.t 119)), .none⟩, ⟨(.some 121), (.mv (.t 5)), (.some (120, true))⟩, ⟨(.some 122), (.bin .leq (.t 121) (.k (.int .i32 1785))), (.some (120, true))⟩, ⟨(.some 123),
  (.pick (.t 120) (.t 122) (.k (.bool false))), .none⟩, ⟨(.some 117), (.mv (.t 123)), .none⟩]) (.cond (.t 117) (.reg [⟨(.some 124), (.mv (.t 0)), .none⟩, ⟨(.some 125), (.call (.f 74) [(.t 124), (.k
  (.int .i32 1632)), (.k (.int .i32 1641))]), .none⟩, ⟨(.some 126), (.not (.t 125)), .none⟩, ⟨(.some 7), (.mv (.t 126)), .none⟩]) .skip))))))))))))))))) (.seq (.seq (.reg [⟨(.some 127), (.mv (.t 7)),
  .none⟩]) (.cond (.t 127) (.seq (.reg [⟨(.some 4), (.mv (.k (.int .u8 0))), .none⟩]) .ret) .skip)) (.seq (.reg [⟨(.some 128), (.mv (.t 8)), .none⟩, ⟨(.some 4), (.mv (.t 128)), .none⟩]) .ret))))))))
theorem c38 : Try.f38.body.bind (cCode Try.prog 129) = some a38 := by kernel_rfl
theorem r38 : Try.f38.results.toList = [(.tmp 4)] := by kernel_rfl
theorem n38 : Try.f38.ntmps = 129 := by kernel_rfl
theorem e38 : Enters Try.prog 38 := enters_of Try.func38 (by kernel_rfl) (by kernel_rfl)
def a40 : ACode :=
  (.seq (.reg [⟨(.some 2), (.mv (.k (.int .u8 0))), .none⟩]) (.seq (.seq (.reg [⟨(.some 3), (.mv (.k (.int .i64 0))), .none⟩]) (.block 0 (.loop (.seq (.seq (.reg [⟨(.some 5), (.mv (.t 3)), .none⟩,
  ⟨(.some 6), (.mv (.t 0)), .none⟩, ⟨(.some 7), (.len (.t 6)), .none⟩, ⟨(.some 8), (.bin .lss (.t 5) (.t 7)), .none⟩]) (.cond (.t 8) .skip (.exit 0))) (.seq (.block 1 (.seq (.reg [⟨(.some 11), (.mv (.t
  0)), .none⟩, ⟨(.some 12), (.mv (.t 3)), .none⟩, ⟨(.some 13), (.call (.f 38) [(.t 11), (.t 12)]), .none⟩, ⟨(.some 4), (.mv (.t 13)), .none⟩]) (.seq (.reg [⟨(.some 14), (.mv (.t 4)), .none⟩, ⟨(.some
  15), (.bin .gtr (.t 14) (.k (.int .u8 0))), .none⟩]) (.cond (.t 15) (.seq (.reg [⟨(.some 16), (.mv (.t 4)), .none⟩, ⟨(.some 2), (.mv (.t 16)), .none⟩]) .ret) .skip)))) (.reg [⟨(.some 9), (.mv (.t 3)),
  .none⟩, ⟨(.some 10), (.bin .add (.t 9) (.k (.int .i64 1))), .none⟩, ⟨(.some 3), (.mv (.t 10)), .none⟩])))))) (.seq (.reg [⟨(.some 2), (.mv (.k (.int .u8 0))), .none⟩]) .ret)))
theorem c40 : Try.f40.body.bind (cCode Try.prog 17) = some a40 := by kernel_rfl
theorem r40 : Try.f40.results.toList = [(.tmp 2)] := by kernel_rfl
theorem n40 : Try.f40.ntmps = 17 := by kernel_rfl
theorem e40 : Enters Try.prog 40 := enters_of Try.func40 (by kernel_rfl) (by kernel_rfl)

/-- A code point is in a row that says what it has, or it has nothing. -/
theorem rowAt_or (r : Int) : rowAt r = plainRow ∨ ∃ x ∈ tab, x.fr ≤ r ∧ r ≤ x.to ∧ rowAt r = x := by
  by_cases h : ∀ x ∈ tab, ¬(x.fr ≤ r ∧ r ≤ x.to)
  · exact .inl (rowAt_none h)
  · simp only [Classical.not_forall, Classical.not_not] at h
    obtain ⟨x, hx, h1, h2⟩ := h
    exact .inr ⟨x, hx, h1, h2, rowAt_tab hx h1 h2⟩
def ctxRow (x : Row) : Bool := decide (0 ≤ x.fr) && ((x.digits != 2 || (decide (1632 ≤ x.fr) && decide (x.to ≤ 1641))) && (x.digits != 3 || (decide (1776 ≤ x.fr) && decide (x.to ≤ 1785))))
theorem ctx_rows : tab.all ctxRow = true := by kernel_rfl
theorem rowAt_neg {r : Int} (h : r < 0) : rowAt r = plainRow := by
  rcases rowAt_or r with h1 | ⟨x, hx, h1, h2, _⟩
  · exact h1
  · have := List.all_eq_true.1 ctx_rows x hx
    simp only [ctxRow, Bool.and_eq_true, decide_eq_true_eq] at this
    omega
theorem arab_all : ∀ d < 10, (rowAt (1632 + ((d : Nat) : Int))).digits = 2 ∧ (rowAt (1776 + ((d : Nat) : Int))).digits = 3 := by decide +kernel
theorem digits2 (r : Int) : (rowAt r).digits = 2 ↔ 1632 ≤ r ∧ r ≤ 1641 := by
  constructor
  · intro h
    rcases rowAt_or r with h1 | ⟨x, hx, h1, h2, h3⟩
    · rw [h1] at h; cases h
    · have := List.all_eq_true.1 ctx_rows x hx
      rw [h3] at h
      simp only [ctxRow, h, Bool.and_eq_true, decide_eq_true_eq, bne_self_eq_false, Bool.false_or] at this
      omega
  · rintro ⟨h1, h2⟩
    have := (arab_all (r - 1632).toNat (by omega)).1
    rwa [show (1632 + (((r - 1632).toNat : Nat) : Int)) = r by omega] at this
theorem digits3 (r : Int) : (rowAt r).digits = 3 ↔ 1776 ≤ r ∧ r ≤ 1785 := by
  constructor
  · intro h
    rcases rowAt_or r with h1 | ⟨x, hx, h1, h2, h3⟩
    · rw [h1] at h; cases h
    · have := List.all_eq_true.1 ctx_rows x hx
      rw [h3] at h
      simp only [ctxRow, h, Bool.and_eq_true, decide_eq_true_eq, bne_self_eq_false, Bool.false_or] at this
      omega
  · rintro ⟨h1, h2⟩
    have := (arab_all (r - 1776).toNat (by omega)).2
    rwa [show (1776 + (((r - 1776).toNat : Nat) : Int)) = r by omega] at this

set_option maxRecDepth 10000 in
theorem reaches_pure (l : List Int) (i way side : Int) (hl : l.length ≤ 1000000) (h32 : I32 l) (hi : -1 ≤ i ∧ i ≤ l.length) (hw : way = 1 ∨ way = -1) (hs : side = 4 ∨ side = 5) :
    Pure Try.prog 71 [.sl 21 (runes l) none, .lit (.int .i64 i), .lit (.int .i64 way), .lit (.int .u8 3), .lit (.int .u8 side)] [] (.lit (.bool (joinsP l way side (l.length + 2) i))) := by
  refine pure0 Try.func71 c71 n71 e71 r71 (by simp) rfl ?_
  simp only [a71, astart, argSlots, go_sem, Nat.reduceAdd, Nat.reduceEqDiff, Nat.reduceLT, reduceIte, reduceCtorEq, Nat.reduceBEq, Int.reduceLT, Int.reduceToNat, Int.reducePow, Nat.reduceLeDiff, Int.reduceLE, Nat.reduceMul, Nat.reduceSub]
  generalize hJ : joinsP l way side (l.length + 2) i = J
  refine loop_to (l.length + 1) (fun n => ⟨[(0, some (.sl 21 (runes l) none)), (1, some (.lit (.int .i64 (i + way * (n : Int))))), (2, some (.lit (.int .i64 way))), (3, some (.lit (.int .u8 3))), (4, some (.lit (.int .u8 side)))], [], [], 0⟩)
    (fun n => (∀ m : Nat, m < n → 0 ≤ atP l (i + way * (m : Int))) ∧ J = joinsP l way side (l.length + 2 - n) (i + way * (n : Int)))
    (weak_by [] (by simp) rfl ?_ trivial trivial (by simp)) ⟨fun m hm => by omega, by rw [← hJ]; simp⟩ ?_ ?_
  · simp only [go_sem, Nat.reduceAdd, Nat.reduceEqDiff, Nat.reduceLT, reduceIte, reduceCtorEq, Nat.reduceBEq, Int.reduceLT, Int.reduceToNat, Int.reducePow, Nat.reduceLeDiff, Int.reduceLE, Nat.reduceMul, Nat.reduceSub, slotsBy, boxesBy, tipsBy, rawAt, nm, AV.ren, AV.renL, AV.under, AV.underL, List.all_nil, List.all_cons, bne_self_eq_false, List.getD_cons_zero, List.getD_cons_succ, List.length_nil, List.length_cons, and_true, true_and, Int.natCast_zero, Int.mul_zero, Int.add_zero]
  · intro n hn hp
    obtain ⟨hp1, hp2⟩ := hp
    have hwr : IntKind.i64.wrap (i + way * (n : Int) + way) = i + way * ((n + 1 : Nat) : Int) := by
      rw [wrap_i64 _ (by rcases hw with rfl | rfl <;> omega) (by rcases hw with rfl | rfl <;> omega)]
      rcases hw with rfl | rfl <;> omega
    have hf : l.length + 2 - n = (l.length + 2 - (n + 1)) + 1 := by omega
    rw [hf, joinsP] at hp2
    have hnext : i + way * (n : Int) + way = i + way * ((n + 1 : Nat) : Int) := by rcases hw with rfl | rfl <;> omega
    rw [hnext] at hp2
    have hdone : ∀ m : Nat, 0 ≤ atP l (i + way * (n : Int)) → m < n + 1 → 0 ≤ atP l (i + way * (m : Int)) := fun m h0 hm => by
      rcases Nat.lt_succ_iff_lt_or_eq.1 hm with hm | hm
      · exact hp1 m hm
      · subst hm; exact h0
    generalize hk : i + way * (n : Int) = k at hp2 hdone hwr
    simp only [go_sem, Nat.reduceAdd, Nat.reduceEqDiff, Nat.reduceLT, reduceIte, reduceCtorEq, Nat.reduceBEq, Int.reduceLT, Int.reduceToNat, Int.reducePow, Nat.reduceLeDiff, Int.reduceLE, Nat.reduceMul, Nat.reduceSub]
    by_cases h0 : 0 ≤ k ∧ k < l.length
    · obtain ⟨j, rfl⟩ : ∃ j : Nat, k = j := ⟨k.toNat, by omega⟩
      have hj : j < l.length := by omega
      have e0 : decide ((j : Int) ≥ 0) = true := by simp
      have e1 : decide ((j : Int) < (l.length : Int)) = true := by simp only [decide_eq_true_eq]; omega
      have hr := h32 _ (List.getElem_mem hj)
      rw [atP_in l j hj] at hp2 hdone
      simp only [e0, e1, go_sem, Nat.reduceAdd, Nat.reduceEqDiff, Nat.reduceLT, reduceIte, reduceCtorEq, Nat.reduceBEq, Int.reduceLT, Int.reduceToNat, Int.reducePow, Nat.reduceLeDiff, Int.reduceLE, Nat.reduceMul, Nat.reduceSub, runes_length, hj, runes_get l j hj, Int.natCast_nonneg, Int.toNat_natCast]
      refine callGo_pure (refOf_pure _ hr) (by rfl) ?_
      simp only [go_sem, Nat.reduceAdd, Nat.reduceEqDiff, Nat.reduceLT, reduceIte, reduceCtorEq, Nat.reduceBEq, Int.reduceLT, Int.reduceToNat, Int.reducePow, Nat.reduceLeDiff, Int.reduceLE, Nat.reduceMul, Nat.reduceSub, Row.prop]
      generalize l[j] = r at hp2 hdone
      have hneg : ¬ 0 ≤ r → (rowAt r).join = 0 := fun h => by rw [rowAt_neg (by omega)]; rfl
      by_cases h3 : (rowAt r).join = 3
      · have e3 : ((rowAt r).join == 3) = true := by simp [h3]
        have hr0 : 0 ≤ r := Classical.byContradiction fun h => by rw [hneg h] at h3; cases h3
        rw [if_pos hr0, if_neg (by rw [h3]; decide), e3] at hp2
        simp only [e3, go_sem, Nat.reduceAdd, Nat.reduceEqDiff, Nat.reduceLT, reduceIte, reduceCtorEq, Nat.reduceBEq, Int.reduceLT, Int.reduceToNat, Int.reducePow, Nat.reduceLeDiff, Int.reduceLE, Nat.reduceMul, Nat.reduceSub]
        simp only [Done, resAV, resL, resOne, look_nil, look_cons, Nat.reduceEqDiff, if_true, if_false, reduceIte, ite_true, ite_false, Nat.zero_ne_one, Nat.one_ne_zero, reduceCtorEq, true_or, or_true, true_and, Option.some.injEq, AV.lit.injEq, Value.int.injEq, Value.bool.injEq]
        rw [hp2]; rfl
      · have e3 : ((rowAt r).join == 3) = false := by simp [h3]
        simp only [e3, go_sem, Nat.reduceAdd, Nat.reduceEqDiff, Nat.reduceLT, reduceIte, reduceCtorEq, Nat.reduceBEq, Int.reduceLT, Int.reduceToNat, Int.reducePow, Nat.reduceLeDiff, Int.reduceLE, Nat.reduceMul, Nat.reduceSub]
        cases e4 : (rowAt r).join == side
        · simp only [go_sem, Nat.reduceAdd, Nat.reduceEqDiff, Nat.reduceLT, reduceIte, reduceCtorEq, Nat.reduceBEq, Int.reduceLT, Int.reduceToNat, Int.reducePow, Nat.reduceLeDiff, Int.reduceLE, Nat.reduceMul, Nat.reduceSub]
          by_cases h2 : (rowAt r).join = 2
          · have e2 : ((rowAt r).join != 2) = false := by simp [h2]
            have hr0 : 0 ≤ r := Classical.byContradiction fun h => by rw [hneg h] at h2; cases h2
            rw [if_pos hr0, if_pos h2] at hp2
            simp only [e2, hwr, go_sem, Nat.reduceAdd, Nat.reduceEqDiff, Nat.reduceLT, reduceIte, reduceCtorEq, Nat.reduceBEq, Int.reduceLT, Int.reduceToNat, Int.reducePow, Nat.reduceLeDiff, Int.reduceLE, Nat.reduceMul, Nat.reduceSub]
            refine ⟨weak_by [] (by simp) rfl ?_ trivial trivial (by simp), fun m hm => hdone m hr0 hm, hp2⟩
            simp only [go_sem, Nat.reduceAdd, Nat.reduceEqDiff, Nat.reduceLT, reduceIte, reduceCtorEq, Nat.reduceBEq, Int.reduceLT, Int.reduceToNat, Int.reducePow, Nat.reduceLeDiff, Int.reduceLE, Nat.reduceMul, Nat.reduceSub, slotsBy, boxesBy, tipsBy, rawAt, nm, AV.ren, AV.renL, AV.under, AV.underL, List.all_nil, List.all_cons, bne_self_eq_false, List.getD_cons_zero, List.getD_cons_succ, List.length_nil, List.length_cons, and_true, true_and]
          · have e2 : ((rowAt r).join != 2) = true := by simp [h2]
            rw [if_neg h2, e3, e4] at hp2
            simp only [e2, go_sem, Nat.reduceAdd, Nat.reduceEqDiff, Nat.reduceLT, reduceIte, reduceCtorEq, Nat.reduceBEq, Int.reduceLT, Int.reduceToNat, Int.reducePow, Nat.reduceLeDiff, Int.reduceLE, Nat.reduceMul, Nat.reduceSub]
            simp only [Done, resAV, resL, resOne, look_nil, look_cons, Nat.reduceEqDiff, if_true, if_false, reduceIte, ite_true, ite_false, Nat.zero_ne_one, Nat.one_ne_zero, reduceCtorEq, true_or, or_true, true_and, Option.some.injEq, AV.lit.injEq, Value.int.injEq, Value.bool.injEq]
            rw [hp2]; split <;> rfl
        · simp only [go_sem, Nat.reduceAdd, Nat.reduceEqDiff, Nat.reduceLT, reduceIte, reduceCtorEq, Nat.reduceBEq, Int.reduceLT, Int.reduceToNat, Int.reducePow, Nat.reduceLeDiff, Int.reduceLE, Nat.reduceMul, Nat.reduceSub]
          have e4' : (rowAt r).join = side := by simpa using e4
          have hr0 : 0 ≤ r := Classical.byContradiction fun h => by rw [hneg h] at e4'; omega
          rw [if_pos hr0, if_neg (by omega), e3, e4] at hp2
          simp only [Done, resAV, resL, resOne, look_nil, look_cons, Nat.reduceEqDiff, if_true, if_false, reduceIte, ite_true, ite_false, Nat.zero_ne_one, Nat.one_ne_zero, reduceCtorEq, true_or, or_true, true_and, Option.some.injEq, AV.lit.injEq, Value.int.injEq, Value.bool.injEq]
          rw [hp2]; rfl
    · have hout : atP l k = -1 := atP_out l k (by omega)
      rw [hout, if_neg (by decide)] at hp2
      by_cases h1 : 0 ≤ k
      · have e0 : decide (k ≥ 0) = true := by simpa using h1
        have e1 : decide (k < (l.length : Int)) = false := by simp only [decide_eq_false_iff_not]; omega
        simp only [e0, e1, go_sem, Nat.reduceAdd, Nat.reduceEqDiff, Nat.reduceLT, reduceIte, reduceCtorEq, Nat.reduceBEq, Int.reduceLT, Int.reduceToNat, Int.reducePow, Nat.reduceLeDiff, Int.reduceLE, Nat.reduceMul, Nat.reduceSub, runes_length]
        simp only [Done, resAV, resL, resOne, look_nil, look_cons, Nat.reduceEqDiff, if_true, if_false, reduceIte, ite_true, ite_false, Nat.zero_ne_one, Nat.one_ne_zero, reduceCtorEq, true_or, or_true, true_and, Option.some.injEq, AV.lit.injEq, Value.int.injEq, Value.bool.injEq]
        rw [hp2]
      · have e0 : decide (k ≥ 0) = false := by simpa using h1
        simp only [e0, go_sem, Nat.reduceAdd, Nat.reduceEqDiff, Nat.reduceLT, reduceIte, reduceCtorEq, Nat.reduceBEq, Int.reduceLT, Int.reduceToNat, Int.reducePow, Nat.reduceLeDiff, Int.reduceLE, Nat.reduceMul, Nat.reduceSub]
        simp only [Done, resAV, resL, resOne, look_nil, look_cons, Nat.reduceEqDiff, if_true, if_false, reduceIte, ite_true, ite_false, Nat.zero_ne_one, Nat.one_ne_zero, reduceCtorEq, true_or, or_true, true_and, Option.some.injEq, AV.lit.injEq, Value.int.injEq, Value.bool.injEq]
        rw [hp2]
  · intro hp
    have h0 := hp.1 0 (by omega)
    have h1 : 0 ≤ i ∧ i < l.length := Classical.byContradiction fun h => by rw [atP_out l _ (by rcases hw with rfl | rfl <;> omega)] at h0; omega
    have := hp.1 l.length (by omega)
    rw [atP_out l _ (by rcases hw with rfl | rfl <;> omega)] at this
    omega

/-- Has one of some places a script? -/
def scrR (l : List Int) (fr s : Int) : Nat → Bool
  | 0 => false
  | n + 1 => scrR l fr s n || (decide (0 ≤ fr + n ∧ fr + n < l.length) && (rowAt (atP l (fr + n))).script == s)
theorem scrR_of {l : List Int} {fr s : Int} {n : Nat} : ∀ {m : Nat}, n < m → (decide (0 ≤ fr + n ∧ fr + n < l.length) && (rowAt (atP l (fr + n))).script == s) = true → scrR l fr s m = true
  | 0, h, _ => by omega
  | m + 1, h, he => by
    rw [scrR, Bool.or_eq_true]
    rcases Nat.lt_succ_iff_lt_or_eq.1 h with h | h
    · exact .inl (scrR_of h he)
    · subst h; exact .inr he

set_option maxRecDepth 10000 in
theorem script_pure (l : List Int) (fr s : Int) (N : Nat) (hl : l.length ≤ 1000000) (h32 : I32 l) (hf : -10 ≤ fr ∧ fr ≤ 1000010) (hN : N ≤ 1000010) :
    Pure Try.prog 73 [.sl 21 (runes l) none, .lit (.int .i64 fr), .lit (.int .i64 (fr + N - 1)), .lit (.int .u8 s)] [] (.lit (.bool (scrR l fr s N))) := by
  refine pure0 Try.func73 c73 n73 e73 r73 (by simp) rfl ?_
  simp only [a73, astart, argSlots, go_sem, Nat.reduceAdd, Nat.reduceEqDiff, Nat.reduceLT, reduceIte, reduceCtorEq, Nat.reduceBEq, Int.reduceLT, Int.reduceToNat, Int.reducePow, Nat.reduceLeDiff, Int.reduceLE, Nat.reduceMul, Nat.reduceSub]
  refine loop_to N (fun n => ⟨[(0, some (.sl 21 (runes l) none)), (2, some (.lit (.int .i64 (fr + N - 1)))), (3, some (.lit (.int .u8 s))), (9, some (.lit (.int .i64 (fr + (n : Int)))))], [], [], 0⟩)
    (fun n => scrR l fr s n = false) (weak_by [] (by simp) rfl ?_ trivial trivial (by simp)) rfl ?_ ?_
  · simp only [go_sem, Nat.reduceAdd, Nat.reduceEqDiff, Nat.reduceLT, reduceIte, reduceCtorEq, Nat.reduceBEq, Int.reduceLT, Int.reduceToNat, Int.reducePow, Nat.reduceLeDiff, Int.reduceLE, Nat.reduceMul, Nat.reduceSub, slotsBy, boxesBy, tipsBy, rawAt, nm, AV.ren, AV.renL, AV.under, AV.underL, List.all_nil, List.all_cons, bne_self_eq_false, List.getD_cons_zero, List.getD_cons_succ, List.length_nil, List.length_cons, and_true, true_and, Int.natCast_zero, Int.add_zero]
  · intro n hn hp
    have hwr : IntKind.i64.wrap (fr + (n : Int) + 1) = fr + ((n + 1 : Nat) : Int) := by rw [wrap_i64 _ (by omega) (by omega)]; omega
    have hle : decide (fr + (n : Int) ≤ fr + (N : Int) - 1) = true := by simp only [decide_eq_true_eq]; omega
    have hstep : scrR l fr s (n + 1) = (decide (0 ≤ fr + (n : Int) ∧ fr + (n : Int) < l.length) && (rowAt (atP l (fr + n))).script == s) := by rw [scrR, hp, Bool.false_or]
    have hdone : (decide (0 ≤ fr + (n : Int) ∧ fr + (n : Int) < l.length) && (rowAt (atP l (fr + n))).script == s) = true → scrR l fr s N = true := fun h => scrR_of hn h
    generalize fr + (n : Int) = k at hwr hle hstep hdone
    simp only [go_sem, Nat.reduceAdd, Nat.reduceEqDiff, Nat.reduceLT, reduceIte, reduceCtorEq, Nat.reduceBEq, Int.reduceLT, Int.reduceToNat, Int.reducePow, Nat.reduceLeDiff, Int.reduceLE, Nat.reduceMul, Nat.reduceSub, hle]
    by_cases h0 : 0 ≤ k
    · have e0 : decide (k ≥ 0) = true := by simpa using h0
      by_cases h1 : k < l.length
      · have e1 : decide (k < (l.length : Int)) = true := by simpa using h1
        obtain ⟨j, rfl⟩ : ∃ j : Nat, k = j := ⟨k.toNat, by omega⟩
        have hj : j < l.length := by omega
        have hr := h32 _ (List.getElem_mem hj)
        rw [atP_in l j hj] at hstep hdone
        have hd : decide (0 ≤ (j : Int) ∧ (j : Int) < l.length) = true := by simp only [decide_eq_true_eq]; omega
        simp only [hd, Bool.true_and] at hstep hdone
        simp only [e0, e1, go_sem, Nat.reduceAdd, Nat.reduceEqDiff, Nat.reduceLT, reduceIte, reduceCtorEq, Nat.reduceBEq, Int.reduceLT, Int.reduceToNat, Int.reducePow, Nat.reduceLeDiff, Int.reduceLE, Nat.reduceMul, Nat.reduceSub, runes_length, hj, runes_get l j hj, Int.natCast_nonneg, Int.toNat_natCast]
        refine callGo_pure (refOf_pure _ hr) (by rfl) ?_
        simp only [go_sem, Nat.reduceAdd, Nat.reduceEqDiff, Nat.reduceLT, reduceIte, reduceCtorEq, Nat.reduceBEq, Int.reduceLT, Int.reduceToNat, Int.reducePow, Nat.reduceLeDiff, Int.reduceLE, Nat.reduceMul, Nat.reduceSub, Row.prop]
        cases e2 : (rowAt l[j]).script == s
        · rw [e2] at hstep
          simp only [go_sem, Nat.reduceAdd, Nat.reduceEqDiff, Nat.reduceLT, reduceIte, reduceCtorEq, Nat.reduceBEq, Int.reduceLT, Int.reduceToNat, Int.reducePow, Nat.reduceLeDiff, Int.reduceLE, Nat.reduceMul, Nat.reduceSub, hwr]
          refine ⟨weak_by [] (by simp) rfl ?_ trivial trivial (by simp), hstep⟩
          simp only [go_sem, Nat.reduceAdd, Nat.reduceEqDiff, Nat.reduceLT, reduceIte, reduceCtorEq, Nat.reduceBEq, Int.reduceLT, Int.reduceToNat, Int.reducePow, Nat.reduceLeDiff, Int.reduceLE, Nat.reduceMul, Nat.reduceSub, slotsBy, boxesBy, tipsBy, rawAt, nm, AV.ren, AV.renL, AV.under, AV.underL, List.all_nil, List.all_cons, bne_self_eq_false, List.getD_cons_zero, List.getD_cons_succ, List.length_nil, List.length_cons, and_true, true_and]
        · simp only [go_sem, Nat.reduceAdd, Nat.reduceEqDiff, Nat.reduceLT, reduceIte, reduceCtorEq, Nat.reduceBEq, Int.reduceLT, Int.reduceToNat, Int.reducePow, Nat.reduceLeDiff, Int.reduceLE, Nat.reduceMul, Nat.reduceSub]
          simp only [Done, resAV, resL, resOne, look_nil, look_cons, Nat.reduceEqDiff, if_true, if_false, reduceIte, ite_true, ite_false, Nat.zero_ne_one, Nat.one_ne_zero, reduceCtorEq, true_or, or_true, true_and, Option.some.injEq, AV.lit.injEq, Value.int.injEq, Value.bool.injEq]
          exact (hdone e2).symm
      · have e1 : decide (k < (l.length : Int)) = false := by simpa using h1
        have hd : decide (0 ≤ k ∧ k < l.length) = false := by simp only [decide_eq_false_iff_not]; omega
        rw [hd, Bool.false_and] at hstep
        simp only [e0, e1, go_sem, Nat.reduceAdd, Nat.reduceEqDiff, Nat.reduceLT, reduceIte, reduceCtorEq, Nat.reduceBEq, Int.reduceLT, Int.reduceToNat, Int.reducePow, Nat.reduceLeDiff, Int.reduceLE, Nat.reduceMul, Nat.reduceSub, runes_length, hwr]
        refine ⟨weak_by [] (by simp) rfl ?_ trivial trivial (by simp), hstep⟩
        simp only [go_sem, Nat.reduceAdd, Nat.reduceEqDiff, Nat.reduceLT, reduceIte, reduceCtorEq, Nat.reduceBEq, Int.reduceLT, Int.reduceToNat, Int.reducePow, Nat.reduceLeDiff, Int.reduceLE, Nat.reduceMul, Nat.reduceSub, slotsBy, boxesBy, tipsBy, rawAt, nm, AV.ren, AV.renL, AV.under, AV.underL, List.all_nil, List.all_cons, bne_self_eq_false, List.getD_cons_zero, List.getD_cons_succ, List.length_nil, List.length_cons, and_true, true_and]
    · have e0 : decide (k ≥ 0) = false := by simpa using h0
      have hd : decide (0 ≤ k ∧ k < l.length) = false := by simp only [decide_eq_false_iff_not]; omega
      rw [hd, Bool.false_and] at hstep
      simp only [e0, go_sem, Nat.reduceAdd, Nat.reduceEqDiff, Nat.reduceLT, reduceIte, reduceCtorEq, Nat.reduceBEq, Int.reduceLT, Int.reduceToNat, Int.reducePow, Nat.reduceLeDiff, Int.reduceLE, Nat.reduceMul, Nat.reduceSub, hwr]
      refine ⟨weak_by [] (by simp) rfl ?_ trivial trivial (by simp), hstep⟩
      simp only [go_sem, Nat.reduceAdd, Nat.reduceEqDiff, Nat.reduceLT, reduceIte, reduceCtorEq, Nat.reduceBEq, Int.reduceLT, Int.reduceToNat, Int.reducePow, Nat.reduceLeDiff, Int.reduceLE, Nat.reduceMul, Nat.reduceSub, slotsBy, boxesBy, tipsBy, rawAt, nm, AV.ren, AV.renL, AV.under, AV.underL, List.all_nil, List.all_cons, bne_self_eq_false, List.getD_cons_zero, List.getD_cons_succ, List.length_nil, List.length_cons, and_true, true_and]
  · intro hp
    have hle : decide (fr + (N : Int) ≤ fr + (N : Int) - 1) = false := by simp only [decide_eq_false_iff_not]; omega
    simp only [go_sem, Nat.reduceAdd, Nat.reduceEqDiff, Nat.reduceLT, reduceIte, reduceCtorEq, Nat.reduceBEq, Int.reduceLT, Int.reduceToNat, Int.reducePow, Nat.reduceLeDiff, Int.reduceLE, Nat.reduceMul, Nat.reduceSub, hle]
    simp only [Done, resAV, resL, resOne, look_nil, look_cons, Nat.reduceEqDiff, if_true, if_false, reduceIte, ite_true, ite_false, Nat.zero_ne_one, Nat.one_ne_zero, reduceCtorEq, true_or, or_true, true_and, Option.some.injEq, AV.lit.injEq, Value.int.injEq, Value.bool.injEq]
    exact hp.symm

/-- One place. -/
theorem scr_one (l : List Int) (k s : Int) (hs : s ≠ 0) : scrR l k s 1 = ((rowAt (atP l k)).script == s) := by
  simp only [scrR, Bool.false_or, Int.natCast_zero, Int.add_zero]
  by_cases h : 0 ≤ k ∧ k < l.length
  · simp [h]
  · rw [atP_out l k (by omega)]
    have hz : ((rowAt (-1)).script == s) = false := by
      rw [rowAt_neg (by omega)]
      simp only [plainRow, beq_eq_false_iff_ne, ne_eq]
      exact fun e => hs e.symm
    simp [h, hz]
/-- All places. -/
theorem scr_all (l : List Int) (s : Int) : scrR l 0 s (l.length + 1) = l.any fun r => (rowAt r).script == s := by
  have key : ∀ n, n ≤ l.length → scrR l 0 s n = (l.take n).any fun r => (rowAt r).script == s := by
    intro n
    induction n with
    | zero => intro _; simp [scrR]
    | succ n ih =>
      intro hn
      rw [scrR, ih (by omega), List.take_succ_eq_append_getElem (by omega), List.any_append]
      have hd : decide (0 ≤ (0 : Int) + n ∧ (0 : Int) + n < l.length) = true := by simp only [decide_eq_true_eq]; omega
      rw [hd, Bool.true_and, Int.zero_add, atP_in l n (by omega)]
      simp
  rw [scrR, key _ (Nat.le_refl _), List.take_length]
  have hd : decide (0 ≤ (0 : Int) + (l.length : Int) ∧ (0 : Int) + (l.length : Int) < l.length) = false := by simp
  rw [hd, Bool.false_and, Bool.or_false]

set_option maxRecDepth 10000 in
theorem within_pure (l : List Int) (fr to : Int) (hl : l.length ≤ 1000000) : Pure Try.prog 74 [.sl 21 (runes l) none, .lit (.int .i32 fr), .lit (.int .i32 to)] [] (.lit (.bool (l.any fun r => decide (r ≥ fr) && decide (r ≤ to)))) := by
  refine pure0 Try.func74 c74 n74 e74 r74 (by simp) rfl ?_
  simp only [a74, astart, argSlots, go_sem, Nat.reduceAdd, Nat.reduceEqDiff, Nat.reduceLT, reduceIte, reduceCtorEq, Nat.reduceBEq, Int.reduceLT, Int.reduceToNat, Int.reducePow, Nat.reduceLeDiff, Int.reduceLE, Nat.reduceMul, Nat.reduceSub]
  refine loop_to l.length (fun n => ⟨[(0, some (.sl 21 (runes l) none)), (1, some (.lit (.int .i32 fr))), (2, some (.lit (.int .i32 to))), (7, some (.lit (.int .i64 (n : Int))))], [], [], 0⟩)
    (fun n => (l.take n).any (fun r => decide (r ≥ fr) && decide (r ≤ to)) = false) (weak_by [] (by simp) rfl ?_ trivial trivial (by simp)) rfl ?_ ?_
  · simp only [go_sem, Nat.reduceAdd, Nat.reduceEqDiff, Nat.reduceLT, reduceIte, reduceCtorEq, Nat.reduceBEq, Int.reduceLT, Int.reduceToNat, Int.reducePow, Nat.reduceLeDiff, Int.reduceLE, Nat.reduceMul, Nat.reduceSub, slotsBy, boxesBy, tipsBy, rawAt, nm, AV.ren, AV.renL, AV.under, AV.underL, List.all_nil, List.all_cons, bne_self_eq_false, List.getD_cons_zero, List.getD_cons_succ, List.length_nil, List.length_cons, and_true, true_and, Int.natCast_zero]
  · intro n hn hp
    have hstep : (l.take (n + 1)).any (fun r => decide (r ≥ fr) && decide (r ≤ to)) = (decide (l[n] ≥ fr) && decide (l[n] ≤ to)) := by
      rw [List.take_succ_eq_append_getElem hn, List.any_append, hp]; simp
    have hdone : (decide (l[n] ≥ fr) && decide (l[n] ≤ to)) = true → l.any (fun r => decide (r ≥ fr) && decide (r ≤ to)) = true := fun h => List.any_eq_true.2 ⟨_, List.getElem_mem hn, h⟩
    simp only [go_sem, Nat.reduceAdd, Nat.reduceEqDiff, Nat.reduceLT, reduceIte, reduceCtorEq, Nat.reduceBEq, Int.reduceLT, Int.reduceToNat, Int.reducePow, Nat.reduceLeDiff, Int.reduceLE, Nat.reduceMul, Nat.reduceSub, runes_length, hn, runes_get l n hn]
    cases e1 : decide (l[n] ≥ fr)
    · rw [e1] at hstep
      simp only [go_sem, Nat.reduceAdd, Nat.reduceEqDiff, Nat.reduceLT, reduceIte, reduceCtorEq, Nat.reduceBEq, Int.reduceLT, Int.reduceToNat, Int.reducePow, Nat.reduceLeDiff, Int.reduceLE, Nat.reduceMul, Nat.reduceSub]
      simp (disch := omega) only [wrap_i64]
      refine ⟨weak_by [] (by simp) rfl ?_ trivial trivial (by simp), hstep⟩
      simp only [go_sem, Nat.reduceAdd, Nat.reduceEqDiff, Nat.reduceLT, reduceIte, reduceCtorEq, Nat.reduceBEq, Int.reduceLT, Int.reduceToNat, Int.reducePow, Nat.reduceLeDiff, Int.reduceLE, Nat.reduceMul, Nat.reduceSub, slotsBy, boxesBy, tipsBy, rawAt, nm, AV.ren, AV.renL, AV.under, AV.underL, List.all_nil, List.all_cons, bne_self_eq_false, List.getD_cons_zero, List.getD_cons_succ, List.length_nil, List.length_cons, and_true, true_and, Int.natCast_add, Int.natCast_one]
    · rw [e1] at hstep hdone
      simp only [go_sem, Nat.reduceAdd, Nat.reduceEqDiff, Nat.reduceLT, reduceIte, reduceCtorEq, Nat.reduceBEq, Int.reduceLT, Int.reduceToNat, Int.reducePow, Nat.reduceLeDiff, Int.reduceLE, Nat.reduceMul, Nat.reduceSub, runes_length, hn, runes_get l n hn]
      cases e2 : decide (l[n] ≤ to)
      · rw [e2] at hstep
        simp only [go_sem, Nat.reduceAdd, Nat.reduceEqDiff, Nat.reduceLT, reduceIte, reduceCtorEq, Nat.reduceBEq, Int.reduceLT, Int.reduceToNat, Int.reducePow, Nat.reduceLeDiff, Int.reduceLE, Nat.reduceMul, Nat.reduceSub]
        simp (disch := omega) only [wrap_i64]
        refine ⟨weak_by [] (by simp) rfl ?_ trivial trivial (by simp), hstep⟩
        simp only [go_sem, Nat.reduceAdd, Nat.reduceEqDiff, Nat.reduceLT, reduceIte, reduceCtorEq, Nat.reduceBEq, Int.reduceLT, Int.reduceToNat, Int.reducePow, Nat.reduceLeDiff, Int.reduceLE, Nat.reduceMul, Nat.reduceSub, slotsBy, boxesBy, tipsBy, rawAt, nm, AV.ren, AV.renL, AV.under, AV.underL, List.all_nil, List.all_cons, bne_self_eq_false, List.getD_cons_zero, List.getD_cons_succ, List.length_nil, List.length_cons, and_true, true_and, Int.natCast_add, Int.natCast_one]
      · rw [e2] at hdone
        simp only [go_sem, Nat.reduceAdd, Nat.reduceEqDiff, Nat.reduceLT, reduceIte, reduceCtorEq, Nat.reduceBEq, Int.reduceLT, Int.reduceToNat, Int.reducePow, Nat.reduceLeDiff, Int.reduceLE, Nat.reduceMul, Nat.reduceSub]
        simp only [Done, resAV, resL, resOne, look_nil, look_cons, Nat.reduceEqDiff, if_true, if_false, reduceIte, ite_true, ite_false, Nat.zero_ne_one, Nat.one_ne_zero, reduceCtorEq, true_or, or_true, true_and, Option.some.injEq, AV.lit.injEq, Value.int.injEq, Value.bool.injEq]
        exact (hdone rfl).symm
  · intro hp
    rw [List.take_length] at hp
    simp only [go_sem, Nat.reduceAdd, Nat.reduceEqDiff, Nat.reduceLT, reduceIte, reduceCtorEq, Nat.reduceBEq, Int.reduceLT, Int.reduceToNat, Int.reducePow, Nat.reduceLeDiff, Int.reduceLE, Nat.reduceMul, Nat.reduceSub, runes_length]
    simp only [Done, resAV, resL, resOne, look_nil, look_cons, Nat.reduceEqDiff, if_true, if_false, reduceIte, ite_true, ite_false, Nat.zero_ne_one, Nat.one_ne_zero, reduceCtorEq, true_or, or_true, true_and, Option.some.injEq, AV.lit.injEq, Value.int.injEq, Value.bool.injEq]
    exact hp.symm

set_option maxRecDepth 10000 in
theorem is_pure (l : List Int) (k r : Int) (hl : l.length ≤ 1000000) (hr : 0 ≤ r) : Pure Try.prog 72 [.sl 21 (runes l) none, .lit (.int .i64 k), .lit (.int .i32 r)] [] (.lit (.bool (atP l k == r))) := by
  refine pure0 Try.func72 c72 n72 e72 r72 (by simp) rfl ?_
  simp only [a72, astart, argSlots, go_sem, Nat.reduceAdd, Nat.reduceEqDiff, Nat.reduceLT, reduceIte, reduceCtorEq, Nat.reduceBEq, Int.reduceLT, Int.reduceToNat, Int.reducePow, Nat.reduceLeDiff, Int.reduceLE, Nat.reduceMul, Nat.reduceSub]
  have hout : ¬ (0 ≤ k ∧ k < l.length) → (atP l k == r) = false := fun h => by
    rw [atP_out l k (by omega)]
    simp only [beq_eq_false_iff_ne, ne_eq]; omega
  by_cases h0 : 0 ≤ k
  · have e0 : decide (k ≥ 0) = true := by simpa using h0
    by_cases h1 : k < l.length
    · have e1 : decide (k < (l.length : Int)) = true := by simpa using h1
      obtain ⟨j, rfl⟩ : ∃ j : Nat, k = j := ⟨k.toNat, by omega⟩
      have hj : j < l.length := by omega
      simp only [e0, e1, go_sem, Nat.reduceAdd, Nat.reduceEqDiff, Nat.reduceLT, reduceIte, reduceCtorEq, Nat.reduceBEq, Int.reduceLT, Int.reduceToNat, Int.reducePow, Nat.reduceLeDiff, Int.reduceLE, Nat.reduceMul, Nat.reduceSub, runes_length, hj, runes_get l j hj, Int.natCast_nonneg, Int.toNat_natCast]
      simp only [Done, resAV, resL, resOne, look_nil, look_cons, Nat.reduceEqDiff, if_true, if_false, reduceIte, ite_true, ite_false, Nat.zero_ne_one, Nat.one_ne_zero, reduceCtorEq, true_or, or_true, true_and, Option.some.injEq, AV.lit.injEq, Value.int.injEq, Value.bool.injEq]
      rw [atP_in l j hj]
    · have e1 : decide (k < (l.length : Int)) = false := by simpa using h1
      simp only [e0, e1, go_sem, Nat.reduceAdd, Nat.reduceEqDiff, Nat.reduceLT, reduceIte, reduceCtorEq, Nat.reduceBEq, Int.reduceLT, Int.reduceToNat, Int.reducePow, Nat.reduceLeDiff, Int.reduceLE, Nat.reduceMul, Nat.reduceSub, runes_length]
      simp only [Done, resAV, resL, resOne, look_nil, look_cons, Nat.reduceEqDiff, if_true, if_false, reduceIte, ite_true, ite_false, Nat.zero_ne_one, Nat.one_ne_zero, reduceCtorEq, true_or, or_true, true_and, Option.some.injEq, AV.lit.injEq, Value.int.injEq, Value.bool.injEq]
      exact (hout (by omega)).symm
  · have e0 : decide (k ≥ 0) = false := by simpa using h0
    simp only [e0, go_sem, Nat.reduceAdd, Nat.reduceEqDiff, Nat.reduceLT, reduceIte, reduceCtorEq, Nat.reduceBEq, Int.reduceLT, Int.reduceToNat, Int.reducePow, Nat.reduceLeDiff, Int.reduceLE, Nat.reduceMul, Nat.reduceSub]
    simp only [Done, resAV, resL, resOne, look_nil, look_cons, Nat.reduceEqDiff, if_true, if_false, reduceIte, ite_true, ite_false, Nat.zero_ne_one, Nat.one_ne_zero, reduceCtorEq, true_or, or_true, true_and, Option.some.injEq, AV.lit.injEq, Value.int.injEq, Value.bool.injEq]
    exact (hout (by omega)).symm
end Go.Proofs.Ytocaeclhmkojiaa
