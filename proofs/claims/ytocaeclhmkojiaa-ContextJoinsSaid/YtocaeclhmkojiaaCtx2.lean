/-
Which clause the code point at a place fails, and a label. Conditions: none.
-/
import Derived.Test.YtocaeclhmkojiaaCtx1
set_option linter.unusedSimpArgs false
set_option linter.unusedVariables false
set_option linter.unusedSectionVars false
namespace Go.Proofs.Ytocaeclhmkojiaa
open Go Go.Ab
def a86 : ACode :=
  (.seq (.reg [⟨(.some 1), (.box 80 (.t 0)), .none⟩, ⟨(.some 2), (.mv (.k (.bool false))), .none⟩]) (.seq (.reg [⟨(.some 3), (.ld (.some 2) (.t 1)), .none⟩, ⟨(.some 4), (.call (.f 87) [(.t 3), (.k (.int
  .i64 (-1)))]), .none⟩, ⟨(.some 5), (.call (.f 22) [(.t 4)]), .none⟩, ⟨(.some 6), (.fld 4 .none (.t 5)), .none⟩, ⟨(.some 7), (.bin .eql (.t 6) (.k (.int .u8 5))), .none⟩, ⟨(.some 2), (.mv (.t 7)),
  .none⟩]) .ret))
theorem c86 : Try.f86.body.bind (cCode Try.prog 8) = some a86 := by kernel_rfl
theorem r86 : Try.f86.results.toList = [(.tmp 2)] := by kernel_rfl
theorem n86 : Try.f86.ntmps = 8 := by kernel_rfl
theorem e86 : Enters Try.prog 86 := enters_of Try.func86 (by kernel_rfl) (by kernel_rfl)
def a89 : ACode :=
  (.seq (.reg [⟨(.some 1), (.box 80 (.t 0)), .none⟩, ⟨(.some 2), (.mv (.k (.bool false))), .none⟩]) (.seq (.reg [⟨(.some 3), (.ld (.some 2) (.t 1)), .none⟩, ⟨(.some 4), (.call (.f 88) [(.t 3)]), .none⟩,
  ⟨(.some 5), (.mv (.t 4)), .none⟩, ⟨(.some 6), (.ld (.some 2) (.t 1)), (.some (5, false))⟩, ⟨(.some 7), (.call (.f 90) [(.t 6), (.k (.int .i64 (-1))), (.k (.int .u8 4))]), (.some (5, false))⟩, ⟨(.some
  8), (.mv (.t 7)), (.some (5, false))⟩, ⟨(.some 9), (.ld (.some 2) (.t 1)), (.some (8, true))⟩, ⟨(.some 10), (.call (.f 90) [(.t 9), (.k (.int .i64 1)), (.k (.int .u8 5))]), (.some (8, true))⟩, ⟨(.some
  11), (.pick (.t 8) (.t 10) (.k (.bool false))), (.some (5, false))⟩, ⟨(.some 12), (.pick (.t 5) (.k (.bool true)) (.t 11)), .none⟩, ⟨(.some 2), (.mv (.t 12)), .none⟩]) .ret))
theorem c89 : Try.f89.body.bind (cCode Try.prog 13) = some a89 := by kernel_rfl
theorem r89 : Try.f89.results.toList = [(.tmp 2)] := by kernel_rfl
theorem n89 : Try.f89.ntmps = 13 := by kernel_rfl
theorem e89 : Enters Try.prog 89 := enters_of Try.func89 (by kernel_rfl) (by kernel_rfl)
def a91 : ACode :=
  (.seq (.reg [⟨(.some 1), (.box 80 (.t 0)), .none⟩, ⟨(.some 2), (.mv (.k (.bool false))), .none⟩]) (.seq (.reg [⟨(.some 3), (.ld (.some 2) (.t 1)), .none⟩, ⟨(.some 4), (.call (.f 87) [(.t 3), (.k (.int
  .i64 (-1)))]), .none⟩, ⟨(.some 5), (.bin .eql (.t 4) (.k (.int .i32 108))), .none⟩, ⟨(.some 6), (.mv (.t 5)), .none⟩, ⟨(.some 7), (.ld (.some 2) (.t 1)), (.some (6, true))⟩, ⟨(.some 8), (.call (.f 87)
  [(.t 7), (.k (.int .i64 1))]), (.some (6, true))⟩, ⟨(.some 9), (.bin .eql (.t 8) (.k (.int .i32 108))), (.some (6, true))⟩, ⟨(.some 10), (.pick (.t 6) (.t 9) (.k (.bool false))), .none⟩, ⟨(.some 2),
  (.mv (.t 10)), .none⟩]) .ret))
theorem c91 : Try.f91.body.bind (cCode Try.prog 11) = some a91 := by kernel_rfl
theorem r91 : Try.f91.results.toList = [(.tmp 2)] := by kernel_rfl
theorem n91 : Try.f91.ntmps = 11 := by kernel_rfl
theorem e91 : Enters Try.prog 91 := enters_of Try.func91 (by kernel_rfl) (by kernel_rfl)
def a92 : ACode :=
  (.seq (.reg [⟨(.some 1), (.box 80 (.t 0)), .none⟩, ⟨(.some 2), (.mv (.k (.bool false))), .none⟩]) (.seq (.reg [⟨(.some 3), (.ld (.some 2) (.t 1)), .none⟩, ⟨(.some 4), (.call (.f 87) [(.t 3), (.k (.int
  .i64 1))]), .none⟩, ⟨(.some 5), (.call (.f 22) [(.t 4)]), .none⟩, ⟨(.some 6), (.fld 4 .none (.t 5)), .none⟩, ⟨(.some 7), (.bin .eql (.t 6) (.k (.int .u8 3))), .none⟩, ⟨(.some 2), (.mv (.t 7)),
  .none⟩]) .ret))
theorem c92 : Try.f92.body.bind (cCode Try.prog 8) = some a92 := by kernel_rfl
theorem r92 : Try.f92.results.toList = [(.tmp 2)] := by kernel_rfl
theorem n92 : Try.f92.ntmps = 8 := by kernel_rfl
theorem e92 : Enters Try.prog 92 := enters_of Try.func92 (by kernel_rfl) (by kernel_rfl)
def a93 : ACode :=
  (.seq (.reg [⟨(.some 1), (.box 80 (.t 0)), .none⟩, ⟨(.some 2), (.mv (.k (.bool false))), .none⟩]) (.seq (.reg [⟨(.some 3), (.ld (.some 2) (.t 1)), .none⟩, ⟨(.some 4), (.bs 5 1 [(.k (.int .u8 9)), (.k
  (.int .u8 10)), (.k (.int .u8 8))]), .none⟩, ⟨(.some 5), (.call (.f 94) [(.t 3), (.t 4)]), .none⟩, ⟨(.some 2), (.mv (.t 5)), .none⟩]) .ret))
theorem c93 : Try.f93.body.bind (cCode Try.prog 6) = some a93 := by kernel_rfl
theorem r93 : Try.f93.results.toList = [(.tmp 2)] := by kernel_rfl
theorem n93 : Try.f93.ntmps = 6 := by kernel_rfl
theorem e93 : Enters Try.prog 93 := enters_of Try.func93 (by kernel_rfl) (by kernel_rfl)
def a95 : ACode :=
  (.seq (.reg [⟨(.some 1), (.box 80 (.t 0)), .none⟩, ⟨(.some 2), (.mv (.k (.bool false))), .none⟩]) (.seq (.reg [⟨(.some 3), (.ld (.some 2) (.t 1)), .none⟩, ⟨(.some 4), (.call (.f 96) [(.t 3), (.k (.int
  .u8 3))]), .none⟩, ⟨(.some 5), (.not (.t 4)), .none⟩, ⟨(.some 2), (.mv (.t 5)), .none⟩]) .ret))
theorem c95 : Try.f95.body.bind (cCode Try.prog 6) = some a95 := by kernel_rfl
theorem r95 : Try.f95.results.toList = [(.tmp 2)] := by kernel_rfl
theorem n95 : Try.f95.ntmps = 6 := by kernel_rfl
theorem e95 : Enters Try.prog 95 := enters_of Try.func95 (by kernel_rfl) (by kernel_rfl)
def a97 : ACode :=
  (.seq (.reg [⟨(.some 1), (.box 80 (.t 0)), .none⟩, ⟨(.some 2), (.mv (.k (.bool false))), .none⟩]) (.seq (.reg [⟨(.some 3), (.ld (.some 2) (.t 1)), .none⟩, ⟨(.some 4), (.call (.f 96) [(.t 3), (.k (.int
  .u8 2))]), .none⟩, ⟨(.some 5), (.not (.t 4)), .none⟩, ⟨(.some 2), (.mv (.t 5)), .none⟩]) .ret))
theorem c97 : Try.f97.body.bind (cCode Try.prog 6) = some a97 := by kernel_rfl
theorem r97 : Try.f97.results.toList = [(.tmp 2)] := by kernel_rfl
theorem n97 : Try.f97.ntmps = 6 := by kernel_rfl
theorem e97 : Enters Try.prog 97 := enters_of Try.func97 (by kernel_rfl) (by kernel_rfl)
def a69 : ACode :=
  (.seq (.reg [⟨(.some 0), (.mv (.k (.map .none))), .none⟩]) (.seq (.reg [⟨(.some 2), (.bd [.nilFunc, (.int .u8 0)] [(0, (1, (.f 86))), (1, (1, (.k (.int .u8 8))))]), .none⟩, ⟨(.some 1), (.alc 74
  [.nilFunc, (.int .u8 0)]), .none⟩, ⟨.none, (.st 2 (.t 1) (.t 2)), .none⟩]) (.seq (.reg [⟨(.some 3), (.xe .mkm []), .none⟩, ⟨(.some 4), (.bd [.nilFunc, (.int .u8 0)] [(0, (1, (.f 88))), (1, (1, (.k
  (.int .u8 7))))]), .none⟩, ⟨.none, (.xe .mup [(.t 3), (.k (.int .i32 8205)), (.t 4)]), .none⟩, ⟨(.some 5), (.bd [.nilFunc, (.int .u8 0)] [(0, (1, (.f 89))), (1, (1, (.k (.int .u8 7))))]), .none⟩,
  ⟨.none, (.xe .mup [(.t 3), (.k (.int .i32 8204)), (.t 5)]), .none⟩, ⟨(.some 6), (.bd [.nilFunc, (.int .u8 0)] [(0, (1, (.f 91))), (1, (1, (.k (.int .u8 8))))]), .none⟩, ⟨.none, (.xe .mup [(.t 3), (.k
  (.int .i32 183)), (.t 6)]), .none⟩, ⟨(.some 7), (.bd [.nilFunc, (.int .u8 0)] [(0, (1, (.f 92))), (1, (1, (.k (.int .u8 8))))]), .none⟩, ⟨.none, (.xe .mup [(.t 3), (.k (.int .i32 885)), (.t 7)]),
  .none⟩, ⟨(.some 8), (.ld (.some 2) (.t 1)), .none⟩, ⟨.none, (.xe .mup [(.t 3), (.k (.int .i32 1523)), (.t 8)]), .none⟩, ⟨(.some 9), (.ld (.some 2) (.t 1)), .none⟩, ⟨.none, (.xe .mup [(.t 3), (.k (.int
  .i32 1524)), (.t 9)]), .none⟩, ⟨(.some 10), (.bd [.nilFunc, (.int .u8 0)] [(0, (1, (.f 93))), (1, (1, (.k (.int .u8 8))))]), .none⟩, ⟨.none, (.xe .mup [(.t 3), (.k (.int .i32 12539)), (.t 10)]),
  .none⟩, ⟨(.some 11), (.bd [.nilFunc, (.int .u8 0)] [(0, (1, (.f 95))), (1, (1, (.k (.int .u8 8))))]), .none⟩, ⟨.none, (.xe .mup [(.t 3), (.k (.int .i32 1632)), (.t 11)]), .none⟩, ⟨(.some 12), (.bd
  [.nilFunc, (.int .u8 0)] [(0, (1, (.f 97))), (1, (1, (.k (.int .u8 8))))]), .none⟩, ⟨.none, (.xe .mup [(.t 3), (.k (.int .i32 1776)), (.t 12)]), .none⟩, ⟨(.some 13), (.mv (.t 3)), .none⟩, ⟨(.some 0),
  (.mv (.t 13)), .none⟩]) .ret)))
theorem c69 : Try.f69.body.bind (cCode Try.prog 14) = some a69 := by kernel_rfl
theorem r69 : Try.f69.results.toList = [(.tmp 0)] := by kernel_rfl
theorem n69 : Try.f69.ntmps = 14 := by kernel_rfl
theorem e69 : Enters Try.prog 69 := enters_of Try.func69 (by kernel_rfl) (by kernel_rfl)
def a37 : ACode :=
  (.seq (.reg [⟨(.some 4), (.mv (.k (.int .u8 0))), .none⟩]) (.seq (.seq (.reg [⟨(.some 7), (.mv (.t 1)), .none⟩, ⟨(.some 8), (.bin .lss (.t 7) (.k (.int .i64 0))), .none⟩, ⟨(.some 9), (.mv (.t 8)),
  .none⟩, ⟨(.some 10), (.mv (.t 1)), (.some (9, false))⟩, ⟨(.some 11), (.mv (.t 0)), (.some (9, false))⟩, ⟨(.some 12), (.len (.t 11)), (.some (9, false))⟩, ⟨(.some 13), (.bin .geq (.t 10) (.t 12)),
  (.some (9, false))⟩, ⟨(.some 14), (.pick (.t 9) (.k (.bool true)) (.t 13)), .none⟩]) (.cond (.t 14) (.seq (.reg [⟨(.some 4), (.mv (.k (.int .u8 0))), .none⟩]) .ret) .skip)) (.seq (.seq (.dreg [⟨(.some
  16), (.call (.f 69) []), .none⟩, ⟨(.some 17), (.mv (.t 0)), .none⟩, ⟨(.some 18), (.mv (.t 1)), .none⟩, ⟨(.some 19), (.ia 21 (.t 17) (.t 18)), .none⟩, ⟨(.some 20), (.ld .none (.t 19)), .none⟩, ⟨(.some
  21), (.call (.f 70) [(.t 20)]), .none⟩, ⟨(.some 22), (.xv (.lkp true (.agg #[.nilFunc, (.int .u8 0)])) [(.t 16), (.t 21)]), .none⟩, ⟨(.some 15), (.mv (.t 22)), .none⟩, ⟨(.some 23), (.ext (.t 15) 0),
  .none⟩, ⟨(.some 24), (.ext (.t 15) 1), .none⟩, ⟨(.some 5), (.alc 74 [.nilFunc, (.int .u8 0)]), .none⟩, ⟨.none, (.st 2 (.t 5) (.t 23)), .none⟩, ⟨(.some 6), (.mv (.t 24)), .none⟩]) (.seq (.reg [⟨(.some
  25), (.mv (.t 6)), .none⟩, ⟨(.some 26), (.mv (.t 25)), .none⟩, ⟨(.some 27), (.fa 0 (.t 5)), (.some (26, true))⟩, ⟨(.some 28), (.ld .none (.t 27)), (.some (26, true))⟩, ⟨(.some 29), (.mv (.t 0)),
  (.some (26, true))⟩, ⟨(.some 30), (.mv (.t 1)), (.some (26, true))⟩, ⟨(.some 31), (.bd [(.slice .none 0 0), (.int .i64 0)] [(0, (1, (.t 29))), (1, (1, (.t 30)))]), (.some (26, true))⟩, ⟨(.some 32),
  (.call (.t 28) [(.t 31)]), (.some (26, true))⟩, ⟨(.some 33), (.not (.t 32)), (.some (26, true))⟩, ⟨(.some 34), (.pick (.t 26) (.t 33) (.k (.bool false))), .none⟩]) (.cond (.t 34) (.seq (.reg [⟨(.some
  35), (.fa 1 (.t 5)), .none⟩, ⟨(.some 36), (.ld .none (.t 35)), .none⟩, ⟨(.some 4), (.mv (.t 36)), .none⟩]) .ret) .skip))) (.seq (.reg [⟨(.some 4), (.mv (.k (.int .u8 0))), .none⟩]) .ret))))
theorem c37 : Try.f37.body.bind (cCode Try.prog 37) = some a37 := by kernel_rfl
theorem r37 : Try.f37.results.toList = [(.tmp 4)] := by kernel_rfl
theorem n37 : Try.f37.ntmps = 37 := by kernel_rfl
theorem e37 : Enters Try.prog 37 := enters_of Try.func37 (by kernel_rfl) (by kernel_rfl)
def a39 : ACode :=
  (.seq (.reg [⟨(.some 2), (.mv (.k (.int .u8 0))), .none⟩]) (.seq (.seq (.reg [⟨(.some 5), (.mv (.t 0)), .none⟩, ⟨(.some 6), (.len (.t 5)), .none⟩, ⟨(.some 7), (.mv (.k (.int .i64 0))), .none⟩])
  (.block 0 (.loop (.seq (.reg [⟨(.some 8), (.bin .lss (.t 7) (.t 6)), .none⟩]) (.seq (.cond (.t 8) .skip (.exit 0)) (.seq (.block 1 (.seq (.reg [⟨(.some 9), (.mv (.t 7)), .none⟩, ⟨(.some 3), (.mv (.t
  9)), .none⟩]) (.seq (.reg [⟨(.some 10), (.mv (.t 0)), .none⟩, ⟨(.some 11), (.mv (.t 3)), .none⟩, ⟨(.some 12), (.call (.f 37) [(.t 10), (.t 11)]), .none⟩, ⟨(.some 4), (.mv (.t 12)), .none⟩]) (.seq
  (.reg [⟨(.some 13), (.mv (.t 4)), .none⟩, ⟨(.some 14), (.bin .neq (.t 13) (.k (.int .u8 0))), .none⟩]) (.cond (.t 14) (.seq (.reg [⟨(.some 15), (.mv (.t 4)), .none⟩, ⟨(.some 2), (.mv (.t 15)),
  .none⟩]) .ret) .skip))))) (.reg [⟨(.some 16), (.bin .add (.t 7) (.k (.int .i64 1))), .none⟩, ⟨(.some 7), (.mv (.t 16)), .none⟩]))))))) (.seq (.reg [⟨(.some 2), (.mv (.k (.int .u8 0))), .none⟩])
  .ret)))
theorem c39 : Try.f39.body.bind (cCode Try.prog 17) = some a39 := by kernel_rfl
theorem r39 : Try.f39.results.toList = [(.tmp 2)] := by kernel_rfl
theorem n39 : Try.f39.ntmps = 17 := by kernel_rfl
theorem e39 : Enters Try.prog 39 := enters_of Try.func39 (by kernel_rfl) (by kernel_rfl)
def a68 : ACode :=
  (.seq (.reg [⟨(.some 4), (.mv (.k (.bool false))), .none⟩]) (.seq (.reg [⟨(.some 5), (.mv (.t 1)), .none⟩, ⟨(.some 6), (.call (.f 39) [(.t 5)]), .none⟩, ⟨(.some 7), (.mv (.t 0)), .none⟩, ⟨(.some 8),
  (.bin .eql (.t 6) (.t 7)), .none⟩, ⟨(.some 4), (.mv (.t 8)), .none⟩]) .ret))
theorem c68 : Try.f68.body.bind (cCode Try.prog 9) = some a68 := by kernel_rfl
theorem r68 : Try.f68.results.toList = [(.tmp 4)] := by kernel_rfl
theorem n68 : Try.f68.ntmps = 9 := by kernel_rfl
theorem e68 : Enters Try.prog 68 := enters_of Try.func68 (by kernel_rfl) (by kernel_rfl)
def a36 : ACode :=
  (.seq (.reg [⟨(.some 0), (.mv (.k (.bool false))), .none⟩]) (.seq (.reg [⟨(.some 1), (.bs 21 1 [(.k (.int .i32 2325)), (.k (.int .i32 2381)), (.k (.int .i32 8205))]), .none⟩, ⟨(.some 2), (.call (.f
  68) [(.k (.int .u8 0)), (.t 1)]), .none⟩, ⟨(.some 3), (.mv (.t 2)), .none⟩, ⟨(.some 4), (.bs 21 1 [(.k (.int .i32 2325)), (.k (.int .i32 8205))]), (.some (3, true))⟩, ⟨(.some 5), (.call (.f 68) [(.k
  (.int .u8 7)), (.t 4)]), (.some (3, true))⟩, ⟨(.some 6), (.pick (.t 3) (.t 5) (.k (.bool false))), .none⟩, ⟨(.some 7), (.mv (.t 6)), .none⟩, ⟨(.some 8), (.bs 21 1 [(.k (.int .i32 2325)), (.k (.int
  .i32 8205))]), (.some (7, true))⟩, ⟨(.some 9), (.call (.f 37) [(.t 8), (.k (.int .i64 1))]), (.some (7, true))⟩, ⟨(.some 10), (.bin .eql (.t 9) (.k (.int .u8 7))), (.some (7, true))⟩, ⟨(.some 11),
  (.pick (.t 7) (.t 10) (.k (.bool false))), .none⟩, ⟨(.some 12), (.mv (.t 11)), .none⟩, ⟨(.some 13), (.bs 21 1 [(.k (.int .i32 1576)), (.k (.int .i32 8204)), (.k (.int .i32 1576))]), (.some (12,
  true))⟩, ⟨(.some 14), (.call (.f 68) [(.k (.int .u8 0)), (.t 13)]), (.some (12, true))⟩, ⟨(.some 15), (.pick (.t 12) (.t 14) (.k (.bool false))), .none⟩, ⟨(.some 16), (.mv (.t 15)), .none⟩, ⟨(.some
  17), (.bs 21 1 [(.k (.int .i32 1575)), (.k (.int .i32 8204)), (.k (.int .i32 1576))]), (.some (16, true))⟩, ⟨(.some 18), (.call (.f 68) [(.k (.int .u8 7)), (.t 17)]), (.some (16, true))⟩, ⟨(.some 19),
  (.pick (.t 16) (.t 18) (.k (.bool false))), .none⟩, ⟨(.some 20), (.mv (.t 19)), .none⟩, ⟨(.some 21), (.bs 21 1 [(.k (.int .i32 108)), (.k (.int .i32 183)), (.k (.int .i32 108))]), (.some (20, true))⟩,
  ⟨(.some 22), (.call (.f 68) [(.k (.int .u8 0)), (.t 21)]), (.some (20, true))⟩, ⟨(.some 23), (.pick (.t 20) (.t 22) (.k (.bool false))), .none⟩, ⟨(.some 24), (.mv (.t 23)), .none⟩, ⟨(.some 25), (.bs
  21 1 [(.k (.int .i32 97)), (.k (.int .i32 183)), (.k (.int .i32 108))]), (.some (24, true))⟩, ⟨(.some 26), (.call (.f 68) [(.k (.int .u8 8)), (.t 25)]), (.some (24, true))⟩, ⟨(.some 27), (.pick (.t
  24) (.t 26) (.k (.bool false))), .none⟩, ⟨(.some 28), (.mv (.t 27)), .none⟩, ⟨(.some 29), (.bs 21 1 [(.k (.int .i32 885)), (.k (.int .i32 945))]), (.some (28, true))⟩, ⟨(.some 30), (.call (.f 68) [(.k
  (.int .u8 0)), (.t 29)]), (.some (28, true))⟩, ⟨(.some 31), (.pick (.t 28) (.t 30) (.k (.bool false))), .none⟩, ⟨(.some 32), (.mv (.t 31)), .none⟩, ⟨(.some 33), (.bs 21 1 [(.k (.int .i32 1488)), (.k
  (.int .i32 1523))]), (.some (32, true))⟩, ⟨(.some 34), (.call (.f 68) [(.k (.int .u8 0)), (.t 33)]), (.some (32, true))⟩, ⟨(.some 35), (.pick (.t 32) (.t 34) (.k (.bool false))), .none⟩, ⟨(.some 36),
  (.mv (.t 35)), .none⟩, ⟨(.some 37), (.bs 21 1 [(.k (.int .i32 1523))]), (.some (36, true))⟩, ⟨(.some 38), (.call (.f 68) [(.k (.int .u8 8)), (.t 37)]), (.some (36, true))⟩, ⟨(.some 39), (.pick (.t 36)
  (.t 38) (.k (.bool false))), .none⟩, ⟨(.some 40), (.mv (.t 39)), .none⟩, ⟨(.some 41), (.bs 21 1 [(.k (.int .i32 12539)), (.k (.int .i32 12450))]), (.some (40, true))⟩, ⟨(.some 42), (.call (.f 68) [(.k
  (.int .u8 0)), (.t 41)]), (.some (40, true))⟩, ⟨(.some 43), (.pick (.t 40) (.t 42) (.k (.bool false))), .none⟩, ⟨(.some 44), (.mv (.t 43)), .none⟩, ⟨(.some 45), (.bs 21 1 [(.k (.int .i32 12539)), (.k
  (.int .i32 97))]), (.some (44, true))⟩, ⟨(.some 46), (.call (.f 68) [(.k (.int .u8 8)), (.t 45)]), (.some (44, true))⟩, ⟨(.some 47), (.pick (.t 44) (.t 46) (.k (.bool false))), .none⟩, ⟨(.some 48),
  (.mv (.t 47)), .none⟩, ⟨(.some 49), (.bs 21 1 [(.k (.int .i32 1633)), (.k (.int .i32 1777))]), (.some (48, true))⟩, ⟨(.some 50), (.call (.f 37) [(.t 49), (.k (.int .i64 0))]), (.some (48, true))⟩,
  ⟨(.some 51), (.bin .eql (.t 50) (.k (.int .u8 8))), (.some (48, true))⟩, ⟨(.some 52), (.pick (.t 48) (.t 51) (.k (.bool false))), .none⟩, ⟨(.some 53), (.mv (.t 52)), .none⟩, ⟨(.some 54), (.bs 21 1
  [(.k (.int .i32 1633)), (.k (.int .i32 1777))]), (.some (53, true))⟩, ⟨(.some 55), (.call (.f 37) [(.t 54), (.k (.int .i64 1))]), (.some (53, true))⟩, ⟨(.some 56), (.bin .eql (.t 55) (.k (.int .u8
  8))), (.some (53, true))⟩, ⟨(.some 57), (.pick (.t 53) (.t 56) (.k (.bool false))), .none⟩, ⟨(.some 0), (.mv (.t 57)), .none⟩]) .ret))
theorem c36 : Try.f36.body.bind (cCode Try.prog 58) = some a36 := by kernel_rfl
theorem r36 : Try.f36.results.toList = [(.tmp 0)] := by kernel_rfl
theorem n36 : Try.f36.ntmps = 58 := by kernel_rfl
theorem e36 : Enters Try.prog 36 := enters_of Try.func36 (by kernel_rfl) (by kernel_rfl)

def rl (f : FuncId) (c : Int) : AV := .ag [.fn (.func f) [] [], .lit (.int .u8 c)]
def rulesA : List AV := [.lit (.int .i32 8205), rl 88 7, .lit (.int .i32 8204), rl 89 7, .lit (.int .i32 183), rl 91 8, .lit (.int .i32 885), rl 92 8,
  .lit (.int .i32 1523), rl 86 8, .lit (.int .i32 1524), rl 86 8, .lit (.int .i32 12539), rl 93 8, .lit (.int .i32 1632), rl 95 8, .lit (.int .i32 1776), rl 97 8]

set_option maxRecDepth 10000 in
theorem rules_pure : Pure Try.prog 69 [] [] (.vx (.map 9) rulesA) := by
  refine pure0W Try.func69 c69 n69 e69 r69 (by simp) rfl ?_
  simp only [a69, astart, argSlots, go_sem, Nat.reduceAdd, Nat.reduceEqDiff, Nat.reduceLT, reduceIte, reduceCtorEq, Nat.reduceBEq, Int.reduceLT, Int.reduceToNat, Int.reducePow, Nat.reduceLeDiff, Int.reduceLE, Nat.reduceMul, Nat.reduceSub, Int.reduceBEq]
  refine ⟨_, weak_freezeM 0 rfl rfl, ?_⟩
  simp only [Done, resAV, resL, resOne, look_nil, look_cons, Nat.reduceEqDiff, if_true, if_false, reduceIte, ite_true, ite_false, Nat.zero_ne_one, Nat.one_ne_zero, reduceCtorEq, true_or, or_true, true_and, Option.some.injEq, AV.lit.injEq, Value.int.injEq, Value.bool.injEq]
  rfl

/-! ### What each asks -/

set_option maxRecDepth 10000 in
theorem rule1_pure (l : List Int) (i : Int) (hl : l.length ≤ 4611686018427387904) (hi : Small i) : Pure Try.prog 86 [plc l i] [] (.lit (.bool ((rowAt (atP l (i + -1))).script == 5))) := by
  refine pure0 Try.func86 c86 n86 e86 r86 (by simp) rfl ?_
  simp only [a86, plc, astart, argSlots, go_sem, Nat.reduceAdd, Nat.reduceEqDiff, Nat.reduceLT, reduceIte, reduceCtorEq, Nat.reduceBEq, Int.reduceLT, Int.reduceToNat, Int.reducePow, Nat.reduceLeDiff, Int.reduceLE, Nat.reduceMul, Nat.reduceSub]
  refine callGo_pure (at_pure l i (-1) hl hi ⟨by omega, by omega⟩) (by rfl) ?_
  simp only [go_sem, Nat.reduceAdd, Nat.reduceEqDiff, Nat.reduceLT, reduceIte, reduceCtorEq, Nat.reduceBEq, Int.reduceLT, Int.reduceToNat, Int.reducePow, Nat.reduceLeDiff, Int.reduceLE, Nat.reduceMul, Nat.reduceSub]
  refine callGo_pure (of_pure _) (by rfl) ?_
  simp only [go_sem, Nat.reduceAdd, Nat.reduceEqDiff, Nat.reduceLT, reduceIte, reduceCtorEq, Nat.reduceBEq, Int.reduceLT, Int.reduceToNat, Int.reducePow, Nat.reduceLeDiff, Int.reduceLE, Nat.reduceMul, Nat.reduceSub, Row.prop]
  simp only [Done, resAV, resL, resOne, look_nil, look_cons, Nat.reduceEqDiff, if_true, if_false, reduceIte, ite_true, ite_false, Nat.zero_ne_one, Nat.one_ne_zero, reduceCtorEq, true_or, or_true, true_and, Option.some.injEq, AV.lit.injEq, Value.int.injEq, Value.bool.injEq]

def joinerP (l : List Int) (i : Int) : Bool := killedP l i || (joinsP l (-1) 4 (l.length + 2) (i + -1) && joinsP l 1 5 (l.length + 2) (i + 1))
set_option maxRecDepth 10000 in
theorem rule2_pure (l : List Int) (i : Int) (hl : l.length ≤ 1000000) (hi : 0 ≤ i ∧ i < l.length) : Pure Try.prog 89 [plc l i] [] (.lit (.bool (joinerP l i))) := by
  have hs : Small i := ⟨by omega, by omega⟩
  refine pure0 Try.func89 c89 n89 e89 r89 (by simp) rfl ?_
  simp only [a89, plc, astart, argSlots, go_sem, Nat.reduceAdd, Nat.reduceEqDiff, Nat.reduceLT, reduceIte, reduceCtorEq, Nat.reduceBEq, Int.reduceLT, Int.reduceToNat, Int.reducePow, Nat.reduceLeDiff, Int.reduceLE, Nat.reduceMul, Nat.reduceSub]
  refine callGo_pure (killed_pure l i (by omega) hs) (by rfl) ?_
  simp only [go_sem, Nat.reduceAdd, Nat.reduceEqDiff, Nat.reduceLT, reduceIte, reduceCtorEq, Nat.reduceBEq, Int.reduceLT, Int.reduceToNat, Int.reducePow, Nat.reduceLeDiff, Int.reduceLE, Nat.reduceMul, Nat.reduceSub]
  cases h1 : killedP l i
  · simp only [go_sem, Nat.reduceAdd, Nat.reduceEqDiff, Nat.reduceLT, reduceIte, reduceCtorEq, Nat.reduceBEq, Int.reduceLT, Int.reduceToNat, Int.reducePow, Nat.reduceLeDiff, Int.reduceLE, Nat.reduceMul, Nat.reduceSub]
    refine callGo_pure (joins_pure l i (-1) 4 hl hi (.inr rfl)) (by rfl) ?_
    simp only [go_sem, Nat.reduceAdd, Nat.reduceEqDiff, Nat.reduceLT, reduceIte, reduceCtorEq, Nat.reduceBEq, Int.reduceLT, Int.reduceToNat, Int.reducePow, Nat.reduceLeDiff, Int.reduceLE, Nat.reduceMul, Nat.reduceSub]
    cases h2 : joinsP l (-1) 4 (l.length + 2) (i + -1)
    · simp only [go_sem, Nat.reduceAdd, Nat.reduceEqDiff, Nat.reduceLT, reduceIte, reduceCtorEq, Nat.reduceBEq, Int.reduceLT, Int.reduceToNat, Int.reducePow, Nat.reduceLeDiff, Int.reduceLE, Nat.reduceMul, Nat.reduceSub]
      simp only [Done, resAV, resL, resOne, look_nil, look_cons, Nat.reduceEqDiff, if_true, if_false, reduceIte, ite_true, ite_false, Nat.zero_ne_one, Nat.one_ne_zero, reduceCtorEq, true_or, or_true, true_and, Option.some.injEq, AV.lit.injEq, Value.int.injEq, Value.bool.injEq]
      simp [joinerP, h1, h2]
    · simp only [go_sem, Nat.reduceAdd, Nat.reduceEqDiff, Nat.reduceLT, reduceIte, reduceCtorEq, Nat.reduceBEq, Int.reduceLT, Int.reduceToNat, Int.reducePow, Nat.reduceLeDiff, Int.reduceLE, Nat.reduceMul, Nat.reduceSub]
      refine callGo_pure (joins_pure l i 1 5 hl hi (.inl rfl)) (by rfl) ?_
      simp only [go_sem, Nat.reduceAdd, Nat.reduceEqDiff, Nat.reduceLT, reduceIte, reduceCtorEq, Nat.reduceBEq, Int.reduceLT, Int.reduceToNat, Int.reducePow, Nat.reduceLeDiff, Int.reduceLE, Nat.reduceMul, Nat.reduceSub]
      simp only [Done, resAV, resL, resOne, look_nil, look_cons, Nat.reduceEqDiff, if_true, if_false, reduceIte, ite_true, ite_false, Nat.zero_ne_one, Nat.one_ne_zero, reduceCtorEq, true_or, or_true, true_and, Option.some.injEq, AV.lit.injEq, Value.int.injEq, Value.bool.injEq]
      simp [joinerP, h1, h2]
  · simp only [go_sem, Nat.reduceAdd, Nat.reduceEqDiff, Nat.reduceLT, reduceIte, reduceCtorEq, Nat.reduceBEq, Int.reduceLT, Int.reduceToNat, Int.reducePow, Nat.reduceLeDiff, Int.reduceLE, Nat.reduceMul, Nat.reduceSub]
    simp only [Done, resAV, resL, resOne, look_nil, look_cons, Nat.reduceEqDiff, if_true, if_false, reduceIte, ite_true, ite_false, Nat.zero_ne_one, Nat.one_ne_zero, reduceCtorEq, true_or, or_true, true_and, Option.some.injEq, AV.lit.injEq, Value.int.injEq, Value.bool.injEq]
    simp [joinerP, h1]

set_option maxRecDepth 10000 in
theorem rule3_pure (l : List Int) (i : Int) (hl : l.length ≤ 4611686018427387904) (hi : Small i) : Pure Try.prog 91 [plc l i] [] (.lit (.bool (atP l (i + -1) == 108 && atP l (i + 1) == 108))) := by
  refine pure0 Try.func91 c91 n91 e91 r91 (by simp) rfl ?_
  simp only [a91, plc, astart, argSlots, go_sem, Nat.reduceAdd, Nat.reduceEqDiff, Nat.reduceLT, reduceIte, reduceCtorEq, Nat.reduceBEq, Int.reduceLT, Int.reduceToNat, Int.reducePow, Nat.reduceLeDiff, Int.reduceLE, Nat.reduceMul, Nat.reduceSub]
  refine callGo_pure (at_pure l i (-1) hl hi ⟨by omega, by omega⟩) (by rfl) ?_
  simp only [go_sem, Nat.reduceAdd, Nat.reduceEqDiff, Nat.reduceLT, reduceIte, reduceCtorEq, Nat.reduceBEq, Int.reduceLT, Int.reduceToNat, Int.reducePow, Nat.reduceLeDiff, Int.reduceLE, Nat.reduceMul, Nat.reduceSub]
  cases h1 : atP l (i + -1) == 108
  · simp only [go_sem, Nat.reduceAdd, Nat.reduceEqDiff, Nat.reduceLT, reduceIte, reduceCtorEq, Nat.reduceBEq, Int.reduceLT, Int.reduceToNat, Int.reducePow, Nat.reduceLeDiff, Int.reduceLE, Nat.reduceMul, Nat.reduceSub]
    simp only [Done, resAV, resL, resOne, look_nil, look_cons, Nat.reduceEqDiff, if_true, if_false, reduceIte, ite_true, ite_false, Nat.zero_ne_one, Nat.one_ne_zero, reduceCtorEq, true_or, or_true, true_and, Option.some.injEq, AV.lit.injEq, Value.int.injEq, Value.bool.injEq]
    simp
  · simp only [go_sem, Nat.reduceAdd, Nat.reduceEqDiff, Nat.reduceLT, reduceIte, reduceCtorEq, Nat.reduceBEq, Int.reduceLT, Int.reduceToNat, Int.reducePow, Nat.reduceLeDiff, Int.reduceLE, Nat.reduceMul, Nat.reduceSub]
    refine callGo_pure (at_pure l i 1 hl hi ⟨by omega, by omega⟩) (by rfl) ?_
    simp only [go_sem, Nat.reduceAdd, Nat.reduceEqDiff, Nat.reduceLT, reduceIte, reduceCtorEq, Nat.reduceBEq, Int.reduceLT, Int.reduceToNat, Int.reducePow, Nat.reduceLeDiff, Int.reduceLE, Nat.reduceMul, Nat.reduceSub]
    simp only [Done, resAV, resL, resOne, look_nil, look_cons, Nat.reduceEqDiff, if_true, if_false, reduceIte, ite_true, ite_false, Nat.zero_ne_one, Nat.one_ne_zero, reduceCtorEq, true_or, or_true, true_and, Option.some.injEq, AV.lit.injEq, Value.int.injEq, Value.bool.injEq]

set_option maxRecDepth 10000 in
theorem rule4_pure (l : List Int) (i : Int) (hl : l.length ≤ 4611686018427387904) (hi : Small i) : Pure Try.prog 92 [plc l i] [] (.lit (.bool ((rowAt (atP l (i + 1))).script == 3))) := by
  refine pure0 Try.func92 c92 n92 e92 r92 (by simp) rfl ?_
  simp only [a92, plc, astart, argSlots, go_sem, Nat.reduceAdd, Nat.reduceEqDiff, Nat.reduceLT, reduceIte, reduceCtorEq, Nat.reduceBEq, Int.reduceLT, Int.reduceToNat, Int.reducePow, Nat.reduceLeDiff, Int.reduceLE, Nat.reduceMul, Nat.reduceSub]
  refine callGo_pure (at_pure l i 1 hl hi ⟨by omega, by omega⟩) (by rfl) ?_
  simp only [go_sem, Nat.reduceAdd, Nat.reduceEqDiff, Nat.reduceLT, reduceIte, reduceCtorEq, Nat.reduceBEq, Int.reduceLT, Int.reduceToNat, Int.reducePow, Nat.reduceLeDiff, Int.reduceLE, Nat.reduceMul, Nat.reduceSub]
  refine callGo_pure (of_pure _) (by rfl) ?_
  simp only [go_sem, Nat.reduceAdd, Nat.reduceEqDiff, Nat.reduceLT, reduceIte, reduceCtorEq, Nat.reduceBEq, Int.reduceLT, Int.reduceToNat, Int.reducePow, Nat.reduceLeDiff, Int.reduceLE, Nat.reduceMul, Nat.reduceSub, Row.prop]
  simp only [Done, resAV, resL, resOne, look_nil, look_cons, Nat.reduceEqDiff, if_true, if_false, reduceIte, ite_true, ite_false, Nat.zero_ne_one, Nat.one_ne_zero, reduceCtorEq, true_or, or_true, true_and, Option.some.injEq, AV.lit.injEq, Value.int.injEq, Value.bool.injEq]

set_option maxRecDepth 10000 in
theorem rule5_pure (l : List Int) (i : Int) (hl : l.length ≤ 4611686018427387904) : Pure Try.prog 93 [plc l i] [] (.lit (.bool (scriptsP l [9, 10, 8]))) := by
  refine pure0 Try.func93 c93 n93 e93 r93 (by simp) rfl ?_
  simp only [a93, plc, astart, argSlots, go_sem, Nat.reduceAdd, Nat.reduceEqDiff, Nat.reduceLT, reduceIte, reduceCtorEq, Nat.reduceBEq, Int.reduceLT, Int.reduceToNat, Int.reducePow, Nat.reduceLeDiff, Int.reduceLE, Nat.reduceMul, Nat.reduceSub]
  refine callGo_pure (placeScripts_pure l i [9, 10, 8] hl (by simp)) (by rfl) ?_
  simp only [go_sem, Nat.reduceAdd, Nat.reduceEqDiff, Nat.reduceLT, reduceIte, reduceCtorEq, Nat.reduceBEq, Int.reduceLT, Int.reduceToNat, Int.reducePow, Nat.reduceLeDiff, Int.reduceLE, Nat.reduceMul, Nat.reduceSub]
  simp only [Done, resAV, resL, resOne, look_nil, look_cons, Nat.reduceEqDiff, if_true, if_false, reduceIte, ite_true, ite_false, Nat.zero_ne_one, Nat.one_ne_zero, reduceCtorEq, true_or, or_true, true_and, Option.some.injEq, AV.lit.injEq, Value.int.injEq, Value.bool.injEq]

set_option maxRecDepth 10000 in
theorem rule6_pure (l : List Int) (i : Int) (hl : l.length ≤ 4611686018427387904) : Pure Try.prog 95 [plc l i] [] (.lit (.bool (!digitsP l 3))) := by
  refine pure0 Try.func95 c95 n95 e95 r95 (by simp) rfl ?_
  simp only [a95, plc, astart, argSlots, go_sem, Nat.reduceAdd, Nat.reduceEqDiff, Nat.reduceLT, reduceIte, reduceCtorEq, Nat.reduceBEq, Int.reduceLT, Int.reduceToNat, Int.reducePow, Nat.reduceLeDiff, Int.reduceLE, Nat.reduceMul, Nat.reduceSub]
  refine callGo_pure (placeDigits_pure l i 3 hl) (by rfl) ?_
  simp only [go_sem, Nat.reduceAdd, Nat.reduceEqDiff, Nat.reduceLT, reduceIte, reduceCtorEq, Nat.reduceBEq, Int.reduceLT, Int.reduceToNat, Int.reducePow, Nat.reduceLeDiff, Int.reduceLE, Nat.reduceMul, Nat.reduceSub]
  simp only [Done, resAV, resL, resOne, look_nil, look_cons, Nat.reduceEqDiff, if_true, if_false, reduceIte, ite_true, ite_false, Nat.zero_ne_one, Nat.one_ne_zero, reduceCtorEq, true_or, or_true, true_and, Option.some.injEq, AV.lit.injEq, Value.int.injEq, Value.bool.injEq]
set_option maxRecDepth 10000 in
theorem rule7_pure (l : List Int) (i : Int) (hl : l.length ≤ 4611686018427387904) : Pure Try.prog 97 [plc l i] [] (.lit (.bool (!digitsP l 2))) := by
  refine pure0 Try.func97 c97 n97 e97 r97 (by simp) rfl ?_
  simp only [a97, plc, astart, argSlots, go_sem, Nat.reduceAdd, Nat.reduceEqDiff, Nat.reduceLT, reduceIte, reduceCtorEq, Nat.reduceBEq, Int.reduceLT, Int.reduceToNat, Int.reducePow, Nat.reduceLeDiff, Int.reduceLE, Nat.reduceMul, Nat.reduceSub]
  refine callGo_pure (placeDigits_pure l i 2 hl) (by rfl) ?_
  simp only [go_sem, Nat.reduceAdd, Nat.reduceEqDiff, Nat.reduceLT, reduceIte, reduceCtorEq, Nat.reduceBEq, Int.reduceLT, Int.reduceToNat, Int.reducePow, Nat.reduceLeDiff, Int.reduceLE, Nat.reduceMul, Nat.reduceSub]
  simp only [Done, resAV, resL, resOne, look_nil, look_cons, Nat.reduceEqDiff, if_true, if_false, reduceIte, ite_true, ite_false, Nat.zero_ne_one, Nat.one_ne_zero, reduceCtorEq, true_or, or_true, true_and, Option.some.injEq, AV.lit.injEq, Value.int.injEq, Value.bool.injEq]

/-! ### A place's clause -/

def zRule : Value := .agg #[.nilFunc, .int .u8 0]

set_option maxRecDepth 10000 in
theorem atRule (l : List Int) (k : Nat) (hk : k < l.length) (hl : l.length ≤ 4611686018427387904) {f : FuncId} {c : Int} {b : Bool}
    (h1 : (findA (.int .i32 (keyOf l[k])) rulesA 0).map (lkpV true zRule) = some (.tu [rl f c, .lit (.bool true)])) (h2 : Pure Try.prog f [plc l k] [] (.lit (.bool b))) :
    Pure Try.prog 37 [.sl 21 (runes l) none, .lit (.int .i64 k)] [] (.lit (.int .u8 (if b = true then 0 else c))) := by
  refine pure0 Try.func37 c37 n37 e37 r37 (by simp) rfl ?_
  have e0 : decide ((k : Int) < 0) = false := by simp
  have e1 : decide ((k : Int) ≥ (l.length : Int)) = false := by simp only [decide_eq_false_iff_not]; omega
  simp only [zRule] at h1
  simp only [a37, astart, argSlots, go_sem, Nat.reduceAdd, Nat.reduceEqDiff, Nat.reduceLT, reduceIte, reduceCtorEq, Nat.reduceBEq, Int.reduceLT, Int.reduceToNat, Int.reducePow, Nat.reduceLeDiff, Int.reduceLE, Nat.reduceMul, Nat.reduceSub, e0, e1, runes_length]
  refine dcallGo_pure rules_pure (by rfl) (show AV.erase (.vx (.map 9) rulesA) = some (.vx (.map 9) rulesA) from rfl) ?_
  simp only [go_sem, Nat.reduceAdd, Nat.reduceEqDiff, Nat.reduceLT, reduceIte, reduceCtorEq, Nat.reduceBEq, Int.reduceLT, Int.reduceToNat, Int.reducePow, Nat.reduceLeDiff, Int.reduceLE, Nat.reduceMul, Nat.reduceSub, hk, runes_get l k hk, Int.natCast_nonneg, Int.toNat_natCast]
  refine dcallGo_pure (key_pure _) (by rfl) rfl ?_
  simp only [go_sem, Nat.reduceAdd, Nat.reduceEqDiff, Nat.reduceLT, reduceIte, reduceCtorEq, Nat.reduceBEq, Int.reduceLT, Int.reduceToNat, Int.reducePow, Nat.reduceLeDiff, Int.reduceLE, Nat.reduceMul, Nat.reduceSub, h1, rl]
  refine callGo_pure h2 (by rfl) ?_
  simp only [go_sem, Nat.reduceAdd, Nat.reduceEqDiff, Nat.reduceLT, reduceIte, reduceCtorEq, Nat.reduceBEq, Int.reduceLT, Int.reduceToNat, Int.reducePow, Nat.reduceLeDiff, Int.reduceLE, Nat.reduceMul, Nat.reduceSub]
  cases b
  · simp only [go_sem, Nat.reduceAdd, Nat.reduceEqDiff, Nat.reduceLT, reduceIte, reduceCtorEq, Nat.reduceBEq, Int.reduceLT, Int.reduceToNat, Int.reducePow, Nat.reduceLeDiff, Int.reduceLE, Nat.reduceMul, Nat.reduceSub]
    simp only [Done, resAV, resL, resOne, look_nil, look_cons, Nat.reduceEqDiff, if_true, if_false, reduceIte, ite_true, ite_false, Nat.zero_ne_one, Nat.one_ne_zero, reduceCtorEq, true_or, or_true, true_and, Option.some.injEq, AV.lit.injEq, Value.int.injEq, Value.bool.injEq]
  · simp only [go_sem, Nat.reduceAdd, Nat.reduceEqDiff, Nat.reduceLT, reduceIte, reduceCtorEq, Nat.reduceBEq, Int.reduceLT, Int.reduceToNat, Int.reducePow, Nat.reduceLeDiff, Int.reduceLE, Nat.reduceMul, Nat.reduceSub]
    simp only [Done, resAV, resL, resOne, look_nil, look_cons, Nat.reduceEqDiff, if_true, if_false, reduceIte, ite_true, ite_false, Nat.zero_ne_one, Nat.one_ne_zero, reduceCtorEq, true_or, or_true, true_and, Option.some.injEq, AV.lit.injEq, Value.int.injEq, Value.bool.injEq]
set_option maxRecDepth 10000 in
theorem atNone (l : List Int) (k : Nat) (hk : k < l.length) (hl : l.length ≤ 4611686018427387904)
    (h1 : (findA (.int .i32 (keyOf l[k])) rulesA 0).map (lkpV true zRule) = some (.tu [litA zRule, .lit (.bool false)])) :
    Pure Try.prog 37 [.sl 21 (runes l) none, .lit (.int .i64 k)] [] (.lit (.int .u8 0)) := by
  refine pure0 Try.func37 c37 n37 e37 r37 (by simp) rfl ?_
  have e0 : decide ((k : Int) < 0) = false := by simp
  have e1 : decide ((k : Int) ≥ (l.length : Int)) = false := by simp only [decide_eq_false_iff_not]; omega
  simp only [zRule] at h1
  simp only [a37, astart, argSlots, go_sem, Nat.reduceAdd, Nat.reduceEqDiff, Nat.reduceLT, reduceIte, reduceCtorEq, Nat.reduceBEq, Int.reduceLT, Int.reduceToNat, Int.reducePow, Nat.reduceLeDiff, Int.reduceLE, Nat.reduceMul, Nat.reduceSub, e0, e1, runes_length]
  refine dcallGo_pure rules_pure (by rfl) (show AV.erase (.vx (.map 9) rulesA) = some (.vx (.map 9) rulesA) from rfl) ?_
  simp only [go_sem, Nat.reduceAdd, Nat.reduceEqDiff, Nat.reduceLT, reduceIte, reduceCtorEq, Nat.reduceBEq, Int.reduceLT, Int.reduceToNat, Int.reducePow, Nat.reduceLeDiff, Int.reduceLE, Nat.reduceMul, Nat.reduceSub, hk, runes_get l k hk, Int.natCast_nonneg, Int.toNat_natCast]
  refine dcallGo_pure (key_pure _) (by rfl) rfl ?_
  simp only [go_sem, Nat.reduceAdd, Nat.reduceEqDiff, Nat.reduceLT, reduceIte, reduceCtorEq, Nat.reduceBEq, Int.reduceLT, Int.reduceToNat, Int.reducePow, Nat.reduceLeDiff, Int.reduceLE, Nat.reduceMul, Nat.reduceSub, h1]
  simp only [Done, resAV, resL, resOne, look_nil, look_cons, Nat.reduceEqDiff, if_true, if_false, reduceIte, ite_true, ite_false, Nat.zero_ne_one, Nat.one_ne_zero, reduceCtorEq, true_or, or_true, true_and, Option.some.injEq, AV.lit.injEq, Value.int.injEq, Value.bool.injEq]

/-- Whether the code point at a place may stand there, by its key. -/
def fineOf (l : List Int) (i key : Int) : Bool :=
  if key = 8205 then killedP l i else if key = 8204 then joinerP l i else if key = 183 then (atP l (i + -1) == 108 && atP l (i + 1) == 108) else if key = 885 then (rowAt (atP l (i + 1))).script == 3
  else if key = 1523 then (rowAt (atP l (i + -1))).script == 5 else if key = 1524 then (rowAt (atP l (i + -1))).script == 5 else if key = 12539 then scriptsP l [9, 10, 8] else if key = 1632 then !digitsP l 3
  else if key = 1776 then !digitsP l 2 else true
def clauseOf (key : Int) : Int := if key = 8205 then 7 else if key = 8204 then 7 else 8
/-- The clause of a place. -/
def atOf (l : List Int) (i : Int) : Int := if 0 ≤ i ∧ i < l.length then (if fineOf l i (keyOf (atP l i)) = true then 0 else clauseOf (keyOf (atP l i))) else 0

theorem key_none {key : Int} (h1 : key ≠ 8205) (h2 : key ≠ 8204) (h3 : key ≠ 183) (h4 : key ≠ 885) (h5 : key ≠ 1523) (h6 : key ≠ 1524) (h7 : key ≠ 12539) (h8 : key ≠ 1632) (h9 : key ≠ 1776) :
    (findA (.int .i32 key) rulesA 0).map (lkpV true zRule) = some (.tu [litA zRule, .lit (.bool false)]) := by
  have e : ∀ n : Int, key ≠ n → (key == n) = false := fun n h => by simpa using h
  simp only [rulesA, findA_cons, eqKey_int, e _ h1, e _ h2, e _ h3, e _ h4, e _ h5, e _ h6, e _ h7, e _ h8, e _ h9, findO_f, findA_nil, Option.map_some, lkpV_tn]

theorem at8_pure (l : List Int) (i : Int) (hl : l.length ≤ 1000000) : Pure Try.prog 37 [.sl 21 (runes l) none, .lit (.int .i64 i)] [] (.lit (.int .u8 (atOf l i))) := by
  by_cases h0 : 0 ≤ i ∧ i < l.length
  · obtain ⟨k, rfl⟩ : ∃ k : Nat, i = k := ⟨i.toNat, by omega⟩
    have hk : k < l.length := by omega
    have hb : l.length ≤ 4611686018427387904 := by omega
    have hs : Small (k : Int) := ⟨by omega, by omega⟩
    unfold atOf
    rw [if_pos h0, atP_in l k hk]
    have R := fun f c b => atRule l k hk hb (f := f) (c := c) (b := b)
    have N := atNone l k hk hb
    generalize keyOf l[k] = key at R N
    by_cases k1 : key = 8205
    · subst k1; exact R _ 7 _ rfl (killed_pure l k hb hs)
    by_cases k2 : key = 8204
    · subst k2; exact R _ 7 _ rfl (rule2_pure l k hl h0)
    by_cases k3 : key = 183
    · subst k3; exact R _ 8 _ rfl (rule3_pure l k hb hs)
    by_cases k4 : key = 885
    · subst k4; exact R _ 8 _ rfl (rule4_pure l k hb hs)
    by_cases k5 : key = 1523
    · subst k5; exact R _ 8 _ rfl (rule1_pure l k hb hs)
    by_cases k6 : key = 1524
    · subst k6; exact R _ 8 _ rfl (rule1_pure l k hb hs)
    by_cases k7 : key = 12539
    · subst k7; exact R _ 8 _ rfl (rule5_pure l k hb)
    by_cases k8 : key = 1632
    · subst k8; exact R _ 8 _ rfl (rule6_pure l k hb)
    by_cases k9 : key = 1776
    · subst k9; exact R _ 8 _ rfl (rule7_pure l k hb)
    have hf : fineOf l k key = true := by simp [fineOf, k1, k2, k3, k4, k5, k6, k7, k8, k9]
    rw [hf, if_pos rfl]
    exact N (key_none k1 k2 k3 k4 k5 k6 k7 k8 k9)
  · unfold atOf
    rw [if_neg h0]
    refine pure0 Try.func37 c37 n37 e37 r37 (by simp) rfl ?_
    simp only [a37, astart, argSlots, go_sem, Nat.reduceAdd, Nat.reduceEqDiff, Nat.reduceLT, reduceIte, reduceCtorEq, Nat.reduceBEq, Int.reduceLT, Int.reduceToNat, Int.reducePow, Nat.reduceLeDiff, Int.reduceLE, Nat.reduceMul, Nat.reduceSub]
    by_cases h1 : i < 0
    · have e0 : decide (i < 0) = true := by simpa using h1
      simp only [e0, go_sem, Nat.reduceAdd, Nat.reduceEqDiff, Nat.reduceLT, reduceIte, reduceCtorEq, Nat.reduceBEq, Int.reduceLT, Int.reduceToNat, Int.reducePow, Nat.reduceLeDiff, Int.reduceLE, Nat.reduceMul, Nat.reduceSub]
      simp only [Done, resAV, resL, resOne, look_nil, look_cons, Nat.reduceEqDiff, if_true, if_false, reduceIte, ite_true, ite_false, Nat.zero_ne_one, Nat.one_ne_zero, reduceCtorEq, true_or, or_true, true_and, Option.some.injEq, AV.lit.injEq, Value.int.injEq, Value.bool.injEq]
    · have e0 : decide (i < 0) = false := by simpa using h1
      have e1 : decide (i ≥ (l.length : Int)) = true := by simp only [decide_eq_true_eq]; omega
      simp only [e0, e1, runes_length, go_sem, Nat.reduceAdd, Nat.reduceEqDiff, Nat.reduceLT, reduceIte, reduceCtorEq, Nat.reduceBEq, Int.reduceLT, Int.reduceToNat, Int.reducePow, Nat.reduceLeDiff, Int.reduceLE, Nat.reduceMul, Nat.reduceSub]
      simp only [Done, resAV, resL, resOne, look_nil, look_cons, Nat.reduceEqDiff, if_true, if_false, reduceIte, ite_true, ite_false, Nat.zero_ne_one, Nat.one_ne_zero, reduceCtorEq, true_or, or_true, true_and, Option.some.injEq, AV.lit.injEq, Value.int.injEq, Value.bool.injEq]

/-- The first one's. -/
def firstFrom (l : List Int) : Nat → Nat → Int
  | 0, _ => 0
  | n + 1, i => if atOf l (i : Int) ≠ 0 then atOf l (i : Int) else firstFrom l n (i + 1)
def chk8 (l : List Int) : Int := firstFrom l l.length 0

set_option maxRecDepth 10000 in
theorem chk8_pure (l : List Int) (hl : l.length ≤ 1000000) : Pure Try.prog 39 [.sl 21 (runes l) none] [] (.lit (.int .u8 (chk8 l))) := by
  refine pure0 Try.func39 c39 n39 e39 r39 (by simp) rfl ?_
  simp only [a39, astart, argSlots, go_sem, Nat.reduceAdd, Nat.reduceEqDiff, Nat.reduceLT, reduceIte, reduceCtorEq, Nat.reduceBEq, Int.reduceLT, Int.reduceToNat, Int.reducePow, Nat.reduceLeDiff, Int.reduceLE, Nat.reduceMul, Nat.reduceSub, runes_length]
  refine loop_to l.length (fun i => ⟨[(0, some (.sl 21 (runes l) none)), (6, some (.lit (.int .i64 l.length))), (7, some (.lit (.int .i64 i)))], [], [], 0⟩)
    (fun i => chk8 l = firstFrom l (l.length - i) i) (weak_by [] List.nodup_nil rfl ?_ trivial trivial (by simp)) rfl ?_ ?_
  · simp only [go_sem, Nat.reduceAdd, Nat.reduceEqDiff, Nat.reduceLT, reduceIte, reduceCtorEq, Nat.reduceBEq, Int.reduceLT, Int.reduceToNat, Int.reducePow, Nat.reduceLeDiff, Int.reduceLE, Nat.reduceMul, Nat.reduceSub, slotsBy, boxesBy, tipsBy, rawAt, nm, AV.ren, AV.renL, AV.under, AV.underL, List.all_nil, List.all_cons, bne_self_eq_false, List.getD_cons_zero, List.getD_cons_succ, List.length_nil, List.length_cons, and_true, true_and, Int.natCast_zero]
  · intro i hi hp
    rw [show l.length - i = (l.length - (i + 1)) + 1 by omega, firstFrom] at hp
    simp only [go_sem, Nat.reduceAdd, Nat.reduceEqDiff, Nat.reduceLT, reduceIte, reduceCtorEq, Nat.reduceBEq, Int.reduceLT, Int.reduceToNat, Int.reducePow, Nat.reduceLeDiff, Int.reduceLE, Nat.reduceMul, Nat.reduceSub, hi]
    refine callGo_pure (at8_pure l i hl) (by rfl) ?_
    simp only [go_sem, Nat.reduceAdd, Nat.reduceEqDiff, Nat.reduceLT, reduceIte, reduceCtorEq, Nat.reduceBEq, Int.reduceLT, Int.reduceToNat, Int.reducePow, Nat.reduceLeDiff, Int.reduceLE, Nat.reduceMul, Nat.reduceSub]
    by_cases h1 : atOf l (i : Int) = 0
    · have e1 : (atOf l (i : Int) != 0) = false := by simp [h1]
      rw [if_neg (by simpa using h1)] at hp
      simp only [e1, go_sem, Nat.reduceAdd, Nat.reduceEqDiff, Nat.reduceLT, reduceIte, reduceCtorEq, Nat.reduceBEq, Int.reduceLT, Int.reduceToNat, Int.reducePow, Nat.reduceLeDiff, Int.reduceLE, Nat.reduceMul, Nat.reduceSub]
      simp (disch := omega) only [wrap_i64]
      refine ⟨weak_by [] List.nodup_nil rfl ?_ trivial trivial (by simp), hp⟩
      simp only [go_sem, Nat.reduceAdd, Nat.reduceEqDiff, Nat.reduceLT, reduceIte, reduceCtorEq, Nat.reduceBEq, Int.reduceLT, Int.reduceToNat, Int.reducePow, Nat.reduceLeDiff, Int.reduceLE, Nat.reduceMul, Nat.reduceSub, slotsBy, boxesBy, tipsBy, rawAt, nm, AV.ren, AV.renL, AV.under, AV.underL, List.all_nil, List.all_cons, bne_self_eq_false, List.getD_cons_zero, List.getD_cons_succ, List.length_nil, List.length_cons, and_true, true_and, Int.natCast_add, Int.natCast_one]
    · have e1 : (atOf l (i : Int) != 0) = true := by simp [h1]
      rw [if_pos h1] at hp
      simp only [e1, go_sem, Nat.reduceAdd, Nat.reduceEqDiff, Nat.reduceLT, reduceIte, reduceCtorEq, Nat.reduceBEq, Int.reduceLT, Int.reduceToNat, Int.reducePow, Nat.reduceLeDiff, Int.reduceLE, Nat.reduceMul, Nat.reduceSub]
      simp only [Done, resAV, resL, resOne, look_nil, look_cons, Nat.reduceEqDiff, if_true, if_false, reduceIte, ite_true, ite_false, Nat.zero_ne_one, Nat.one_ne_zero, reduceCtorEq, true_or, or_true, true_and, Option.some.injEq, AV.lit.injEq, Value.int.injEq, Value.bool.injEq]
      rw [hp]
  · intro hp
    rw [Nat.sub_self, firstFrom] at hp
    simp only [go_sem, Nat.reduceAdd, Nat.reduceEqDiff, Nat.reduceLT, reduceIte, reduceCtorEq, Nat.reduceBEq, Int.reduceLT, Int.reduceToNat, Int.reducePow, Nat.reduceLeDiff, Int.reduceLE, Nat.reduceMul, Nat.reduceSub]
    simp only [Done, resAV, resL, resOne, look_nil, look_cons, Nat.reduceEqDiff, if_true, if_false, reduceIte, ite_true, ite_false, Nat.zero_ne_one, Nat.one_ne_zero, reduceCtorEq, true_or, or_true, true_and, Option.some.injEq, AV.lit.injEq, Value.int.injEq, Value.bool.injEq]
    rw [hp]

theorem fails8_pure (want : Int) (l : List Int) (b : Bool) (hl : l.length ≤ 1000000) (hb : (chk8 l == want) = b) : Pure Try.prog 68 [.lit (.int .u8 want), .sl 21 (runes l) none] [] (.lit (.bool b)) := by
  refine pure0 Try.func68 c68 n68 e68 r68 (by simp) rfl ?_
  simp only [a68, astart, argSlots, go_sem, Nat.reduceAdd, Nat.reduceEqDiff, Nat.reduceLT, reduceIte, reduceCtorEq, Nat.reduceBEq, Int.reduceLT, Int.reduceToNat, Int.reducePow, Nat.reduceLeDiff, Int.reduceLE, Nat.reduceMul, Nat.reduceSub]
  refine callGo_pure (chk8_pure l hl) (by rfl) ?_
  simp only [go_sem, Nat.reduceAdd, Nat.reduceEqDiff, Nat.reduceLT, reduceIte, reduceCtorEq, Nat.reduceBEq, Int.reduceLT, Int.reduceToNat, Int.reducePow, Nat.reduceLeDiff, Int.reduceLE, Nat.reduceMul, Nat.reduceSub, hb]
  simp only [Done, resAV, resL, resOne, look_nil, look_cons, Nat.reduceEqDiff, if_true, if_false, reduceIte, ite_true, ite_false, Nat.zero_ne_one, Nat.one_ne_zero, reduceCtorEq, true_or, or_true, true_and, Option.some.injEq, AV.lit.injEq, Value.int.injEq, Value.bool.injEq]
theorem at8_is (l : List Int) (i c : Int) (hl : l.length ≤ 1000000) (h : atOf l i = c) : Pure Try.prog 37 [.sl 21 (runes l) none, .lit (.int .i64 i)] [] (.lit (.int .u8 c)) := by
  rw [← h]; exact at8_pure l i hl

set_option maxRecDepth 10000 in
theorem awake08_pure : Pure Try.prog 36 [] [] (.lit (.bool true)) := by
  refine pure0 Try.func36 c36 n36 e36 r36 (by simp) rfl ?_
  simp only [a36, astart, argSlots, go_sem, Nat.reduceAdd, Nat.reduceEqDiff, Nat.reduceLT, reduceIte, reduceCtorEq, Nat.reduceBEq, Int.reduceLT, Int.reduceToNat, Int.reducePow, Nat.reduceLeDiff, Int.reduceLE, Nat.reduceMul, Nat.reduceSub]
  refine callGo_pure (fails8_pure 0 [2325, 2381, 8205] true (by simp) (by decide +kernel)) (by rfl) ?_
  simp only [go_sem, Nat.reduceAdd, Nat.reduceEqDiff, Nat.reduceLT, reduceIte, reduceCtorEq, Nat.reduceBEq, Int.reduceLT, Int.reduceToNat, Int.reducePow, Nat.reduceLeDiff, Int.reduceLE, Nat.reduceMul, Nat.reduceSub]
  refine callGo_pure (fails8_pure 7 [2325, 8205] true (by simp) (by decide +kernel)) (by rfl) ?_
  simp only [go_sem, Nat.reduceAdd, Nat.reduceEqDiff, Nat.reduceLT, reduceIte, reduceCtorEq, Nat.reduceBEq, Int.reduceLT, Int.reduceToNat, Int.reducePow, Nat.reduceLeDiff, Int.reduceLE, Nat.reduceMul, Nat.reduceSub]
  refine callGo_pure (at8_is [2325, 8205] 1 7 (by simp) (by decide +kernel)) (by rfl) ?_
  simp only [go_sem, Nat.reduceAdd, Nat.reduceEqDiff, Nat.reduceLT, reduceIte, reduceCtorEq, Nat.reduceBEq, Int.reduceLT, Int.reduceToNat, Int.reducePow, Nat.reduceLeDiff, Int.reduceLE, Nat.reduceMul, Nat.reduceSub, beq_self_eq_true]
  refine callGo_pure (fails8_pure 0 [1576, 8204, 1576] true (by simp) (by decide +kernel)) (by rfl) ?_
  simp only [go_sem, Nat.reduceAdd, Nat.reduceEqDiff, Nat.reduceLT, reduceIte, reduceCtorEq, Nat.reduceBEq, Int.reduceLT, Int.reduceToNat, Int.reducePow, Nat.reduceLeDiff, Int.reduceLE, Nat.reduceMul, Nat.reduceSub]
  refine callGo_pure (fails8_pure 7 [1575, 8204, 1576] true (by simp) (by decide +kernel)) (by rfl) ?_
  simp only [go_sem, Nat.reduceAdd, Nat.reduceEqDiff, Nat.reduceLT, reduceIte, reduceCtorEq, Nat.reduceBEq, Int.reduceLT, Int.reduceToNat, Int.reducePow, Nat.reduceLeDiff, Int.reduceLE, Nat.reduceMul, Nat.reduceSub]
  refine callGo_pure (fails8_pure 0 [108, 183, 108] true (by simp) (by decide +kernel)) (by rfl) ?_
  simp only [go_sem, Nat.reduceAdd, Nat.reduceEqDiff, Nat.reduceLT, reduceIte, reduceCtorEq, Nat.reduceBEq, Int.reduceLT, Int.reduceToNat, Int.reducePow, Nat.reduceLeDiff, Int.reduceLE, Nat.reduceMul, Nat.reduceSub]
  refine callGo_pure (fails8_pure 8 [97, 183, 108] true (by simp) (by decide +kernel)) (by rfl) ?_
  simp only [go_sem, Nat.reduceAdd, Nat.reduceEqDiff, Nat.reduceLT, reduceIte, reduceCtorEq, Nat.reduceBEq, Int.reduceLT, Int.reduceToNat, Int.reducePow, Nat.reduceLeDiff, Int.reduceLE, Nat.reduceMul, Nat.reduceSub]
  refine callGo_pure (fails8_pure 0 [885, 945] true (by simp) (by decide +kernel)) (by rfl) ?_
  simp only [go_sem, Nat.reduceAdd, Nat.reduceEqDiff, Nat.reduceLT, reduceIte, reduceCtorEq, Nat.reduceBEq, Int.reduceLT, Int.reduceToNat, Int.reducePow, Nat.reduceLeDiff, Int.reduceLE, Nat.reduceMul, Nat.reduceSub]
  refine callGo_pure (fails8_pure 0 [1488, 1523] true (by simp) (by decide +kernel)) (by rfl) ?_
  simp only [go_sem, Nat.reduceAdd, Nat.reduceEqDiff, Nat.reduceLT, reduceIte, reduceCtorEq, Nat.reduceBEq, Int.reduceLT, Int.reduceToNat, Int.reducePow, Nat.reduceLeDiff, Int.reduceLE, Nat.reduceMul, Nat.reduceSub]
  refine callGo_pure (fails8_pure 8 [1523] true (by simp) (by decide +kernel)) (by rfl) ?_
  simp only [go_sem, Nat.reduceAdd, Nat.reduceEqDiff, Nat.reduceLT, reduceIte, reduceCtorEq, Nat.reduceBEq, Int.reduceLT, Int.reduceToNat, Int.reducePow, Nat.reduceLeDiff, Int.reduceLE, Nat.reduceMul, Nat.reduceSub]
  refine callGo_pure (fails8_pure 0 [12539, 12450] true (by simp) (by decide +kernel)) (by rfl) ?_
  simp only [go_sem, Nat.reduceAdd, Nat.reduceEqDiff, Nat.reduceLT, reduceIte, reduceCtorEq, Nat.reduceBEq, Int.reduceLT, Int.reduceToNat, Int.reducePow, Nat.reduceLeDiff, Int.reduceLE, Nat.reduceMul, Nat.reduceSub]
  refine callGo_pure (fails8_pure 8 [12539, 97] true (by simp) (by decide +kernel)) (by rfl) ?_
  simp only [go_sem, Nat.reduceAdd, Nat.reduceEqDiff, Nat.reduceLT, reduceIte, reduceCtorEq, Nat.reduceBEq, Int.reduceLT, Int.reduceToNat, Int.reducePow, Nat.reduceLeDiff, Int.reduceLE, Nat.reduceMul, Nat.reduceSub]
  refine callGo_pure (at8_is [1633, 1777] 0 8 (by simp) (by decide +kernel)) (by rfl) ?_
  simp only [go_sem, Nat.reduceAdd, Nat.reduceEqDiff, Nat.reduceLT, reduceIte, reduceCtorEq, Nat.reduceBEq, Int.reduceLT, Int.reduceToNat, Int.reducePow, Nat.reduceLeDiff, Int.reduceLE, Nat.reduceMul, Nat.reduceSub, beq_self_eq_true]
  refine callGo_pure (at8_is [1633, 1777] 1 8 (by simp) (by decide +kernel)) (by rfl) ?_
  simp only [go_sem, Nat.reduceAdd, Nat.reduceEqDiff, Nat.reduceLT, reduceIte, reduceCtorEq, Nat.reduceBEq, Int.reduceLT, Int.reduceToNat, Int.reducePow, Nat.reduceLeDiff, Int.reduceLE, Nat.reduceMul, Nat.reduceSub, beq_self_eq_true]
  simp only [Done, resAV, resL, resOne, look_nil, look_cons, Nat.reduceEqDiff, if_true, if_false, reduceIte, ite_true, ite_false, Nat.zero_ne_one, Nat.one_ne_zero, reduceCtorEq, true_or, or_true, true_and, Option.some.injEq, AV.lit.injEq, Value.int.injEq, Value.bool.injEq]
end Go.Proofs.Ytocaeclhmkojiaa
