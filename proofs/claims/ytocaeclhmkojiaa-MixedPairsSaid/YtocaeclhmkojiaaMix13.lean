/-
Which scripts go with one another: the law answers true, whatever it is handed. Conditions: none.
-/
import Derived.Test.YtocaeclhmkojiaaMix10
import Derived.Test.YtocaeclhmkojiaaUcdF
set_option linter.unusedSimpArgs false
set_option linter.unusedVariables false
set_option linter.unusedSectionVars false
namespace Go.Proofs.Ytocaeclhmkojiaa
open Go Go.Ab Go.ChangeShapes Go.WideShapes Go.ChangeAt Go.RowKit
def a16 : ACode :=
  (.seq (.reg [⟨(.some 6), (.mv (.k (.bool false))), .none⟩]) (.seq (.reg [⟨(.some 18), (.call (.f 43) []), .none⟩, ⟨(.some 7), (.mv (.t 18)), .none⟩]) (.seq (.seq (.reg [⟨(.some 19), (.mv (.t 7)),
  .none⟩, ⟨(.some 20), (.len (.t 19)), .none⟩, ⟨(.some 21), (.bin .eql (.t 20) (.k (.int .i64 0))), .none⟩]) (.cond (.t 21) (.seq (.reg [⟨(.some 6), (.mv (.k (.bool false))), .none⟩]) .ret) .skip))
  (.seq (.dtr (.one ⟨(.some 22), (.mv (.t 7)), .none⟩ (.one ⟨(.some 23), (.mv (.t 0)), .none⟩ (.one ⟨(.some 24), (.cvI .i64 (.t 23)), .none⟩ (.one ⟨(.some 25), (.mv (.t 7)), .none⟩ (.one ⟨(.some 26),
  (.len (.t 25)), .none⟩ (.one ⟨(.some 27), (.bin .rem (.t 24) (.t 26)), .none⟩ (.one ⟨(.some 28), (.ia 49 (.t 22) (.t 27)), .none⟩ (.one ⟨(.some 29), (.lde (.some 9) (.t 28)), .none⟩ (.one ⟨(.some 30),
  (.mv (.t 7)), .none⟩ (.one ⟨(.some 31), (.mv (.t 1)), .none⟩ (.one ⟨(.some 32), (.cvI .i64 (.t 31)), .none⟩ (.one ⟨(.some 33), (.mv (.t 7)), .none⟩ (.one ⟨(.some 34), (.len (.t 33)), .none⟩ (.one
  ⟨(.some 35), (.bin .rem (.t 32) (.t 34)), .none⟩ (.one ⟨(.some 36), (.ia 49 (.t 30) (.t 35)), .none⟩ (.one ⟨(.some 37), (.lde (.some 9) (.t 36)), .none⟩ (.one ⟨(.some 38), (.mv (.t 7)), .none⟩ (.one
  ⟨(.some 39), (.mv (.t 2)), .none⟩ (.one ⟨(.some 40), (.cvI .i64 (.t 39)), .none⟩ (.one ⟨(.some 41), (.mv (.t 7)), .none⟩ (.one ⟨(.some 42), (.len (.t 41)), .none⟩ (.one ⟨(.some 43), (.bin .rem (.t 40)
  (.t 42)), .none⟩ (.one ⟨(.some 44), (.ia 49 (.t 38) (.t 43)), .none⟩ (.one ⟨(.some 45), (.lde (.some 9) (.t 44)), .none⟩ (.both (.one ⟨(.some 8), (.alc 49 [(.int .i32 0), (.int .i32 0), (.int .u8 0),
  (.int .u8 0), (.int .u8 0), (.int .u8 0), (.int .u8 0), (.int .u8 0), (.int .u8 0)]), .none⟩ (.both (.one ⟨(.some 9), (.alc 49 [(.int .i32 0), (.int .i32 0), (.int .u8 0), (.int .u8 0), (.int .u8 0),
  (.int .u8 0), (.int .u8 0), (.int .u8 0), (.int .u8 0)]), .none⟩ (.one ⟨(.some 10), (.alc 49 [(.int .i32 0), (.int .i32 0), (.int .u8 0), (.int .u8 0), (.int .u8 0), (.int .u8 0), (.int .u8 0), (.int
  .u8 0), (.int .u8 0)]), .none⟩ (.one ⟨.none, (.st 9 (.t 8) (.t 29)), .none⟩ (.one ⟨.none, (.st 9 (.t 9) (.t 37)), .none⟩ (.one ⟨.none, (.st 9 (.t 10) (.t 45)), .none⟩ .leaf))))) (.both (.one ⟨(.some
  10), (.alc 49 [(.int .i32 0), (.int .i32 0), (.int .u8 0), (.int .u8 0), (.int .u8 0), (.int .u8 0), (.int .u8 0), (.int .u8 0), (.int .u8 0)]), .none⟩ (.one ⟨(.some 9), (.alc 49 [(.int .i32 0), (.int
  .i32 0), (.int .u8 0), (.int .u8 0), (.int .u8 0), (.int .u8 0), (.int .u8 0), (.int .u8 0), (.int .u8 0)]), .none⟩ (.one ⟨.none, (.st 9 (.t 8) (.t 29)), .none⟩ (.one ⟨.none, (.st 9 (.t 9) (.t 37)),
  .none⟩ (.one ⟨.none, (.st 9 (.t 10) (.t 45)), .none⟩ .leaf))))) .top))) (.both (.one ⟨(.some 9), (.alc 49 [(.int .i32 0), (.int .i32 0), (.int .u8 0), (.int .u8 0), (.int .u8 0), (.int .u8 0), (.int
  .u8 0), (.int .u8 0), (.int .u8 0)]), .none⟩ (.both (.one ⟨(.some 8), (.alc 49 [(.int .i32 0), (.int .i32 0), (.int .u8 0), (.int .u8 0), (.int .u8 0), (.int .u8 0), (.int .u8 0), (.int .u8 0), (.int
  .u8 0)]), .none⟩ (.one ⟨(.some 10), (.alc 49 [(.int .i32 0), (.int .i32 0), (.int .u8 0), (.int .u8 0), (.int .u8 0), (.int .u8 0), (.int .u8 0), (.int .u8 0), (.int .u8 0)]), .none⟩ (.one ⟨.none,
  (.st 9 (.t 8) (.t 29)), .none⟩ (.one ⟨.none, (.st 9 (.t 9) (.t 37)), .none⟩ (.one ⟨.none, (.st 9 (.t 10) (.t 45)), .none⟩ .leaf))))) (.both (.one ⟨(.some 10), (.alc 49 [(.int .i32 0), (.int .i32 0),
  (.int .u8 0), (.int .u8 0), (.int .u8 0), (.int .u8 0), (.int .u8 0), (.int .u8 0), (.int .u8 0)]), .none⟩ (.one ⟨(.some 8), (.alc 49 [(.int .i32 0), (.int .i32 0), (.int .u8 0), (.int .u8 0), (.int
  .u8 0), (.int .u8 0), (.int .u8 0), (.int .u8 0), (.int .u8 0)]), .none⟩ (.one ⟨.none, (.st 9 (.t 8) (.t 29)), .none⟩ (.one ⟨.none, (.st 9 (.t 9) (.t 37)), .none⟩ (.one ⟨.none, (.st 9 (.t 10) (.t
  45)), .none⟩ .leaf))))) .top))) (.both (.one ⟨(.some 10), (.alc 49 [(.int .i32 0), (.int .i32 0), (.int .u8 0), (.int .u8 0), (.int .u8 0), (.int .u8 0), (.int .u8 0), (.int .u8 0), (.int .u8 0)]),
  .none⟩ (.both (.one ⟨(.some 8), (.alc 49 [(.int .i32 0), (.int .i32 0), (.int .u8 0), (.int .u8 0), (.int .u8 0), (.int .u8 0), (.int .u8 0), (.int .u8 0), (.int .u8 0)]), .none⟩ (.one ⟨(.some 9),
  (.alc 49 [(.int .i32 0), (.int .i32 0), (.int .u8 0), (.int .u8 0), (.int .u8 0), (.int .u8 0), (.int .u8 0), (.int .u8 0), (.int .u8 0)]), .none⟩ (.one ⟨.none, (.st 9 (.t 8) (.t 29)), .none⟩ (.one
  ⟨.none, (.st 9 (.t 9) (.t 37)), .none⟩ (.one ⟨.none, (.st 9 (.t 10) (.t 45)), .none⟩ .leaf))))) (.both (.one ⟨(.some 9), (.alc 49 [(.int .i32 0), (.int .i32 0), (.int .u8 0), (.int .u8 0), (.int .u8
  0), (.int .u8 0), (.int .u8 0), (.int .u8 0), (.int .u8 0)]), .none⟩ (.one ⟨(.some 8), (.alc 49 [(.int .i32 0), (.int .i32 0), (.int .u8 0), (.int .u8 0), (.int .u8 0), (.int .u8 0), (.int .u8 0),
  (.int .u8 0), (.int .u8 0)]), .none⟩ (.one ⟨.none, (.st 9 (.t 8) (.t 29)), .none⟩ (.one ⟨.none, (.st 9 (.t 9) (.t 37)), .none⟩ (.one ⟨.none, (.st 9 (.t 10) (.t 45)), .none⟩ .leaf))))) .top)))
  .top)))))))))))))))))))))))))))) (.seq (.seq (.reg [⟨(.some 46), (.fa 2 (.t 10)), .none⟩, ⟨(.some 47), (.fa 4 (.t 46)), .none⟩, ⟨(.some 48), (.ld .none (.t 47)), .none⟩, ⟨(.some 49), (.bin .gtr (.t
  48) (.k (.int .u8 1))), .none⟩]) (.cond (.t 49) (.reg [⟨(.some 50), (.fa 0 (.t 10)), .none⟩, ⟨.none, (.st 1 (.t 50) (.k (.int .i32 769))), .none⟩]) .skip)) (.seq (.reg [⟨(.some 51), (.fa 0 (.t 8)),
  .none⟩, ⟨(.some 52), (.ld .none (.t 51)), .none⟩, ⟨(.some 53), (.fa 0 (.t 10)), .none⟩, ⟨(.some 54), (.ld .none (.t 53)), .none⟩, ⟨(.some 55), (.fa 1 (.t 9)), .none⟩, ⟨(.some 56), (.ld .none (.t 55)),
  .none⟩, ⟨(.some 57), (.bs 21 1 [(.t 52), (.t 54), (.t 56)]), .none⟩, ⟨(.some 11), (.mv (.t 57)), .none⟩]) (.seq (.reg [⟨(.some 58), (.mv (.t 11)), .none⟩, ⟨(.some 59), (.call (.f 27) [(.t 58)]),
  .none⟩, ⟨(.some 12), (.mv (.t 59)), .none⟩]) (.seq (.reg [⟨(.some 60), (.fa 0 (.t 8)), .none⟩, ⟨(.some 61), (.ld .none (.t 60)), .none⟩, ⟨(.some 62), (.bin .lss (.t 61) (.k (.int .i32 128))), .none⟩,
  ⟨(.some 63), (.mv (.t 62)), .none⟩, ⟨(.some 64), (.fa 1 (.t 9)), (.some (63, true))⟩, ⟨(.some 65), (.ld .none (.t 64)), (.some (63, true))⟩, ⟨(.some 66), (.bin .lss (.t 65) (.k (.int .i32 128))),
  (.some (63, true))⟩, ⟨(.some 67), (.pick (.t 63) (.t 66) (.k (.bool false))), .none⟩, ⟨(.some 68), (.mv (.t 67)), .none⟩, ⟨(.some 69), (.fa 0 (.t 10)), (.some (68, true))⟩, ⟨(.some 70), (.ld .none (.t
  69)), (.some (68, true))⟩, ⟨(.some 71), (.bin .lss (.t 70) (.k (.int .i32 128))), (.some (68, true))⟩, ⟨(.some 72), (.pick (.t 68) (.t 71) (.k (.bool false))), .none⟩, ⟨(.some 13), (.mv (.t 72)),
  .none⟩]) (.seq (.dreg [⟨(.some 73), (.fa 2 (.t 8)), .none⟩, ⟨(.some 74), (.fa 4 (.t 73)), .none⟩, ⟨(.some 75), (.ld .none (.t 74)), .none⟩, ⟨(.some 76), (.fa 2 (.t 9)), .none⟩, ⟨(.some 77), (.fa 4 (.t
  76)), .none⟩, ⟨(.some 78), (.ld .none (.t 77)), .none⟩, ⟨(.some 79), (.mn (.t 75) (.t 78)), .none⟩, ⟨(.some 80), (.fa 2 (.t 8)), .none⟩, ⟨(.some 81), (.fa 4 (.t 80)), .none⟩, ⟨(.some 82), (.ld .none
  (.t 81)), .none⟩, ⟨(.some 83), (.fa 2 (.t 9)), .none⟩, ⟨(.some 84), (.fa 4 (.t 83)), .none⟩, ⟨(.some 85), (.ld .none (.t 84)), .none⟩, ⟨(.some 86), (.mx (.t 82) (.t 85)), .none⟩, ⟨(.some 14), (.mv (.t
  79)), .none⟩, ⟨(.some 15), (.mv (.t 86)), .none⟩]) (.seq (.reg [⟨(.some 87), (.mv (.t 14)), .none⟩, ⟨(.some 88), (.mv (.t 15)), .none⟩, ⟨(.some 89), (.bin .eql (.t 87) (.t 88)), .none⟩, ⟨(.some 90),
  (.mv (.t 89)), .none⟩, ⟨(.some 91), (.mv (.t 14)), (.some (90, false))⟩, ⟨(.some 92), (.bin .leq (.t 91) (.k (.int .u8 1))), (.some (90, false))⟩, ⟨(.some 93), (.pick (.t 90) (.k (.bool true)) (.t
  92)), .none⟩, ⟨(.some 94), (.mv (.t 93)), .none⟩, ⟨(.some 95), (.mv (.t 14)), (.some (94, false))⟩, ⟨(.some 96), (.bin .geq (.t 95) (.k (.int .u8 8))), (.some (94, false))⟩, ⟨(.some 97), (.mv (.t
  96)), (.some (94, false))⟩, ⟨(.some 98), (.mv (.t 15)), (.some (97, true))⟩, ⟨(.some 99), (.bin .leq (.t 98) (.k (.int .u8 10))), (.some (97, true))⟩, ⟨(.some 100), (.pick (.t 97) (.t 99) (.k (.bool
  false))), (.some (94, false))⟩, ⟨(.some 101), (.pick (.t 94) (.k (.bool true)) (.t 100)), .none⟩, ⟨(.some 102), (.mv (.t 101)), .none⟩, ⟨(.some 103), (.mv (.t 14)), (.some (102, false))⟩, ⟨(.some
  104), (.bin .eql (.t 103) (.k (.int .u8 8))), (.some (102, false))⟩, ⟨(.some 105), (.mv (.t 104)), (.some (102, false))⟩, ⟨(.some 106), (.mv (.t 15)), (.some (105, true))⟩, ⟨(.some 107), (.bin .eql
  (.t 106) (.k (.int .u8 11))), (.some (105, true))⟩, ⟨(.some 108), (.pick (.t 105) (.t 107) (.k (.bool false))), (.some (102, false))⟩, ⟨(.some 109), (.pick (.t 102) (.k (.bool true)) (.t 108)),
  .none⟩, ⟨(.some 16), (.mv (.t 109)), .none⟩]) (.seq (.reg [⟨(.some 110), (.mv (.t 14)), .none⟩, ⟨(.some 111), (.bin .eql (.t 110) (.k (.int .u8 2))), .none⟩, ⟨(.some 112), (.mv (.t 111)), .none⟩,
  ⟨(.some 113), (.mv (.t 15)), (.some (112, true))⟩, ⟨(.some 114), (.bin .geq (.t 113) (.k (.int .u8 8))), (.some (112, true))⟩, ⟨(.some 115), (.pick (.t 112) (.t 114) (.k (.bool false))), .none⟩,
  ⟨(.some 17), (.mv (.t 115)), .none⟩]) (.seq (.block 0 (.seq (.reg [⟨(.some 117), (.mv (.t 13)), .none⟩, ⟨(.some 116), (.mv (.t 117)), .none⟩]) (.cond (.t 116) (.seq (.reg [⟨(.some 118), (.mv (.t 12)),
  .none⟩, ⟨(.some 119), (.bin .eql (.t 118) (.k (.int .u8 1))), .none⟩, ⟨(.some 120), (.mv (.t 119)), .none⟩, ⟨(.some 121), (.call (.f 33) []), (.some (120, true))⟩, ⟨(.some 122), (.pick (.t 120) (.t
  121) (.k (.bool false))), .none⟩, ⟨(.some 6), (.mv (.t 122)), .none⟩]) .ret) (.seq (.reg [⟨(.some 124), (.mv (.t 16)), .none⟩, ⟨(.some 123), (.mv (.t 124)), .none⟩]) (.cond (.t 123) (.seq (.reg
  [⟨(.some 125), (.mv (.t 12)), .none⟩, ⟨(.some 126), (.bin .eql (.t 125) (.k (.int .u8 2))), .none⟩, ⟨(.some 127), (.mv (.t 126)), .none⟩, ⟨(.some 128), (.call (.f 33) []), (.some (127, true))⟩,
  ⟨(.some 129), (.pick (.t 127) (.t 128) (.k (.bool false))), .none⟩, ⟨(.some 6), (.mv (.t 129)), .none⟩]) .ret) (.seq (.reg [⟨(.some 131), (.mv (.t 17)), .none⟩, ⟨(.some 130), (.mv (.t 131)), .none⟩])
  (.cond (.t 130) (.seq (.reg [⟨(.some 132), (.mv (.t 12)), .none⟩, ⟨(.some 133), (.bin .eql (.t 132) (.k (.int .u8 3))), .none⟩, ⟨(.some 134), (.mv (.t 133)), .none⟩, ⟨(.some 135), (.call (.f 33) []),
  (.some (134, true))⟩, ⟨(.some 136), (.pick (.t 134) (.t 135) (.k (.bool false))), .none⟩, ⟨(.some 6), (.mv (.t 136)), .none⟩]) .ret) .skip))))))) (.seq (.reg [⟨(.some 137), (.mv (.t 12)), .none⟩,
  ⟨(.some 138), (.bin .eql (.t 137) (.k (.int .u8 4))), .none⟩, ⟨(.some 139), (.mv (.t 138)), .none⟩, ⟨(.some 140), (.mv (.t 11)), (.some (139, true))⟩, ⟨(.some 141), (.call (.f 31) [(.t 140)]), (.some
  (139, true))⟩, ⟨(.some 142), (.bin .eql (.t 141) (.k (.int .u8 13))), (.some (139, true))⟩, ⟨(.some 143), (.pick (.t 139) (.t 142) (.k (.bool false))), .none⟩, ⟨(.some 144), (.mv (.t 143)), .none⟩,
  ⟨(.some 145), (.call (.f 33) []), (.some (144, true))⟩, ⟨(.some 146), (.pick (.t 144) (.t 145) (.k (.bool false))), .none⟩, ⟨(.some 6), (.mv (.t 146)), .none⟩]) .ret)))))))))))))
theorem c16 : Try.f16.body.bind (cCode Try.prog 147) = some a16 := by kernel_rfl
theorem r16 : Try.f16.results.toList = [(.tmp 6)] := by kernel_rfl
theorem n16 : Try.f16.ntmps = 147 := by kernel_rfl
theorem e16 : Enters Try.prog 16 := enters_of Try.func16 (by kernel_rfl) (by kernel_rfl)

def asciiP (x y z : Int) : Bool := decide (x < 128) && (decide (y < 128) && decide (z < 128))
def pairCounts (a b c : Nat) : List Int := countsBy fun i => a == i || (c == i || b == i)
def pairLv (a b c : Nat) : Int := if total (pairCounts a b c) < 2 ∨ eastOf (pairCounts a b c) = true then 2 else if eastOf (cleared (pairCounts a b c) [2]) = true then 3 else 4
def wantLv (a b : Int) : Int := if (a == b || (decide (a ≤ 1) || ((decide (a ≥ 8) && decide (b ≤ 10)) || (a == 8 && b == 11)))) = true then 2 else if (a == 2 && decide (b ≥ 8)) = true then 3 else 4
def lo (a b : Int) : Int := if b < a then b else a
def hi (a b : Int) : Int := if a < b then b else a
def pairTo (a b : Nat) : List Int := [0, 0, num01 (a == 2 || b == 2), num01 (a == 3 || b == 3), num01 (a == 4 || b == 4), num01 (a == 5 || b == 5), num01 (a == 6 || b == 6), num01 (a == 7 || b == 7), num01 (a == 8 || b == 8), num01 (a == 9 || b == 9), num01 (a == 10 || b == 10), num01 (a == 11 || b == 11)]
theorem pairCounts_to (a b c : Nat) (hc : c < 2) : pairCounts a b c = pairTo a b := by
  have e : ∀ i, 2 ≤ i → (c == i) = false := fun i h => by simp only [beq_eq_false_iff_ne]; omega
  show [0, 0, num01 (a == 2 || (c == 2 || b == 2)), num01 (a == 3 || (c == 3 || b == 3)), num01 (a == 4 || (c == 4 || b == 4)), num01 (a == 5 || (c == 5 || b == 5)), num01 (a == 6 || (c == 6 || b == 6)), num01 (a == 7 || (c == 7 || b == 7)), num01 (a == 8 || (c == 8 || b == 8)), num01 (a == 9 || (c == 9 || b == 9)), num01 (a == 10 || (c == 10 || b == 10)), num01 (a == 11 || (c == 11 || b == 11))] = _
  simp only [e 2 (by omega), e 3 (by omega), e 4 (by omega), e 5 (by omega), e 6 (by omega), e 7 (by omega), e 8 (by omega), e 9 (by omega), e 10 (by omega), e 11 (by omega), Bool.false_or]
  rfl
def lvTo (a b : Nat) : Int := if total (pairTo a b) < 2 ∨ eastOf (pairTo a b) = true then 2 else if eastOf (cleared (pairTo a b) [2]) = true then 3 else 4
def pairOk (a b : Nat) : Bool := lvTo a b == wantLv (lo (a : Nat) (b : Nat)) (hi (a : Nat) (b : Nat))
theorem pair_0 : (List.range 12).all (pairOk 0) = true := by decide +kernel
theorem pair_1 : (List.range 12).all (pairOk 1) = true := by decide +kernel
theorem pair_2 : (List.range 12).all (pairOk 2) = true := by decide +kernel
theorem pair_3 : (List.range 12).all (pairOk 3) = true := by decide +kernel
theorem pair_4 : (List.range 12).all (pairOk 4) = true := by decide +kernel
theorem pair_5 : (List.range 12).all (pairOk 5) = true := by decide +kernel
theorem pair_6 : (List.range 12).all (pairOk 6) = true := by decide +kernel
theorem pair_7 : (List.range 12).all (pairOk 7) = true := by decide +kernel
theorem pair_8 : (List.range 12).all (pairOk 8) = true := by decide +kernel
theorem pair_9 : (List.range 12).all (pairOk 9) = true := by decide +kernel
theorem pair_10 : (List.range 12).all (pairOk 10) = true := by decide +kernel
theorem pair_11 : (List.range 12).all (pairOk 11) = true := by decide +kernel
theorem pair_all (a : Nat) (ha : a < 12) (b : Nat) (hb : b < 12) (c : Nat) (hc : c < 2) : pairLv a b c = wantLv (lo (a : Nat) (b : Nat)) (hi (a : Nat) (b : Nat)) := by
  have key : pairOk a b = true := by
    have hm := List.mem_range.2 hb
    match a, ha with
    | 0, _ => exact List.all_eq_true.1 pair_0 b hm
    | 1, _ => exact List.all_eq_true.1 pair_1 b hm
    | 2, _ => exact List.all_eq_true.1 pair_2 b hm
    | 3, _ => exact List.all_eq_true.1 pair_3 b hm
    | 4, _ => exact List.all_eq_true.1 pair_4 b hm
    | 5, _ => exact List.all_eq_true.1 pair_5 b hm
    | 6, _ => exact List.all_eq_true.1 pair_6 b hm
    | 7, _ => exact List.all_eq_true.1 pair_7 b hm
    | 8, _ => exact List.all_eq_true.1 pair_8 b hm
    | 9, _ => exact List.all_eq_true.1 pair_9 b hm
    | 10, _ => exact List.all_eq_true.1 pair_10 b hm
    | 11, _ => exact List.all_eq_true.1 pair_11 b hm
  unfold pairOk at key
  unfold pairLv
  rw [pairCounts_to a b c hc]
  exact eq_of_beq key
theorem level_pair (x z y : Int) (hx : 0 ≤ x) (hz : 0 ≤ z) (hy : 0 ≤ y) (hs : (rowAt z).script ≤ 1) :
    levelOf [x, z, y] = if asciiP x y z = true then 1 else wantLv (lo (rowAt x).script (rowAt y).script) (hi (rowAt x).script (rowAt y).script) := by
  have h1 := script_eq x
  have h2 := script_eq y
  have h3 := script_eq z
  have h := pair_all _ (script_lt x) _ (script_lt y) (scriptOf z) (by omega)
  rw [← h1, ← h2] at h
  rw [← h]
  have hc : counts [x, z, y] = pairCounts (scriptOf x) (scriptOf y) (scriptOf z) := by
    rw [counts_any]; unfold pairCounts; congr 1; funext i; simp
  have hw : ([x, z, y].any wideOne = false) = (asciiP x y z = true) := by
    have e1 : decide (x < 0) = false := by simp only [decide_eq_false_iff_not]; omega
    have e2 : decide (y < 0) = false := by simp only [decide_eq_false_iff_not]; omega
    have e3 : decide (z < 0) = false := by simp only [decide_eq_false_iff_not]; omega
    simp only [List.any_cons, List.any_nil, wideOne, e1, e2, e3, Bool.false_or, Bool.or_false, Bool.or_eq_false_iff, asciiP, Bool.and_eq_true, decide_eq_true_eq, decide_eq_false_iff_not, eq_iff_iff]
    omega
  unfold levelOf pairLv
  simp only [hc, hw]
theorem awp_cut {F : Nat} {a b : ACode} {Q : Exit → State → Prop} {s : State} (R : State → Prop) (ha : awp Try.prog F a (fun e s' => e = .normal ∧ R s') s) (hb : ∀ s', R s' → awp Try.prog F b Q s') : awp Try.prog F (.seq a b) Q s :=
  awp_mono (P := Try.prog) (A := a) (fun e s' h => by obtain ⟨rfl, hr⟩ := h; exact hb s' hr) ha
theorem tab_pos : tab.all (fun x => decide (0 ≤ x.fr)) = true := by kernel_rfl
theorem row_301 : (rowAt 769).script ≤ 1 := by decide +kernel

set_option maxRecDepth 10000 in
set_option maxHeartbeats 4000000 in
theorem mixedPairs_pure (n : Int) (hn : 0 ≤ n ∧ n ≤ 255) (m : Int) (hm : 0 ≤ m ∧ m ≤ 255) (o : Int) (ho : 0 ≤ o ∧ o ≤ 255) : Pure Try.prog 16 [.lit (.int .u8 n), .lit (.int .u8 m), .lit (.int .u8 o)] [] (.lit (.bool true)) := by
  refine pure0 Try.func16 c16 n16 e16 r16 (by simp) rfl ?_
  simp only [a16, astart, argSlots, go_sem, Nat.reduceAdd, Nat.reduceEqDiff, Nat.reduceLT, reduceIte, reduceCtorEq, Nat.reduceBEq, Int.reduceLT, Int.reduceToNat, Int.reducePow, Nat.reduceLeDiff, Int.reduceLE, Nat.reduceMul, Nat.reduceSub]
  refine callGo_pure table_pure rfl ?_
  have b0 : ((166 : Int) == 0) = false := rfl
  simp only [go_sem, Nat.reduceAdd, Nat.reduceEqDiff, Nat.reduceLT, reduceIte, reduceCtorEq, Nat.reduceBEq, Int.reduceLT, Int.reduceToNat, Int.reducePow, Nat.reduceLeDiff, Int.reduceLE, Nat.reduceMul, Nat.reduceSub, tabC_len, e166, b0]
  obtain ⟨kn, hkn, hn1⟩ := tmod_166 hn.1
  obtain ⟨km, hkm, hm1⟩ := tmod_166 hm.1
  obtain ⟨ko, hko, ho1⟩ := tmod_166 ho.1
  obtain ⟨x, _, hx, gx⟩ := tab_get hkn
  obtain ⟨y, _, hy, gy⟩ := tab_get hkm
  obtain ⟨z, _, hz, gz⟩ := tab_get hko
  have wn : IntKind.i64.wrap n = n := wrap_i64 _ (by omega) (by omega)
  have wm : IntKind.i64.wrap m = m := wrap_i64 _ (by omega) (by omega)
  have wo : IntKind.i64.wrap o = o := wrap_i64 _ (by omega) (by omega)
  refine dtr_to ⟨[(6, some (.lit (.bool false))), (8, some (.bp 0 0)), (9, some (.bp 1 0)), (10, some (.bp 2 0))], [(0, x.cells.map .lit), (1, y.cells.map .lit), (2, z.cells.map .lit)], [], 3⟩ ?_ ?_
  · simp only [go_sem, Nat.reduceAdd, Nat.reduceEqDiff, Nat.reduceLT, reduceIte, reduceCtorEq, Nat.reduceBEq, Int.reduceLT, Int.reduceToNat, Int.reducePow, Nat.reduceLeDiff, Int.reduceLE, Nat.reduceMul, Nat.reduceSub, wn, wm, wo, tabC_len, e166, ne166, hn1, hm1, ho1, Int.natCast_nonneg, Int.toNat_natCast, gx, gy, gz, Row.cells, List.map_cons, List.map_nil]
    refine ⟨⟨?_, ?_⟩, ⟨?_, ?_⟩, ?_, ?_⟩
    · refine weak_by [1, 2, 3] (by simp) rfl ?_ ?_ trivial (by simp)
      · simp only [go_sem, Nat.reduceAdd, Nat.reduceEqDiff, Nat.reduceLT, reduceIte, reduceCtorEq, Nat.reduceBEq, Int.reduceLT, Int.reduceToNat, Int.reducePow, Nat.reduceLeDiff, Int.reduceLE, Nat.reduceMul, Nat.reduceSub, slotsBy, boxesBy, tipsBy, rawAt, nm, AV.ren, AV.renL, AV.under, AV.underL, List.all_nil, List.all_cons, bne_self_eq_false, List.getD_cons_zero, List.getD_cons_succ, List.length_nil, List.length_cons, and_true, true_and]
      · simp only [go_sem, Nat.reduceAdd, Nat.reduceEqDiff, Nat.reduceLT, reduceIte, reduceCtorEq, Nat.reduceBEq, Int.reduceLT, Int.reduceToNat, Int.reducePow, Nat.reduceLeDiff, Int.reduceLE, Nat.reduceMul, Nat.reduceSub, slotsBy, boxesBy, tipsBy, rawAt, nm, AV.ren, AV.renL, AV.under, AV.underL, List.all_nil, List.all_cons, bne_self_eq_false, List.getD_cons_zero, List.getD_cons_succ, List.length_nil, List.length_cons, and_true, true_and]
        try first | rfl | decide
    · refine weak_by [1, 3, 2] (by simp) rfl ?_ ?_ trivial (by simp)
      · simp only [go_sem, Nat.reduceAdd, Nat.reduceEqDiff, Nat.reduceLT, reduceIte, reduceCtorEq, Nat.reduceBEq, Int.reduceLT, Int.reduceToNat, Int.reducePow, Nat.reduceLeDiff, Int.reduceLE, Nat.reduceMul, Nat.reduceSub, slotsBy, boxesBy, tipsBy, rawAt, nm, AV.ren, AV.renL, AV.under, AV.underL, List.all_nil, List.all_cons, bne_self_eq_false, List.getD_cons_zero, List.getD_cons_succ, List.length_nil, List.length_cons, and_true, true_and]
      · simp only [go_sem, Nat.reduceAdd, Nat.reduceEqDiff, Nat.reduceLT, reduceIte, reduceCtorEq, Nat.reduceBEq, Int.reduceLT, Int.reduceToNat, Int.reducePow, Nat.reduceLeDiff, Int.reduceLE, Nat.reduceMul, Nat.reduceSub, slotsBy, boxesBy, tipsBy, rawAt, nm, AV.ren, AV.renL, AV.under, AV.underL, List.all_nil, List.all_cons, bne_self_eq_false, List.getD_cons_zero, List.getD_cons_succ, List.length_nil, List.length_cons, and_true, true_and]
        try first | rfl | decide
    · refine weak_by [2, 1, 3] (by simp) rfl ?_ ?_ trivial (by simp)
      · simp only [go_sem, Nat.reduceAdd, Nat.reduceEqDiff, Nat.reduceLT, reduceIte, reduceCtorEq, Nat.reduceBEq, Int.reduceLT, Int.reduceToNat, Int.reducePow, Nat.reduceLeDiff, Int.reduceLE, Nat.reduceMul, Nat.reduceSub, slotsBy, boxesBy, tipsBy, rawAt, nm, AV.ren, AV.renL, AV.under, AV.underL, List.all_nil, List.all_cons, bne_self_eq_false, List.getD_cons_zero, List.getD_cons_succ, List.length_nil, List.length_cons, and_true, true_and]
      · simp only [go_sem, Nat.reduceAdd, Nat.reduceEqDiff, Nat.reduceLT, reduceIte, reduceCtorEq, Nat.reduceBEq, Int.reduceLT, Int.reduceToNat, Int.reducePow, Nat.reduceLeDiff, Int.reduceLE, Nat.reduceMul, Nat.reduceSub, slotsBy, boxesBy, tipsBy, rawAt, nm, AV.ren, AV.renL, AV.under, AV.underL, List.all_nil, List.all_cons, bne_self_eq_false, List.getD_cons_zero, List.getD_cons_succ, List.length_nil, List.length_cons, and_true, true_and]
        try first | rfl | decide
    · refine weak_by [3, 1, 2] (by simp) rfl ?_ ?_ trivial (by simp)
      · simp only [go_sem, Nat.reduceAdd, Nat.reduceEqDiff, Nat.reduceLT, reduceIte, reduceCtorEq, Nat.reduceBEq, Int.reduceLT, Int.reduceToNat, Int.reducePow, Nat.reduceLeDiff, Int.reduceLE, Nat.reduceMul, Nat.reduceSub, slotsBy, boxesBy, tipsBy, rawAt, nm, AV.ren, AV.renL, AV.under, AV.underL, List.all_nil, List.all_cons, bne_self_eq_false, List.getD_cons_zero, List.getD_cons_succ, List.length_nil, List.length_cons, and_true, true_and]
      · simp only [go_sem, Nat.reduceAdd, Nat.reduceEqDiff, Nat.reduceLT, reduceIte, reduceCtorEq, Nat.reduceBEq, Int.reduceLT, Int.reduceToNat, Int.reducePow, Nat.reduceLeDiff, Int.reduceLE, Nat.reduceMul, Nat.reduceSub, slotsBy, boxesBy, tipsBy, rawAt, nm, AV.ren, AV.renL, AV.under, AV.underL, List.all_nil, List.all_cons, bne_self_eq_false, List.getD_cons_zero, List.getD_cons_succ, List.length_nil, List.length_cons, and_true, true_and]
        try first | rfl | decide
    · refine weak_by [2, 3, 1] (by simp) rfl ?_ ?_ trivial (by simp)
      · simp only [go_sem, Nat.reduceAdd, Nat.reduceEqDiff, Nat.reduceLT, reduceIte, reduceCtorEq, Nat.reduceBEq, Int.reduceLT, Int.reduceToNat, Int.reducePow, Nat.reduceLeDiff, Int.reduceLE, Nat.reduceMul, Nat.reduceSub, slotsBy, boxesBy, tipsBy, rawAt, nm, AV.ren, AV.renL, AV.under, AV.underL, List.all_nil, List.all_cons, bne_self_eq_false, List.getD_cons_zero, List.getD_cons_succ, List.length_nil, List.length_cons, and_true, true_and]
      · simp only [go_sem, Nat.reduceAdd, Nat.reduceEqDiff, Nat.reduceLT, reduceIte, reduceCtorEq, Nat.reduceBEq, Int.reduceLT, Int.reduceToNat, Int.reducePow, Nat.reduceLeDiff, Int.reduceLE, Nat.reduceMul, Nat.reduceSub, slotsBy, boxesBy, tipsBy, rawAt, nm, AV.ren, AV.renL, AV.under, AV.underL, List.all_nil, List.all_cons, bne_self_eq_false, List.getD_cons_zero, List.getD_cons_succ, List.length_nil, List.length_cons, and_true, true_and]
        try first | rfl | decide
    · refine weak_by [3, 2, 1] (by simp) rfl ?_ ?_ trivial (by simp)
      · simp only [go_sem, Nat.reduceAdd, Nat.reduceEqDiff, Nat.reduceLT, reduceIte, reduceCtorEq, Nat.reduceBEq, Int.reduceLT, Int.reduceToNat, Int.reducePow, Nat.reduceLeDiff, Int.reduceLE, Nat.reduceMul, Nat.reduceSub, slotsBy, boxesBy, tipsBy, rawAt, nm, AV.ren, AV.renL, AV.under, AV.underL, List.all_nil, List.all_cons, bne_self_eq_false, List.getD_cons_zero, List.getD_cons_succ, List.length_nil, List.length_cons, and_true, true_and]
      · simp only [go_sem, Nat.reduceAdd, Nat.reduceEqDiff, Nat.reduceLT, reduceIte, reduceCtorEq, Nat.reduceBEq, Int.reduceLT, Int.reduceToNat, Int.reducePow, Nat.reduceLeDiff, Int.reduceLE, Nat.reduceMul, Nat.reduceSub, slotsBy, boxesBy, tipsBy, rawAt, nm, AV.ren, AV.renL, AV.under, AV.underL, List.all_nil, List.all_cons, bne_self_eq_false, List.getD_cons_zero, List.getD_cons_succ, List.length_nil, List.length_cons, and_true, true_and]
        try first | rfl | decide
  have hxr : rowAt x.fr = x := rowAt_tab hx (Int.le_refl _) (tab_le hx)
  have hyr : rowAt y.to = y := rowAt_tab hy (tab_le hy) (Int.le_refl _)
  have hx0 : 0 ≤ x.fr := by simpa using List.all_eq_true.1 tab_pos x hx
  have hy0 : 0 ≤ y.to := by have h1 := tab_le hy; have h2 : 0 ≤ y.fr := (by simpa using List.all_eq_true.1 tab_pos y hy); omega
  have hz0 : 0 ≤ z.fr := by simpa using List.all_eq_true.1 tab_pos z hz
  obtain ⟨f, hf0, hfs, hff⟩ : ∃ f : Int, 0 ≤ f ∧ (rowAt f).script ≤ 1 ∧ f = if z.script > 1 then 769 else z.fr := by
    by_cases h : z.script > 1
    · exact ⟨769, by omega, row_301, by rw [if_pos h]⟩
    · exact ⟨z.fr, hz0, by rw [rowAt_tab hz (Int.le_refl _) (tab_le hz)]; omega, by rw [if_neg h]⟩
  have hlv := level_pair x.fr f y.to hx0 hf0 hy0 hfs
  rw [hxr, hyr] at hlv
  have hlp := level_pure [x.fr, f, y.to] (by simp)
  have hcp := check_pure [x.fr, f, y.to] (by simp)
  have hck : levelOf [x.fr, f, y.to] = 4 → checkOf [x.fr, f, y.to] = 13 := fun h => by unfold checkOf; rw [if_pos h]
  generalize levelOf [x.fr, f, y.to] = lv at hlv hlp hck
  generalize checkOf [x.fr, f, y.to] = ck at hck hcp
  have emin : (if y.script < x.script then y.script else x.script) = lo x.script y.script := rfl
  have emax : (if x.script < y.script then y.script else x.script) = hi x.script y.script := rfl
  generalize lo x.script y.script = A at hlv emin
  generalize hi x.script y.script = B at hlv emax
  refine awp_cut (fun s' => ∃ sl c2, s' = ⟨sl, [(0, x.cells.map .lit), (1, y.cells.map .lit), (2, .lit (.int .i32 f) :: c2)], [], 3⟩ ∧ Ab.look sl 8 = some (.bp 0 0) ∧ Ab.look sl 9 = some (.bp 1 0) ∧ Ab.look sl 10 = some (.bp 2 0)) ?_ ?_
  · cases hzs : decide (z.script > 1)
    · have hff' : f = z.fr := by rw [hff, if_neg (by simpa using hzs)]
      subst hff'
      simp only [go_sem, Nat.reduceAdd, Nat.reduceEqDiff, Nat.reduceLT, reduceIte, reduceCtorEq, Nat.reduceBEq, Int.reduceLT, Int.reduceToNat, Int.reducePow, Nat.reduceLeDiff, Int.reduceLE, Nat.reduceMul, Nat.reduceSub, hzs, Row.cells, List.map_cons, List.map_nil]
      exact ⟨_, _, rfl, rfl, rfl, rfl⟩
    · have hff' : f = 769 := by rw [hff, if_pos (by simpa using hzs)]
      subst hff'
      simp only [go_sem, Nat.reduceAdd, Nat.reduceEqDiff, Nat.reduceLT, reduceIte, reduceCtorEq, Nat.reduceBEq, Int.reduceLT, Int.reduceToNat, Int.reducePow, Nat.reduceLeDiff, Int.reduceLE, Nat.reduceMul, Nat.reduceSub, hzs, Row.cells, List.map_cons, List.map_nil]
      exact ⟨_, _, rfl, rfl, rfl, rfl⟩
  rintro _ ⟨sl1, c2, rfl, h8, h9, h10⟩
  refine awp_cut (fun s' => ∃ sl, s' = ⟨sl, [(0, x.cells.map .lit), (1, y.cells.map .lit), (2, .lit (.int .i32 f) :: c2)], [(3, 21)], 4⟩ ∧ Ab.look sl 8 = some (.bp 0 0) ∧ Ab.look sl 9 = some (.bp 1 0) ∧ Ab.look sl 10 = some (.bp 2 0) ∧ Ab.look sl 11 = some (.sl 21 [[.int .i32 x.fr], [.int .i32 f], [.int .i32 y.to]] (some 3))) ?_ ?_
  · simp only [go_sem, Nat.reduceAdd, Nat.reduceEqDiff, Nat.reduceLT, reduceIte, reduceCtorEq, Nat.reduceBEq, Int.reduceLT, Int.reduceToNat, Int.reducePow, Nat.reduceLeDiff, Int.reduceLE, Nat.reduceMul, Nat.reduceSub, h8, h9, h10, Row.cells, List.map_cons, List.map_nil]
    exact ⟨_, rfl, h8, h9, h10, rfl⟩
  clear h8 h9 h10
  rintro _ ⟨sl2, rfl, h8, h9, h10, h11⟩
  refine awp_cut (fun s' => ∃ sl, s' = ⟨sl, [(0, x.cells.map .lit), (1, y.cells.map .lit), (2, .lit (.int .i32 f) :: c2)], [(3, 21)], 4⟩ ∧ Ab.look sl 8 = some (.bp 0 0) ∧ Ab.look sl 9 = some (.bp 1 0) ∧ Ab.look sl 10 = some (.bp 2 0) ∧ Ab.look sl 11 = some (.sl 21 [[.int .i32 x.fr], [.int .i32 f], [.int .i32 y.to]] (some 3)) ∧ Ab.look sl 12 = some (.lit (.int .u8 lv))) ?_ ?_
  · simp only [go_sem, Nat.reduceAdd, Nat.reduceEqDiff, Nat.reduceLT, reduceIte, reduceCtorEq, Nat.reduceBEq, Int.reduceLT, Int.reduceToNat, Int.reducePow, Nat.reduceLeDiff, Int.reduceLE, Nat.reduceMul, Nat.reduceSub, h11]
    refine callGo_pure hlp (by rfl) ?_
    simp only [go_sem, Nat.reduceAdd, Nat.reduceEqDiff, Nat.reduceLT, reduceIte, reduceCtorEq, Nat.reduceBEq, Int.reduceLT, Int.reduceToNat, Int.reducePow, Nat.reduceLeDiff, Int.reduceLE, Nat.reduceMul, Nat.reduceSub]
    exact ⟨_, rfl, h8, h9, h10, h11, rfl⟩
  clear h8 h9 h10 h11
  rintro _ ⟨sl3, rfl, h8, h9, h10, h11, h12⟩
  refine awp_cut (fun s' => ∃ sl, s' = ⟨sl, [(0, x.cells.map .lit), (1, y.cells.map .lit), (2, .lit (.int .i32 f) :: c2)], [(3, 21)], 4⟩ ∧ Ab.look sl 8 = some (.bp 0 0) ∧ Ab.look sl 9 = some (.bp 1 0) ∧ Ab.look sl 11 = some (.sl 21 [[.int .i32 x.fr], [.int .i32 f], [.int .i32 y.to]] (some 3)) ∧ Ab.look sl 12 = some (.lit (.int .u8 lv)) ∧ Ab.look sl 13 = some (.lit (.bool (asciiP x.fr y.to f)))) ?_ ?_
  · clear hlv hff hck emin emax
    unfold asciiP
    cases a1 : decide (x.fr < 128)
    case' true => cases a2 : decide (y.to < 128)
    case' true.true => cases a3 : decide (f < 128)
    all_goals
      simp only [go_sem, Nat.reduceAdd, Nat.reduceEqDiff, Nat.reduceLT, reduceIte, reduceCtorEq, Nat.reduceBEq, Int.reduceLT, Int.reduceToNat, Int.reducePow, Nat.reduceLeDiff, Int.reduceLE, Nat.reduceMul, Nat.reduceSub, h8, h9, h10, Row.cells, List.map_cons, List.map_nil, *]
      exact ⟨_, rfl, h8, h9, h11, h12, rfl⟩
  clear h8 h9 h10 h11 h12
  rintro _ ⟨sl4, rfl, h8, h9, h11, h12, h13⟩
  generalize asciiP x.fr y.to f = asc at hlv h13
  refine awp_cut (fun s' => ∃ sl bx tp nx, s' = ⟨sl, bx, tp, nx⟩ ∧ Ab.look sl 11 = some (.sl 21 [[.int .i32 x.fr], [.int .i32 f], [.int .i32 y.to]] (some 3)) ∧ Ab.look sl 12 = some (.lit (.int .u8 lv)) ∧ Ab.look sl 13 = some (.lit (.bool asc)) ∧ Ab.look sl 14 = some (.lit (.int .u8 A)) ∧ Ab.look sl 15 = some (.lit (.int .u8 B))) ?_ ?_
  · simp only [go_sem, Nat.reduceAdd, Nat.reduceEqDiff, Nat.reduceLT, reduceIte, reduceCtorEq, Nat.reduceBEq, Int.reduceLT, Int.reduceToNat, Int.reducePow, Nat.reduceLeDiff, Int.reduceLE, Nat.reduceMul, Nat.reduceSub, h8, h9, Row.cells, List.map_cons, List.map_nil, emin, emax]
    exact ⟨_, _, _, _, rfl, h11, h12, h13, rfl, rfl⟩
  clear h8 h9 h11 h12 h13
  rintro _ ⟨sl5, bx5, tp5, nx5, rfl, h11, h12, h13, h14, h15⟩
  refine awp_cut (fun s' => ∃ sl, s' = ⟨sl, bx5, tp5, nx5⟩ ∧ Ab.look sl 11 = some (.sl 21 [[.int .i32 x.fr], [.int .i32 f], [.int .i32 y.to]] (some 3)) ∧ Ab.look sl 12 = some (.lit (.int .u8 lv)) ∧ Ab.look sl 13 = some (.lit (.bool asc)) ∧ Ab.look sl 14 = some (.lit (.int .u8 A)) ∧ Ab.look sl 15 = some (.lit (.int .u8 B)) ∧ Ab.look sl 16 = some (.lit (.bool (A == B || (decide (A ≤ 1) || ((decide (A ≥ 8) && decide (B ≤ 10)) || (A == 8 && B == 11))))))) ?_ ?_
  · clear hlv hff hck emin emax
    cases k1 : A == B
    case' false => cases k2 : decide (A ≤ 1)
    case' false.false => cases k3 : decide (A ≥ 8)
    case' false.false.true => cases k4 : decide (B ≤ 10)
    case' false.false.false => cases k5 : A == 8
    case' false.false.true.false => cases k5 : A == 8
    case' false.false.false.true => cases k6 : B == 11
    case' false.false.true.false.true => cases k6 : B == 11
    all_goals
      simp only [go_sem, Nat.reduceAdd, Nat.reduceEqDiff, Nat.reduceLT, reduceIte, reduceCtorEq, Nat.reduceBEq, Int.reduceLT, Int.reduceToNat, Int.reducePow, Nat.reduceLeDiff, Int.reduceLE, Nat.reduceMul, Nat.reduceSub, h14, h15, *]
      exact ⟨_, rfl, h11, h12, h13, h14, h15, rfl⟩
  clear h11 h12 h13 h14 h15
  rintro _ ⟨sl6, rfl, h11, h12, h13, h14, h15, h16⟩
  refine awp_cut (fun s' => ∃ sl, s' = ⟨sl, bx5, tp5, nx5⟩ ∧ Ab.look sl 11 = some (.sl 21 [[.int .i32 x.fr], [.int .i32 f], [.int .i32 y.to]] (some 3)) ∧ Ab.look sl 12 = some (.lit (.int .u8 lv)) ∧ Ab.look sl 13 = some (.lit (.bool asc)) ∧ Ab.look sl 16 = some (.lit (.bool (A == B || (decide (A ≤ 1) || ((decide (A ≥ 8) && decide (B ≤ 10)) || (A == 8 && B == 11)))))) ∧ Ab.look sl 17 = some (.lit (.bool (A == 2 && decide (B ≥ 8))))) ?_ ?_
  · cases k1 : A == 2
    case' true => cases k2 : decide (B ≥ 8)
    all_goals
      simp only [go_sem, Nat.reduceAdd, Nat.reduceEqDiff, Nat.reduceLT, reduceIte, reduceCtorEq, Nat.reduceBEq, Int.reduceLT, Int.reduceToNat, Int.reducePow, Nat.reduceLeDiff, Int.reduceLE, Nat.reduceMul, Nat.reduceSub, h14, h15, k1]
      try simp only [go_sem, Nat.reduceAdd, Nat.reduceEqDiff, Nat.reduceLT, reduceIte, reduceCtorEq, Nat.reduceBEq, Int.reduceLT, Int.reduceToNat, Int.reducePow, Nat.reduceLeDiff, Int.reduceLE, Nat.reduceMul, Nat.reduceSub, k2]
      exact ⟨_, rfl, h11, h12, h13, h16, rfl⟩
  clear h11 h12 h13 h14 h15 h16
  rintro _ ⟨sl7, rfl, h11, h12, h13, h16, h17⟩
  unfold wantLv at hlv
  generalize (A == B || (decide (A ≤ 1) || ((decide (A ≥ 8) && decide (B ≤ 10)) || (A == 8 && B == 11)))) = one at hlv h16
  generalize (A == 2 && decide (B ≥ 8)) = few at hlv h17
  cases asc
  case' false => cases one
  case' false.false => cases few
  all_goals
    simp only [reduceCtorEq, if_true, if_false] at hlv
    subst hlv
    simp only [go_sem, Nat.reduceAdd, Nat.reduceEqDiff, Nat.reduceLT, reduceIte, reduceCtorEq, Nat.reduceBEq, Int.reduceLT, Int.reduceToNat, Int.reducePow, Nat.reduceLeDiff, Int.reduceLE, Nat.reduceMul, Nat.reduceSub, h11, h12, h13, h16, h17, Int.reduceBEq]
    first
    | (refine callGo_pure awake10_pure (by rfl) ?_
       simp only [go_sem, Nat.reduceAdd, Nat.reduceEqDiff, Nat.reduceLT, reduceIte, reduceCtorEq, Nat.reduceBEq, Int.reduceLT, Int.reduceToNat, Int.reducePow, Nat.reduceLeDiff, Int.reduceLE, Nat.reduceMul, Nat.reduceSub]
       simp only [Done, resAV, resL, resOne, look_nil, look_cons, Nat.reduceEqDiff, if_true, if_false, reduceIte, ite_true, ite_false, Nat.zero_ne_one, Nat.one_ne_zero, reduceCtorEq, true_or, or_true, true_and, Option.some.injEq, AV.lit.injEq, Value.int.injEq, Value.bool.injEq])
    | (have hck' := hck rfl
       subst hck'
       refine callGo_pure hcp (by rfl) ?_
       simp only [go_sem, Nat.reduceAdd, Nat.reduceEqDiff, Nat.reduceLT, reduceIte, reduceCtorEq, Nat.reduceBEq, Int.reduceLT, Int.reduceToNat, Int.reducePow, Nat.reduceLeDiff, Int.reduceLE, Nat.reduceMul, Nat.reduceSub, Int.reduceBEq]
       refine callGo_pure awake10_pure (by rfl) ?_
       simp only [go_sem, Nat.reduceAdd, Nat.reduceEqDiff, Nat.reduceLT, reduceIte, reduceCtorEq, Nat.reduceBEq, Int.reduceLT, Int.reduceToNat, Int.reducePow, Nat.reduceLeDiff, Int.reduceLE, Nat.reduceMul, Nat.reduceSub]
       simp only [Done, resAV, resL, resOne, look_nil, look_cons, Nat.reduceEqDiff, if_true, if_false, reduceIte, ite_true, ite_false, Nat.zero_ne_one, Nat.one_ne_zero, reduceCtorEq, true_or, or_true, true_and, Option.some.injEq, AV.lit.injEq, Value.int.injEq, Value.bool.injEq])
theorem mixedPairs_any (avs : List AV) (h : Args Try.prog Try.f16.params.toList avs) : Pure Try.prog 16 avs [] (.lit (.bool true)) := by
  have hp : Try.f16.params.toList = [5, 5, 5] := by kernel_rfl
  rw [hp] at h
  obtain ⟨av0, rest0, rfl, a0, h0⟩ := h
  obtain ⟨av1, rest1, rfl, a1, h1⟩ := h0
  obtain ⟨av2, rest2, rfl, a2, rfl⟩ := h1
  obtain ⟨z0, rfl, w0⟩ := arg_int (k := .u8) (by kernel_rfl) a0
  obtain ⟨z1, rfl, w1⟩ := arg_int (k := .u8) (by kernel_rfl) a1
  obtain ⟨z2, rfl, w2⟩ := arg_int (k := .u8) (by kernel_rfl) a2
  exact mixedPairs_pure z0 (by simpa [Lit.wf, IntKind.min, IntKind.max, IntKind.signed, IntKind.bits] using w0) z1 (by simpa [Lit.wf, IntKind.min, IntKind.max, IntKind.signed, IntKind.bits] using w1) z2 (by simpa [Lit.wf, IntKind.min, IntKind.max, IntKind.signed, IntKind.bits] using w2)

set_option maxRecDepth 100000 in
theorem mixedPairs_lifted (os : Os) (started : os.Started) (H : Type) (enc : TypeId × Value → H) :
    ReturnsInHanded {} Try.checked os 16 .any (Rows.mixedPairsSpec.pre6 enc Try.prog Try.f16 Rows.mixedPairsRow.domain false) (Rows.mixedPairsSpec.post enc Try.prog Try.f16 false true false false) := by
  refine law_returns (C := Try.checked) (tb := 4) (by kernel_rfl) started (by kernel_rfl) Try.func16
    (ChangeSpec.witness6 (enc := enc) (C := Try.checked) false ⟨#[], #[.int .u8 0, .int .u8 0, .int .u8 0], []⟩ 8 (by kernel_rfl) (by kernel_rfl) (by kernel_rfl) (by kernel_rfl))
    (by kernel_rfl) (by kernel_rfl) rfl rfl (by kernel_rfl) (by kernel_rfl) ?_ mixedPairs_any
  intro ds hds
  have hp : Try.f16.params.toList = [5, 5, 5] := by kernel_rfl
  rw [hp] at hds
  match ds, hds with
  | [d0, d1, d2], _ => exact ⟨rfl, rfl, rfl⟩

theorem mixedPairs_holds : Rows.MixedPairsSaid :=
  OpenClaim.holds_of_wide 16 Try.f16 rfl rfl rfl rfl rfl rfl rfl ⟨rfl, rfl, rfl, rfl, rfl⟩ rfl rfl rfl rfl rfl (by kernel_rfl) Try.func16 (by kernel_rfl)
    (of_decide_eq_true (by kernel_rfl)) (by unfold Func.isWrapper; first | (rw [if_pos (by decide +kernel)]; kernel_rfl) | (rw [if_neg (by decide +kernel)]; exact ⟨rfl, rfl⟩))
    (fun os started H enc _ => mixedPairs_lifted os started H enc)
end Go.Proofs.Ytocaeclhmkojiaa
