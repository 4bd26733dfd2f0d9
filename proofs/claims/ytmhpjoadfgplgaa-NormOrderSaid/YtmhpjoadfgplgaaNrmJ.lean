/-
What two code points make, on both sides. Conditions: none.
-/
import Derived.Test.YtmhpjoadfgplgaaNrmZ
set_option linter.unusedSimpArgs false
set_option linter.unusedVariables false
set_option linter.unusedSectionVars false
namespace Go.Proofs.Ytmhpjoadfgplgaa
open Go Go.Ab
def a66 : ACode :=
  (.seq (.reg [⟨(.some 0), (.mv (.k (.map .none))), .none⟩]) (.seq (.reg [⟨(.some 4), (.xe .mkm []), .none⟩, ⟨(.some 1), (.mv (.t 4)), .none⟩]) (.seq (.seq (.reg [⟨(.some 5), (.call (.f 60) []), .none⟩,
  ⟨(.some 6), (.len (.t 5)), .none⟩, ⟨(.some 7), (.mv (.k (.int .i64 0))), .none⟩]) (.block 0 (.loop (.seq (.reg [⟨(.some 8), (.bin .lss (.t 7) (.t 6)), .none⟩]) (.seq (.cond (.t 8) .skip (.exit 0))
  (.seq (.block 1 (.seq (.reg [⟨(.some 9), (.ia 93 (.t 5) (.t 7)), .none⟩, ⟨(.some 10), (.ld (.some 3) (.t 9)), .none⟩, ⟨(.some 3), (.alc 93 [(.int .i32 0), (.int .i32 0), (.int .i32 0)]), .none⟩,
  ⟨.none, (.st 3 (.t 3) (.t 10)), .none⟩]) (.reg [⟨(.some 11), (.mv (.t 1)), .none⟩, ⟨(.some 12), (.iaA 3 1 (.t 3) (.k (.int .i64 1))), .none⟩, ⟨(.some 13), (.ld .none (.t 12)), .none⟩, ⟨(.some 14),
  (.iaA 3 1 (.t 3) (.k (.int .i64 2))), .none⟩, ⟨(.some 15), (.ld .none (.t 14)), .none⟩, ⟨(.some 16), (.bd [(.int .i32 0), (.int .i32 0)] [(0, (1, (.t 13))), (1, (1, (.t 15)))]), .none⟩, ⟨(.some 17),
  (.iaA 3 1 (.t 3) (.k (.int .i64 0))), .none⟩, ⟨(.some 18), (.ld .none (.t 17)), .none⟩, ⟨.none, (.xe (.mupS [.int, .int]) [(.t 11), (.t 16), (.t 18)]), .none⟩]))) (.reg [⟨(.some 19), (.bin .add (.t 7)
  (.k (.int .i64 1))), .none⟩, ⟨(.some 7), (.mv (.t 19)), .none⟩]))))))) (.seq (.reg [⟨(.some 20), (.mv (.t 1)), .none⟩, ⟨(.some 0), (.mv (.t 20)), .none⟩]) .ret))))
theorem c66 : Try.f66.body.bind (cCode Try.prog 21) = some a66 := by kernel_rfl
theorem r66 : Try.f66.results.toList = [(.tmp 0)] := by kernel_rfl
theorem n66 : Try.f66.ntmps = 21 := by kernel_rfl
theorem e66 : Enters Try.prog 66 := enters_of Try.func66 (by kernel_rfl) (by kernel_rfl)
def a67 : ACode :=
  (.seq (.reg [⟨(.some 2), (.box 104 (.t 0)), .none⟩, ⟨(.some 4), (.mv (.k (.int .i32 0))), .none⟩, ⟨(.some 5), (.mv (.k (.bool false))), .none⟩]) (.seq (.seq (.reg [⟨(.some 9), (.ld (.some 2) (.t 2)),
  .none⟩, ⟨(.some 10), (.call (.f 93) [(.t 9)]), .none⟩, ⟨(.some 6), (.mv (.t 10)), .none⟩]) (.seq (.reg [⟨(.some 11), (.mv (.t 6)), .none⟩, ⟨(.some 12), (.bin .gtr (.t 11) (.k (.int .i32 0))), .none⟩])
  (.cond (.t 12) (.seq (.reg [⟨(.some 13), (.mv (.t 6)), .none⟩, ⟨(.some 4), (.mv (.t 13)), .none⟩, ⟨(.some 5), (.mv (.k (.bool true))), .none⟩]) .ret) .skip))) (.seq (.reg [⟨(.some 15), (.mv (.t 1)),
  .none⟩, ⟨(.some 16), (.ld (.some 2) (.t 2)), .none⟩, ⟨(.some 17), (.xv (.lkpS [.int, .int] true (.int .i32 0)) [(.t 15), (.t 16)]), .none⟩, ⟨(.some 14), (.mv (.t 17)), .none⟩, ⟨(.some 18), (.ext (.t
  14) 0), .none⟩, ⟨(.some 19), (.ext (.t 14) 1), .none⟩, ⟨(.some 7), (.mv (.t 18)), .none⟩, ⟨(.some 8), (.mv (.t 19)), .none⟩]) (.seq (.reg [⟨(.some 20), (.mv (.t 7)), .none⟩, ⟨(.some 21), (.mv (.t 8)),
  .none⟩, ⟨(.some 4), (.mv (.t 20)), .none⟩, ⟨(.some 5), (.mv (.t 21)), .none⟩]) .ret))))
theorem c67 : Try.f67.body.bind (cCode Try.prog 22) = some a67 := by kernel_rfl
theorem r67 : Try.f67.results.toList = [(.tmp 4), (.tmp 5)] := by kernel_rfl
theorem n67 : Try.f67.ntmps = 22 := by kernel_rfl
theorem e67 : Enters Try.prog 67 := enters_of Try.func67 (by kernel_rfl) (by kernel_rfl)
def a93_3 : ACode :=
  (.seq (.dreg [⟨(.some 33), (.fa 0 (.t 1)), .none⟩, ⟨(.some 34), (.ld .none (.t 33)), .none⟩, ⟨(.some 35), (.bin .sub (.t 34) (.k (.int .i32 44032))), .none⟩, ⟨(.some 36), (.fa 1 (.t 1)), .none⟩,
  ⟨(.some 37), (.ld .none (.t 36)), .none⟩, ⟨(.some 38), (.bin .sub (.t 37) (.k (.int .i32 4519))), .none⟩, ⟨(.some 5), (.mv (.t 35)), .none⟩, ⟨(.some 6), (.mv (.t 38)), .none⟩]) (.seq (.seq (.reg
  [⟨(.some 39), (.mv (.t 5)), .none⟩, ⟨(.some 40), (.bin .geq (.t 39) (.k (.int .i32 0))), .none⟩, ⟨(.some 41), (.mv (.t 40)), .none⟩, ⟨(.some 42), (.mv (.t 5)), (.some (41, true))⟩, ⟨(.some 43), (.bin
  .lss (.t 42) (.k (.int .i32 11172))), (.some (41, true))⟩, ⟨(.some 44), (.pick (.t 41) (.t 43) (.k (.bool false))), .none⟩, ⟨(.some 45), (.mv (.t 44)), .none⟩, ⟨(.some 46), (.mv (.t 5)), (.some (45,
  true))⟩, ⟨(.some 47), (.bin .rem (.t 46) (.k (.int .i32 28))), (.some (45, true))⟩, ⟨(.some 48), (.bin .eql (.t 47) (.k (.int .i32 0))), (.some (45, true))⟩, ⟨(.some 49), (.pick (.t 45) (.t 48) (.k
  (.bool false))), .none⟩, ⟨(.some 50), (.mv (.t 49)), .none⟩, ⟨(.some 51), (.mv (.t 6)), (.some (50, true))⟩, ⟨(.some 52), (.bin .gtr (.t 51) (.k (.int .i32 0))), (.some (50, true))⟩, ⟨(.some 53),
  (.pick (.t 50) (.t 52) (.k (.bool false))), .none⟩, ⟨(.some 54), (.mv (.t 53)), .none⟩, ⟨(.some 55), (.mv (.t 6)), (.some (54, true))⟩, ⟨(.some 56), (.bin .lss (.t 55) (.k (.int .i32 28))), (.some
  (54, true))⟩, ⟨(.some 57), (.pick (.t 54) (.t 56) (.k (.bool false))), .none⟩]) (.cond (.t 57) (.seq (.reg [⟨(.some 58), (.fa 0 (.t 1)), .none⟩, ⟨(.some 59), (.ld .none (.t 58)), .none⟩, ⟨(.some 60),
  (.mv (.t 6)), .none⟩, ⟨(.some 61), (.bin .add (.t 59) (.t 60)), .none⟩, ⟨(.some 2), (.mv (.t 61)), .none⟩]) .ret) .skip)) (.seq (.reg [⟨(.some 2), (.mv (.k (.int .i32 0))), .none⟩]) .ret)))
def a93 : ACode :=
  (.seq (.reg [⟨(.some 1), (.box 104 (.t 0)), .none⟩, ⟨(.some 2), (.mv (.k (.int .i32 0))), .none⟩]) (.seq (.dreg [⟨(.some 7), (.fa 0 (.t 1)), .none⟩, ⟨(.some 8), (.ld .none (.t 7)), .none⟩, ⟨(.some 9),
  (.bin .sub (.t 8) (.k (.int .i32 4352))), .none⟩, ⟨(.some 10), (.fa 1 (.t 1)), .none⟩, ⟨(.some 11), (.ld .none (.t 10)), .none⟩, ⟨(.some 12), (.bin .sub (.t 11) (.k (.int .i32 4449))), .none⟩, ⟨(.some
  3), (.mv (.t 9)), .none⟩, ⟨(.some 4), (.mv (.t 12)), .none⟩]) (.seq (.seq (.reg [⟨(.some 13), (.mv (.t 3)), .none⟩, ⟨(.some 14), (.bin .geq (.t 13) (.k (.int .i32 0))), .none⟩, ⟨(.some 15), (.mv (.t
  14)), .none⟩, ⟨(.some 16), (.mv (.t 3)), (.some (15, true))⟩, ⟨(.some 17), (.bin .lss (.t 16) (.k (.int .i32 19))), (.some (15, true))⟩, ⟨(.some 18), (.pick (.t 15) (.t 17) (.k (.bool false))),
  .none⟩, ⟨(.some 19), (.mv (.t 18)), .none⟩, ⟨(.some 20), (.mv (.t 4)), (.some (19, true))⟩, ⟨(.some 21), (.bin .geq (.t 20) (.k (.int .i32 0))), (.some (19, true))⟩, ⟨(.some 22), (.pick (.t 19) (.t
  21) (.k (.bool false))), .none⟩, ⟨(.some 23), (.mv (.t 22)), .none⟩, ⟨(.some 24), (.mv (.t 4)), (.some (23, true))⟩, ⟨(.some 25), (.bin .lss (.t 24) (.k (.int .i32 21))), (.some (23, true))⟩, ⟨(.some
  26), (.pick (.t 23) (.t 25) (.k (.bool false))), .none⟩]) (.cond (.t 26) (.seq (.reg [⟨(.some 27), (.mv (.t 3)), .none⟩, ⟨(.some 28), (.bin .mul (.t 27) (.k (.int .i32 21))), .none⟩, ⟨(.some 29), (.mv
  (.t 4)), .none⟩, ⟨(.some 30), (.bin .add (.t 28) (.t 29)), .none⟩, ⟨(.some 31), (.bin .mul (.t 30) (.k (.int .i32 28))), .none⟩, ⟨(.some 32), (.bin .add (.k (.int .i32 44032)) (.t 31)), .none⟩,
  ⟨(.some 2), (.mv (.t 32)), .none⟩]) .ret) .skip)) a93_3)))
theorem c93 : Try.f93.body.bind (cCode Try.prog 62) = some a93 := by kernel_rfl
theorem r93 : Try.f93.results.toList = [(.tmp 2)] := by kernel_rfl
theorem n93 : Try.f93.ntmps = 62 := by kernel_rfl
theorem e93 : Enters Try.prog 93 := enters_of Try.func93 (by kernel_rfl) (by kernel_rfl)
def a29 : ACode :=
  (.seq (.reg [⟨(.some 4), (.mv (.k (.int .i32 0))), .none⟩, ⟨(.some 5), (.mv (.k (.bool false))), .none⟩]) (.seq (.reg [⟨(.some 6), (.mv (.t 0)), .none⟩, ⟨(.some 7), (.mv (.t 1)), .none⟩, ⟨(.some 8),
  (.bd [(.int .i32 0), (.int .i32 0)] [(0, (1, (.t 6))), (1, (1, (.t 7)))]), .none⟩, ⟨(.some 9), (.call (.f 66) []), .none⟩, ⟨(.some 10), (.call (.f 67) [(.t 8), (.t 9)]), .none⟩, ⟨(.some 11), (.ext (.t
  10) 0), .none⟩, ⟨(.some 12), (.ext (.t 10) 1), .none⟩, ⟨(.some 4), (.mv (.t 11)), .none⟩, ⟨(.some 5), (.mv (.t 12)), .none⟩]) .ret))
theorem c29 : Try.f29.body.bind (cCode Try.prog 13) = some a29 := by kernel_rfl
theorem r29 : Try.f29.results.toList = [(.tmp 4), (.tmp 5)] := by kernel_rfl
theorem n29 : Try.f29.ntmps = 13 := by kernel_rfl
theorem e29 : Enters Try.prog 29 := enters_of Try.func29 (by kernel_rfl) (by kernel_rfl)
def a30_3 : ACode :=
  (.seq (.reg [⟨(.some 54), (.call (.f 68) []), .none⟩, ⟨(.some 6), (.mv (.t 54)), .none⟩]) (.seq (.seq (.reg [⟨(.some 7), (.mv (.k (.int .i64 0))), .none⟩]) (.block 0 (.loop (.seq (.seq (.reg [⟨(.some
  55), (.mv (.t 7)), .none⟩, ⟨(.some 56), (.mv (.t 6)), .none⟩, ⟨(.some 57), (.len (.t 56)), .none⟩, ⟨(.some 58), (.bin .lss (.t 55) (.t 57)), .none⟩]) (.cond (.t 58) .skip (.exit 0))) (.seq (.block 1
  (.seq (.reg [⟨(.some 61), (.mv (.t 6)), .none⟩, ⟨(.some 62), (.mv (.t 7)), .none⟩, ⟨(.some 63), (.ia 93 (.t 61) (.t 62)), .none⟩, ⟨(.some 64), (.iaA 3 1 (.t 63) (.k (.int .i64 1))), .none⟩, ⟨(.some
  65), (.ld .none (.t 64)), .none⟩, ⟨(.some 66), (.mv (.t 0)), .none⟩, ⟨(.some 67), (.bin .eql (.t 65) (.t 66)), .none⟩, ⟨(.some 68), (.mv (.t 67)), .none⟩, ⟨(.some 69), (.mv (.t 6)), (.some (68,
  true))⟩, ⟨(.some 70), (.mv (.t 7)), (.some (68, true))⟩, ⟨(.some 71), (.ia 93 (.t 69) (.t 70)), (.some (68, true))⟩, ⟨(.some 72), (.iaA 3 1 (.t 71) (.k (.int .i64 2))), (.some (68, true))⟩, ⟨(.some
  73), (.ld .none (.t 72)), (.some (68, true))⟩, ⟨(.some 74), (.mv (.t 1)), (.some (68, true))⟩, ⟨(.some 75), (.bin .eql (.t 73) (.t 74)), (.some (68, true))⟩, ⟨(.some 76), (.pick (.t 68) (.t 75) (.k
  (.bool false))), .none⟩]) (.cond (.t 76) (.seq (.reg [⟨(.some 77), (.mv (.t 6)), .none⟩, ⟨(.some 78), (.mv (.t 7)), .none⟩, ⟨(.some 79), (.ia 93 (.t 77) (.t 78)), .none⟩, ⟨(.some 80), (.iaA 3 1 (.t
  79) (.k (.int .i64 0))), .none⟩, ⟨(.some 81), (.ld .none (.t 80)), .none⟩, ⟨(.some 4), (.mv (.t 81)), .none⟩, ⟨(.some 5), (.mv (.k (.bool true))), .none⟩]) .ret) .skip))) (.reg [⟨(.some 59), (.mv (.t
  7)), .none⟩, ⟨(.some 60), (.bin .add (.t 59) (.k (.int .i64 1))), .none⟩, ⟨(.some 7), (.mv (.t 60)), .none⟩])))))) (.seq (.reg [⟨(.some 4), (.mv (.k (.int .i32 0))), .none⟩, ⟨(.some 5), (.mv (.k
  (.bool false))), .none⟩]) .ret)))
def a30_2 : ACode :=
  (.seq (.seq (.reg [⟨(.some 30), (.mv (.t 0)), .none⟩, ⟨(.some 31), (.bin .geq (.t 30) (.k (.int .i32 44032))), .none⟩, ⟨(.some 32), (.mv (.t 31)), .none⟩, ⟨(.some 33), (.mv (.t 0)), (.some (32,
  true))⟩, ⟨(.some 34), (.bin .leq (.t 33) (.k (.int .i32 55203))), (.some (32, true))⟩, ⟨(.some 35), (.pick (.t 32) (.t 34) (.k (.bool false))), .none⟩, ⟨(.some 36), (.mv (.t 35)), .none⟩, ⟨(.some 37),
  (.mv (.t 0)), (.some (36, true))⟩, ⟨(.some 38), (.bin .sub (.t 37) (.k (.int .i32 44032))), (.some (36, true))⟩, ⟨(.some 39), (.bin .rem (.t 38) (.k (.int .i32 28))), (.some (36, true))⟩, ⟨(.some 40),
  (.bin .eql (.t 39) (.k (.int .i32 0))), (.some (36, true))⟩, ⟨(.some 41), (.pick (.t 36) (.t 40) (.k (.bool false))), .none⟩, ⟨(.some 42), (.mv (.t 41)), .none⟩, ⟨(.some 43), (.mv (.t 1)), (.some (42,
  true))⟩, ⟨(.some 44), (.bin .geq (.t 43) (.k (.int .i32 4520))), (.some (42, true))⟩, ⟨(.some 45), (.pick (.t 42) (.t 44) (.k (.bool false))), .none⟩, ⟨(.some 46), (.mv (.t 45)), .none⟩, ⟨(.some 47),
  (.mv (.t 1)), (.some (46, true))⟩, ⟨(.some 48), (.bin .leq (.t 47) (.k (.int .i32 4546))), (.some (46, true))⟩, ⟨(.some 49), (.pick (.t 46) (.t 48) (.k (.bool false))), .none⟩]) (.cond (.t 49) (.seq
  (.reg [⟨(.some 50), (.mv (.t 0)), .none⟩, ⟨(.some 51), (.mv (.t 1)), .none⟩, ⟨(.some 52), (.bin .add (.t 50) (.t 51)), .none⟩, ⟨(.some 53), (.bin .sub (.t 52) (.k (.int .i32 4519))), .none⟩, ⟨(.some
  4), (.mv (.t 53)), .none⟩, ⟨(.some 5), (.mv (.k (.bool true))), .none⟩]) .ret) .skip)) a30_3)
def a30 : ACode :=
  (.seq (.reg [⟨(.some 4), (.mv (.k (.int .i32 0))), .none⟩, ⟨(.some 5), (.mv (.k (.bool false))), .none⟩]) (.seq (.seq (.reg [⟨(.some 8), (.mv (.t 0)), .none⟩, ⟨(.some 9), (.bin .geq (.t 8) (.k (.int
  .i32 4352))), .none⟩, ⟨(.some 10), (.mv (.t 9)), .none⟩, ⟨(.some 11), (.mv (.t 0)), (.some (10, true))⟩, ⟨(.some 12), (.bin .leq (.t 11) (.k (.int .i32 4370))), (.some (10, true))⟩, ⟨(.some 13),
  (.pick (.t 10) (.t 12) (.k (.bool false))), .none⟩, ⟨(.some 14), (.mv (.t 13)), .none⟩, ⟨(.some 15), (.mv (.t 1)), (.some (14, true))⟩, ⟨(.some 16), (.bin .geq (.t 15) (.k (.int .i32 4449))), (.some
  (14, true))⟩, ⟨(.some 17), (.pick (.t 14) (.t 16) (.k (.bool false))), .none⟩, ⟨(.some 18), (.mv (.t 17)), .none⟩, ⟨(.some 19), (.mv (.t 1)), (.some (18, true))⟩, ⟨(.some 20), (.bin .leq (.t 19) (.k
  (.int .i32 4469))), (.some (18, true))⟩, ⟨(.some 21), (.pick (.t 18) (.t 20) (.k (.bool false))), .none⟩]) (.cond (.t 21) (.seq (.reg [⟨(.some 22), (.mv (.t 0)), .none⟩, ⟨(.some 23), (.bin .sub (.t
  22) (.k (.int .i32 4352))), .none⟩, ⟨(.some 24), (.bin .mul (.t 23) (.k (.int .i32 21))), .none⟩, ⟨(.some 25), (.mv (.t 1)), .none⟩, ⟨(.some 26), (.bin .add (.t 24) (.t 25)), .none⟩, ⟨(.some 27),
  (.bin .sub (.t 26) (.k (.int .i32 4449))), .none⟩, ⟨(.some 28), (.bin .mul (.t 27) (.k (.int .i32 28))), .none⟩, ⟨(.some 29), (.bin .add (.k (.int .i32 44032)) (.t 28)), .none⟩, ⟨(.some 4), (.mv (.t
  29)), .none⟩, ⟨(.some 5), (.mv (.k (.bool true))), .none⟩]) .ret) .skip)) a30_2))
theorem c30 : Try.f30.body.bind (cCode Try.prog 82) = some a30 := by kernel_rfl
theorem r30 : Try.f30.results.toList = [(.tmp 4), (.tmp 5)] := by kernel_rfl
theorem n30 : Try.f30.ntmps = 82 := by kernel_rfl
theorem e30 : Enters Try.prog 30 := enters_of Try.func30 (by kernel_rfl) (by kernel_rfl)

/-- The entries of the map of what two make. -/
def mC (l : List (Int × Int × Int)) : List AV := l.flatMap fun p => [.ag [.lit (.int .i32 p.2.1), .lit (.int .i32 p.2.2)], .lit (.int .i32 p.1)]
theorem mC_cons (p : Int × Int × Int) (l : List (Int × Int × Int)) : mC (p :: l) = .ag [.lit (.int .i32 p.2.1), .lit (.int .i32 p.2.2)] :: .lit (.int .i32 p.1) :: mC l := rfl
theorem mC_append (a b : List (Int × Int × Int)) : mC (a ++ b) = mC a ++ mC b := List.flatMap_append
def fM (a b : Int) : List (Int × Int × Int) → Nat → Option (Nat × AV)
  | [], _ => none
  | p :: l, i => if p.2.1 = a ∧ p.2.2 = b then some (i, .lit (.int .i32 p.1)) else fM a b l (i + 1)
theorem findS_mC (a b : Int) : ∀ (l : List (Int × Int × Int)) (i : Nat), findS [.int, .int] [.int .i32 a, .int .i32 b] (mC l) i = some (fM a b l i)
  | [], i => rfl
  | p :: l, i => by
    rw [mC_cons, show (AV.ag [.lit (.int .i32 p.2.1), .lit (.int .i32 p.2.2)]) = .ag (([.int .i32 p.2.1, .int .i32 p.2.2] : List Value).map .lit) from rfl, findS_cons, findS_mC a b l (i + 1)]
    simp only [fM]
    by_cases h1 : p.2.1 = a
    · by_cases h2 : p.2.2 = b
      · rw [if_pos ⟨h1, h2⟩]
        subst h1; subst h2
        simp [eqK, eqV, findO]
      · rw [if_neg (fun h => h2 h.2)]
        have : (b == p.2.2) = false := by simpa using fun e => h2 e.symm
        simp [eqK, eqV, findO, this]
    · rw [if_neg (fun h => h1 h.1)]
      have : (a == p.2.1) = false := by simpa using fun e => h1 e.symm
      simp [eqK, eqV, findO, this]
def joinE : Option Int → AV
  | some r => .tu [.lit (.int .i32 r), .lit (.bool true)]
  | none => .tu [.lit (.int .i32 0), .lit (.bool false)]
theorem lkpV_fM (a b : Int) : ∀ (l : List (Int × Int × Int)) (i : Nat), lkpV true (.int .i32 0) (fM a b l i) = joinE ((l.find? fun p => p.2.1 == a && p.2.2 == b).map (·.1))
  | [], i => rfl
  | p :: l, i => by
    simp only [fM, List.find?_cons]
    by_cases h : p.2.1 = a ∧ p.2.2 = b
    · rw [if_pos h]
      simp [h, lkpV, joinE]
    · rw [if_neg h, lkpV_fM a b l (i + 1)]
      have : (p.2.1 == a && p.2.2 == b) = false := by
        rw [Bool.eq_false_iff]; simpa using h
      rw [this]
theorem fM_none {a b : Int} : ∀ {l : List (Int × Int × Int)} {i : Nat}, (∀ p ∈ l, ¬(p.2.1 = a ∧ p.2.2 = b)) → fM a b l i = none
  | [], i, _ => rfl
  | p :: l, i, h => by
    simp only [fM]
    rw [if_neg (h p (by simp)), fM_none fun q hq => h q (by simp [hq])]
theorem two_nodup : (T.map fun p => p.2).Nodup := by
  have : decide (T.map fun p => p.2).Nodup = true := by decide +kernel
  exact of_decide_eq_true this
theorem new_gen {l : List (Int × Int × Int)} (hn : (l.map fun p => p.2).Nodup) {i : Nat} (h : i < l.length) : ∀ p ∈ l.take i, ¬(p.2.1 = l[i].2.1 ∧ p.2.2 = l[i].2.2) := by
  intro p hp he
  obtain ⟨j, hj, rfl⟩ := List.mem_take_iff_getElem.1 hp
  have := (List.getElem?_inj (i := j) (j := i) (by simp; omega) hn).1 (by
    rw [List.getElem?_map, List.getElem?_map, List.getElem?_eq_getElem (by omega), List.getElem?_eq_getElem h]
    simp only [Option.map_some]
    exact congrArg some (Prod.ext he.1 he.2))
  omega
theorem new_at {i : Nat} (h : i < T.length) : ∀ p ∈ T.take i, ¬(p.2.1 = T[i].2.1 ∧ p.2.2 = T[i].2.2) := new_gen two_nodup h
theorem mC_erase : ∀ l : List (Int × Int × Int), AV.eraseL (mC l) = some (mC l)
  | [] => rfl
  | p :: l => by rw [mC_cons]; simp [AV.eraseL, AV.erase, mC_erase l]
theorem mC_shift (n : Nat) : ∀ l : List (Int × Int × Int), AV.shiftL n (mC l) = mC l
  | [] => rfl
  | p :: l => by rw [mC_cons]; simp [AV.shiftL, AV.shift, mC_shift n l]
theorem mC_under : ∀ l : List (Int × Int × Int), AV.underL 0 (mC l) = true
  | [] => rfl
  | p :: l => by rw [mC_cons]; simp [AV.underL, AV.under, mC_under l]

set_option maxRecDepth 10000 in
theorem joins_pure : Pure Try.prog 66 [] [] (.vx (.map T.length) (mC T)) := by
  refine pure0W Try.func66 c66 n66 e66 r66 (by simp) (by simp [AV.under, mC_under]) ?_
  have hT := T_len
  simp only [a66, astart, argSlots, go_sem, Nat.reduceAdd, Nat.reduceEqDiff, Nat.reduceLT, reduceIte, reduceCtorEq, Nat.reduceBEq, Int.reduceLT, Int.reduceToNat, Int.reducePow, Nat.reduceLeDiff, Int.reduceLE, Nat.reduceMul, Nat.reduceSub]
  refine callGo_pure pairs_pure (by rfl) ?_
  simp only [pT_length, go_sem, Nat.reduceAdd, Nat.reduceEqDiff, Nat.reduceLT, reduceIte, reduceCtorEq, Nat.reduceBEq, Int.reduceLT, Int.reduceToNat, Int.reducePow, Nat.reduceLeDiff, Int.reduceLE, Nat.reduceMul, Nat.reduceSub]
  refine loop_by (α := Nat × Nat) (fun x => ⟨[(1, some (.rf .map 0)), (5, some (.sl 93 pT none)), (6, some (.lit (.int .i64 (T.length : Int)))), (7, some (.lit (.int .i64 ((x.1 : Nat) : Int))))], [(0, [.ob (.map 0 0 x.1) (mC (T.take x.1))])], [], x.2⟩)
    (fun x => x.1 ≤ T.length ∧ 2 ≤ x.2) (fun x => T.length - x.1) (fun x y h => by
      have := congrArg (cnt 7) h
      simp [cnt, Ab.look] at this
      rw [this]) (0, 2) ((weak_untip 5 rfl).trans (weak_forget ?_ (List.Sublist.refl _) (List.nil_sublist _))) ⟨Nat.zero_le _, Nat.le_refl _⟩ ?_
  · simp only [go_sem, Nat.reduceAdd, Nat.reduceEqDiff, Nat.reduceLT, reduceIte, reduceCtorEq, Nat.reduceBEq, Int.reduceLT, Int.reduceToNat, Int.reducePow, Nat.reduceLeDiff, Int.reduceLE, Nat.reduceMul, Nat.reduceSub, slotsSub, Int.natCast_zero]
  · rintro ⟨i, nx⟩ ⟨hi, hnx⟩
    simp only at hi hnx
    have e0 : (nx = 0) = False := eq_false (by omega)
    rcases Nat.lt_or_eq_of_le hi with hlt | heq
    · have hf : findS [BK.int, BK.int] [Value.int IntKind.i32 T[i].snd.fst, Value.int IntKind.i32 T[i].snd.snd] (mC (T.take i)) 0 = some none := by
        rw [findS_mC, fM_none (new_at hlt)]
      have w : IntKind.i64.wrap ((i : Int) + 1) = ((i + 1 : Nat) : Int) := by rw [wrap_i64 _ (by omega) (by omega)]; omega
      have hc : mC (T.take i) ++ [AV.ag [AV.lit (Value.int IntKind.i32 T[i].snd.fst), AV.lit (Value.int IntKind.i32 T[i].snd.snd)], AV.lit (Value.int IntKind.i32 T[i].fst)] = mC (T.take (i + 1)) := by
        rw [List.take_succ_eq_append_getElem hlt, mC_append]; rfl
      simp only [dec_lt hlt, pT_length, hlt, pT_get hlt, tri, e0, hf, hc, w, go_sem, Nat.reduceAdd, Nat.reduceEqDiff, Nat.reduceLT, reduceIte, reduceCtorEq, Nat.reduceBEq, Int.reduceLT, Int.reduceToNat, Int.reducePow, Nat.reduceLeDiff, Int.reduceLE, Nat.reduceMul, Nat.reduceSub]
      refine ⟨(i + 1, nx + 1), weak_forget ?_ (.cons _ (List.Sublist.refl _)) (List.Sublist.refl _), ⟨hlt, by simp only; omega⟩, by simp only; omega⟩
      simp only [go_sem, Nat.reduceAdd, Nat.reduceEqDiff, Nat.reduceLT, reduceIte, reduceCtorEq, Nat.reduceBEq, Int.reduceLT, Int.reduceToNat, Int.reducePow, Nat.reduceLeDiff, Int.reduceLE, Nat.reduceMul, Nat.reduceSub, slotsSub]
    · subst heq
      rw [List.take_length]
      simp only [dec_irr, go_sem, Nat.reduceAdd, Nat.reduceEqDiff, Nat.reduceLT, reduceIte, reduceCtorEq, Nat.reduceBEq, Int.reduceLT, Int.reduceToNat, Int.reducePow, Nat.reduceLeDiff, Int.reduceLE, Nat.reduceMul, Nat.reduceSub]
      refine ⟨_, weak_freezeM 0 (by simp only [go_sem, Nat.reduceAdd, Nat.reduceEqDiff, Nat.reduceLT, reduceIte, reduceCtorEq, Nat.reduceBEq, Int.reduceLT, Int.reduceToNat, Int.reducePow, Nat.reduceLeDiff, Int.reduceLE, Nat.reduceMul, Nat.reduceSub]; rfl) (by simp only [go_sem, Nat.reduceAdd, Nat.reduceEqDiff, Nat.reduceLT, reduceIte, reduceCtorEq, Nat.reduceBEq, Int.reduceLT, Int.reduceToNat, Int.reducePow, Nat.reduceLeDiff, Int.reduceLE, Nat.reduceMul, Nat.reduceSub]; rfl), ?_⟩
      simp only [Done, resAV, resL, resOne, look_nil, look_cons, Nat.reduceEqDiff, if_true, if_false, reduceIte, ite_true, ite_false, Nat.zero_ne_one, Nat.one_ne_zero, reduceCtorEq, true_or, or_true, true_and, Option.some.injEq, AV.lit.injEq, Value.int.injEq, Value.bool.injEq]

theorem wrap_less {a c : Int} (ha : -2147483648 ≤ a ∧ a ≤ 2147483647) (hc : 0 ≤ c ∧ c ≤ 100000) : ∃ v, IntKind.i32.wrap (a - c) = v ∧ ((-2147483648 ≤ a - c ∧ v = a - c) ∨ (a - c < -2147483648 ∧ 2147383648 ≤ v)) := by
  by_cases h : -2147483648 ≤ a - c
  · exact ⟨_, rfl, .inl ⟨h, wrap_i32 _ h (by omega)⟩⟩
  · refine ⟨_, rfl, .inr ⟨by omega, ?_⟩⟩
    have : IntKind.i32.wrap (a - c) = a - c + 4294967296 := by
      simp only [IntKind.wrap, IntKind.signed, IntKind.bits]
      simp; omega
    rw [this]; omega

/-- Which syllable two make; 0: none. -/
def sylJ (a b : Int) : Int :=
  if (4352 ≤ a ∧ a ≤ 4370) ∧ (4449 ≤ b ∧ b ≤ 4469) then 44032 + ((a - 4352) * 21 + b - 4449) * 28
  else if (44032 ≤ a ∧ a ≤ 55203 ∧ (a - 44032) % 28 = 0) ∧ (4520 ≤ b ∧ b ≤ 4546) then a + b - 4519 else 0

theorem dec_of {p : Prop} [Decidable p] (h : p) : decide p = true := decide_eq_true h
theorem dec_no {p : Prop} [Decidable p] (h : ¬p) : decide p = false := decide_eq_false h

set_option maxRecDepth 10000 in
theorem syl_tail {a b : Int} (ha : -2147483648 ≤ a ∧ a ≤ 2147483647) (hb : -2147483648 ≤ b ∧ b ≤ 2147483647) (hno : ¬((4352 ≤ a ∧ a ≤ 4370) ∧ (4449 ≤ b ∧ b ≤ 4469))) {sl : List (Nat × Option AV)} (h1 : Ab.look sl 1 = some (.bp 0 0)) :
    awp Try.prog 0 a93_3 (Done Try.prog [.tmp 2] (.lit (.int .i32 (sylJ a b)))) ⟨sl, [(0, [.lit (.int .i32 a), .lit (.int .i32 b)])], [], 1⟩ := by
  obtain ⟨v, hv, hvc⟩ := wrap_less ha (c := 44032) (by omega)
  obtain ⟨w, hw, hwc⟩ := wrap_less hb (c := 4519) (by omega)
  have c2 : ((28 : Int) = 0) = False := by simp
  unfold sylJ
  rw [if_neg hno]
  clear hno
  by_cases g1 : v < 0
  · have e1 := dec_no (show ¬ v ≥ 0 by omega)
    rw [if_neg (by omega)]
    simp only [a93_3, h1, hv, hw, e1, go_sem, Nat.reduceAdd, Nat.reduceEqDiff, Nat.reduceLT, reduceIte, reduceCtorEq, Nat.reduceBEq, Int.reduceLT, Int.reduceToNat, Int.reducePow, Nat.reduceLeDiff, Int.reduceLE, Nat.reduceMul, Nat.reduceSub]
    simp only [Done, resAV, resL, resOne, look_nil, look_cons, Nat.reduceEqDiff, if_true, if_false, reduceIte, ite_true, ite_false, Nat.zero_ne_one, Nat.one_ne_zero, reduceCtorEq, true_or, or_true, true_and, Option.some.injEq, AV.lit.injEq, Value.int.injEq, Value.bool.injEq]
  have e1 := dec_of (show v ≥ 0 by omega)
  by_cases g2 : v < 11172
  · have e2 := dec_of g2
    have d3 : v.tmod 28 = v % 28 := fmod_nn _ _ (by omega)
    have w4 : IntKind.i32.wrap (v % 28) = v % 28 := wrap_i32 _ (by omega) (by omega)
    by_cases g3 : v % 28 = 0
    · have e3 : (v % 28 == 0) = true := by simp [g3]
      by_cases g4 : w > 0
      · have e4 := dec_of g4
        by_cases g5 : w < 28
        · have e5 := dec_of g5
          have w5 : IntKind.i32.wrap (a + w) = a + b - 4519 := by rw [wrap_i32 _ (by omega) (by omega)]; omega
          rw [if_pos (by omega)]
          simp only [a93_3, h1, hv, hw, e1, e2, c2, d3, w4, e3, e4, e5, w5, go_sem, Nat.reduceAdd, Nat.reduceEqDiff, Nat.reduceLT, reduceIte, reduceCtorEq, Nat.reduceBEq, Int.reduceLT, Int.reduceToNat, Int.reducePow, Nat.reduceLeDiff, Int.reduceLE, Nat.reduceMul, Nat.reduceSub]
          simp only [Done, resAV, resL, resOne, look_nil, look_cons, Nat.reduceEqDiff, if_true, if_false, reduceIte, ite_true, ite_false, Nat.zero_ne_one, Nat.one_ne_zero, reduceCtorEq, true_or, or_true, true_and, Option.some.injEq, AV.lit.injEq, Value.int.injEq, Value.bool.injEq]
        · have e5 := dec_no g5
          rw [if_neg (by omega)]
          simp only [a93_3, h1, hv, hw, e1, e2, c2, d3, w4, e3, e4, e5, go_sem, Nat.reduceAdd, Nat.reduceEqDiff, Nat.reduceLT, reduceIte, reduceCtorEq, Nat.reduceBEq, Int.reduceLT, Int.reduceToNat, Int.reducePow, Nat.reduceLeDiff, Int.reduceLE, Nat.reduceMul, Nat.reduceSub]
          simp only [Done, resAV, resL, resOne, look_nil, look_cons, Nat.reduceEqDiff, if_true, if_false, reduceIte, ite_true, ite_false, Nat.zero_ne_one, Nat.one_ne_zero, reduceCtorEq, true_or, or_true, true_and, Option.some.injEq, AV.lit.injEq, Value.int.injEq, Value.bool.injEq]
      · have e4 := dec_no g4
        rw [if_neg (by omega)]
        simp only [a93_3, h1, hv, hw, e1, e2, c2, d3, w4, e3, e4, go_sem, Nat.reduceAdd, Nat.reduceEqDiff, Nat.reduceLT, reduceIte, reduceCtorEq, Nat.reduceBEq, Int.reduceLT, Int.reduceToNat, Int.reducePow, Nat.reduceLeDiff, Int.reduceLE, Nat.reduceMul, Nat.reduceSub]
        simp only [Done, resAV, resL, resOne, look_nil, look_cons, Nat.reduceEqDiff, if_true, if_false, reduceIte, ite_true, ite_false, Nat.zero_ne_one, Nat.one_ne_zero, reduceCtorEq, true_or, or_true, true_and, Option.some.injEq, AV.lit.injEq, Value.int.injEq, Value.bool.injEq]
    · have e3 : (v % 28 == 0) = false := by simp [g3]
      rw [if_neg (by omega)]
      simp only [a93_3, h1, hv, hw, e1, e2, c2, d3, w4, e3, go_sem, Nat.reduceAdd, Nat.reduceEqDiff, Nat.reduceLT, reduceIte, reduceCtorEq, Nat.reduceBEq, Int.reduceLT, Int.reduceToNat, Int.reducePow, Nat.reduceLeDiff, Int.reduceLE, Nat.reduceMul, Nat.reduceSub]
      simp only [Done, resAV, resL, resOne, look_nil, look_cons, Nat.reduceEqDiff, if_true, if_false, reduceIte, ite_true, ite_false, Nat.zero_ne_one, Nat.one_ne_zero, reduceCtorEq, true_or, or_true, true_and, Option.some.injEq, AV.lit.injEq, Value.int.injEq, Value.bool.injEq]
  · have e2 := dec_no g2
    rw [if_neg (by omega)]
    simp only [a93_3, h1, hv, hw, e1, e2, go_sem, Nat.reduceAdd, Nat.reduceEqDiff, Nat.reduceLT, reduceIte, reduceCtorEq, Nat.reduceBEq, Int.reduceLT, Int.reduceToNat, Int.reducePow, Nat.reduceLeDiff, Int.reduceLE, Nat.reduceMul, Nat.reduceSub]
    simp only [Done, resAV, resL, resOne, look_nil, look_cons, Nat.reduceEqDiff, if_true, if_false, reduceIte, ite_true, ite_false, Nat.zero_ne_one, Nat.one_ne_zero, reduceCtorEq, true_or, or_true, true_and, Option.some.injEq, AV.lit.injEq, Value.int.injEq, Value.bool.injEq]

set_option maxRecDepth 10000 in
theorem syllable_pure {a b : Int} (ha : -2147483648 ≤ a ∧ a ≤ 2147483647) (hb : -2147483648 ≤ b ∧ b ≤ 2147483647) : Pure Try.prog 93 [.ag [.lit (.int .i32 a), .lit (.int .i32 b)]] [] (.lit (.int .i32 (sylJ a b))) := by
  refine pure0 Try.func93 c93 n93 e93 r93 (by simp) rfl ?_
  obtain ⟨v, hv, hvc⟩ := wrap_less ha (c := 4352) (by omega)
  obtain ⟨w, hw, hwc⟩ := wrap_less hb (c := 4449) (by omega)
  by_cases g1 : v < 0
  · have e1 := dec_no (show ¬ v ≥ 0 by omega)
    simp only [a93, astart, argSlots, hv, hw, e1, go_sem, Nat.reduceAdd, Nat.reduceEqDiff, Nat.reduceLT, reduceIte, reduceCtorEq, Nat.reduceBEq, Int.reduceLT, Int.reduceToNat, Int.reducePow, Nat.reduceLeDiff, Int.reduceLE, Nat.reduceMul, Nat.reduceSub]
    exact syl_tail ha hb (by omega) (by simp only [go_sem, Nat.reduceAdd, Nat.reduceEqDiff, Nat.reduceLT, reduceIte, reduceCtorEq, Nat.reduceBEq, Int.reduceLT, Int.reduceToNat, Int.reducePow, Nat.reduceLeDiff, Int.reduceLE, Nat.reduceMul, Nat.reduceSub])
  have e1 := dec_of (show v ≥ 0 by omega)
  by_cases g2 : v < 19
  · have e2 := dec_of g2
    by_cases g3 : w < 0
    · have e3 := dec_no (show ¬ w ≥ 0 by omega)
      simp only [a93, astart, argSlots, hv, hw, e1, e2, e3, go_sem, Nat.reduceAdd, Nat.reduceEqDiff, Nat.reduceLT, reduceIte, reduceCtorEq, Nat.reduceBEq, Int.reduceLT, Int.reduceToNat, Int.reducePow, Nat.reduceLeDiff, Int.reduceLE, Nat.reduceMul, Nat.reduceSub]
      exact syl_tail ha hb (by omega) (by simp only [go_sem, Nat.reduceAdd, Nat.reduceEqDiff, Nat.reduceLT, reduceIte, reduceCtorEq, Nat.reduceBEq, Int.reduceLT, Int.reduceToNat, Int.reducePow, Nat.reduceLeDiff, Int.reduceLE, Nat.reduceMul, Nat.reduceSub])
    have e3 := dec_of (show w ≥ 0 by omega)
    by_cases g4 : w < 21
    · have e4 := dec_of g4
      have x1 : IntKind.i32.wrap (v * 21) = v * 21 := wrap_i32 _ (by omega) (by omega)
      have x2 : IntKind.i32.wrap (v * 21 + w) = v * 21 + w := wrap_i32 _ (by omega) (by omega)
      have x3 : IntKind.i32.wrap ((v * 21 + w) * 28) = (v * 21 + w) * 28 := wrap_i32 _ (by omega) (by omega)
      have x4 : IntKind.i32.wrap (44032 + (v * 21 + w) * 28) = 44032 + (v * 21 + w) * 28 := wrap_i32 _ (by omega) (by omega)
      simp only [a93, astart, argSlots, hv, hw, e1, e2, e3, e4, x1, x2, x3, x4, go_sem, Nat.reduceAdd, Nat.reduceEqDiff, Nat.reduceLT, reduceIte, reduceCtorEq, Nat.reduceBEq, Int.reduceLT, Int.reduceToNat, Int.reducePow, Nat.reduceLeDiff, Int.reduceLE, Nat.reduceMul, Nat.reduceSub]
      simp only [Done, resAV, resL, resOne, look_nil, look_cons, Nat.reduceEqDiff, if_true, if_false, reduceIte, ite_true, ite_false, Nat.zero_ne_one, Nat.one_ne_zero, reduceCtorEq, true_or, or_true, true_and, Option.some.injEq, AV.lit.injEq, Value.int.injEq, Value.bool.injEq]
      unfold sylJ
      rw [if_pos (by omega)]
      omega
    · have e4 := dec_no g4
      simp only [a93, astart, argSlots, hv, hw, e1, e2, e3, e4, go_sem, Nat.reduceAdd, Nat.reduceEqDiff, Nat.reduceLT, reduceIte, reduceCtorEq, Nat.reduceBEq, Int.reduceLT, Int.reduceToNat, Int.reducePow, Nat.reduceLeDiff, Int.reduceLE, Nat.reduceMul, Nat.reduceSub]
      exact syl_tail ha hb (by omega) (by simp only [go_sem, Nat.reduceAdd, Nat.reduceEqDiff, Nat.reduceLT, reduceIte, reduceCtorEq, Nat.reduceBEq, Int.reduceLT, Int.reduceToNat, Int.reducePow, Nat.reduceLeDiff, Int.reduceLE, Nat.reduceMul, Nat.reduceSub])
  · have e2 := dec_no g2
    simp only [a93, astart, argSlots, hv, hw, e1, e2, go_sem, Nat.reduceAdd, Nat.reduceEqDiff, Nat.reduceLT, reduceIte, reduceCtorEq, Nat.reduceBEq, Int.reduceLT, Int.reduceToNat, Int.reducePow, Nat.reduceLeDiff, Int.reduceLE, Nat.reduceMul, Nat.reduceSub]
    exact syl_tail ha hb (by omega) (by simp only [go_sem, Nat.reduceAdd, Nat.reduceEqDiff, Nat.reduceLT, reduceIte, reduceCtorEq, Nat.reduceBEq, Int.reduceLT, Int.reduceToNat, Int.reducePow, Nat.reduceLeDiff, Int.reduceLE, Nat.reduceMul, Nat.reduceSub])

theorem joinP_syl (a b : Int) : (0 < sylJ a b ∧ joinP T a b = some (sylJ a b)) ∨ (sylJ a b = 0 ∧ joinP T a b = (T.find? fun p => p.2.1 == a && p.2.2 == b).map (·.1)) := by
  unfold sylJ joinP
  split
  · left; exact ⟨by omega, rfl⟩
  · split
    · left; exact ⟨by omega, rfl⟩
    · exact .inr ⟨rfl, rfl⟩

set_option maxRecDepth 10000 in
theorem joined_pure {a b : Int} (ha : -2147483648 ≤ a ∧ a ≤ 2147483647) (hb : -2147483648 ≤ b ∧ b ≤ 2147483647) :
    Pure Try.prog 67 [.ag [.lit (.int .i32 a), .lit (.int .i32 b)], .vx (.map T.length) (mC T)] [] (joinE (joinP T a b)) := by
  have hu : (joinE (joinP T a b)).under 0 = true := by cases joinP T a b <;> simp [joinE, AV.under, AV.underL]
  refine pure0 Try.func67 c67 n67 e67 r67 (by simp) hu ?_
  simp only [a67, astart, argSlots, go_sem, Nat.reduceAdd, Nat.reduceEqDiff, Nat.reduceLT, reduceIte, reduceCtorEq, Nat.reduceBEq, Int.reduceLT, Int.reduceToNat, Int.reducePow, Nat.reduceLeDiff, Int.reduceLE, Nat.reduceMul, Nat.reduceSub]
  refine callGo_pure (syllable_pure ha hb) (by rfl) ?_
  simp only [go_sem, Nat.reduceAdd, Nat.reduceEqDiff, Nat.reduceLT, reduceIte, reduceCtorEq, Nat.reduceBEq, Int.reduceLT, Int.reduceToNat, Int.reducePow, Nat.reduceLeDiff, Int.reduceLE, Nat.reduceMul, Nat.reduceSub]
  rcases joinP_syl a b with ⟨h1, h2⟩ | ⟨h1, h2⟩
  · have e1 := dec_of (show sylJ a b > 0 from h1)
    rw [h2]
    simp only [e1, go_sem, Nat.reduceAdd, Nat.reduceEqDiff, Nat.reduceLT, reduceIte, reduceCtorEq, Nat.reduceBEq, Int.reduceLT, Int.reduceToNat, Int.reducePow, Nat.reduceLeDiff, Int.reduceLE, Nat.reduceMul, Nat.reduceSub]
    simp only [Done, resAV, resL, resOne, look_nil, look_cons, Nat.reduceEqDiff, if_true, if_false, reduceIte, ite_true, ite_false, Nat.zero_ne_one, Nat.one_ne_zero, reduceCtorEq, true_or, or_true, true_and, Option.some.injEq, AV.lit.injEq, Value.int.injEq, Value.bool.injEq]
    rfl
  · have e1 := dec_no (show ¬ sylJ a b > 0 by omega)
    rw [h2]
    have hl := lkpV_fM a b T 0
    simp only [e1, findS_mC, hl, go_sem, Nat.reduceAdd, Nat.reduceEqDiff, Nat.reduceLT, reduceIte, reduceCtorEq, Nat.reduceBEq, Int.reduceLT, Int.reduceToNat, Int.reducePow, Nat.reduceLeDiff, Int.reduceLE, Nat.reduceMul, Nat.reduceSub]
    cases (T.find? fun p => p.2.1 == a && p.2.2 == b).map (·.1) <;> simp only [joinE, go_sem, Nat.reduceAdd, Nat.reduceEqDiff, Nat.reduceLT, reduceIte, reduceCtorEq, Nat.reduceBEq, Int.reduceLT, Int.reduceToNat, Int.reducePow, Nat.reduceLeDiff, Int.reduceLE, Nat.reduceMul, Nat.reduceSub] <;> simp only [Done, resAV, resL, resOne, look_nil, look_cons, Nat.reduceEqDiff, if_true, if_false, reduceIte, ite_true, ite_false, Nat.zero_ne_one, Nat.one_ne_zero, reduceCtorEq, true_or, or_true, true_and, Option.some.injEq, AV.lit.injEq, Value.int.injEq, Value.bool.injEq] <;> rfl

set_option maxRecDepth 10000 in
theorem Join_pure {a b : Int} (ha : -2147483648 ≤ a ∧ a ≤ 2147483647) (hb : -2147483648 ≤ b ∧ b ≤ 2147483647) :
    Pure Try.prog 29 [.lit (.int .i32 a), .lit (.int .i32 b)] [] (joinE (joinP T a b)) := by
  have hu : (joinE (joinP T a b)).under 0 = true := by cases joinP T a b <;> simp [joinE, AV.under, AV.underL]
  refine pure0 Try.func29 c29 n29 e29 r29 (by simp) hu ?_
  simp only [a29, astart, argSlots, go_sem, Nat.reduceAdd, Nat.reduceEqDiff, Nat.reduceLT, reduceIte, reduceCtorEq, Nat.reduceBEq, Int.reduceLT, Int.reduceToNat, Int.reducePow, Nat.reduceLeDiff, Int.reduceLE, Nat.reduceMul, Nat.reduceSub]
  refine callGo_pure joins_pure (by rfl) ?_
  simp only [go_sem, Nat.reduceAdd, Nat.reduceEqDiff, Nat.reduceLT, reduceIte, reduceCtorEq, Nat.reduceBEq, Int.reduceLT, Int.reduceToNat, Int.reducePow, Nat.reduceLeDiff, Int.reduceLE, Nat.reduceMul, Nat.reduceSub]
  refine callGo_pure (joined_pure ha hb) ?_ ?_
  · simp [AV.eraseL, AV.erase, AV.shift, mC_erase, mC_shift]
  · simp only [go_sem, Nat.reduceAdd, Nat.reduceEqDiff, Nat.reduceLT, reduceIte, reduceCtorEq, Nat.reduceBEq, Int.reduceLT, Int.reduceToNat, Int.reducePow, Nat.reduceLeDiff, Int.reduceLE, Nat.reduceMul, Nat.reduceSub]
    cases joinP T a b <;> simp only [joinE, go_sem, Nat.reduceAdd, Nat.reduceEqDiff, Nat.reduceLT, reduceIte, reduceCtorEq, Nat.reduceBEq, Int.reduceLT, Int.reduceToNat, Int.reducePow, Nat.reduceLeDiff, Int.reduceLE, Nat.reduceMul, Nat.reduceSub] <;> simp only [Done, resAV, resL, resOne, look_nil, look_cons, Nat.reduceEqDiff, if_true, if_false, reduceIte, ite_true, ite_false, Nat.zero_ne_one, Nat.one_ne_zero, reduceCtorEq, true_or, or_true, true_and, Option.some.injEq, AV.lit.injEq, Value.int.injEq, Value.bool.injEq] <;> rfl
theorem mC_ren (f : Nat → Nat) (l : List (Int × Int × Int)) : AV.renL f (mC l) = mC l := AV.renL_under0 f _ (mC_under l)

theorem find2_gen {l : List (Int × Int × Int)} {a b : Int} {i : Nat} (hi : i < l.length) (h : ∀ (j : Nat) (h : j < l.length), j < i → ¬(l[j].2.1 = a ∧ l[j].2.2 = b)) (he : l[i].2.1 = a ∧ l[i].2.2 = b) : (l.find? fun p => p.2.1 == a && p.2.2 == b).map (·.1) = some l[i].1 := by
  have : l.find? (fun p => p.2.1 == a && p.2.2 == b) = some l[i] := by
    rw [List.find?_eq_some_iff_getElem]
    refine ⟨by simp [he], i, hi, rfl, fun j hj => ?_⟩
    have := h j (by omega) hj
    rw [Bool.not_eq_true', Bool.eq_false_iff]
    simpa using this
  rw [this]; rfl
theorem find2_some {a b : Int} {i : Nat} (hi : i < T.length) (h : ∀ (j : Nat) (h : j < T.length), j < i → ¬(T[j].2.1 = a ∧ T[j].2.2 = b)) (he : T[i].2.1 = a ∧ T[i].2.2 = b) : (T.find? fun p => p.2.1 == a && p.2.2 == b).map (·.1) = some T[i].1 := find2_gen hi h he
theorem find2_none {a b : Int} (h : ∀ (j : Nat) (h : j < T.length), j < T.length → ¬(T[j].2.1 = a ∧ T[j].2.2 = b)) : (T.find? fun p => p.2.1 == a && p.2.2 == b).map (·.1) = none := by
  rw [List.find?_eq_none.2]
  · rfl
  · intro p hp
    obtain ⟨j, hj, rfl⟩ := List.mem_iff_getElem.1 hp
    simpa using h j hj hj

set_option maxRecDepth 10000 in
theorem refJoin_loop {a b : Int} (hno : joinP T a b = (T.find? fun p => p.2.1 == a && p.2.2 == b).map (·.1)) {sl : List (Nat × Option AV)} (h0 : Ab.look sl 0 = some (.lit (.int .i32 a))) (h1 : Ab.look sl 1 = some (.lit (.int .i32 b))) :
    awp Try.prog 0 a30_3 (Done Try.prog [.tmp 4, .tmp 5] (joinE (joinP T a b))) ⟨sl, [], [], 0⟩ := by
  have hT := T_len
  simp only [a30_3, go_sem, Nat.reduceAdd, Nat.reduceEqDiff, Nat.reduceLT, reduceIte, reduceCtorEq, Nat.reduceBEq, Int.reduceLT, Int.reduceToNat, Int.reducePow, Nat.reduceLeDiff, Int.reduceLE, Nat.reduceMul, Nat.reduceSub]
  refine callGo_pure refPairs_pure (by rfl) ?_
  simp only [go_sem, Nat.reduceAdd, Nat.reduceEqDiff, Nat.reduceLT, reduceIte, reduceCtorEq, Nat.reduceBEq, Int.reduceLT, Int.reduceToNat, Int.reducePow, Nat.reduceLeDiff, Int.reduceLE, Nat.reduceMul, Nat.reduceSub]
  refine loop_to T.length (fun i => ⟨[(0, some (.lit (.int .i32 a))), (1, some (.lit (.int .i32 b))), (6, some (.sl 93 pT none)), (7, some (.lit (.int .i64 (i : Int))))], [], [], 1⟩)
    (fun i => ∀ (j : Nat) (h : j < T.length), j < i → ¬(T[j].2.1 = a ∧ T[j].2.2 = b)) ((weak_untip 6 rfl).trans (weak_forget ?_ (List.Sublist.refl _) (List.nil_sublist _))) (fun j _ hj => by omega) ?_ ?_
  · simp only [h0, h1, go_sem, Nat.reduceAdd, Nat.reduceEqDiff, Nat.reduceLT, reduceIte, reduceCtorEq, Nat.reduceBEq, Int.reduceLT, Int.reduceToNat, Int.reducePow, Nat.reduceLeDiff, Int.reduceLE, Nat.reduceMul, Nat.reduceSub, slotsSub, Int.natCast_zero]
  · intro i hi hp
    have w : IntKind.i64.wrap ((i : Int) + 1) = ((i + 1 : Nat) : Int) := by rw [wrap_i64 _ (by omega) (by omega)]; omega
    have next : ¬(T[i].2.1 = a ∧ T[i].2.2 = b) → ∀ (j : Nat) (h : j < T.length), j < i + 1 → ¬(T[j].2.1 = a ∧ T[j].2.2 = b) := fun hne j h hj => by
      rcases Nat.lt_succ_iff_lt_or_eq.1 hj with hj | hj
      · exact hp j h hj
      · subst hj; exact hne
    by_cases g1 : T[i].2.1 = a
    · have e1 : (T[i].2.1 == a) = true := by simp [g1]
      by_cases g2 : T[i].2.2 = b
      · have e2 : (T[i].2.2 == b) = true := by simp [g2]
        rw [hno, find2_some hi hp ⟨g1, g2⟩]
        simp only [dec_lt hi, pT_length, hi, pT_get hi, tri, e1, e2, go_sem, Nat.reduceAdd, Nat.reduceEqDiff, Nat.reduceLT, reduceIte, reduceCtorEq, Nat.reduceBEq, Int.reduceLT, Int.reduceToNat, Int.reducePow, Nat.reduceLeDiff, Int.reduceLE, Nat.reduceMul, Nat.reduceSub]
        simp only [Done, resAV, resL, resOne, look_nil, look_cons, Nat.reduceEqDiff, if_true, if_false, reduceIte, ite_true, ite_false, Nat.zero_ne_one, Nat.one_ne_zero, reduceCtorEq, true_or, or_true, true_and, Option.some.injEq, AV.lit.injEq, Value.int.injEq, Value.bool.injEq]
        rfl
      · have e2 : (T[i].2.2 == b) = false := by simp [g2]
        simp only [dec_lt hi, pT_length, hi, pT_get hi, tri, e1, e2, w, go_sem, Nat.reduceAdd, Nat.reduceEqDiff, Nat.reduceLT, reduceIte, reduceCtorEq, Nat.reduceBEq, Int.reduceLT, Int.reduceToNat, Int.reducePow, Nat.reduceLeDiff, Int.reduceLE, Nat.reduceMul, Nat.reduceSub]
        refine ⟨weak_forget ?_ (List.Sublist.refl _) (List.Sublist.refl _), next fun h => g2 h.2⟩
        simp only [go_sem, Nat.reduceAdd, Nat.reduceEqDiff, Nat.reduceLT, reduceIte, reduceCtorEq, Nat.reduceBEq, Int.reduceLT, Int.reduceToNat, Int.reducePow, Nat.reduceLeDiff, Int.reduceLE, Nat.reduceMul, Nat.reduceSub, slotsSub]
    · have e1 : (T[i].2.1 == a) = false := by simp [g1]
      simp only [dec_lt hi, pT_length, hi, pT_get hi, tri, e1, w, go_sem, Nat.reduceAdd, Nat.reduceEqDiff, Nat.reduceLT, reduceIte, reduceCtorEq, Nat.reduceBEq, Int.reduceLT, Int.reduceToNat, Int.reducePow, Nat.reduceLeDiff, Int.reduceLE, Nat.reduceMul, Nat.reduceSub]
      refine ⟨weak_forget ?_ (List.Sublist.refl _) (List.Sublist.refl _), next fun h => g1 h.1⟩
      simp only [go_sem, Nat.reduceAdd, Nat.reduceEqDiff, Nat.reduceLT, reduceIte, reduceCtorEq, Nat.reduceBEq, Int.reduceLT, Int.reduceToNat, Int.reducePow, Nat.reduceLeDiff, Int.reduceLE, Nat.reduceMul, Nat.reduceSub, slotsSub]
  · intro hp
    rw [hno, find2_none hp]
    simp only [dec_irr, pT_length, go_sem, Nat.reduceAdd, Nat.reduceEqDiff, Nat.reduceLT, reduceIte, reduceCtorEq, Nat.reduceBEq, Int.reduceLT, Int.reduceToNat, Int.reducePow, Nat.reduceLeDiff, Int.reduceLE, Nat.reduceMul, Nat.reduceSub]
    simp only [Done, resAV, resL, resOne, look_nil, look_cons, Nat.reduceEqDiff, if_true, if_false, reduceIte, ite_true, ite_false, Nat.zero_ne_one, Nat.one_ne_zero, reduceCtorEq, true_or, or_true, true_and, Option.some.injEq, AV.lit.injEq, Value.int.injEq, Value.bool.injEq]
    rfl

set_option maxRecDepth 10000 in
theorem refJoin_two {a b : Int} (ha : -2147483648 ≤ a ∧ a ≤ 2147483647) (hb : -2147483648 ≤ b ∧ b ≤ 2147483647) (hno : ¬((4352 ≤ a ∧ a ≤ 4370) ∧ (4449 ≤ b ∧ b ≤ 4469))) {sl : List (Nat × Option AV)} (h0 : Ab.look sl 0 = some (.lit (.int .i32 a))) (h1 : Ab.look sl 1 = some (.lit (.int .i32 b))) :
    awp Try.prog 0 a30_2 (Done Try.prog [.tmp 4, .tmp 5] (joinE (joinP T a b))) ⟨sl, [], [], 0⟩ := by
  have c2 : ((28 : Int) = 0) = False := by simp
  have hj : ¬((44032 ≤ a ∧ a ≤ 55203 ∧ (a - 44032) % 28 = 0) ∧ (4520 ≤ b ∧ b ≤ 4546)) → joinP T a b = (T.find? fun p => p.2.1 == a && p.2.2 == b).map (·.1) := fun h => by
    unfold joinP; rw [if_neg hno, if_neg h]
  by_cases g1 : a ≥ 44032
  · have e1 := dec_of g1
    by_cases g2 : a ≤ 55203
    · have e2 := dec_of g2
      have w1 : IntKind.i32.wrap (a - 44032) = a - 44032 := wrap_i32 _ (by omega) (by omega)
      have d3 : (a - 44032).tmod 28 = (a - 44032) % 28 := fmod_nn _ _ (by omega)
      have w2 : IntKind.i32.wrap ((a - 44032) % 28) = (a - 44032) % 28 := wrap_i32 _ (by omega) (by omega)
      by_cases g3 : (a - 44032) % 28 = 0
      · have e3 : ((a - 44032) % 28 == 0) = true := by simp [g3]
        by_cases g4 : b ≥ 4520
        · have e4 := dec_of g4
          by_cases g5 : b ≤ 4546
          · have e5 := dec_of g5
            have w3 : IntKind.i32.wrap (a + b) = a + b := wrap_i32 _ (by omega) (by omega)
            have w4 : IntKind.i32.wrap (a + b - 4519) = a + b - 4519 := wrap_i32 _ (by omega) (by omega)
            have : joinP T a b = some (a + b - 4519) := by unfold joinP; rw [if_neg hno, if_pos (by omega)]
            rw [this]
            simp only [a30_2, h0, h1, e1, e2, c2, w1, d3, w2, e3, e4, e5, w3, w4, go_sem, Nat.reduceAdd, Nat.reduceEqDiff, Nat.reduceLT, reduceIte, reduceCtorEq, Nat.reduceBEq, Int.reduceLT, Int.reduceToNat, Int.reducePow, Nat.reduceLeDiff, Int.reduceLE, Nat.reduceMul, Nat.reduceSub]
            simp only [Done, resAV, resL, resOne, look_nil, look_cons, Nat.reduceEqDiff, if_true, if_false, reduceIte, ite_true, ite_false, Nat.zero_ne_one, Nat.one_ne_zero, reduceCtorEq, true_or, or_true, true_and, Option.some.injEq, AV.lit.injEq, Value.int.injEq, Value.bool.injEq]
            rfl
          · have e5 := dec_no g5
            simp only [a30_2, h0, h1, e1, e2, c2, w1, d3, w2, e3, e4, e5, go_sem, Nat.reduceAdd, Nat.reduceEqDiff, Nat.reduceLT, reduceIte, reduceCtorEq, Nat.reduceBEq, Int.reduceLT, Int.reduceToNat, Int.reducePow, Nat.reduceLeDiff, Int.reduceLE, Nat.reduceMul, Nat.reduceSub]
            exact refJoin_loop (hj (by omega)) (by simp only [h0, go_sem, Nat.reduceAdd, Nat.reduceEqDiff, Nat.reduceLT, reduceIte, reduceCtorEq, Nat.reduceBEq, Int.reduceLT, Int.reduceToNat, Int.reducePow, Nat.reduceLeDiff, Int.reduceLE, Nat.reduceMul, Nat.reduceSub]) (by simp only [h1, go_sem, Nat.reduceAdd, Nat.reduceEqDiff, Nat.reduceLT, reduceIte, reduceCtorEq, Nat.reduceBEq, Int.reduceLT, Int.reduceToNat, Int.reducePow, Nat.reduceLeDiff, Int.reduceLE, Nat.reduceMul, Nat.reduceSub])
        · have e4 := dec_no g4
          simp only [a30_2, h0, h1, e1, e2, c2, w1, d3, w2, e3, e4, go_sem, Nat.reduceAdd, Nat.reduceEqDiff, Nat.reduceLT, reduceIte, reduceCtorEq, Nat.reduceBEq, Int.reduceLT, Int.reduceToNat, Int.reducePow, Nat.reduceLeDiff, Int.reduceLE, Nat.reduceMul, Nat.reduceSub]
          exact refJoin_loop (hj (by omega)) (by simp only [h0, go_sem, Nat.reduceAdd, Nat.reduceEqDiff, Nat.reduceLT, reduceIte, reduceCtorEq, Nat.reduceBEq, Int.reduceLT, Int.reduceToNat, Int.reducePow, Nat.reduceLeDiff, Int.reduceLE, Nat.reduceMul, Nat.reduceSub]) (by simp only [h1, go_sem, Nat.reduceAdd, Nat.reduceEqDiff, Nat.reduceLT, reduceIte, reduceCtorEq, Nat.reduceBEq, Int.reduceLT, Int.reduceToNat, Int.reducePow, Nat.reduceLeDiff, Int.reduceLE, Nat.reduceMul, Nat.reduceSub])
      · have e3 : ((a - 44032) % 28 == 0) = false := by simp [g3]
        simp only [a30_2, h0, h1, e1, e2, c2, w1, d3, w2, e3, go_sem, Nat.reduceAdd, Nat.reduceEqDiff, Nat.reduceLT, reduceIte, reduceCtorEq, Nat.reduceBEq, Int.reduceLT, Int.reduceToNat, Int.reducePow, Nat.reduceLeDiff, Int.reduceLE, Nat.reduceMul, Nat.reduceSub]
        exact refJoin_loop (hj (by omega)) (by simp only [h0, go_sem, Nat.reduceAdd, Nat.reduceEqDiff, Nat.reduceLT, reduceIte, reduceCtorEq, Nat.reduceBEq, Int.reduceLT, Int.reduceToNat, Int.reducePow, Nat.reduceLeDiff, Int.reduceLE, Nat.reduceMul, Nat.reduceSub]) (by simp only [h1, go_sem, Nat.reduceAdd, Nat.reduceEqDiff, Nat.reduceLT, reduceIte, reduceCtorEq, Nat.reduceBEq, Int.reduceLT, Int.reduceToNat, Int.reducePow, Nat.reduceLeDiff, Int.reduceLE, Nat.reduceMul, Nat.reduceSub])
    · have e2 := dec_no g2
      simp only [a30_2, h0, h1, e1, e2, go_sem, Nat.reduceAdd, Nat.reduceEqDiff, Nat.reduceLT, reduceIte, reduceCtorEq, Nat.reduceBEq, Int.reduceLT, Int.reduceToNat, Int.reducePow, Nat.reduceLeDiff, Int.reduceLE, Nat.reduceMul, Nat.reduceSub]
      exact refJoin_loop (hj (by omega)) (by simp only [h0, go_sem, Nat.reduceAdd, Nat.reduceEqDiff, Nat.reduceLT, reduceIte, reduceCtorEq, Nat.reduceBEq, Int.reduceLT, Int.reduceToNat, Int.reducePow, Nat.reduceLeDiff, Int.reduceLE, Nat.reduceMul, Nat.reduceSub]) (by simp only [h1, go_sem, Nat.reduceAdd, Nat.reduceEqDiff, Nat.reduceLT, reduceIte, reduceCtorEq, Nat.reduceBEq, Int.reduceLT, Int.reduceToNat, Int.reducePow, Nat.reduceLeDiff, Int.reduceLE, Nat.reduceMul, Nat.reduceSub])
  · have e1 := dec_no g1
    simp only [a30_2, h0, h1, e1, go_sem, Nat.reduceAdd, Nat.reduceEqDiff, Nat.reduceLT, reduceIte, reduceCtorEq, Nat.reduceBEq, Int.reduceLT, Int.reduceToNat, Int.reducePow, Nat.reduceLeDiff, Int.reduceLE, Nat.reduceMul, Nat.reduceSub]
    exact refJoin_loop (hj (by omega)) (by simp only [h0, go_sem, Nat.reduceAdd, Nat.reduceEqDiff, Nat.reduceLT, reduceIte, reduceCtorEq, Nat.reduceBEq, Int.reduceLT, Int.reduceToNat, Int.reducePow, Nat.reduceLeDiff, Int.reduceLE, Nat.reduceMul, Nat.reduceSub]) (by simp only [h1, go_sem, Nat.reduceAdd, Nat.reduceEqDiff, Nat.reduceLT, reduceIte, reduceCtorEq, Nat.reduceBEq, Int.reduceLT, Int.reduceToNat, Int.reducePow, Nat.reduceLeDiff, Int.reduceLE, Nat.reduceMul, Nat.reduceSub])

set_option maxRecDepth 10000 in
theorem refJoin_pure {a b : Int} (ha : -2147483648 ≤ a ∧ a ≤ 2147483647) (hb : -2147483648 ≤ b ∧ b ≤ 2147483647) :
    Pure Try.prog 30 [.lit (.int .i32 a), .lit (.int .i32 b)] [] (joinE (joinP T a b)) := by
  have hu : (joinE (joinP T a b)).under 0 = true := by cases joinP T a b <;> simp [joinE, AV.under, AV.underL]
  refine pure0 Try.func30 c30 n30 e30 r30 (by simp) hu ?_
  by_cases g1 : a ≥ 4352
  · have e1 := dec_of g1
    by_cases g2 : a ≤ 4370
    · have e2 := dec_of g2
      by_cases g3 : b ≥ 4449
      · have e3 := dec_of g3
        by_cases g4 : b ≤ 4469
        · have e4 := dec_of g4
          have w1 : IntKind.i32.wrap (a - 4352) = a - 4352 := wrap_i32 _ (by omega) (by omega)
          have w2 : IntKind.i32.wrap ((a - 4352) * 21) = (a - 4352) * 21 := wrap_i32 _ (by omega) (by omega)
          have w3 : IntKind.i32.wrap ((a - 4352) * 21 + b) = (a - 4352) * 21 + b := wrap_i32 _ (by omega) (by omega)
          have w4 : IntKind.i32.wrap ((a - 4352) * 21 + b - 4449) = (a - 4352) * 21 + b - 4449 := wrap_i32 _ (by omega) (by omega)
          have w5 : IntKind.i32.wrap (((a - 4352) * 21 + b - 4449) * 28) = ((a - 4352) * 21 + b - 4449) * 28 := wrap_i32 _ (by omega) (by omega)
          have w6 : IntKind.i32.wrap (44032 + ((a - 4352) * 21 + b - 4449) * 28) = 44032 + ((a - 4352) * 21 + b - 4449) * 28 := wrap_i32 _ (by omega) (by omega)
          have : joinP T a b = some (44032 + ((a - 4352) * 21 + b - 4449) * 28) := by unfold joinP; rw [if_pos (by omega)]
          rw [this]
          simp only [a30, astart, argSlots, e1, e2, e3, e4, w1, w2, w3, w4, w5, w6, go_sem, Nat.reduceAdd, Nat.reduceEqDiff, Nat.reduceLT, reduceIte, reduceCtorEq, Nat.reduceBEq, Int.reduceLT, Int.reduceToNat, Int.reducePow, Nat.reduceLeDiff, Int.reduceLE, Nat.reduceMul, Nat.reduceSub]
          simp only [Done, resAV, resL, resOne, look_nil, look_cons, Nat.reduceEqDiff, if_true, if_false, reduceIte, ite_true, ite_false, Nat.zero_ne_one, Nat.one_ne_zero, reduceCtorEq, true_or, or_true, true_and, Option.some.injEq, AV.lit.injEq, Value.int.injEq, Value.bool.injEq]
          rfl
        · have e4 := dec_no g4
          simp only [a30, astart, argSlots, e1, e2, e3, e4, go_sem, Nat.reduceAdd, Nat.reduceEqDiff, Nat.reduceLT, reduceIte, reduceCtorEq, Nat.reduceBEq, Int.reduceLT, Int.reduceToNat, Int.reducePow, Nat.reduceLeDiff, Int.reduceLE, Nat.reduceMul, Nat.reduceSub]
          exact refJoin_two ha hb (by omega) (by simp only [go_sem, Nat.reduceAdd, Nat.reduceEqDiff, Nat.reduceLT, reduceIte, reduceCtorEq, Nat.reduceBEq, Int.reduceLT, Int.reduceToNat, Int.reducePow, Nat.reduceLeDiff, Int.reduceLE, Nat.reduceMul, Nat.reduceSub]) (by simp only [go_sem, Nat.reduceAdd, Nat.reduceEqDiff, Nat.reduceLT, reduceIte, reduceCtorEq, Nat.reduceBEq, Int.reduceLT, Int.reduceToNat, Int.reducePow, Nat.reduceLeDiff, Int.reduceLE, Nat.reduceMul, Nat.reduceSub])
      · have e3 := dec_no g3
        simp only [a30, astart, argSlots, e1, e2, e3, go_sem, Nat.reduceAdd, Nat.reduceEqDiff, Nat.reduceLT, reduceIte, reduceCtorEq, Nat.reduceBEq, Int.reduceLT, Int.reduceToNat, Int.reducePow, Nat.reduceLeDiff, Int.reduceLE, Nat.reduceMul, Nat.reduceSub]
        exact refJoin_two ha hb (by omega) (by simp only [go_sem, Nat.reduceAdd, Nat.reduceEqDiff, Nat.reduceLT, reduceIte, reduceCtorEq, Nat.reduceBEq, Int.reduceLT, Int.reduceToNat, Int.reducePow, Nat.reduceLeDiff, Int.reduceLE, Nat.reduceMul, Nat.reduceSub]) (by simp only [go_sem, Nat.reduceAdd, Nat.reduceEqDiff, Nat.reduceLT, reduceIte, reduceCtorEq, Nat.reduceBEq, Int.reduceLT, Int.reduceToNat, Int.reducePow, Nat.reduceLeDiff, Int.reduceLE, Nat.reduceMul, Nat.reduceSub])
    · have e2 := dec_no g2
      simp only [a30, astart, argSlots, e1, e2, go_sem, Nat.reduceAdd, Nat.reduceEqDiff, Nat.reduceLT, reduceIte, reduceCtorEq, Nat.reduceBEq, Int.reduceLT, Int.reduceToNat, Int.reducePow, Nat.reduceLeDiff, Int.reduceLE, Nat.reduceMul, Nat.reduceSub]
      exact refJoin_two ha hb (by omega) (by simp only [go_sem, Nat.reduceAdd, Nat.reduceEqDiff, Nat.reduceLT, reduceIte, reduceCtorEq, Nat.reduceBEq, Int.reduceLT, Int.reduceToNat, Int.reducePow, Nat.reduceLeDiff, Int.reduceLE, Nat.reduceMul, Nat.reduceSub]) (by simp only [go_sem, Nat.reduceAdd, Nat.reduceEqDiff, Nat.reduceLT, reduceIte, reduceCtorEq, Nat.reduceBEq, Int.reduceLT, Int.reduceToNat, Int.reducePow, Nat.reduceLeDiff, Int.reduceLE, Nat.reduceMul, Nat.reduceSub])
  · have e1 := dec_no g1
    simp only [a30, astart, argSlots, e1, go_sem, Nat.reduceAdd, Nat.reduceEqDiff, Nat.reduceLT, reduceIte, reduceCtorEq, Nat.reduceBEq, Int.reduceLT, Int.reduceToNat, Int.reducePow, Nat.reduceLeDiff, Int.reduceLE, Nat.reduceMul, Nat.reduceSub]
    exact refJoin_two ha hb (by omega) (by simp only [go_sem, Nat.reduceAdd, Nat.reduceEqDiff, Nat.reduceLT, reduceIte, reduceCtorEq, Nat.reduceBEq, Int.reduceLT, Int.reduceToNat, Int.reducePow, Nat.reduceLeDiff, Int.reduceLE, Nat.reduceMul, Nat.reduceSub]) (by simp only [go_sem, Nat.reduceAdd, Nat.reduceEqDiff, Nat.reduceLT, reduceIte, reduceCtorEq, Nat.reduceBEq, Int.reduceLT, Int.reduceToNat, Int.reducePow, Nat.reduceLeDiff, Int.reduceLE, Nat.reduceMul, Nat.reduceSub])
end Go.Proofs.Ytmhpjoadfgplgaa
