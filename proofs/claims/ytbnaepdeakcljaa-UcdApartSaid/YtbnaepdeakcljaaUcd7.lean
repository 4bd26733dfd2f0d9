/-
Brackets; the chapter's examples. Conditions: none.
-/
import Derived.Test.YtbnaepdeakcljaaUcd6
set_option linter.unusedSimpArgs false
set_option linter.unusedVariables false
set_option linter.unusedSectionVars false
namespace Go.Proofs.Ytbnaepdeakcljaa
open Go Go.Ab
def a57 : ACode :=
  (.seq (.reg [⟨(.some 0), (.mv (.k (.slice .none 0 0))), .none⟩]) (.seq (.reg [⟨(.some 1), (.bd [(.int .i32 0), (.int .i32 0)] [(0, (1, (.k (.int .i32 40)))), (1, (1, (.k (.int .i32 41))))]), .none⟩,
  ⟨(.some 2), (.bd [(.int .i32 0), (.int .i32 0)] [(0, (1, (.k (.int .i32 91)))), (1, (1, (.k (.int .i32 93))))]), .none⟩, ⟨(.some 3), (.bd [(.int .i32 0), (.int .i32 0)] [(0, (1, (.k (.int .i32
  123)))), (1, (1, (.k (.int .i32 125))))]), .none⟩, ⟨(.some 4), (.bd [(.int .i32 0), (.int .i32 0)] [(0, (1, (.k (.int .i32 9001)))), (1, (1, (.k (.int .i32 9002))))]), .none⟩, ⟨(.some 5), (.bd [(.int
  .i32 0), (.int .i32 0)] [(0, (1, (.k (.int .i32 12296)))), (1, (1, (.k (.int .i32 12297))))]), .none⟩, ⟨(.some 6), (.bd [(.int .i32 0), (.int .i32 0)] [(0, (1, (.k (.int .i32 12300)))), (1, (1, (.k
  (.int .i32 12301))))]), .none⟩, ⟨(.some 7), (.bd [(.int .i32 0), (.int .i32 0)] [(0, (1, (.k (.int .i32 65288)))), (1, (1, (.k (.int .i32 65289))))]), .none⟩, ⟨(.some 8), (.bs 76 2 [(.t 1), (.t 2),
  (.t 3), (.t 4), (.t 5), (.t 6), (.t 7)]), .none⟩, ⟨(.some 0), (.mv (.t 8)), .none⟩]) .ret))
theorem c57 : Try.f57.body.bind (cCode Try.prog 9) = some a57 := by kernel_rfl
theorem r57 : Try.f57.results.toList = [(.tmp 0)] := by kernel_rfl
theorem n57 : Try.f57.ntmps = 9 := by kernel_rfl
theorem e57 : Enters Try.prog 57 := enters_of Try.func57 (by kernel_rfl) (by kernel_rfl)
def a32 : ACode :=
  (.seq (.reg [⟨(.some 2), (.mv (.k (.int .i32 0))), .none⟩, ⟨(.some 3), (.mv (.k (.bool false))), .none⟩, ⟨(.some 4), (.mv (.k (.bool false))), .none⟩]) (.seq (.seq (.reg [⟨(.some 7), (.call (.f 57)
  []), .none⟩, ⟨(.some 8), (.len (.t 7)), .none⟩, ⟨(.some 9), (.mv (.k (.int .i64 0))), .none⟩]) (.block 0 (.loop (.seq (.reg [⟨(.some 10), (.bin .lss (.t 9) (.t 8)), .none⟩]) (.seq (.cond (.t 10) .skip
  (.exit 0)) (.seq (.block 1 (.seq (.reg [⟨(.some 11), (.ia 76 (.t 7) (.t 9)), .none⟩, ⟨(.some 12), (.ld (.some 2) (.t 11)), .none⟩, ⟨(.some 6), (.alc 76 [(.int .i32 0), (.int .i32 0)]), .none⟩, ⟨.none,
  (.st 2 (.t 6) (.t 12)), .none⟩]) (.seq (.reg [⟨(.some 13), (.mv (.t 0)), .none⟩]) (.block 2 (.seq (.reg [⟨(.some 15), (.iaA 2 1 (.t 6) (.k (.int .i64 0))), .none⟩, ⟨(.some 16), (.ld .none (.t 15)),
  .none⟩, ⟨(.some 17), (.bin .eql (.t 13) (.t 16)), .none⟩, ⟨(.some 14), (.mv (.t 17)), .none⟩]) (.cond (.t 14) (.seq (.reg [⟨(.some 18), (.iaA 2 1 (.t 6) (.k (.int .i64 1))), .none⟩, ⟨(.some 19), (.ld
  .none (.t 18)), .none⟩, ⟨(.some 2), (.mv (.t 19)), .none⟩, ⟨(.some 3), (.mv (.k (.bool true))), .none⟩, ⟨(.some 4), (.mv (.k (.bool true))), .none⟩]) .ret) (.seq (.reg [⟨(.some 21), (.iaA 2 1 (.t 6)
  (.k (.int .i64 1))), .none⟩, ⟨(.some 22), (.ld .none (.t 21)), .none⟩, ⟨(.some 23), (.bin .eql (.t 13) (.t 22)), .none⟩, ⟨(.some 20), (.mv (.t 23)), .none⟩]) (.cond (.t 20) (.seq (.reg [⟨(.some 24),
  (.iaA 2 1 (.t 6) (.k (.int .i64 0))), .none⟩, ⟨(.some 25), (.ld .none (.t 24)), .none⟩, ⟨(.some 2), (.mv (.t 25)), .none⟩, ⟨(.some 3), (.mv (.k (.bool false))), .none⟩, ⟨(.some 4), (.mv (.k (.bool
  true))), .none⟩]) .ret) .skip)))))))) (.reg [⟨(.some 26), (.bin .add (.t 9) (.k (.int .i64 1))), .none⟩, ⟨(.some 9), (.mv (.t 26)), .none⟩]))))))) (.seq (.reg [⟨(.some 2), (.mv (.k (.int .i32 0))),
  .none⟩, ⟨(.some 3), (.mv (.k (.bool false))), .none⟩, ⟨(.some 4), (.mv (.k (.bool false))), .none⟩]) .ret)))
theorem c32 : Try.f32.body.bind (cCode Try.prog 27) = some a32 := by kernel_rfl
theorem r32 : Try.f32.results.toList = [(.tmp 2), (.tmp 3), (.tmp 4)] := by kernel_rfl
theorem n32 : Try.f32.ntmps = 27 := by kernel_rfl
theorem e32 : Enters Try.prog 32 := enters_of Try.func32 (by kernel_rfl) (by kernel_rfl)
def a33 : ACode :=
  (.seq (.reg [⟨(.some 2), (.mv (.k (.int .i32 0))), .none⟩, ⟨(.some 3), (.mv (.k (.bool false))), .none⟩]) (.seq (.seq (.reg [⟨(.some 4), (.mv (.t 0)), .none⟩]) (.block 0 (.seq (.reg [⟨(.some 6), (.bin
  .eql (.t 4) (.k (.int .i32 40))), .none⟩, ⟨(.some 5), (.mv (.t 6)), .none⟩]) (.cond (.t 5) (.seq (.reg [⟨(.some 2), (.mv (.k (.int .i32 41))), .none⟩, ⟨(.some 3), (.mv (.k (.bool true))), .none⟩])
  .ret) (.seq (.reg [⟨(.some 8), (.bin .eql (.t 4) (.k (.int .i32 41))), .none⟩, ⟨(.some 7), (.mv (.t 8)), .none⟩]) (.cond (.t 7) (.seq (.reg [⟨(.some 2), (.mv (.k (.int .i32 40))), .none⟩, ⟨(.some 3),
  (.mv (.k (.bool false))), .none⟩]) .ret) (.seq (.reg [⟨(.some 10), (.bin .eql (.t 4) (.k (.int .i32 91))), .none⟩, ⟨(.some 9), (.mv (.t 10)), .none⟩]) (.cond (.t 9) (.seq (.reg [⟨(.some 2), (.mv (.k
  (.int .i32 93))), .none⟩, ⟨(.some 3), (.mv (.k (.bool true))), .none⟩]) .ret) (.seq (.reg [⟨(.some 12), (.bin .eql (.t 4) (.k (.int .i32 93))), .none⟩, ⟨(.some 11), (.mv (.t 12)), .none⟩]) (.cond (.t
  11) (.seq (.reg [⟨(.some 2), (.mv (.k (.int .i32 91))), .none⟩, ⟨(.some 3), (.mv (.k (.bool false))), .none⟩]) .ret) (.seq (.reg [⟨(.some 14), (.bin .eql (.t 4) (.k (.int .i32 123))), .none⟩, ⟨(.some
  13), (.mv (.t 14)), .none⟩]) (.cond (.t 13) (.seq (.reg [⟨(.some 2), (.mv (.k (.int .i32 125))), .none⟩, ⟨(.some 3), (.mv (.k (.bool true))), .none⟩]) .ret) (.seq (.reg [⟨(.some 16), (.bin .eql (.t 4)
  (.k (.int .i32 125))), .none⟩, ⟨(.some 15), (.mv (.t 16)), .none⟩]) (.cond (.t 15) (.seq (.reg [⟨(.some 2), (.mv (.k (.int .i32 123))), .none⟩, ⟨(.some 3), (.mv (.k (.bool false))), .none⟩]) .ret)
  (.seq (.reg [⟨(.some 18), (.bin .eql (.t 4) (.k (.int .i32 9001))), .none⟩, ⟨(.some 17), (.mv (.t 18)), .none⟩]) (.cond (.t 17) (.seq (.reg [⟨(.some 2), (.mv (.k (.int .i32 9002))), .none⟩, ⟨(.some
  3), (.mv (.k (.bool true))), .none⟩]) .ret) (.seq (.reg [⟨(.some 20), (.bin .eql (.t 4) (.k (.int .i32 9002))), .none⟩, ⟨(.some 19), (.mv (.t 20)), .none⟩]) (.cond (.t 19) (.seq (.reg [⟨(.some 2),
  (.mv (.k (.int .i32 9001))), .none⟩, ⟨(.some 3), (.mv (.k (.bool false))), .none⟩]) .ret) (.seq (.reg [⟨(.some 22), (.bin .eql (.t 4) (.k (.int .i32 12296))), .none⟩, ⟨(.some 21), (.mv (.t 22)),
  .none⟩]) (.cond (.t 21) (.seq (.reg [⟨(.some 2), (.mv (.k (.int .i32 12297))), .none⟩, ⟨(.some 3), (.mv (.k (.bool true))), .none⟩]) .ret) (.seq (.reg [⟨(.some 24), (.bin .eql (.t 4) (.k (.int .i32
  12297))), .none⟩, ⟨(.some 23), (.mv (.t 24)), .none⟩]) (.cond (.t 23) (.seq (.reg [⟨(.some 2), (.mv (.k (.int .i32 12296))), .none⟩, ⟨(.some 3), (.mv (.k (.bool false))), .none⟩]) .ret) (.seq (.reg
  [⟨(.some 26), (.bin .eql (.t 4) (.k (.int .i32 12300))), .none⟩, ⟨(.some 25), (.mv (.t 26)), .none⟩]) (.cond (.t 25) (.seq (.reg [⟨(.some 2), (.mv (.k (.int .i32 12301))), .none⟩, ⟨(.some 3), (.mv (.k
  (.bool true))), .none⟩]) .ret) (.seq (.reg [⟨(.some 28), (.bin .eql (.t 4) (.k (.int .i32 12301))), .none⟩, ⟨(.some 27), (.mv (.t 28)), .none⟩]) (.cond (.t 27) (.seq (.reg [⟨(.some 2), (.mv (.k (.int
  .i32 12300))), .none⟩, ⟨(.some 3), (.mv (.k (.bool false))), .none⟩]) .ret) (.seq (.reg [⟨(.some 30), (.bin .eql (.t 4) (.k (.int .i32 65288))), .none⟩, ⟨(.some 29), (.mv (.t 30)), .none⟩]) (.cond (.t
  29) (.seq (.reg [⟨(.some 2), (.mv (.k (.int .i32 65289))), .none⟩, ⟨(.some 3), (.mv (.k (.bool true))), .none⟩]) .ret) (.seq (.reg [⟨(.some 32), (.bin .eql (.t 4) (.k (.int .i32 65289))), .none⟩,
  ⟨(.some 31), (.mv (.t 32)), .none⟩]) (.cond (.t 31) (.seq (.reg [⟨(.some 2), (.mv (.k (.int .i32 65288))), .none⟩, ⟨(.some 3), (.mv (.k (.bool false))), .none⟩]) .ret)
  .skip)))))))))))))))))))))))))))))) (.seq (.reg [⟨(.some 2), (.mv (.k (.int .i32 0))), .none⟩, ⟨(.some 3), (.mv (.k (.bool false))), .none⟩]) .ret)))
theorem c33 : Try.f33.body.bind (cCode Try.prog 33) = some a33 := by kernel_rfl
theorem r33 : Try.f33.results.toList = [(.tmp 2), (.tmp 3)] := by kernel_rfl
theorem n33 : Try.f33.ntmps = 33 := by kernel_rfl
theorem e33 : Enters Try.prog 33 := enters_of Try.func33 (by kernel_rfl) (by kernel_rfl)
def a34 : ACode :=
  (.seq (.reg [⟨(.some 0), (.mv (.k (.bool false))), .none⟩]) (.seq (.reg [⟨(.some 5), (.call (.f 32) [(.k (.int .i32 41))]), .none⟩, ⟨(.some 4), (.mv (.t 5)), .none⟩, ⟨(.some 6), (.ext (.t 4) 0),
  .none⟩, ⟨(.some 7), (.ext (.t 4) 1), .none⟩, ⟨(.some 8), (.ext (.t 4) 2), .none⟩, ⟨(.some 1), (.mv (.t 6)), .none⟩, ⟨(.some 2), (.mv (.t 7)), .none⟩, ⟨(.some 3), (.mv (.t 8)), .none⟩]) (.seq (.reg
  [⟨(.some 9), (.call (.f 30) [(.k (.int .i32 65))]), .none⟩, ⟨(.some 10), (.bd [(.int .u8 0), (.int .u8 0), (.int .u8 0), (.int .u8 0), (.int .u8 0), (.int .u8 0), (.int .u8 0)] [(0, (1, (.k (.int .u8
  2)))), (4, (1, (.k (.int .u8 2)))), (6, (1, (.k (.int .u8 1))))]), .none⟩, ⟨(.some 11), (.eqg false [.int, .int, .int, .int, .int, .int, .int] (.t 9) (.t 10)), .none⟩, ⟨(.some 12), (.mv (.t 11)),
  .none⟩, ⟨(.some 13), (.call (.f 30) [(.k (.int .i32 769))]), (.some (12, true))⟩, ⟨(.some 14), (.bd [(.int .u8 0), (.int .u8 0), (.int .u8 0), (.int .u8 0), (.int .u8 0), (.int .u8 0), (.int .u8 0)]
  [(0, (1, (.k (.int .u8 4)))), (1, (1, (.k (.int .u8 8)))), (2, (1, (.k (.int .u8 2)))), (3, (1, (.k (.int .u8 230)))), (4, (1, (.k (.int .u8 1))))]), (.some (12, true))⟩, ⟨(.some 15), (.eqg false
  [.int, .int, .int, .int, .int, .int, .int] (.t 13) (.t 14)), (.some (12, true))⟩, ⟨(.some 16), (.pick (.t 12) (.t 15) (.k (.bool false))), .none⟩, ⟨(.some 17), (.mv (.t 16)), .none⟩, ⟨(.some 18),
  (.call (.f 30) [(.k (.int .i32 1632))]), (.some (17, true))⟩, ⟨(.some 19), (.fld 1 .none (.t 18)), (.some (17, true))⟩, ⟨(.some 20), (.bin .eql (.t 19) (.k (.int .u8 6))), (.some (17, true))⟩, ⟨(.some
  21), (.pick (.t 17) (.t 20) (.k (.bool false))), .none⟩, ⟨(.some 22), (.mv (.t 21)), .none⟩, ⟨(.some 23), (.call (.f 30) [(.k (.int .i32 1632))]), (.some (22, true))⟩, ⟨(.some 24), (.fld 5 .none (.t
  23)), (.some (22, true))⟩, ⟨(.some 25), (.bin .eql (.t 24) (.k (.int .u8 2))), (.some (22, true))⟩, ⟨(.some 26), (.pick (.t 22) (.t 25) (.k (.bool false))), .none⟩, ⟨(.some 27), (.mv (.t 26)), .none⟩,
  ⟨(.some 28), (.call (.f 30) [(.k (.int .i32 57344))]), (.some (27, true))⟩, ⟨(.some 29), (.bd [(.int .u8 0), (.int .u8 0), (.int .u8 0), (.int .u8 0), (.int .u8 0), (.int .u8 0), (.int .u8 0)] [(6,
  (1, (.k (.int .u8 1))))]), (.some (27, true))⟩, ⟨(.some 30), (.eqg false [.int, .int, .int, .int, .int, .int, .int] (.t 28) (.t 29)), (.some (27, true))⟩, ⟨(.some 31), (.pick (.t 27) (.t 30) (.k
  (.bool false))), .none⟩, ⟨(.some 32), (.mv (.t 31)), .none⟩, ⟨(.some 33), (.mv (.t 1)), (.some (32, true))⟩, ⟨(.some 34), (.bin .eql (.t 33) (.k (.int .i32 40))), (.some (32, true))⟩, ⟨(.some 35),
  (.pick (.t 32) (.t 34) (.k (.bool false))), .none⟩, ⟨(.some 36), (.mv (.t 35)), .none⟩, ⟨(.some 37), (.mv (.t 2)), (.some (36, true))⟩, ⟨(.some 38), (.not (.t 37)), (.some (36, true))⟩, ⟨(.some 39),
  (.pick (.t 36) (.t 38) (.k (.bool false))), .none⟩, ⟨(.some 40), (.mv (.t 39)), .none⟩, ⟨(.some 41), (.mv (.t 3)), (.some (40, true))⟩, ⟨(.some 42), (.pick (.t 40) (.t 41) (.k (.bool false))), .none⟩,
  ⟨(.some 0), (.mv (.t 42)), .none⟩]) .ret)))
theorem c34 : Try.f34.body.bind (cCode Try.prog 43) = some a34 := by kernel_rfl
theorem r34 : Try.f34.results.toList = [(.tmp 0)] := by kernel_rfl
theorem n34 : Try.f34.ntmps = 43 := by kernel_rfl
theorem e34 : Enters Try.prog 34 := enters_of Try.func34 (by kernel_rfl) (by kernel_rfl)

def pairsL : List (Int × Int) := [(40, 41), (91, 93), (123, 125), (9001, 9002), (12296, 12297), (12300, 12301), (65288, 65289)]
def pairsV : List (List Value) := pairsL.map fun p => [.int .i32 p.1, .int .i32 p.2]
theorem pairs_pure : Pure Try.prog 57 [] [76] (.sl 76 pairsV (some 0)) := pure1_run Try.func57 c57 n57 e57 r57 (by kernel_rfl)

/-- The other one of a bracket, whether it opens, and whether it is one. -/
def brkF : List (Int × Int) → Int → Int × Bool × Bool
  | [], _ => (0, false, false)
  | (a, b) :: l, r => if r = a then (b, true, true) else if r = b then (a, false, true) else brkF l r
def brk (r : Int) : Int × Bool × Bool := brkF pairsL r
def brkT (z : Int × Bool × Bool) : AV := .tu [.lit (.int .i32 z.1), .lit (.bool z.2.1), .lit (.bool z.2.2)]

set_option maxRecDepth 10000 in
theorem bracket_pure (r : Int) : Pure Try.prog 32 [.lit (.int .i32 r)] [] (.tu [.lit (.int .i32 (brk r).1), .lit (.bool (brk r).2.1), .lit (.bool (brk r).2.2)]) := by
  refine pure0 Try.func32 c32 n32 e32 r32 (by simp) rfl ?_
  simp only [a32, astart, argSlots, go_sem, Nat.reduceAdd, Nat.reduceEqDiff, Nat.reduceLT, reduceIte, reduceCtorEq, Nat.reduceBEq, Int.reduceLT, Int.reduceToNat, Int.reducePow, Nat.reduceLeDiff, Int.reduceLE, Nat.reduceMul, Nat.reduceSub]
  refine callGo_pure pairs_pure rfl ?_
  simp only [go_sem, Nat.reduceAdd, Nat.reduceEqDiff, Nat.reduceLT, reduceIte, reduceCtorEq, Nat.reduceBEq, Int.reduceLT, Int.reduceToNat, Int.reducePow, Nat.reduceLeDiff, Int.reduceLE, Nat.reduceMul, Nat.reduceSub]
  have hl : pairsV.length = 7 := rfl
  refine loop_to 7 (fun i => ⟨[(0, some (.lit (.int .i32 r))), (7, some (.sl 76 pairsV none)), (8, some (.lit (.int .i64 7))), (9, some (.lit (.int .i64 i)))], [], [], 0⟩) (fun i => i ≤ 7 ∧ brk r = brkF (pairsL.drop i) r)
    ((weak_untip 7 (by simp only [go_sem, Nat.reduceAdd, Nat.reduceEqDiff, Nat.reduceLT, reduceIte, reduceCtorEq, Nat.reduceBEq, Int.reduceLT, Int.reduceToNat, Int.reducePow, Nat.reduceLeDiff, Int.reduceLE, Nat.reduceMul, Nat.reduceSub]; rfl)).trans (weak_by [] (by simp) rfl ?_ ?_ ?_ ?_)) ⟨Nat.zero_le _, rfl⟩ ?_ ?_
  · simp only [go_sem, Nat.reduceAdd, Nat.reduceEqDiff, Nat.reduceLT, reduceIte, reduceCtorEq, Nat.reduceBEq, Int.reduceLT, Int.reduceToNat, Int.reducePow, Nat.reduceLeDiff, Int.reduceLE, Nat.reduceMul, Nat.reduceSub, slotsBy, boxesBy, tipsBy, rawAt, nm, AV.ren, AV.renL, AV.under, AV.underL, List.all_nil, List.all_cons, bne_self_eq_false, List.getD_cons_zero, List.getD_cons_succ, List.length_nil, List.length_cons, and_true, true_and, hl, Int.natCast_zero]; rfl
  · trivial
  · trivial
  · simp
  · intro i hi ⟨_, hb⟩
    have hlt : i < pairsL.length := hi
    have hx := List.getElem?_eq_getElem hlt
    have hg : pairsV[i]? = some [.int .i32 pairsL[i].1, .int .i32 pairsL[i].2] := by simp [pairsV, hx]
    rw [List.drop_eq_getElem_cons hlt] at hb
    generalize pairsL[i] = x at hx hg hb
    have hd : decide ((i : Int) < 7) = true := by simp; omega
    have hw2 : IntKind.i64.wrap ((i : Int) + 1) = ((i + 1 : Nat) : Int) := by rw [wrap_i64 _ (by omega) (by omega)]; omega
    simp only [hd, go_sem, Nat.reduceAdd, Nat.reduceEqDiff, Nat.reduceLT, reduceIte, reduceCtorEq, Nat.reduceBEq, Int.reduceLT, Int.reduceToNat, Int.reducePow, Nat.reduceLeDiff, Int.reduceLE, Nat.reduceMul, Nat.reduceSub, Int.natCast_nonneg, Int.toNat_natCast, hg]
    refine cGo_split (fun h1 => ?_) (fun h1 => ?_) <;> simp only [beq_iff_eq, beq_eq_false_iff_ne, ne_eq] at h1
    · have hb2 : brk r = (x.2, true, true) := by rw [hb]; simp only [brkF, h1, ite_true]
      rw [hb2]
      simp only [go_sem, Nat.reduceAdd, Nat.reduceEqDiff, Nat.reduceLT, reduceIte, reduceCtorEq, Nat.reduceBEq, Int.reduceLT, Int.reduceToNat, Int.reducePow, Nat.reduceLeDiff, Int.reduceLE, Nat.reduceMul, Nat.reduceSub]
      simp only [Done, resAV, resL, resOne, look_nil, look_cons, Nat.reduceEqDiff, if_true, if_false, reduceIte, ite_true, ite_false, Nat.zero_ne_one, Nat.one_ne_zero, reduceCtorEq, true_or, or_true, true_and, Option.some.injEq, AV.lit.injEq, Value.int.injEq, Value.bool.injEq]
    · simp only [go_sem, Nat.reduceAdd, Nat.reduceEqDiff, Nat.reduceLT, reduceIte, reduceCtorEq, Nat.reduceBEq, Int.reduceLT, Int.reduceToNat, Int.reducePow, Nat.reduceLeDiff, Int.reduceLE, Nat.reduceMul, Nat.reduceSub]
      refine cGo_split (fun h2 => ?_) (fun h2 => ?_) <;> simp only [beq_iff_eq, beq_eq_false_iff_ne, ne_eq] at h2
      · have hb2 : brk r = (x.1, false, true) := by rw [hb]; simp only [brkF]; rw [if_neg h1, if_pos h2]
        rw [hb2]
        simp only [go_sem, Nat.reduceAdd, Nat.reduceEqDiff, Nat.reduceLT, reduceIte, reduceCtorEq, Nat.reduceBEq, Int.reduceLT, Int.reduceToNat, Int.reducePow, Nat.reduceLeDiff, Int.reduceLE, Nat.reduceMul, Nat.reduceSub]
        simp only [Done, resAV, resL, resOne, look_nil, look_cons, Nat.reduceEqDiff, if_true, if_false, reduceIte, ite_true, ite_false, Nat.zero_ne_one, Nat.one_ne_zero, reduceCtorEq, true_or, or_true, true_and, Option.some.injEq, AV.lit.injEq, Value.int.injEq, Value.bool.injEq]
      · have hb2 : brk r = brkF (pairsL.drop (i + 1)) r := by rw [hb]; simp only [brkF]; rw [if_neg h1, if_neg h2]
        simp only [go_sem, Nat.reduceAdd, Nat.reduceEqDiff, Nat.reduceLT, reduceIte, reduceCtorEq, Nat.reduceBEq, Int.reduceLT, Int.reduceToNat, Int.reducePow, Nat.reduceLeDiff, Int.reduceLE, Nat.reduceMul, Nat.reduceSub, hw2]
        refine ⟨weak_by [] (by simp) rfl ?_ ?_ ?_ ?_, by omega, hb2⟩
        · simp only [go_sem, Nat.reduceAdd, Nat.reduceEqDiff, Nat.reduceLT, reduceIte, reduceCtorEq, Nat.reduceBEq, Int.reduceLT, Int.reduceToNat, Int.reducePow, Nat.reduceLeDiff, Int.reduceLE, Nat.reduceMul, Nat.reduceSub, slotsBy, boxesBy, tipsBy, rawAt, nm, AV.ren, AV.renL, AV.under, AV.underL, List.all_nil, List.all_cons, bne_self_eq_false, List.getD_cons_zero, List.getD_cons_succ, List.length_nil, List.length_cons, and_true, true_and]
        · trivial
        · trivial
        · simp
  · intro ⟨_, hb⟩
    have hd : decide (((7 : Nat) : Int) < 7) = false := rfl
    rw [hb]
    have h7 : brkF (pairsL.drop 7) r = (0, false, false) := rfl
    rw [h7]
    simp only [hd, go_sem, Nat.reduceAdd, Nat.reduceEqDiff, Nat.reduceLT, reduceIte, reduceCtorEq, Nat.reduceBEq, Int.reduceLT, Int.reduceToNat, Int.reducePow, Nat.reduceLeDiff, Int.reduceLE, Nat.reduceMul, Nat.reduceSub]
    simp only [Done, resAV, resL, resOne, look_nil, look_cons, Nat.reduceEqDiff, if_true, if_false, reduceIte, ite_true, ite_false, Nat.zero_ne_one, Nat.one_ne_zero, reduceCtorEq, true_or, or_true, true_and, Option.some.injEq, AV.lit.injEq, Value.int.injEq, Value.bool.injEq]

set_option maxRecDepth 10000 in
theorem refBracket_pure (r : Int) : Pure Try.prog 33 [.lit (.int .i32 r)] [] (.tu [.lit (.int .i32 (brk r).1), .lit (.bool (brk r).2.1)]) := by
  refine pure0 Try.func33 c33 n33 e33 r33 (by simp) rfl ?_
  simp only [a33, astart, argSlots, go_sem, Nat.reduceAdd, Nat.reduceEqDiff, Nat.reduceLT, reduceIte, reduceCtorEq, Nat.reduceBEq, Int.reduceLT, Int.reduceToNat, Int.reducePow, Nat.reduceLeDiff, Int.reduceLE, Nat.reduceMul, Nat.reduceSub]
  refine cGo_split (fun h0 => ?_) (fun h0 => ?_) <;> simp only [beq_iff_eq, beq_eq_false_iff_ne, ne_eq] at h0
  · subst h0
    simp only [go_sem, Nat.reduceAdd, Nat.reduceEqDiff, Nat.reduceLT, reduceIte, reduceCtorEq, Nat.reduceBEq, Int.reduceLT, Int.reduceToNat, Int.reducePow, Nat.reduceLeDiff, Int.reduceLE, Nat.reduceMul, Nat.reduceSub]
    simp only [Done, resAV, resL, resOne, look_nil, look_cons, Nat.reduceEqDiff, if_true, if_false, reduceIte, ite_true, ite_false, Nat.zero_ne_one, Nat.one_ne_zero, reduceCtorEq, true_or, or_true, true_and, Option.some.injEq, AV.lit.injEq, Value.int.injEq, Value.bool.injEq]
    rfl
  · simp only [go_sem, Nat.reduceAdd, Nat.reduceEqDiff, Nat.reduceLT, reduceIte, reduceCtorEq, Nat.reduceBEq, Int.reduceLT, Int.reduceToNat, Int.reducePow, Nat.reduceLeDiff, Int.reduceLE, Nat.reduceMul, Nat.reduceSub]
    refine cGo_split (fun h1 => ?_) (fun h1 => ?_) <;> simp only [beq_iff_eq, beq_eq_false_iff_ne, ne_eq] at h1
    · subst h1
      simp only [go_sem, Nat.reduceAdd, Nat.reduceEqDiff, Nat.reduceLT, reduceIte, reduceCtorEq, Nat.reduceBEq, Int.reduceLT, Int.reduceToNat, Int.reducePow, Nat.reduceLeDiff, Int.reduceLE, Nat.reduceMul, Nat.reduceSub]
      simp only [Done, resAV, resL, resOne, look_nil, look_cons, Nat.reduceEqDiff, if_true, if_false, reduceIte, ite_true, ite_false, Nat.zero_ne_one, Nat.one_ne_zero, reduceCtorEq, true_or, or_true, true_and, Option.some.injEq, AV.lit.injEq, Value.int.injEq, Value.bool.injEq]
      rfl
    · simp only [go_sem, Nat.reduceAdd, Nat.reduceEqDiff, Nat.reduceLT, reduceIte, reduceCtorEq, Nat.reduceBEq, Int.reduceLT, Int.reduceToNat, Int.reducePow, Nat.reduceLeDiff, Int.reduceLE, Nat.reduceMul, Nat.reduceSub]
      refine cGo_split (fun h2 => ?_) (fun h2 => ?_) <;> simp only [beq_iff_eq, beq_eq_false_iff_ne, ne_eq] at h2
      · subst h2
        simp only [go_sem, Nat.reduceAdd, Nat.reduceEqDiff, Nat.reduceLT, reduceIte, reduceCtorEq, Nat.reduceBEq, Int.reduceLT, Int.reduceToNat, Int.reducePow, Nat.reduceLeDiff, Int.reduceLE, Nat.reduceMul, Nat.reduceSub]
        simp only [Done, resAV, resL, resOne, look_nil, look_cons, Nat.reduceEqDiff, if_true, if_false, reduceIte, ite_true, ite_false, Nat.zero_ne_one, Nat.one_ne_zero, reduceCtorEq, true_or, or_true, true_and, Option.some.injEq, AV.lit.injEq, Value.int.injEq, Value.bool.injEq]
        rfl
      · simp only [go_sem, Nat.reduceAdd, Nat.reduceEqDiff, Nat.reduceLT, reduceIte, reduceCtorEq, Nat.reduceBEq, Int.reduceLT, Int.reduceToNat, Int.reducePow, Nat.reduceLeDiff, Int.reduceLE, Nat.reduceMul, Nat.reduceSub]
        refine cGo_split (fun h3 => ?_) (fun h3 => ?_) <;> simp only [beq_iff_eq, beq_eq_false_iff_ne, ne_eq] at h3
        · subst h3
          simp only [go_sem, Nat.reduceAdd, Nat.reduceEqDiff, Nat.reduceLT, reduceIte, reduceCtorEq, Nat.reduceBEq, Int.reduceLT, Int.reduceToNat, Int.reducePow, Nat.reduceLeDiff, Int.reduceLE, Nat.reduceMul, Nat.reduceSub]
          simp only [Done, resAV, resL, resOne, look_nil, look_cons, Nat.reduceEqDiff, if_true, if_false, reduceIte, ite_true, ite_false, Nat.zero_ne_one, Nat.one_ne_zero, reduceCtorEq, true_or, or_true, true_and, Option.some.injEq, AV.lit.injEq, Value.int.injEq, Value.bool.injEq]
          rfl
        · simp only [go_sem, Nat.reduceAdd, Nat.reduceEqDiff, Nat.reduceLT, reduceIte, reduceCtorEq, Nat.reduceBEq, Int.reduceLT, Int.reduceToNat, Int.reducePow, Nat.reduceLeDiff, Int.reduceLE, Nat.reduceMul, Nat.reduceSub]
          refine cGo_split (fun h4 => ?_) (fun h4 => ?_) <;> simp only [beq_iff_eq, beq_eq_false_iff_ne, ne_eq] at h4
          · subst h4
            simp only [go_sem, Nat.reduceAdd, Nat.reduceEqDiff, Nat.reduceLT, reduceIte, reduceCtorEq, Nat.reduceBEq, Int.reduceLT, Int.reduceToNat, Int.reducePow, Nat.reduceLeDiff, Int.reduceLE, Nat.reduceMul, Nat.reduceSub]
            simp only [Done, resAV, resL, resOne, look_nil, look_cons, Nat.reduceEqDiff, if_true, if_false, reduceIte, ite_true, ite_false, Nat.zero_ne_one, Nat.one_ne_zero, reduceCtorEq, true_or, or_true, true_and, Option.some.injEq, AV.lit.injEq, Value.int.injEq, Value.bool.injEq]
            rfl
          · simp only [go_sem, Nat.reduceAdd, Nat.reduceEqDiff, Nat.reduceLT, reduceIte, reduceCtorEq, Nat.reduceBEq, Int.reduceLT, Int.reduceToNat, Int.reducePow, Nat.reduceLeDiff, Int.reduceLE, Nat.reduceMul, Nat.reduceSub]
            refine cGo_split (fun h5 => ?_) (fun h5 => ?_) <;> simp only [beq_iff_eq, beq_eq_false_iff_ne, ne_eq] at h5
            · subst h5
              simp only [go_sem, Nat.reduceAdd, Nat.reduceEqDiff, Nat.reduceLT, reduceIte, reduceCtorEq, Nat.reduceBEq, Int.reduceLT, Int.reduceToNat, Int.reducePow, Nat.reduceLeDiff, Int.reduceLE, Nat.reduceMul, Nat.reduceSub]
              simp only [Done, resAV, resL, resOne, look_nil, look_cons, Nat.reduceEqDiff, if_true, if_false, reduceIte, ite_true, ite_false, Nat.zero_ne_one, Nat.one_ne_zero, reduceCtorEq, true_or, or_true, true_and, Option.some.injEq, AV.lit.injEq, Value.int.injEq, Value.bool.injEq]
              rfl
            · simp only [go_sem, Nat.reduceAdd, Nat.reduceEqDiff, Nat.reduceLT, reduceIte, reduceCtorEq, Nat.reduceBEq, Int.reduceLT, Int.reduceToNat, Int.reducePow, Nat.reduceLeDiff, Int.reduceLE, Nat.reduceMul, Nat.reduceSub]
              refine cGo_split (fun h6 => ?_) (fun h6 => ?_) <;> simp only [beq_iff_eq, beq_eq_false_iff_ne, ne_eq] at h6
              · subst h6
                simp only [go_sem, Nat.reduceAdd, Nat.reduceEqDiff, Nat.reduceLT, reduceIte, reduceCtorEq, Nat.reduceBEq, Int.reduceLT, Int.reduceToNat, Int.reducePow, Nat.reduceLeDiff, Int.reduceLE, Nat.reduceMul, Nat.reduceSub]
                simp only [Done, resAV, resL, resOne, look_nil, look_cons, Nat.reduceEqDiff, if_true, if_false, reduceIte, ite_true, ite_false, Nat.zero_ne_one, Nat.one_ne_zero, reduceCtorEq, true_or, or_true, true_and, Option.some.injEq, AV.lit.injEq, Value.int.injEq, Value.bool.injEq]
                rfl
              · simp only [go_sem, Nat.reduceAdd, Nat.reduceEqDiff, Nat.reduceLT, reduceIte, reduceCtorEq, Nat.reduceBEq, Int.reduceLT, Int.reduceToNat, Int.reducePow, Nat.reduceLeDiff, Int.reduceLE, Nat.reduceMul, Nat.reduceSub]
                refine cGo_split (fun h7 => ?_) (fun h7 => ?_) <;> simp only [beq_iff_eq, beq_eq_false_iff_ne, ne_eq] at h7
                · subst h7
                  simp only [go_sem, Nat.reduceAdd, Nat.reduceEqDiff, Nat.reduceLT, reduceIte, reduceCtorEq, Nat.reduceBEq, Int.reduceLT, Int.reduceToNat, Int.reducePow, Nat.reduceLeDiff, Int.reduceLE, Nat.reduceMul, Nat.reduceSub]
                  simp only [Done, resAV, resL, resOne, look_nil, look_cons, Nat.reduceEqDiff, if_true, if_false, reduceIte, ite_true, ite_false, Nat.zero_ne_one, Nat.one_ne_zero, reduceCtorEq, true_or, or_true, true_and, Option.some.injEq, AV.lit.injEq, Value.int.injEq, Value.bool.injEq]
                  rfl
                · simp only [go_sem, Nat.reduceAdd, Nat.reduceEqDiff, Nat.reduceLT, reduceIte, reduceCtorEq, Nat.reduceBEq, Int.reduceLT, Int.reduceToNat, Int.reducePow, Nat.reduceLeDiff, Int.reduceLE, Nat.reduceMul, Nat.reduceSub]
                  refine cGo_split (fun h8 => ?_) (fun h8 => ?_) <;> simp only [beq_iff_eq, beq_eq_false_iff_ne, ne_eq] at h8
                  · subst h8
                    simp only [go_sem, Nat.reduceAdd, Nat.reduceEqDiff, Nat.reduceLT, reduceIte, reduceCtorEq, Nat.reduceBEq, Int.reduceLT, Int.reduceToNat, Int.reducePow, Nat.reduceLeDiff, Int.reduceLE, Nat.reduceMul, Nat.reduceSub]
                    simp only [Done, resAV, resL, resOne, look_nil, look_cons, Nat.reduceEqDiff, if_true, if_false, reduceIte, ite_true, ite_false, Nat.zero_ne_one, Nat.one_ne_zero, reduceCtorEq, true_or, or_true, true_and, Option.some.injEq, AV.lit.injEq, Value.int.injEq, Value.bool.injEq]
                    rfl
                  · simp only [go_sem, Nat.reduceAdd, Nat.reduceEqDiff, Nat.reduceLT, reduceIte, reduceCtorEq, Nat.reduceBEq, Int.reduceLT, Int.reduceToNat, Int.reducePow, Nat.reduceLeDiff, Int.reduceLE, Nat.reduceMul, Nat.reduceSub]
                    refine cGo_split (fun h9 => ?_) (fun h9 => ?_) <;> simp only [beq_iff_eq, beq_eq_false_iff_ne, ne_eq] at h9
                    · subst h9
                      simp only [go_sem, Nat.reduceAdd, Nat.reduceEqDiff, Nat.reduceLT, reduceIte, reduceCtorEq, Nat.reduceBEq, Int.reduceLT, Int.reduceToNat, Int.reducePow, Nat.reduceLeDiff, Int.reduceLE, Nat.reduceMul, Nat.reduceSub]
                      simp only [Done, resAV, resL, resOne, look_nil, look_cons, Nat.reduceEqDiff, if_true, if_false, reduceIte, ite_true, ite_false, Nat.zero_ne_one, Nat.one_ne_zero, reduceCtorEq, true_or, or_true, true_and, Option.some.injEq, AV.lit.injEq, Value.int.injEq, Value.bool.injEq]
                      rfl
                    · simp only [go_sem, Nat.reduceAdd, Nat.reduceEqDiff, Nat.reduceLT, reduceIte, reduceCtorEq, Nat.reduceBEq, Int.reduceLT, Int.reduceToNat, Int.reducePow, Nat.reduceLeDiff, Int.reduceLE, Nat.reduceMul, Nat.reduceSub]
                      refine cGo_split (fun h10 => ?_) (fun h10 => ?_) <;> simp only [beq_iff_eq, beq_eq_false_iff_ne, ne_eq] at h10
                      · subst h10
                        simp only [go_sem, Nat.reduceAdd, Nat.reduceEqDiff, Nat.reduceLT, reduceIte, reduceCtorEq, Nat.reduceBEq, Int.reduceLT, Int.reduceToNat, Int.reducePow, Nat.reduceLeDiff, Int.reduceLE, Nat.reduceMul, Nat.reduceSub]
                        simp only [Done, resAV, resL, resOne, look_nil, look_cons, Nat.reduceEqDiff, if_true, if_false, reduceIte, ite_true, ite_false, Nat.zero_ne_one, Nat.one_ne_zero, reduceCtorEq, true_or, or_true, true_and, Option.some.injEq, AV.lit.injEq, Value.int.injEq, Value.bool.injEq]
                        rfl
                      · simp only [go_sem, Nat.reduceAdd, Nat.reduceEqDiff, Nat.reduceLT, reduceIte, reduceCtorEq, Nat.reduceBEq, Int.reduceLT, Int.reduceToNat, Int.reducePow, Nat.reduceLeDiff, Int.reduceLE, Nat.reduceMul, Nat.reduceSub]
                        refine cGo_split (fun h11 => ?_) (fun h11 => ?_) <;> simp only [beq_iff_eq, beq_eq_false_iff_ne, ne_eq] at h11
                        · subst h11
                          simp only [go_sem, Nat.reduceAdd, Nat.reduceEqDiff, Nat.reduceLT, reduceIte, reduceCtorEq, Nat.reduceBEq, Int.reduceLT, Int.reduceToNat, Int.reducePow, Nat.reduceLeDiff, Int.reduceLE, Nat.reduceMul, Nat.reduceSub]
                          simp only [Done, resAV, resL, resOne, look_nil, look_cons, Nat.reduceEqDiff, if_true, if_false, reduceIte, ite_true, ite_false, Nat.zero_ne_one, Nat.one_ne_zero, reduceCtorEq, true_or, or_true, true_and, Option.some.injEq, AV.lit.injEq, Value.int.injEq, Value.bool.injEq]
                          rfl
                        · simp only [go_sem, Nat.reduceAdd, Nat.reduceEqDiff, Nat.reduceLT, reduceIte, reduceCtorEq, Nat.reduceBEq, Int.reduceLT, Int.reduceToNat, Int.reducePow, Nat.reduceLeDiff, Int.reduceLE, Nat.reduceMul, Nat.reduceSub]
                          refine cGo_split (fun h12 => ?_) (fun h12 => ?_) <;> simp only [beq_iff_eq, beq_eq_false_iff_ne, ne_eq] at h12
                          · subst h12
                            simp only [go_sem, Nat.reduceAdd, Nat.reduceEqDiff, Nat.reduceLT, reduceIte, reduceCtorEq, Nat.reduceBEq, Int.reduceLT, Int.reduceToNat, Int.reducePow, Nat.reduceLeDiff, Int.reduceLE, Nat.reduceMul, Nat.reduceSub]
                            simp only [Done, resAV, resL, resOne, look_nil, look_cons, Nat.reduceEqDiff, if_true, if_false, reduceIte, ite_true, ite_false, Nat.zero_ne_one, Nat.one_ne_zero, reduceCtorEq, true_or, or_true, true_and, Option.some.injEq, AV.lit.injEq, Value.int.injEq, Value.bool.injEq]
                            rfl
                          · simp only [go_sem, Nat.reduceAdd, Nat.reduceEqDiff, Nat.reduceLT, reduceIte, reduceCtorEq, Nat.reduceBEq, Int.reduceLT, Int.reduceToNat, Int.reducePow, Nat.reduceLeDiff, Int.reduceLE, Nat.reduceMul, Nat.reduceSub]
                            refine cGo_split (fun h13 => ?_) (fun h13 => ?_) <;> simp only [beq_iff_eq, beq_eq_false_iff_ne, ne_eq] at h13
                            · subst h13
                              simp only [go_sem, Nat.reduceAdd, Nat.reduceEqDiff, Nat.reduceLT, reduceIte, reduceCtorEq, Nat.reduceBEq, Int.reduceLT, Int.reduceToNat, Int.reducePow, Nat.reduceLeDiff, Int.reduceLE, Nat.reduceMul, Nat.reduceSub]
                              simp only [Done, resAV, resL, resOne, look_nil, look_cons, Nat.reduceEqDiff, if_true, if_false, reduceIte, ite_true, ite_false, Nat.zero_ne_one, Nat.one_ne_zero, reduceCtorEq, true_or, or_true, true_and, Option.some.injEq, AV.lit.injEq, Value.int.injEq, Value.bool.injEq]
                              rfl
                            · simp only [go_sem, Nat.reduceAdd, Nat.reduceEqDiff, Nat.reduceLT, reduceIte, reduceCtorEq, Nat.reduceBEq, Int.reduceLT, Int.reduceToNat, Int.reducePow, Nat.reduceLeDiff, Int.reduceLE, Nat.reduceMul, Nat.reduceSub]
                              have hb : brk r = (0, false, false) := by
                                unfold brk pairsL
                                simp only [brkF]
                                rw [if_neg h0, if_neg h1, if_neg h2, if_neg h3, if_neg h4, if_neg h5, if_neg h6, if_neg h7, if_neg h8, if_neg h9, if_neg h10, if_neg h11, if_neg h12, if_neg h13]
                              rw [hb]
                              simp only [Done, resAV, resL, resOne, look_nil, look_cons, Nat.reduceEqDiff, if_true, if_false, reduceIte, ite_true, ite_false, Nat.zero_ne_one, Nat.one_ne_zero, reduceCtorEq, true_or, or_true, true_and, Option.some.injEq, AV.lit.injEq, Value.int.injEq, Value.bool.injEq]

theorem row65 : (rowAt 65).prop = [.int .u8 2, .int .u8 0, .int .u8 0, .int .u8 0, .int .u8 2, .int .u8 0, .int .u8 1] := by kernel_rfl
theorem row769 : (rowAt 769).prop = [.int .u8 4, .int .u8 8, .int .u8 2, .int .u8 230, .int .u8 1, .int .u8 0, .int .u8 0] := by kernel_rfl
theorem row1632 : (rowAt 1632).prop = [.int .u8 5, .int .u8 6, .int .u8 0, .int .u8 0, .int .u8 6, .int .u8 2, .int .u8 1] := by kernel_rfl
theorem row57344 : (rowAt 57344).prop = [.int .u8 0, .int .u8 0, .int .u8 0, .int .u8 0, .int .u8 0, .int .u8 0, .int .u8 1] := by kernel_rfl
theorem brk41 : brk 41 = (40, false, true) := by kernel_rfl

set_option maxRecDepth 10000 in
theorem awake02_pure : Pure Try.prog 34 [] [] (.lit (.bool true)) := by
  refine pure0 Try.func34 c34 n34 e34 r34 (by simp) rfl ?_
  simp only [a34, astart, argSlots, go_sem, Nat.reduceAdd, Nat.reduceEqDiff, Nat.reduceLT, reduceIte, reduceCtorEq, Nat.reduceBEq, Int.reduceLT, Int.reduceToNat, Int.reducePow, Nat.reduceLeDiff, Int.reduceLE, Nat.reduceMul, Nat.reduceSub]
  refine callGo_pure (bracket_pure 41) rfl ?_
  simp only [brk41, go_sem, Nat.reduceAdd, Nat.reduceEqDiff, Nat.reduceLT, reduceIte, reduceCtorEq, Nat.reduceBEq, Int.reduceLT, Int.reduceToNat, Int.reducePow, Nat.reduceLeDiff, Int.reduceLE, Nat.reduceMul, Nat.reduceSub]
  refine callGo_pure (of_pure 65) rfl ?_
  simp only [row65, go_sem, Nat.reduceAdd, Nat.reduceEqDiff, Nat.reduceLT, reduceIte, reduceCtorEq, Nat.reduceBEq, Int.reduceLT, Int.reduceToNat, Int.reducePow, Nat.reduceLeDiff, Int.reduceLE, Nat.reduceMul, Nat.reduceSub, beq_self_eq_true]
  refine callGo_pure (of_pure 769) rfl ?_
  simp only [row769, go_sem, Nat.reduceAdd, Nat.reduceEqDiff, Nat.reduceLT, reduceIte, reduceCtorEq, Nat.reduceBEq, Int.reduceLT, Int.reduceToNat, Int.reducePow, Nat.reduceLeDiff, Int.reduceLE, Nat.reduceMul, Nat.reduceSub, beq_self_eq_true]
  refine callGo_pure (of_pure 1632) rfl ?_
  simp only [row1632, go_sem, Nat.reduceAdd, Nat.reduceEqDiff, Nat.reduceLT, reduceIte, reduceCtorEq, Nat.reduceBEq, Int.reduceLT, Int.reduceToNat, Int.reducePow, Nat.reduceLeDiff, Int.reduceLE, Nat.reduceMul, Nat.reduceSub, beq_self_eq_true]
  refine callGo_pure (of_pure 1632) rfl ?_
  simp only [row1632, go_sem, Nat.reduceAdd, Nat.reduceEqDiff, Nat.reduceLT, reduceIte, reduceCtorEq, Nat.reduceBEq, Int.reduceLT, Int.reduceToNat, Int.reducePow, Nat.reduceLeDiff, Int.reduceLE, Nat.reduceMul, Nat.reduceSub, beq_self_eq_true]
  refine callGo_pure (of_pure 57344) rfl ?_
  simp only [row57344, go_sem, Nat.reduceAdd, Nat.reduceEqDiff, Nat.reduceLT, reduceIte, reduceCtorEq, Nat.reduceBEq, Int.reduceLT, Int.reduceToNat, Int.reducePow, Nat.reduceLeDiff, Int.reduceLE, Nat.reduceMul, Nat.reduceSub, beq_self_eq_true]
  simp only [Done, resAV, resL, resOne, look_nil, look_cons, Nat.reduceEqDiff, if_true, if_false, reduceIte, ite_true, ite_false, Nat.zero_ne_one, Nat.one_ne_zero, reduceCtorEq, true_or, or_true, true_and, Option.some.injEq, AV.lit.injEq, Value.int.injEq, Value.bool.injEq]
end Go.Proofs.Ytbnaepdeakcljaa
