/-
Encoding: what the program's functions hand back. Conditions: none.
-/
import Derived.Test.YtbnaepdeakcljaaUtf4
set_option linter.unusedSimpArgs false
set_option linter.unusedVariables false
set_option linter.unusedSectionVars false
namespace Go.Proofs.Ytbnaepdeakcljaa
open Go Go.Ab
def a60 : ACode :=
  (.seq (.reg [⟨(.some 3), (.mv (.k (.int .u8 0))), .none⟩]) (.seq (.reg [⟨(.some 4), (.ld .none (.t 1)), .none⟩, ⟨(.some 5), (.mv (.t 0)), .none⟩, ⟨(.some 6), (.bin .shr (.t 4) (.t 5)), .none⟩, ⟨(.some
  7), (.cvI .u8 (.t 6)), .none⟩, ⟨(.some 8), (.bin .and (.t 7) (.k (.int .u8 63))), .none⟩, ⟨(.some 9), (.bin .or (.k (.int .u8 128)) (.t 8)), .none⟩, ⟨(.some 3), (.mv (.t 9)), .none⟩]) .ret))
theorem c60 : Try.f60.body.bind (cCode Try.prog 10) = some a60 := by kernel_rfl
theorem r60 : Try.f60.results.toList = [(.tmp 3)] := by kernel_rfl
theorem n60 : Try.f60.ntmps = 10 := by kernel_rfl
theorem e60 : Enters Try.prog 60 := enters_of Try.func60 (by kernel_rfl) (by kernel_rfl)
def a36 : ACode :=
  (.seq (.reg [⟨(.some 3), (.box 21 (.t 1)), .none⟩, ⟨(.some 4), (.mv (.k (.slice .none 0 0))), .none⟩]) (.seq (.reg [⟨(.some 6), (.mkf (.func 60) [] [(.t 3)]), .none⟩, ⟨(.some 5), (.mv (.t 6)),
  .none⟩]) (.seq (.block 0 (.seq (.reg [⟨(.some 8), (.ld .none (.t 3)), .none⟩, ⟨(.some 9), (.bin .leq (.t 8) (.k (.int .i32 127))), .none⟩, ⟨(.some 7), (.mv (.t 9)), .none⟩]) (.cond (.t 7) (.seq (.reg
  [⟨(.some 10), (.mv (.t 0)), .none⟩, ⟨(.some 11), (.ld .none (.t 3)), .none⟩, ⟨(.some 12), (.cvI .u8 (.t 11)), .none⟩, ⟨(.some 13), (.bs 5 1 [(.t 12)]), .none⟩, ⟨(.some 14), (.app 5 1 (.t 10) (.t 13)),
  .none⟩, ⟨(.some 4), (.mv (.t 14)), .none⟩]) .ret) (.seq (.reg [⟨(.some 16), (.ld .none (.t 3)), .none⟩, ⟨(.some 17), (.bin .leq (.t 16) (.k (.int .i32 2047))), .none⟩, ⟨(.some 15), (.mv (.t 17)),
  .none⟩]) (.cond (.t 15) (.seq (.dreg [⟨(.some 18), (.mv (.t 0)), .none⟩, ⟨(.some 19), (.ld .none (.t 3)), .none⟩, ⟨(.some 20), (.bin .shr (.t 19) (.k (.int .u64 6))), .none⟩, ⟨(.some 21), (.cvI .u8
  (.t 20)), .none⟩, ⟨(.some 22), (.bin .or (.k (.int .u8 192)) (.t 21)), .none⟩, ⟨(.some 23), (.mv (.t 5)), .none⟩, ⟨(.some 24), (.call (.t 23) [(.k (.int .i64 0))]), .none⟩, ⟨(.some 25), (.bs0 5 1 [(.t
  22), (.t 24)]), .none⟩, ⟨(.some 26), (.app 5 1 (.t 18) (.t 25)), .none⟩, ⟨(.some 4), (.mv (.t 26)), .none⟩]) .ret) (.seq (.reg [⟨(.some 28), (.ld .none (.t 3)), .none⟩, ⟨(.some 29), (.bin .leq (.t 28)
  (.k (.int .i32 65535))), .none⟩, ⟨(.some 27), (.mv (.t 29)), .none⟩]) (.cond (.t 27) (.seq (.dreg [⟨(.some 30), (.mv (.t 0)), .none⟩, ⟨(.some 31), (.ld .none (.t 3)), .none⟩, ⟨(.some 32), (.bin .shr
  (.t 31) (.k (.int .u64 12))), .none⟩, ⟨(.some 33), (.cvI .u8 (.t 32)), .none⟩, ⟨(.some 34), (.bin .or (.k (.int .u8 224)) (.t 33)), .none⟩, ⟨(.some 35), (.mv (.t 5)), .none⟩, ⟨(.some 36), (.call (.t
  35) [(.k (.int .i64 6))]), .none⟩, ⟨(.some 37), (.mv (.t 5)), .none⟩, ⟨(.some 38), (.call (.t 37) [(.k (.int .i64 0))]), .none⟩, ⟨(.some 39), (.bs0 5 1 [(.t 34), (.t 36), (.t 38)]), .none⟩, ⟨(.some
  40), (.app 5 1 (.t 30) (.t 39)), .none⟩, ⟨(.some 4), (.mv (.t 40)), .none⟩]) .ret) .skip))))))) (.seq (.dreg [⟨(.some 41), (.mv (.t 0)), .none⟩, ⟨(.some 42), (.ld .none (.t 3)), .none⟩, ⟨(.some 43),
  (.bin .shr (.t 42) (.k (.int .u64 18))), .none⟩, ⟨(.some 44), (.cvI .u8 (.t 43)), .none⟩, ⟨(.some 45), (.bin .or (.k (.int .u8 240)) (.t 44)), .none⟩, ⟨(.some 46), (.mv (.t 5)), .none⟩, ⟨(.some 47),
  (.call (.t 46) [(.k (.int .i64 12))]), .none⟩, ⟨(.some 48), (.mv (.t 5)), .none⟩, ⟨(.some 49), (.call (.t 48) [(.k (.int .i64 6))]), .none⟩, ⟨(.some 50), (.mv (.t 5)), .none⟩, ⟨(.some 51), (.call (.t
  50) [(.k (.int .i64 0))]), .none⟩, ⟨(.some 52), (.bs0 5 1 [(.t 45), (.t 47), (.t 49), (.t 51)]), .none⟩, ⟨(.some 53), (.app 5 1 (.t 41) (.t 52)), .none⟩, ⟨(.some 4), (.mv (.t 53)), .none⟩]) .ret))))
theorem c36 : Try.f36.body.bind (cCode Try.prog 54) = some a36 := by kernel_rfl
theorem r36 : Try.f36.results.toList = [(.tmp 4)] := by kernel_rfl
theorem n36 : Try.f36.ntmps = 54 := by kernel_rfl
theorem e36 : Enters Try.prog 36 := enters_of Try.func36 (by kernel_rfl) (by kernel_rfl)
def a17 : ACode :=
  (.seq (.reg [⟨(.some 2), (.mv (.k (.slice .none 0 0))), .none⟩]) (.seq (.reg [⟨(.some 3), (.mv (.k (.slice .none 0 0))), .none⟩]) (.seq (.seq (.reg [⟨(.some 6), (.mv (.t 0)), .none⟩, ⟨(.some 7), (.len
  (.t 6)), .none⟩, ⟨(.some 8), (.mv (.k (.int .i64 0))), .none⟩]) (.block 0 (.loop (.seq (.reg [⟨(.some 9), (.bin .lss (.t 8) (.t 7)), .none⟩]) (.seq (.cond (.t 9) .skip (.exit 0)) (.seq (.block 1 (.seq
  (.reg [⟨(.some 10), (.ia 21 (.t 6) (.t 8)), .none⟩, ⟨(.some 11), (.ld .none (.t 10)), .none⟩, ⟨(.some 5), (.mv (.t 11)), .none⟩]) (.seq (.seq (.reg [⟨(.some 12), (.mv (.t 5)), .none⟩, ⟨(.some 13),
  (.call (.f 20) [(.t 12)]), .none⟩, ⟨(.some 14), (.not (.t 13)), .none⟩]) (.cond (.t 14) (.reg [⟨(.some 5), (.mv (.k (.int .i32 65533))), .none⟩]) .skip)) (.reg [⟨(.some 15), (.mv (.t 3)), .none⟩,
  ⟨(.some 16), (.mv (.t 5)), .none⟩, ⟨(.some 17), (.call (.f 36) [(.t 15), (.t 16)]), .none⟩, ⟨(.some 3), (.mv (.t 17)), .none⟩])))) (.reg [⟨(.some 18), (.bin .add (.t 8) (.k (.int .i64 1))), .none⟩,
  ⟨(.some 8), (.mv (.t 18)), .none⟩]))))))) (.seq (.reg [⟨(.some 19), (.mv (.t 3)), .none⟩, ⟨(.some 2), (.mv (.t 19)), .none⟩]) .ret))))
theorem c17 : Try.f17.body.bind (cCode Try.prog 20) = some a17 := by kernel_rfl
theorem r17 : Try.f17.results.toList = [(.tmp 2)] := by kernel_rfl
theorem n17 : Try.f17.ntmps = 20 := by kernel_rfl
theorem e17 : Enters Try.prog 17 := enters_of Try.func17 (by kernel_rfl) (by kernel_rfl)

theorem shr_i32 (r : Nat) (k : Nat) : (r : Int).fdiv (2 ^ k) = ((r / 2 ^ k : Nat) : Int) := by
  rw [Int.fdiv_eq_ediv_of_nonneg _ (by exact Int.le_of_lt (Int.pow_pos (by omega)))]
  simp
theorem cast_i32_u8 (n : Nat) : IntKind.u8.wrap (n : Int) = ((n % 256 : Nat) : Int) := by
  simp only [IntKind.wrap, IntKind.bits, IntKind.signed]
  simp
theorem or128 : ∀ n : Nat, n < 64 → 128 ||| n = 128 + n := by decide
theorem or192 : ∀ n : Nat, n < 32 → 192 ||| n = 192 + n := by decide
theorem or224 : ∀ n : Nat, n < 16 → 224 ||| n = 224 + n := by decide
theorem or240 : ∀ n : Nat, n < 8 → 240 ||| n = 240 + n := by decide

theorem tail_num (n : Nat) : orI .u8 128 (andI .u8 (IntKind.u8.wrap (n : Int)) 63) = ((128 + n % 64 : Nat) : Int) := by
  rw [cast_i32_u8, andI_63 _ (by omega)]
  have e : n % 256 % 64 = n % 64 := by omega
  rw [e]
  have := orI_u8 128 (n % 64) (by omega) (by omega)
  rw [or128 _ (by omega)] at this
  exact this
theorem head_num (a k n : Nat) (hk : a + n < 256) (hor : a ||| n = a + n) (hn : n < 256) (ha : a < 256) : orI .u8 (a : Int) (IntKind.u8.wrap (n : Int)) = ((a + n : Nat) : Int) := by
  rw [cast_i32_u8, Nat.mod_eq_of_lt hn]
  have := orI_u8 a n ha hn
  rw [hor] at this
  exact this

set_option maxRecDepth 10000 in
theorem tail_pure (k r : Nat) (hk : k < 32) : Pure Try.prog 60 [.lit (.int .i64 (k : Int)), .ep [.lit (.int .i32 (r : Int))]] [] (.lit (.int .u8 ((128 + r / 2 ^ k % 64 : Nat) : Int))) := by
  refine pure0 Try.func60 c60 n60 e60 r60 (by simp) rfl ?_
  simp only [a60, astart, argSlots, go_sem, Nat.reduceAdd, Nat.reduceEqDiff, Nat.reduceLT, reduceIte, reduceCtorEq, Nat.reduceBEq, Int.reduceLT, Int.reduceToNat, Int.reducePow, Nat.reduceLeDiff, Int.reduceLE, Nat.reduceMul, Nat.reduceSub]
  have h0 : ((k : Int) < 0) = False := by simp
  simp only [h0, go_sem, Nat.reduceAdd, Nat.reduceEqDiff, Nat.reduceLT, reduceIte, reduceCtorEq, Nat.reduceBEq, Int.reduceLT, Int.reduceToNat, Int.reducePow, Nat.reduceLeDiff, Int.reduceLE, Nat.reduceMul, Nat.reduceSub]
  have hm : (if k ≤ 32 then k else 32) = k := if_pos (by omega)
  simp only [hm, shr_i32, tail_num]
  simp only [Done, resAV, resL, resOne, look_nil, look_cons, Nat.reduceEqDiff, if_true, if_false, reduceIte, ite_true, ite_false, Nat.zero_ne_one, Nat.one_ne_zero, reduceCtorEq, true_or, or_true, true_and, Option.some.injEq, AV.lit.injEq, Value.int.injEq, Value.bool.injEq]

theorem tail0 (r : Nat) : Pure Try.prog 60 [.lit (.int .i64 0), .ep [.lit (.int .i32 (r : Int))]] [] (.lit (.int .u8 ((128 + r % 64 : Nat) : Int))) := by
  have := tail_pure 0 r (by omega); simpa using this
theorem tail6 (r : Nat) : Pure Try.prog 60 [.lit (.int .i64 6), .ep [.lit (.int .i32 (r : Int))]] [] (.lit (.int .u8 ((128 + r / 64 % 64 : Nat) : Int))) := by
  have := tail_pure 6 r (by omega); simpa using this
theorem tail12 (r : Nat) : Pure Try.prog 60 [.lit (.int .i64 12), .ep [.lit (.int .i32 (r : Int))]] [] (.lit (.int .u8 ((128 + r / 4096 % 64 : Nat) : Int))) := by
  have := tail_pure 12 r (by omega); simpa using this

theorem fd64 (r : Nat) : (r : Int).fdiv 64 = ((r / 64 : Nat) : Int) := by have := shr_i32 r 6; simpa using this
theorem fd4096 (r : Nat) : (r : Int).fdiv 4096 = ((r / 4096 : Nat) : Int) := by have := shr_i32 r 12; simpa using this
theorem fd262144 (r : Nat) : (r : Int).fdiv 262144 = ((r / 262144 : Nat) : Int) := by have := shr_i32 r 18; simpa using this

set_option maxRecDepth 10000 in
theorem put_call (acc : List Nat) (r : Nat) (hr : r ≤ 1114111) (ha : acc.length ≤ 4398046511104) {K : AV → List (Nat × List AV) → List (Nat × TypeId) → Nat → Prop}
    (hK : ∀ (k : Nat) (bx : List (Nat × List AV)) (tp : List (Nat × TypeId)) (nx : Nat), hasTip tp k 5 = true → K (.sl 5 (octs (acc ++ encN r)) (some k)) bx tp nx) : CallOK Try.prog 36 [.sl 5 (octs acc) (some 0), .lit (.int .i32 (r : Int))] [] [(0, 5)] 1 K := by
  refine callOK_walk Try.func36 c36 n36 e36 r36 (by simp) ?_
  simp only [a36, astart, argSlots, go_sem, Nat.reduceAdd, Nat.reduceEqDiff, Nat.reduceLT, reduceIte, reduceCtorEq, Nat.reduceBEq, Int.reduceLT, Int.reduceToNat, Int.reducePow, Nat.reduceLeDiff, Int.reduceLE, Nat.reduceMul, Nat.reduceSub, allOne, AV.one, Value.oneCell']
  simp only [octs_append] at hK
  refine cGo_split (fun h => ?_) (fun h1 => ?_)
  · simp only [decide_eq_true_eq] at h
    have hw : IntKind.u8.wrap (r : Int) = (r : Int) := wrap_u8 _ (by omega) (by omega)
    rw [enc1 (by omega)] at hK
    simp only [hw, go_sem, Nat.reduceAdd, Nat.reduceEqDiff, Nat.reduceLT, reduceIte, reduceCtorEq, Nat.reduceBEq, Int.reduceLT, Int.reduceToNat, Int.reducePow, Nat.reduceLeDiff, Int.reduceLE, Nat.reduceMul, Nat.reduceSub, beq_self_eq_true]
    exact ⟨by omega, by simp, _, by simp only [resAV, resL, resOne, go_sem, Nat.reduceAdd, Nat.reduceEqDiff, Nat.reduceLT, reduceIte, reduceCtorEq, Nat.reduceBEq, Int.reduceLT, Int.reduceToNat, Int.reducePow, Nat.reduceLeDiff, Int.reduceLE, Nat.reduceMul, Nat.reduceSub]; rfl, hK _ _ _ _ (by simp only [go_sem, Nat.reduceAdd, Nat.reduceEqDiff, Nat.reduceLT, reduceIte, reduceCtorEq, Nat.reduceBEq, Int.reduceLT, Int.reduceToNat, Int.reducePow, Nat.reduceLeDiff, Int.reduceLE, Nat.reduceMul, Nat.reduceSub, beq_self_eq_true])⟩
  simp only [decide_eq_false_iff_not] at h1
  simp only [go_sem, Nat.reduceAdd, Nat.reduceEqDiff, Nat.reduceLT, reduceIte, reduceCtorEq, Nat.reduceBEq, Int.reduceLT, Int.reduceToNat, Int.reducePow, Nat.reduceLeDiff, Int.reduceLE, Nat.reduceMul, Nat.reduceSub]
  refine cGo_split (fun h => ?_) (fun h2 => ?_)
  · simp only [decide_eq_true_eq] at h
    simp only [go_sem, Nat.reduceAdd, Nat.reduceEqDiff, Nat.reduceLT, reduceIte, reduceCtorEq, Nat.reduceBEq, Int.reduceLT, Int.reduceToNat, Int.reducePow, Nat.reduceLeDiff, Int.reduceLE, Nat.reduceMul, Nat.reduceSub, fd64, allOne, AV.one]
    refine dcallGo_see (tail0 r) (by simp only [go_sem, Nat.reduceAdd, Nat.reduceEqDiff, Nat.reduceLT, reduceIte, reduceCtorEq, Nat.reduceBEq, Int.reduceLT, Int.reduceToNat, Int.reducePow, Nat.reduceLeDiff, Int.reduceLE, Nat.reduceMul, Nat.reduceSub, AV.seeL, AV.see]; rfl) rfl ?_
    have hh : orI .u8 192 (IntKind.u8.wrap ((r / 64 : Nat) : Int)) = ((192 + r / 64 : Nat) : Int) := head_num 192 0 (r / 64) (by omega) (or192 _ (by omega)) (by omega) (by omega)
    rw [enc2 (by omega) (by omega)] at hK
    simp only [hh, go_sem, Nat.reduceAdd, Nat.reduceEqDiff, Nat.reduceLT, reduceIte, reduceCtorEq, Nat.reduceBEq, Int.reduceLT, Int.reduceToNat, Int.reducePow, Nat.reduceLeDiff, Int.reduceLE, Nat.reduceMul, Nat.reduceSub, beq_self_eq_true]
    exact ⟨by omega, by simp, _, by simp only [resAV, resL, resOne, go_sem, Nat.reduceAdd, Nat.reduceEqDiff, Nat.reduceLT, reduceIte, reduceCtorEq, Nat.reduceBEq, Int.reduceLT, Int.reduceToNat, Int.reducePow, Nat.reduceLeDiff, Int.reduceLE, Nat.reduceMul, Nat.reduceSub]; rfl, hK _ _ _ _ (by simp only [go_sem, Nat.reduceAdd, Nat.reduceEqDiff, Nat.reduceLT, reduceIte, reduceCtorEq, Nat.reduceBEq, Int.reduceLT, Int.reduceToNat, Int.reducePow, Nat.reduceLeDiff, Int.reduceLE, Nat.reduceMul, Nat.reduceSub, beq_self_eq_true])⟩
  simp only [decide_eq_false_iff_not] at h2
  simp only [go_sem, Nat.reduceAdd, Nat.reduceEqDiff, Nat.reduceLT, reduceIte, reduceCtorEq, Nat.reduceBEq, Int.reduceLT, Int.reduceToNat, Int.reducePow, Nat.reduceLeDiff, Int.reduceLE, Nat.reduceMul, Nat.reduceSub]
  refine cGo_split (fun h => ?_) (fun h3 => ?_)
  · simp only [decide_eq_true_eq] at h
    simp only [go_sem, Nat.reduceAdd, Nat.reduceEqDiff, Nat.reduceLT, reduceIte, reduceCtorEq, Nat.reduceBEq, Int.reduceLT, Int.reduceToNat, Int.reducePow, Nat.reduceLeDiff, Int.reduceLE, Nat.reduceMul, Nat.reduceSub, fd4096, allOne, AV.one]
    refine dcallGo_see (tail6 r) (by simp only [go_sem, Nat.reduceAdd, Nat.reduceEqDiff, Nat.reduceLT, reduceIte, reduceCtorEq, Nat.reduceBEq, Int.reduceLT, Int.reduceToNat, Int.reducePow, Nat.reduceLeDiff, Int.reduceLE, Nat.reduceMul, Nat.reduceSub, AV.seeL, AV.see]; rfl) rfl ?_
    simp only [go_sem, Nat.reduceAdd, Nat.reduceEqDiff, Nat.reduceLT, reduceIte, reduceCtorEq, Nat.reduceBEq, Int.reduceLT, Int.reduceToNat, Int.reducePow, Nat.reduceLeDiff, Int.reduceLE, Nat.reduceMul, Nat.reduceSub]
    refine dcallGo_see (tail0 r) (by simp only [go_sem, Nat.reduceAdd, Nat.reduceEqDiff, Nat.reduceLT, reduceIte, reduceCtorEq, Nat.reduceBEq, Int.reduceLT, Int.reduceToNat, Int.reducePow, Nat.reduceLeDiff, Int.reduceLE, Nat.reduceMul, Nat.reduceSub, AV.seeL, AV.see]; rfl) rfl ?_
    have hh : orI .u8 224 (IntKind.u8.wrap ((r / 4096 : Nat) : Int)) = ((224 + r / 4096 : Nat) : Int) := head_num 224 0 (r / 4096) (by omega) (or224 _ (by omega)) (by omega) (by omega)
    rw [enc3 (by omega) (by omega)] at hK
    simp only [hh, go_sem, Nat.reduceAdd, Nat.reduceEqDiff, Nat.reduceLT, reduceIte, reduceCtorEq, Nat.reduceBEq, Int.reduceLT, Int.reduceToNat, Int.reducePow, Nat.reduceLeDiff, Int.reduceLE, Nat.reduceMul, Nat.reduceSub, beq_self_eq_true]
    exact ⟨by omega, by simp, _, by simp only [resAV, resL, resOne, go_sem, Nat.reduceAdd, Nat.reduceEqDiff, Nat.reduceLT, reduceIte, reduceCtorEq, Nat.reduceBEq, Int.reduceLT, Int.reduceToNat, Int.reducePow, Nat.reduceLeDiff, Int.reduceLE, Nat.reduceMul, Nat.reduceSub]; rfl, hK _ _ _ _ (by simp only [go_sem, Nat.reduceAdd, Nat.reduceEqDiff, Nat.reduceLT, reduceIte, reduceCtorEq, Nat.reduceBEq, Int.reduceLT, Int.reduceToNat, Int.reducePow, Nat.reduceLeDiff, Int.reduceLE, Nat.reduceMul, Nat.reduceSub, beq_self_eq_true])⟩
  simp only [decide_eq_false_iff_not] at h3
  simp only [go_sem, Nat.reduceAdd, Nat.reduceEqDiff, Nat.reduceLT, reduceIte, reduceCtorEq, Nat.reduceBEq, Int.reduceLT, Int.reduceToNat, Int.reducePow, Nat.reduceLeDiff, Int.reduceLE, Nat.reduceMul, Nat.reduceSub, fd262144, allOne, AV.one]
  refine dcallGo_see (tail12 r) (by simp only [go_sem, Nat.reduceAdd, Nat.reduceEqDiff, Nat.reduceLT, reduceIte, reduceCtorEq, Nat.reduceBEq, Int.reduceLT, Int.reduceToNat, Int.reducePow, Nat.reduceLeDiff, Int.reduceLE, Nat.reduceMul, Nat.reduceSub, AV.seeL, AV.see]; rfl) rfl ?_
  simp only [go_sem, Nat.reduceAdd, Nat.reduceEqDiff, Nat.reduceLT, reduceIte, reduceCtorEq, Nat.reduceBEq, Int.reduceLT, Int.reduceToNat, Int.reducePow, Nat.reduceLeDiff, Int.reduceLE, Nat.reduceMul, Nat.reduceSub]
  refine dcallGo_see (tail6 r) (by simp only [go_sem, Nat.reduceAdd, Nat.reduceEqDiff, Nat.reduceLT, reduceIte, reduceCtorEq, Nat.reduceBEq, Int.reduceLT, Int.reduceToNat, Int.reducePow, Nat.reduceLeDiff, Int.reduceLE, Nat.reduceMul, Nat.reduceSub, AV.seeL, AV.see]; rfl) rfl ?_
  simp only [go_sem, Nat.reduceAdd, Nat.reduceEqDiff, Nat.reduceLT, reduceIte, reduceCtorEq, Nat.reduceBEq, Int.reduceLT, Int.reduceToNat, Int.reducePow, Nat.reduceLeDiff, Int.reduceLE, Nat.reduceMul, Nat.reduceSub]
  refine dcallGo_see (tail0 r) (by simp only [go_sem, Nat.reduceAdd, Nat.reduceEqDiff, Nat.reduceLT, reduceIte, reduceCtorEq, Nat.reduceBEq, Int.reduceLT, Int.reduceToNat, Int.reducePow, Nat.reduceLeDiff, Int.reduceLE, Nat.reduceMul, Nat.reduceSub, AV.seeL, AV.see]; rfl) rfl ?_
  have hh : orI .u8 240 (IntKind.u8.wrap ((r / 262144 : Nat) : Int)) = ((240 + r / 262144 : Nat) : Int) := head_num 240 0 (r / 262144) (by omega) (or240 _ (by omega)) (by omega) (by omega)
  rw [enc4 (by omega)] at hK
  simp only [hh, go_sem, Nat.reduceAdd, Nat.reduceEqDiff, Nat.reduceLT, reduceIte, reduceCtorEq, Nat.reduceBEq, Int.reduceLT, Int.reduceToNat, Int.reducePow, Nat.reduceLeDiff, Int.reduceLE, Nat.reduceMul, Nat.reduceSub, beq_self_eq_true]
  exact ⟨by omega, by simp, _, by simp only [resAV, resL, resOne, go_sem, Nat.reduceAdd, Nat.reduceEqDiff, Nat.reduceLT, reduceIte, reduceCtorEq, Nat.reduceBEq, Int.reduceLT, Int.reduceToNat, Int.reducePow, Nat.reduceLeDiff, Int.reduceLE, Nat.reduceMul, Nat.reduceSub]; rfl, hK _ _ _ _ (by simp only [go_sem, Nat.reduceAdd, Nat.reduceEqDiff, Nat.reduceLT, reduceIte, reduceCtorEq, Nat.reduceBEq, Int.reduceLT, Int.reduceToNat, Int.reducePow, Nat.reduceLeDiff, Int.reduceLE, Nat.reduceMul, Nat.reduceSub, beq_self_eq_true])⟩

/-- Who is no scalar counts as the one that stands for such. -/
def fixN (r : Int) : Nat := if scalarB r = true then r.toNat else 65533
def encL (l : List Int) : List Nat := l.flatMap fun r => encN (fixN r)

theorem fixN_scalar (r : Int) : Scalar (fixN r) := by
  unfold fixN Scalar
  split
  · rename_i h
    simp only [scalarB, Bool.and_eq_true, Bool.or_eq_true, decide_eq_true_eq] at h
    omega
  · omega
theorem fixN_le (r : Int) : fixN r ≤ 1114111 := by have := fixN_scalar r; unfold Scalar at this; omega
theorem fixN_of {r : Int} (h : scalarB r = true) : ((fixN r : Nat) : Int) = r := by
  simp only [fixN, h, if_true]
  simp only [scalarB, Bool.and_eq_true, Bool.or_eq_true, decide_eq_true_eq] at h
  omega
theorem encL_take {l : List Int} {i : Nat} (h : i < l.length) : encL (l.take (i + 1)) = encL (l.take i) ++ encN (fixN l[i]) := by
  rw [List.take_succ_eq_append_getElem h]
  simp only [encL, List.flatMap_append, List.flatMap_cons, List.flatMap_nil, List.append_nil]
theorem encL_length (l : List Int) : (encL l).length ≤ 4 * l.length := by
  induction l with
  | nil => simp [encL]
  | cons r l ih =>
    have := encN_len (fixN r)
    simp only [encL, List.flatMap_cons, List.length_append, List.length_cons] at ih ⊢
    omega
theorem encL_octs (l : List Int) : ∀ n ∈ encL l, n ≤ 255 := by
  intro n hn
  obtain ⟨r, _, hr⟩ := List.mem_flatMap.1 hn
  exact encN_octs (fixN_le r) n hr

set_option maxRecDepth 10000 in
theorem encode_pure (l : List Int) (hl : l.length ≤ 1099511627776) : Pure Try.prog 17 [.sl 21 (runes l) none] [5] (.sl 5 (octs (encL l)) (some 0)) := by
  refine pure1 Try.func17 c17 n17 e17 r17 (by simp) ?_
  simp only [a17, astart, argSlots, go_sem, Nat.reduceAdd, Nat.reduceEqDiff, Nat.reduceLT, reduceIte, reduceCtorEq, Nat.reduceBEq, Int.reduceLT, Int.reduceToNat, Int.reducePow, Nat.reduceLeDiff, Int.reduceLE, Nat.reduceMul, Nat.reduceSub]
  refine loop_to l.length (fun i => ⟨[(3, some (.sl 5 (octs (encL (l.take i))) (some 0))), (6, some (.sl 21 (runes l) none)), (7, some (.lit (.int .i64 (l.length : Int)))), (8, some (.lit (.int .i64 (i : Int))))], [], [(0, 5)], 1⟩)
    (fun _ => True) ((weak_nil 3 5 (by simp only [go_sem, Nat.reduceAdd, Nat.reduceEqDiff, Nat.reduceLT, reduceIte, reduceCtorEq, Nat.reduceBEq, Int.reduceLT, Int.reduceToNat, Int.reducePow, Nat.reduceLeDiff, Int.reduceLE, Nat.reduceMul, Nat.reduceSub])).trans (weak_by [0] (by simp) rfl ?_ trivial ?_ (by simp))) trivial ?_ ?_
  · simp only [go_sem, Nat.reduceAdd, Nat.reduceEqDiff, Nat.reduceLT, reduceIte, reduceCtorEq, Nat.reduceBEq, Int.reduceLT, Int.reduceToNat, Int.reducePow, Nat.reduceLeDiff, Int.reduceLE, Nat.reduceMul, Nat.reduceSub, slotsBy, boxesBy, tipsBy, rawAt, nm, AV.ren, AV.renL, AV.under, AV.underL, List.all_nil, List.all_cons, bne_self_eq_false, List.getD_cons_zero, List.getD_cons_succ, List.length_nil, List.length_cons, and_true, true_and, Int.natCast_zero, encL, List.flatMap_nil]
    simp [octs]
  · simp only [go_sem, Nat.reduceAdd, Nat.reduceEqDiff, Nat.reduceLT, reduceIte, reduceCtorEq, Nat.reduceBEq, Int.reduceLT, Int.reduceToNat, Int.reducePow, Nat.reduceLeDiff, Int.reduceLE, Nat.reduceMul, Nat.reduceSub, slotsBy, boxesBy, tipsBy, rawAt, nm, AV.ren, AV.renL, AV.under, AV.underL, List.all_nil, List.all_cons, bne_self_eq_false, List.getD_cons_zero, List.getD_cons_succ, List.length_nil, List.length_cons, and_true, true_and, beq_self_eq_true]
  · intro i hi _
    have hs := encL_take hi
    have hlen : (encL (l.take i)).length ≤ 4398046511104 := by have := encL_length (l.take i); simp only [List.length_take] at this; omega
    simp only [go_sem, Nat.reduceAdd, Nat.reduceEqDiff, Nat.reduceLT, reduceIte, reduceCtorEq, Nat.reduceBEq, Int.reduceLT, Int.reduceToNat, Int.reducePow, Nat.reduceLeDiff, Int.reduceLE, Nat.reduceMul, Nat.reduceSub, dec_lt hi, runes_get l i hi]
    refine callGo_pure (scalar_pure _) (by rfl) ?_
    simp only [go_sem, Nat.reduceAdd, Nat.reduceEqDiff, Nat.reduceLT, reduceIte, reduceCtorEq, Nat.reduceBEq, Int.reduceLT, Int.reduceToNat, Int.reducePow, Nat.reduceLeDiff, Int.reduceLE, Nat.reduceMul, Nat.reduceSub]
    by_cases h : scalarB l[i] = true
    · have hf : ((fixN l[i] : Nat) : Int) = l[i] := fixN_of h
      simp only [h, go_sem, Nat.reduceAdd, Nat.reduceEqDiff, Nat.reduceLT, reduceIte, reduceCtorEq, Nat.reduceBEq, Int.reduceLT, Int.reduceToNat, Int.reducePow, Nat.reduceLeDiff, Int.reduceLE, Nat.reduceMul, Nat.reduceSub]
      rw [← hf]
      refine callGo_ok (put_call _ _ (fixN_le _) hlen fun k bx tp nx hk => ?_)
      simp only [go_sem, Nat.reduceAdd, Nat.reduceEqDiff, Nat.reduceLT, reduceIte, reduceCtorEq, Nat.reduceBEq, Int.reduceLT, Int.reduceToNat, Int.reducePow, Nat.reduceLeDiff, Int.reduceLE, Nat.reduceMul, Nat.reduceSub]
      simp (disch := omega) only [wrap_i64]
      refine weak_by [k] (by simp) rfl ?_ trivial ?_ (by simp)
      · simp only [go_sem, Nat.reduceAdd, Nat.reduceEqDiff, Nat.reduceLT, reduceIte, reduceCtorEq, Nat.reduceBEq, Int.reduceLT, Int.reduceToNat, Int.reducePow, Nat.reduceLeDiff, Int.reduceLE, Nat.reduceMul, Nat.reduceSub, slotsBy, boxesBy, tipsBy, rawAt, nm, AV.ren, AV.renL, AV.under, AV.underL, List.all_nil, List.all_cons, bne_self_eq_false, List.getD_cons_zero, List.getD_cons_succ, List.length_nil, List.length_cons, and_true, true_and, hs, Int.natCast_add, Int.natCast_one]
      · simp only [slotsBy, boxesBy, tipsBy, rawAt, nm, AV.ren, AV.renL, AV.under, AV.underL, List.all_nil, List.all_cons, bne_self_eq_false, List.getD_cons_zero, List.getD_cons_succ, List.length_nil, List.length_cons, and_true, true_and, tipsBy, nm, hk, List.getD_cons_zero]
        simp
    · have h : scalarB l[i] = false := by simpa using h
      have hf : (65533 : Int) = ((fixN l[i] : Nat) : Int) := by simp only [fixN, h, Bool.false_eq_true, if_false]; rfl
      simp only [h, go_sem, Nat.reduceAdd, Nat.reduceEqDiff, Nat.reduceLT, reduceIte, reduceCtorEq, Nat.reduceBEq, Int.reduceLT, Int.reduceToNat, Int.reducePow, Nat.reduceLeDiff, Int.reduceLE, Nat.reduceMul, Nat.reduceSub]
      rw [hf]
      refine callGo_ok (put_call _ _ (fixN_le _) hlen fun k bx tp nx hk => ?_)
      simp only [go_sem, Nat.reduceAdd, Nat.reduceEqDiff, Nat.reduceLT, reduceIte, reduceCtorEq, Nat.reduceBEq, Int.reduceLT, Int.reduceToNat, Int.reducePow, Nat.reduceLeDiff, Int.reduceLE, Nat.reduceMul, Nat.reduceSub]
      simp (disch := omega) only [wrap_i64]
      refine weak_by [k] (by simp) rfl ?_ trivial ?_ (by simp)
      · simp only [go_sem, Nat.reduceAdd, Nat.reduceEqDiff, Nat.reduceLT, reduceIte, reduceCtorEq, Nat.reduceBEq, Int.reduceLT, Int.reduceToNat, Int.reducePow, Nat.reduceLeDiff, Int.reduceLE, Nat.reduceMul, Nat.reduceSub, slotsBy, boxesBy, tipsBy, rawAt, nm, AV.ren, AV.renL, AV.under, AV.underL, List.all_nil, List.all_cons, bne_self_eq_false, List.getD_cons_zero, List.getD_cons_succ, List.length_nil, List.length_cons, and_true, true_and, hs, Int.natCast_add, Int.natCast_one]
      · simp only [slotsBy, boxesBy, tipsBy, rawAt, nm, AV.ren, AV.renL, AV.under, AV.underL, List.all_nil, List.all_cons, bne_self_eq_false, List.getD_cons_zero, List.getD_cons_succ, List.length_nil, List.length_cons, and_true, true_and, tipsBy, nm, hk, List.getD_cons_zero]
        simp
  · intro _
    simp only [dec_irr, List.take_length, go_sem, Nat.reduceAdd, Nat.reduceEqDiff, Nat.reduceLT, reduceIte, reduceCtorEq, Nat.reduceBEq, Int.reduceLT, Int.reduceToNat, Int.reducePow, Nat.reduceLeDiff, Int.reduceLE, Nat.reduceMul, Nat.reduceSub]
    exact ⟨.inr rfl, 0, by simp only [resAV, resL, resOne, go_sem, Nat.reduceAdd, Nat.reduceEqDiff, Nat.reduceLT, reduceIte, reduceCtorEq, Nat.reduceBEq, Int.reduceLT, Int.reduceToNat, Int.reducePow, Nat.reduceLeDiff, Int.reduceLE, Nat.reduceMul, Nat.reduceSub], by simp [go_sem, Nat.reduceAdd, Nat.reduceEqDiff, Nat.reduceLT, reduceIte, reduceCtorEq, Nat.reduceBEq, Int.reduceLT, Int.reduceToNat, Int.reducePow, Nat.reduceLeDiff, Int.reduceLE, Nat.reduceMul, Nat.reduceSub]⟩
end Go.Proofs.Ytbnaepdeakcljaa
