/-
Numbers, and what they are as bytes, by the document. Conditions: none.
-/
import Derived.Test.YtbnaepdeakcljaaUtf16
import Derived.Test.YtbnaepdeakcljaaUtf6
set_option linter.unusedSimpArgs false
set_option linter.unusedVariables false
set_option linter.unusedSectionVars false
namespace Go.Proofs.Ytbnaepdeakcljaa
open Go Go.Ab
def a21 : ACode :=
  (.seq (.reg [⟨(.some 2), (.mv (.k (.bool false))), .none⟩]) (.seq (.reg [⟨(.some 3), (.mv (.t 0)), .none⟩, ⟨(.some 4), (.bin .geq (.t 3) (.k (.int .i32 0))), .none⟩, ⟨(.some 5), (.mv (.t 4)), .none⟩,
  ⟨(.some 6), (.mv (.t 0)), (.some (5, true))⟩, ⟨(.some 7), (.bin .lss (.t 6) (.k (.int .i32 55296))), (.some (5, true))⟩, ⟨(.some 8), (.pick (.t 5) (.t 7) (.k (.bool false))), .none⟩, ⟨(.some 9), (.mv
  (.t 8)), .none⟩, ⟨(.some 10), (.mv (.t 0)), (.some (9, false))⟩, ⟨(.some 11), (.bin .gtr (.t 10) (.k (.int .i32 57343))), (.some (9, false))⟩, ⟨(.some 12), (.mv (.t 11)), (.some (9, false))⟩, ⟨(.some
  13), (.mv (.t 0)), (.some (12, true))⟩, ⟨(.some 14), (.bin .leq (.t 13) (.k (.int .i32 1114111))), (.some (12, true))⟩, ⟨(.some 15), (.pick (.t 12) (.t 14) (.k (.bool false))), (.some (9, false))⟩,
  ⟨(.some 16), (.pick (.t 9) (.k (.bool true)) (.t 15)), .none⟩, ⟨(.some 2), (.mv (.t 16)), .none⟩]) .ret))
theorem c21 : Try.f21.body.bind (cCode Try.prog 17) = some a21 := by kernel_rfl
theorem r21 : Try.f21.results.toList = [(.tmp 2)] := by kernel_rfl
theorem n21 : Try.f21.ntmps = 17 := by kernel_rfl
theorem e21 : Enters Try.prog 21 := enters_of Try.func21 (by kernel_rfl) (by kernel_rfl)
def a40 : ACode :=
  (.seq (.reg [⟨(.some 2), (.mv (.k (.slice .none 0 0))), .none⟩]) (.seq (.reg [⟨(.some 4), (.mv (.t 0)), .none⟩, ⟨(.some 5), (.cvI .i64 (.t 4)), .none⟩, ⟨(.some 3), (.mv (.t 5)), .none⟩]) (.seq (.seq
  (.reg [⟨(.some 6), (.mv (.t 3)), .none⟩, ⟨(.some 7), (.bin .lss (.t 6) (.k (.int .i64 128))), .none⟩]) (.cond (.t 7) (.seq (.reg [⟨(.some 8), (.mv (.t 3)), .none⟩, ⟨(.some 9), (.cvI .u8 (.t 8)),
  .none⟩, ⟨(.some 10), (.bs 5 1 [(.t 9)]), .none⟩, ⟨(.some 2), (.mv (.t 10)), .none⟩]) .ret) .skip)) (.seq (.seq (.reg [⟨(.some 11), (.mv (.t 3)), .none⟩, ⟨(.some 12), (.bin .lss (.t 11) (.k (.int .i64
  2048))), .none⟩]) (.cond (.t 12) (.seq (.reg [⟨(.some 13), (.mv (.t 3)), .none⟩, ⟨(.some 14), (.bin .quo (.t 13) (.k (.int .i64 64))), .none⟩, ⟨(.some 15), (.bin .add (.k (.int .i64 192)) (.t 14)),
  .none⟩, ⟨(.some 16), (.cvI .u8 (.t 15)), .none⟩, ⟨(.some 17), (.mv (.t 3)), .none⟩, ⟨(.some 18), (.bin .rem (.t 17) (.k (.int .i64 64))), .none⟩, ⟨(.some 19), (.bin .add (.k (.int .i64 128)) (.t 18)),
  .none⟩, ⟨(.some 20), (.cvI .u8 (.t 19)), .none⟩, ⟨(.some 21), (.bs 5 1 [(.t 16), (.t 20)]), .none⟩, ⟨(.some 2), (.mv (.t 21)), .none⟩]) .ret) .skip)) (.seq (.seq (.reg [⟨(.some 22), (.mv (.t 3)),
  .none⟩, ⟨(.some 23), (.bin .lss (.t 22) (.k (.int .i64 65536))), .none⟩]) (.cond (.t 23) (.seq (.reg [⟨(.some 24), (.mv (.t 3)), .none⟩, ⟨(.some 25), (.bin .quo (.t 24) (.k (.int .i64 4096))), .none⟩,
  ⟨(.some 26), (.bin .add (.k (.int .i64 224)) (.t 25)), .none⟩, ⟨(.some 27), (.cvI .u8 (.t 26)), .none⟩, ⟨(.some 28), (.mv (.t 3)), .none⟩, ⟨(.some 29), (.bin .quo (.t 28) (.k (.int .i64 64))), .none⟩,
  ⟨(.some 30), (.bin .rem (.t 29) (.k (.int .i64 64))), .none⟩, ⟨(.some 31), (.bin .add (.k (.int .i64 128)) (.t 30)), .none⟩, ⟨(.some 32), (.cvI .u8 (.t 31)), .none⟩, ⟨(.some 33), (.mv (.t 3)), .none⟩,
  ⟨(.some 34), (.bin .rem (.t 33) (.k (.int .i64 64))), .none⟩, ⟨(.some 35), (.bin .add (.k (.int .i64 128)) (.t 34)), .none⟩, ⟨(.some 36), (.cvI .u8 (.t 35)), .none⟩, ⟨(.some 37), (.bs 5 1 [(.t 27),
  (.t 32), (.t 36)]), .none⟩, ⟨(.some 2), (.mv (.t 37)), .none⟩]) .ret) .skip)) (.seq (.reg [⟨(.some 38), (.mv (.t 3)), .none⟩, ⟨(.some 39), (.bin .quo (.t 38) (.k (.int .i64 262144))), .none⟩, ⟨(.some
  40), (.bin .add (.k (.int .i64 240)) (.t 39)), .none⟩, ⟨(.some 41), (.cvI .u8 (.t 40)), .none⟩, ⟨(.some 42), (.mv (.t 3)), .none⟩, ⟨(.some 43), (.bin .quo (.t 42) (.k (.int .i64 4096))), .none⟩,
  ⟨(.some 44), (.bin .rem (.t 43) (.k (.int .i64 64))), .none⟩, ⟨(.some 45), (.bin .add (.k (.int .i64 128)) (.t 44)), .none⟩, ⟨(.some 46), (.cvI .u8 (.t 45)), .none⟩, ⟨(.some 47), (.mv (.t 3)), .none⟩,
  ⟨(.some 48), (.bin .quo (.t 47) (.k (.int .i64 64))), .none⟩, ⟨(.some 49), (.bin .rem (.t 48) (.k (.int .i64 64))), .none⟩, ⟨(.some 50), (.bin .add (.k (.int .i64 128)) (.t 49)), .none⟩, ⟨(.some 51),
  (.cvI .u8 (.t 50)), .none⟩, ⟨(.some 52), (.mv (.t 3)), .none⟩, ⟨(.some 53), (.bin .rem (.t 52) (.k (.int .i64 64))), .none⟩, ⟨(.some 54), (.bin .add (.k (.int .i64 128)) (.t 53)), .none⟩, ⟨(.some 55),
  (.cvI .u8 (.t 54)), .none⟩, ⟨(.some 56), (.bs 5 1 [(.t 41), (.t 46), (.t 51), (.t 55)]), .none⟩, ⟨(.some 2), (.mv (.t 56)), .none⟩]) .ret))))))
theorem c40 : Try.f40.body.bind (cCode Try.prog 57) = some a40 := by kernel_rfl
theorem r40 : Try.f40.results.toList = [(.tmp 2)] := by kernel_rfl
theorem n40 : Try.f40.ntmps = 57 := by kernel_rfl
theorem e40 : Enters Try.prog 40 := enters_of Try.func40 (by kernel_rfl) (by kernel_rfl)

set_option maxRecDepth 10000 in
theorem refScalar_pure (r : Int) : Pure Try.prog 21 [.lit (.int .i32 r)] [] (.lit (.bool (scalarB r))) := by
  refine pure0 Try.func21 c21 n21 e21 r21 (by simp) rfl ?_
  simp only [a21, astart, argSlots, go_sem, Nat.reduceAdd, Nat.reduceEqDiff, Nat.reduceLT, reduceIte, reduceCtorEq, Nat.reduceBEq, Int.reduceLT, Int.reduceToNat, Int.reducePow, Nat.reduceLeDiff, Int.reduceLE, Nat.reduceMul, Nat.reduceSub]
  have hv : scalarB r = ((decide (r ≥ 0) && decide (r < 55296)) || (decide (r > 57343) && decide (r ≤ 1114111))) := by
    rw [Bool.eq_iff_iff]
    simp only [scalarB, Bool.and_eq_true, Bool.or_eq_true, decide_eq_true_eq]
    omega
  rw [hv]
  cases h1 : decide (r ≥ 0) <;> cases h2 : decide (r < 55296) <;> cases h3 : decide (r > 57343) <;> cases h4 : decide (r ≤ 1114111) <;> simp only [h1, h2, h3, h4, go_sem, Nat.reduceAdd, Nat.reduceEqDiff, Nat.reduceLT, reduceIte, reduceCtorEq, Nat.reduceBEq, Int.reduceLT, Int.reduceToNat, Int.reducePow, Nat.reduceLeDiff, Int.reduceLE, Nat.reduceMul, Nat.reduceSub, Bool.or_true, Bool.true_or, Bool.or_false, Bool.false_or, Bool.and_false, Bool.false_and]
  all_goals simp only [Done, resAV, resL, resOne, look_nil, look_cons, Nat.reduceEqDiff, if_true, if_false, reduceIte, ite_true, ite_false, Nat.zero_ne_one, Nat.one_ne_zero, reduceCtorEq, true_or, or_true, true_and, Option.some.injEq, AV.lit.injEq, Value.int.injEq, Value.bool.injEq]

theorem tdiv_nat (a n : Nat) : ((a : Int).tdiv (n : Int)) = ((a / n : Nat) : Int) := by
  rw [Int.tdiv_eq_ediv_of_nonneg (by omega)]; omega
theorem tmod_nat' (a n : Nat) : ((a : Int).tmod (n : Int)) = ((a % n : Nat) : Int) := by
  rw [Int.tmod_eq_emod_of_nonneg (by omega)]; omega

set_option maxRecDepth 10000 in
theorem bytes_pure (r : Nat) (hr : r ≤ 1114111) : Pure Try.prog 40 [.lit (.int .i32 (r : Int))] [5] (.sl 5 (octs (encN r)) (some 0)) := by
  refine pure1 Try.func40 c40 n40 e40 r40 (by simp) ?_
  have hw : IntKind.i64.wrap (r : Int) = (r : Int) := wrap_i64 _ (by omega) (by omega)
  have u : ∀ n : Nat, n ≤ 255 → IntKind.u8.wrap (n : Int) = (n : Int) := fun n h => wrap_u8 _ (by omega) (by omega)
  have w : ∀ n : Nat, n ≤ 1000000000 → IntKind.i64.wrap (n : Int) = (n : Int) := fun n h => wrap_i64 _ (by omega) (by omega)
  have q64 : (r : Int).tdiv 64 = ((r / 64 : Nat) : Int) := tdiv_nat r 64
  have q4096 : (r : Int).tdiv 4096 = ((r / 4096 : Nat) : Int) := tdiv_nat r 4096
  have q26 : (r : Int).tdiv 262144 = ((r / 262144 : Nat) : Int) := tdiv_nat r 262144
  have m64 : (r : Int).tmod 64 = ((r % 64 : Nat) : Int) := tmod_nat' r 64
  have m2 : ((r / 64 : Nat) : Int).tmod 64 = ((r / 64 % 64 : Nat) : Int) := tmod_nat' (r / 64) 64
  have m3 : ((r / 4096 : Nat) : Int).tmod 64 = ((r / 4096 % 64 : Nat) : Int) := tmod_nat' (r / 4096) 64
  have z64 : ((64 : Int) = 0) = False := by simp
  have z4096 : ((4096 : Int) = 0) = False := by simp
  have z26 : ((262144 : Int) = 0) = False := by simp
  have wq : ∀ n : Nat, n ≤ 1114111 → IntKind.i64.wrap ((n : Nat) : Int) = ((n : Nat) : Int) := fun n h => w n (by omega)
  simp only [a40, astart, argSlots, go_sem, Nat.reduceAdd, Nat.reduceEqDiff, Nat.reduceLT, reduceIte, reduceCtorEq, Nat.reduceBEq, Int.reduceLT, Int.reduceToNat, Int.reducePow, Nat.reduceLeDiff, Int.reduceLE, Nat.reduceMul, Nat.reduceSub, hw]
  rcases enc_cases r with h | ⟨h1, h2⟩ | ⟨h1, h2⟩ | h1
  · have d1 : decide ((r : Int) < 128) = true := by simp only [decide_eq_true_eq]; omega
    simp only [d1, u r (by omega), Value.oneCell', go_sem, Nat.reduceAdd, Nat.reduceEqDiff, Nat.reduceLT, reduceIte, reduceCtorEq, Nat.reduceBEq, Int.reduceLT, Int.reduceToNat, Int.reducePow, Nat.reduceLeDiff, Int.reduceLE, Nat.reduceMul, Nat.reduceSub]
    rw [enc1 h]
    exact ⟨.inr rfl, 0, by simp only [resAV, resL, resOne, go_sem, Nat.reduceAdd, Nat.reduceEqDiff, Nat.reduceLT, reduceIte, reduceCtorEq, Nat.reduceBEq, Int.reduceLT, Int.reduceToNat, Int.reducePow, Nat.reduceLeDiff, Int.reduceLE, Nat.reduceMul, Nat.reduceSub]; rfl, by simp [go_sem, Nat.reduceAdd, Nat.reduceEqDiff, Nat.reduceLT, reduceIte, reduceCtorEq, Nat.reduceBEq, Int.reduceLT, Int.reduceToNat, Int.reducePow, Nat.reduceLeDiff, Int.reduceLE, Nat.reduceMul, Nat.reduceSub]⟩
  · have d1 : decide ((r : Int) < 128) = false := by simp only [decide_eq_false_iff_not]; omega
    have d2 : decide ((r : Int) < 2048) = true := by simp only [decide_eq_true_eq]; omega
    have a1 : IntKind.i64.wrap (192 + ((r / 64 : Nat) : Int)) = ((192 + r / 64 : Nat) : Int) := by rw [wrap_i64 _ (by omega) (by omega)]; omega
    have a2 : IntKind.i64.wrap (128 + ((r % 64 : Nat) : Int)) = ((128 + r % 64 : Nat) : Int) := by rw [wrap_i64 _ (by omega) (by omega)]; omega
    simp only [d1, d2, q64, m64, z64, wq (r / 64) (by omega), a1, a2, u (192 + r / 64) (by omega), u (128 + r % 64) (by omega), Value.oneCell', go_sem, Nat.reduceAdd, Nat.reduceEqDiff, Nat.reduceLT, reduceIte, reduceCtorEq, Nat.reduceBEq, Int.reduceLT, Int.reduceToNat, Int.reducePow, Nat.reduceLeDiff, Int.reduceLE, Nat.reduceMul, Nat.reduceSub]
    rw [enc2 h1 h2]
    exact ⟨.inr rfl, 0, by simp only [resAV, resL, resOne, go_sem, Nat.reduceAdd, Nat.reduceEqDiff, Nat.reduceLT, reduceIte, reduceCtorEq, Nat.reduceBEq, Int.reduceLT, Int.reduceToNat, Int.reducePow, Nat.reduceLeDiff, Int.reduceLE, Nat.reduceMul, Nat.reduceSub]; rfl, by simp [go_sem, Nat.reduceAdd, Nat.reduceEqDiff, Nat.reduceLT, reduceIte, reduceCtorEq, Nat.reduceBEq, Int.reduceLT, Int.reduceToNat, Int.reducePow, Nat.reduceLeDiff, Int.reduceLE, Nat.reduceMul, Nat.reduceSub]⟩
  · have d1 : decide ((r : Int) < 128) = false := by simp only [decide_eq_false_iff_not]; omega
    have d2 : decide ((r : Int) < 2048) = false := by simp only [decide_eq_false_iff_not]; omega
    have d3 : decide ((r : Int) < 65536) = true := by simp only [decide_eq_true_eq]; omega
    have a1 : IntKind.i64.wrap (224 + ((r / 4096 : Nat) : Int)) = ((224 + r / 4096 : Nat) : Int) := by rw [wrap_i64 _ (by omega) (by omega)]; omega
    have a2 : IntKind.i64.wrap (128 + ((r % 64 : Nat) : Int)) = ((128 + r % 64 : Nat) : Int) := by rw [wrap_i64 _ (by omega) (by omega)]; omega
    have a3 : IntKind.i64.wrap (128 + ((r / 64 % 64 : Nat) : Int)) = ((128 + r / 64 % 64 : Nat) : Int) := by rw [wrap_i64 _ (by omega) (by omega)]; omega
    simp only [d1, d2, d3, q64, q4096, m64, m2, z64, z4096, wq (r / 64) (by omega), wq (r / 4096) (by omega), a1, a2, a3, u (224 + r / 4096) (by omega), u (128 + r % 64) (by omega), u (128 + r / 64 % 64) (by omega), Value.oneCell', go_sem, Nat.reduceAdd, Nat.reduceEqDiff, Nat.reduceLT, reduceIte, reduceCtorEq, Nat.reduceBEq, Int.reduceLT, Int.reduceToNat, Int.reducePow, Nat.reduceLeDiff, Int.reduceLE, Nat.reduceMul, Nat.reduceSub]
    rw [enc3 h1 h2]
    exact ⟨.inr rfl, 0, by simp only [resAV, resL, resOne, go_sem, Nat.reduceAdd, Nat.reduceEqDiff, Nat.reduceLT, reduceIte, reduceCtorEq, Nat.reduceBEq, Int.reduceLT, Int.reduceToNat, Int.reducePow, Nat.reduceLeDiff, Int.reduceLE, Nat.reduceMul, Nat.reduceSub]; rfl, by simp [go_sem, Nat.reduceAdd, Nat.reduceEqDiff, Nat.reduceLT, reduceIte, reduceCtorEq, Nat.reduceBEq, Int.reduceLT, Int.reduceToNat, Int.reducePow, Nat.reduceLeDiff, Int.reduceLE, Nat.reduceMul, Nat.reduceSub]⟩
  · have d1 : decide ((r : Int) < 128) = false := by simp only [decide_eq_false_iff_not]; omega
    have d2 : decide ((r : Int) < 2048) = false := by simp only [decide_eq_false_iff_not]; omega
    have d3 : decide ((r : Int) < 65536) = false := by simp only [decide_eq_false_iff_not]; omega
    have a1 : IntKind.i64.wrap (240 + ((r / 262144 : Nat) : Int)) = ((240 + r / 262144 : Nat) : Int) := by rw [wrap_i64 _ (by omega) (by omega)]; omega
    have a2 : IntKind.i64.wrap (128 + ((r % 64 : Nat) : Int)) = ((128 + r % 64 : Nat) : Int) := by rw [wrap_i64 _ (by omega) (by omega)]; omega
    have a3 : IntKind.i64.wrap (128 + ((r / 64 % 64 : Nat) : Int)) = ((128 + r / 64 % 64 : Nat) : Int) := by rw [wrap_i64 _ (by omega) (by omega)]; omega
    have a4 : IntKind.i64.wrap (128 + ((r / 4096 % 64 : Nat) : Int)) = ((128 + r / 4096 % 64 : Nat) : Int) := by rw [wrap_i64 _ (by omega) (by omega)]; omega
    simp only [d1, d2, d3, q64, q4096, q26, m64, m2, m3, z64, z4096, z26, wq (r / 64) (by omega), wq (r / 4096) (by omega), wq (r / 262144) (by omega), a1, a2, a3, a4, u (240 + r / 262144) (by omega), u (128 + r % 64) (by omega), u (128 + r / 64 % 64) (by omega), u (128 + r / 4096 % 64) (by omega), Value.oneCell', go_sem, Nat.reduceAdd, Nat.reduceEqDiff, Nat.reduceLT, reduceIte, reduceCtorEq, Nat.reduceBEq, Int.reduceLT, Int.reduceToNat, Int.reducePow, Nat.reduceLeDiff, Int.reduceLE, Nat.reduceMul, Nat.reduceSub]
    rw [enc4 h1]
    exact ⟨.inr rfl, 0, by simp only [resAV, resL, resOne, go_sem, Nat.reduceAdd, Nat.reduceEqDiff, Nat.reduceLT, reduceIte, reduceCtorEq, Nat.reduceBEq, Int.reduceLT, Int.reduceToNat, Int.reducePow, Nat.reduceLeDiff, Int.reduceLE, Nat.reduceMul, Nat.reduceSub]; rfl, by simp [go_sem, Nat.reduceAdd, Nat.reduceEqDiff, Nat.reduceLT, reduceIte, reduceCtorEq, Nat.reduceBEq, Int.reduceLT, Int.reduceToNat, Int.reducePow, Nat.reduceLeDiff, Int.reduceLE, Nat.reduceMul, Nat.reduceSub]⟩
end Go.Proofs.Ytbnaepdeakcljaa
