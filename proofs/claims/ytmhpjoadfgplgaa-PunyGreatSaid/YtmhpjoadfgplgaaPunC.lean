/-
Thresholds, biases, signs: both programs' small functions. Conditions: none.
-/
import Derived.Test.YtmhpjoadfgplgaaPunB
set_option linter.unusedSimpArgs false
set_option linter.unusedVariables false
set_option linter.unusedSectionVars false
namespace Go.Proofs.Ytmhpjoadfgplgaa
open Go Go.Ab
def a74 : ACode :=
  (.seq (.reg [⟨(.some 4), (.mv (.k (.int .i64 0))), .none⟩]) (.seq (.reg [⟨(.some 5), (.mv (.t 0)), .none⟩, ⟨(.some 6), (.bin .mul (.k (.int .i64 36)) (.t 5)), .none⟩, ⟨(.some 7), (.mv (.t 1)), .none⟩,
  ⟨(.some 8), (.bin .sub (.t 6) (.t 7)), .none⟩, ⟨(.some 9), (.mx (.t 8) (.k (.int .i64 1))), .none⟩, ⟨(.some 10), (.mn (.t 9) (.k (.int .i64 26))), .none⟩, ⟨(.some 4), (.mv (.t 10)), .none⟩]) .ret))
theorem c74 : Try.f74.body.bind (cCode Try.prog 11) = some a74 := by kernel_rfl
theorem r74 : Try.f74.results.toList = [(.tmp 4)] := by kernel_rfl
theorem n74 : Try.f74.ntmps = 11 := by kernel_rfl
theorem e74 : Enters Try.prog 74 := enters_of Try.func74 (by kernel_rfl) (by kernel_rfl)
def a41 : ACode :=
  (.seq (.reg [⟨(.some 6), (.mv (.k (.int .i64 0))), .none⟩]) (.seq (.seq (.reg [⟨(.some 8), (.mv (.t 2)), .none⟩]) (.cond (.t 8) (.reg [⟨(.some 9), (.mv (.t 0)), .none⟩, ⟨(.some 10), (.bin .quo (.t 9)
  (.k (.int .i64 700))), .none⟩, ⟨(.some 0), (.mv (.t 10)), .none⟩]) (.reg [⟨(.some 11), (.mv (.t 0)), .none⟩, ⟨(.some 12), (.bin .quo (.t 11) (.k (.int .i64 2))), .none⟩, ⟨(.some 0), (.mv (.t 12)),
  .none⟩]))) (.seq (.reg [⟨(.some 13), (.mv (.t 0)), .none⟩, ⟨(.some 14), (.mv (.t 0)), .none⟩, ⟨(.some 15), (.mv (.t 1)), .none⟩, ⟨(.some 16), (.bin .quo (.t 14) (.t 15)), .none⟩, ⟨(.some 17), (.bin
  .add (.t 13) (.t 16)), .none⟩, ⟨(.some 0), (.mv (.t 17)), .none⟩]) (.seq (.reg [⟨(.some 7), (.mv (.k (.int .i64 0))), .none⟩]) (.seq (.block 0 (.loop (.seq (.seq (.reg [⟨(.some 18), (.mv (.t 0)),
  .none⟩, ⟨(.some 19), (.bin .gtr (.t 18) (.k (.int .i64 455))), .none⟩]) (.cond (.t 19) .skip (.exit 0))) (.seq (.block 1 (.reg [⟨(.some 22), (.mv (.t 0)), .none⟩, ⟨(.some 23), (.bin .quo (.t 22) (.k
  (.int .i64 35))), .none⟩, ⟨(.some 0), (.mv (.t 23)), .none⟩])) (.reg [⟨(.some 20), (.mv (.t 7)), .none⟩, ⟨(.some 21), (.bin .add (.t 20) (.k (.int .i64 36))), .none⟩, ⟨(.some 7), (.mv (.t 21)),
  .none⟩]))))) (.seq (.reg [⟨(.some 24), (.mv (.t 7)), .none⟩, ⟨(.some 25), (.mv (.t 0)), .none⟩, ⟨(.some 26), (.bin .mul (.k (.int .i64 36)) (.t 25)), .none⟩, ⟨(.some 27), (.mv (.t 0)), .none⟩, ⟨(.some
  28), (.bin .add (.t 27) (.k (.int .i64 38))), .none⟩, ⟨(.some 29), (.bin .quo (.t 26) (.t 28)), .none⟩, ⟨(.some 30), (.bin .add (.t 24) (.t 29)), .none⟩, ⟨(.some 6), (.mv (.t 30)), .none⟩]) .ret))))))
theorem c41 : Try.f41.body.bind (cCode Try.prog 31) = some a41 := by kernel_rfl
theorem r41 : Try.f41.results.toList = [(.tmp 6)] := by kernel_rfl
theorem n41 : Try.f41.ntmps = 31 := by kernel_rfl
theorem e41 : Enters Try.prog 41 := enters_of Try.func41 (by kernel_rfl) (by kernel_rfl)
def a75 : ACode :=
  (.seq (.reg [⟨(.some 4), (.mv (.k (.int .i64 0))), .none⟩]) (.seq (.reg [⟨(.some 6), (.mv (.t 0)), .none⟩, ⟨(.some 7), (.bin .mul (.k (.int .i64 36)) (.t 6)), .none⟩, ⟨(.some 8), (.mv (.t 1)), .none⟩,
  ⟨(.some 9), (.bin .sub (.t 7) (.t 8)), .none⟩, ⟨(.some 5), (.mv (.t 9)), .none⟩]) (.seq (.seq (.reg [⟨(.some 10), (.mv (.t 5)), .none⟩, ⟨(.some 11), (.bin .lss (.t 10) (.k (.int .i64 1))), .none⟩])
  (.cond (.t 11) (.seq (.reg [⟨(.some 4), (.mv (.k (.int .i64 1))), .none⟩]) .ret) .skip)) (.seq (.seq (.reg [⟨(.some 12), (.mv (.t 5)), .none⟩, ⟨(.some 13), (.bin .gtr (.t 12) (.k (.int .i64 26))),
  .none⟩]) (.cond (.t 13) (.seq (.reg [⟨(.some 4), (.mv (.k (.int .i64 26))), .none⟩]) .ret) .skip)) (.seq (.reg [⟨(.some 14), (.mv (.t 5)), .none⟩, ⟨(.some 4), (.mv (.t 14)), .none⟩]) .ret)))))
theorem c75 : Try.f75.body.bind (cCode Try.prog 15) = some a75 := by kernel_rfl
theorem r75 : Try.f75.results.toList = [(.tmp 4)] := by kernel_rfl
theorem n75 : Try.f75.ntmps = 15 := by kernel_rfl
theorem e75 : Enters Try.prog 75 := enters_of Try.func75 (by kernel_rfl) (by kernel_rfl)
def a47 : ACode :=
  (.seq (.reg [⟨(.some 6), (.mv (.k (.int .i64 0))), .none⟩]) (.seq (.seq (.reg [⟨(.some 8), (.mv (.t 2)), .none⟩]) (.cond (.t 8) (.reg [⟨(.some 9), (.mv (.t 0)), .none⟩, ⟨(.some 10), (.bin .quo (.t 9)
  (.k (.int .i64 700))), .none⟩, ⟨(.some 0), (.mv (.t 10)), .none⟩]) (.reg [⟨(.some 11), (.mv (.t 0)), .none⟩, ⟨(.some 12), (.bin .quo (.t 11) (.k (.int .i64 2))), .none⟩, ⟨(.some 0), (.mv (.t 12)),
  .none⟩]))) (.seq (.reg [⟨(.some 13), (.mv (.t 0)), .none⟩, ⟨(.some 14), (.mv (.t 0)), .none⟩, ⟨(.some 15), (.mv (.t 1)), .none⟩, ⟨(.some 16), (.bin .quo (.t 14) (.t 15)), .none⟩, ⟨(.some 17), (.bin
  .add (.t 13) (.t 16)), .none⟩, ⟨(.some 0), (.mv (.t 17)), .none⟩]) (.seq (.reg [⟨(.some 7), (.mv (.k (.int .i64 0))), .none⟩]) (.seq (.block 0 (.loop (.seq (.seq (.reg [⟨(.some 18), (.mv (.t 0)),
  .none⟩, ⟨(.some 19), (.bin .gtr (.t 18) (.k (.int .i64 455))), .none⟩]) (.cond (.t 19) .skip (.exit 0))) (.block 1 (.seq (.reg [⟨(.some 20), (.mv (.t 0)), .none⟩, ⟨(.some 21), (.bin .quo (.t 20) (.k
  (.int .i64 35))), .none⟩, ⟨(.some 0), (.mv (.t 21)), .none⟩]) (.reg [⟨(.some 22), (.mv (.t 7)), .none⟩, ⟨(.some 23), (.bin .add (.t 22) (.k (.int .i64 36))), .none⟩, ⟨(.some 7), (.mv (.t 23)),
  .none⟩])))))) (.seq (.reg [⟨(.some 24), (.mv (.t 7)), .none⟩, ⟨(.some 25), (.mv (.t 0)), .none⟩, ⟨(.some 26), (.bin .mul (.k (.int .i64 36)) (.t 25)), .none⟩, ⟨(.some 27), (.mv (.t 0)), .none⟩,
  ⟨(.some 28), (.bin .add (.t 27) (.k (.int .i64 38))), .none⟩, ⟨(.some 29), (.bin .quo (.t 26) (.t 28)), .none⟩, ⟨(.some 30), (.bin .add (.t 24) (.t 29)), .none⟩, ⟨(.some 6), (.mv (.t 30)), .none⟩])
  .ret))))))
theorem c47 : Try.f47.body.bind (cCode Try.prog 31) = some a47 := by kernel_rfl
theorem r47 : Try.f47.results.toList = [(.tmp 6)] := by kernel_rfl
theorem n47 : Try.f47.ntmps = 31 := by kernel_rfl
theorem e47 : Enters Try.prog 47 := enters_of Try.func47 (by kernel_rfl) (by kernel_rfl)
def a76 : ACode :=
  (.seq (.reg [⟨(.some 2), (.mv (.k (.int .u8 0))), .none⟩]) (.seq (.seq (.reg [⟨(.some 3), (.mv (.t 0)), .none⟩, ⟨(.some 4), (.bin .lss (.t 3) (.k (.int .i64 26))), .none⟩]) (.cond (.t 4) (.seq (.reg
  [⟨(.some 5), (.mv (.t 0)), .none⟩, ⟨(.some 6), (.bin .add (.k (.int .i64 97)) (.t 5)), .none⟩, ⟨(.some 7), (.cvI .u8 (.t 6)), .none⟩, ⟨(.some 2), (.mv (.t 7)), .none⟩]) .ret) .skip)) (.seq (.reg
  [⟨(.some 8), (.mv (.t 0)), .none⟩, ⟨(.some 9), (.bin .add (.k (.int .i64 48)) (.t 8)), .none⟩, ⟨(.some 10), (.bin .sub (.t 9) (.k (.int .i64 26))), .none⟩, ⟨(.some 11), (.cvI .u8 (.t 10)), .none⟩,
  ⟨(.some 2), (.mv (.t 11)), .none⟩]) .ret)))
theorem c76 : Try.f76.body.bind (cCode Try.prog 12) = some a76 := by kernel_rfl
theorem r76 : Try.f76.results.toList = [(.tmp 2)] := by kernel_rfl
theorem n76 : Try.f76.ntmps = 12 := by kernel_rfl
theorem e76 : Enters Try.prog 76 := enters_of Try.func76 (by kernel_rfl) (by kernel_rfl)
def a80 : ACode :=
  (.seq (.reg [⟨(.some 2), (.mv (.k (.int .i64 0))), .none⟩]) (.seq (.seq (.reg [⟨(.some 3), (.mv (.t 0)), .none⟩, ⟨(.some 4), (.bin .geq (.t 3) (.k (.int .u8 97))), .none⟩, ⟨(.some 5), (.mv (.t 4)),
  .none⟩, ⟨(.some 6), (.mv (.t 0)), (.some (5, true))⟩, ⟨(.some 7), (.bin .leq (.t 6) (.k (.int .u8 122))), (.some (5, true))⟩, ⟨(.some 8), (.pick (.t 5) (.t 7) (.k (.bool false))), .none⟩]) (.cond (.t
  8) (.seq (.reg [⟨(.some 9), (.mv (.t 0)), .none⟩, ⟨(.some 10), (.bin .sub (.t 9) (.k (.int .u8 97))), .none⟩, ⟨(.some 11), (.cvI .i64 (.t 10)), .none⟩, ⟨(.some 2), (.mv (.t 11)), .none⟩]) .ret)
  .skip)) (.seq (.seq (.reg [⟨(.some 12), (.mv (.t 0)), .none⟩, ⟨(.some 13), (.bin .geq (.t 12) (.k (.int .u8 48))), .none⟩, ⟨(.some 14), (.mv (.t 13)), .none⟩, ⟨(.some 15), (.mv (.t 0)), (.some (14,
  true))⟩, ⟨(.some 16), (.bin .leq (.t 15) (.k (.int .u8 57))), (.some (14, true))⟩, ⟨(.some 17), (.pick (.t 14) (.t 16) (.k (.bool false))), .none⟩]) (.cond (.t 17) (.seq (.reg [⟨(.some 18), (.mv (.t
  0)), .none⟩, ⟨(.some 19), (.bin .sub (.t 18) (.k (.int .u8 48))), .none⟩, ⟨(.some 20), (.cvI .i64 (.t 19)), .none⟩, ⟨(.some 21), (.bin .add (.t 20) (.k (.int .i64 26))), .none⟩, ⟨(.some 2), (.mv (.t
  21)), .none⟩]) .ret) .skip)) (.seq (.reg [⟨(.some 2), (.mv (.k (.int .i64 (-1)))), .none⟩]) .ret))))
theorem c80 : Try.f80.body.bind (cCode Try.prog 22) = some a80 := by kernel_rfl
theorem r80 : Try.f80.results.toList = [(.tmp 2)] := by kernel_rfl
theorem n80 : Try.f80.ntmps = 22 := by kernel_rfl
theorem e80 : Enters Try.prog 80 := enters_of Try.func80 (by kernel_rfl) (by kernel_rfl)

/-- The threshold of the k-th digit. -/
def thr (k b : Nat) : Nat := min (max (36 * k - b) 1) 26
theorem thr_pos (k b : Nat) : 1 ≤ thr k b := by unfold thr; omega
theorem thr_le (k b : Nat) : thr k b ≤ 26 := by unfold thr; omega
/-- The last part of a bias. -/
def adl (d : Nat) : Nat := if d ≤ 455 then 36 * d / (d + 38) else 36 + adl (d / 35)
/-- The bias behind a step. -/
def adp (d h : Nat) (first : Bool) : Nat := adl ((if first then d / 700 else d / 2) + (if first then d / 700 else d / 2) / h)

theorem wrapN (n : Nat) (h : n ≤ 9223372036854775807) : IntKind.i64.wrap (n : Int) = (n : Int) := wrap_i64 _ (by omega) (by omega)
theorem tdivN (a b : Nat) : ((a : Int).tdiv (b : Int)) = ((a / b : Nat) : Int) := by rw [Int.tdiv_eq_ediv_of_nonneg (by omega)]; simp
theorem tmodN (a b : Nat) : ((a : Int).tmod (b : Int)) = ((a % b : Nat) : Int) := by rw [Int.tmod_eq_emod_of_nonneg (by omega)]; simp
theorem neI {a : Int} (h : a ≠ 0) : (a = 0) = False := by simp [h]

set_option maxRecDepth 10000 in
theorem thr_pure (k b : Nat) (hk : k ≤ 1099511627776) (hb : b ≤ 1099511627776) : Pure Try.prog 74 [.lit (.int .i64 (k : Int)), .lit (.int .i64 (b : Int))] [] (.lit (.int .i64 (thr k b : Int))) := by
  refine pure0 Try.func74 c74 n74 e74 r74 (by simp) (by rfl) ?_
  have w1 : IntKind.i64.wrap (36 * (k : Int)) = 36 * (k : Int) := wrap_i64 _ (by omega) (by omega)
  have w2 : IntKind.i64.wrap (36 * (k : Int) - (b : Int)) = 36 * (k : Int) - (b : Int) := wrap_i64 _ (by omega) (by omega)
  have e : (if 26 < (if 36 * (k : Int) - (b : Int) < 1 then 1 else 36 * (k : Int) - (b : Int)) then 26 else (if 36 * (k : Int) - (b : Int) < 1 then 1 else 36 * (k : Int) - (b : Int))) = (thr k b : Int) := by
    unfold thr; split <;> split at * <;> omega
  simp only [a74, astart, argSlots, w1, w2, e, go_sem, Nat.reduceAdd, Nat.reduceEqDiff, Nat.reduceLT, reduceIte, reduceCtorEq, Nat.reduceBEq, Int.reduceLT, Int.reduceToNat, Int.reducePow, Nat.reduceLeDiff, Int.reduceLE, Nat.reduceMul, Nat.reduceSub]
  simp only [Done, resAV, resL, resOne, look_nil, look_cons, Nat.reduceEqDiff, if_true, if_false, reduceIte, ite_true, ite_false, Nat.zero_ne_one, Nat.one_ne_zero, reduceCtorEq, true_or, or_true, true_and, Option.some.injEq, AV.lit.injEq, Value.int.injEq, Value.bool.injEq]

set_option maxRecDepth 10000 in
theorem refThr_pure (k b : Nat) (hk : k ≤ 1099511627776) (hb : b ≤ 1099511627776) : Pure Try.prog 75 [.lit (.int .i64 (k : Int)), .lit (.int .i64 (b : Int))] [] (.lit (.int .i64 (thr k b : Int))) := by
  refine pure0 Try.func75 c75 n75 e75 r75 (by simp) (by rfl) ?_
  have w1 : IntKind.i64.wrap (36 * (k : Int)) = 36 * (k : Int) := wrap_i64 _ (by omega) (by omega)
  have w2 : IntKind.i64.wrap (36 * (k : Int) - (b : Int)) = 36 * (k : Int) - (b : Int) := wrap_i64 _ (by omega) (by omega)
  by_cases h1 : 36 * (k : Int) - (b : Int) < 1
  · have e : (thr k b : Int) = 1 := by unfold thr; omega
    simp only [a75, astart, argSlots, w1, w2, h1, decide_true, e, go_sem, Nat.reduceAdd, Nat.reduceEqDiff, Nat.reduceLT, reduceIte, reduceCtorEq, Nat.reduceBEq, Int.reduceLT, Int.reduceToNat, Int.reducePow, Nat.reduceLeDiff, Int.reduceLE, Nat.reduceMul, Nat.reduceSub]
    simp only [Done, resAV, resL, resOne, look_nil, look_cons, Nat.reduceEqDiff, if_true, if_false, reduceIte, ite_true, ite_false, Nat.zero_ne_one, Nat.one_ne_zero, reduceCtorEq, true_or, or_true, true_and, Option.some.injEq, AV.lit.injEq, Value.int.injEq, Value.bool.injEq]
  · by_cases h2 : 36 * (k : Int) - (b : Int) > 26
    · have e : (thr k b : Int) = 26 := by unfold thr; omega
      simp only [a75, astart, argSlots, w1, w2, h1, h2, decide_true, decide_false, e, go_sem, Nat.reduceAdd, Nat.reduceEqDiff, Nat.reduceLT, reduceIte, reduceCtorEq, Nat.reduceBEq, Int.reduceLT, Int.reduceToNat, Int.reducePow, Nat.reduceLeDiff, Int.reduceLE, Nat.reduceMul, Nat.reduceSub]
      simp only [Done, resAV, resL, resOne, look_nil, look_cons, Nat.reduceEqDiff, if_true, if_false, reduceIte, ite_true, ite_false, Nat.zero_ne_one, Nat.one_ne_zero, reduceCtorEq, true_or, or_true, true_and, Option.some.injEq, AV.lit.injEq, Value.int.injEq, Value.bool.injEq]
    · have e : (thr k b : Int) = 36 * (k : Int) - (b : Int) := by unfold thr; omega
      simp only [a75, astart, argSlots, w1, w2, h1, h2, decide_true, decide_false, e, go_sem, Nat.reduceAdd, Nat.reduceEqDiff, Nat.reduceLT, reduceIte, reduceCtorEq, Nat.reduceBEq, Int.reduceLT, Int.reduceToNat, Int.reducePow, Nat.reduceLeDiff, Int.reduceLE, Nat.reduceMul, Nat.reduceSub]
      simp only [Done, resAV, resL, resOne, look_nil, look_cons, Nat.reduceEqDiff, if_true, if_false, reduceIte, ite_true, ite_false, Nat.zero_ne_one, Nat.one_ne_zero, reduceCtorEq, true_or, or_true, true_and, Option.some.injEq, AV.lit.injEq, Value.int.injEq, Value.bool.injEq]

theorem adl_le : ∀ (f d : Nat), d < 35 ^ f → adl d ≤ 36 * f + 36
  | 0, d, h => by
    have : d = 0 := by simp at h; omega
    subst this
    rw [adl]; simp
  | f + 1, d, h => by
    rw [adl]
    split
    · have : 36 * d / (d + 38) ≤ 36 := Nat.div_le_of_le_mul (by omega)
      omega
    · have := adl_le f (d / 35) (by rw [Nat.pow_succ] at h; exact Nat.div_lt_of_lt_mul (by omega))
      omega
theorem adp_le {d h : Nat} (f : Bool) (hd : d ≤ 1099511627776) : adp d h f ≤ 360 := by
  have hq : ∀ e : Nat, e ≤ d → adl (e + e / h) ≤ 360 := fun e he => by
    have : e / h ≤ e := Nat.div_le_self _ _
    exact adl_le 9 _ (by omega)
  unfold adp
  cases f
  · exact hq _ (by simp; omega)
  · exact hq _ (by simp; omega)

set_option maxRecDepth 10000 in
theorem adp_pure (d h : Nat) (f : Bool) (hd : d ≤ 1099511627776) (hh : 1 ≤ h) (hh2 : h ≤ 1099511627776) : Pure Try.prog 41 [.lit (.int .i64 (d : Int)), .lit (.int .i64 (h : Int)), .lit (.bool f)] [] (.lit (.int .i64 (adp d h f : Int))) := by
  refine pure0 Try.func41 c41 n41 e41 r41 (by simp) (by rfl) ?_
  obtain ⟨e, he⟩ : ∃ e, e = if f then d / 700 else d / 2 := ⟨_, rfl⟩
  have hed : e ≤ d := by rw [he]; split <;> omega
  have heh : e / h ≤ e := Nat.div_le_self _ _
  have q1 : ∀ n : Nat, 0 < n → IntKind.i64.wrap ((d : Int).tdiv (n : Int)) = ((d / n : Nat) : Int) := fun n _ => by rw [tdivN]; have := Nat.div_le_self d n; exact wrapN _ (by omega)
  have q700 : IntKind.i64.wrap ((d : Int).tdiv 700) = ((d / 700 : Nat) : Int) := q1 700 (by omega)
  have q2 : IntKind.i64.wrap ((d : Int).tdiv 2) = ((d / 2 : Nat) : Int) := q1 2 (by omega)
  have q3 : IntKind.i64.wrap ((e : Int).tdiv (h : Int)) = ((e / h : Nat) : Int) := by rw [tdivN]; exact wrapN _ (by omega)
  have q4 : IntKind.i64.wrap ((e : Int) + ((e / h : Nat) : Int)) = ((e + e / h : Nat) : Int) := by rw [← Int.natCast_add]; exact wrapN _ (by omega)
  have n700 : ((700 : Int) = 0) = False := by simp
  have n2 : ((2 : Int) = 0) = False := by simp
  have n35 : ((35 : Int) = 0) = False := by simp
  have nh : ((h : Int) = 0) = False := neI (by omega)
  have hr : adp d h f = adl (e + e / h) := by rw [he]; rfl
  rw [hr]
  obtain ⟨m, hm⟩ : ∃ m, m = e + e / h := ⟨_, rfl⟩
  have hml : m ≤ 2199023255552 := by omega
  have ham : adl m ≤ 360 := adl_le 9 _ (by omega)
  cases f
  all_goals
    simp only [a41, astart, argSlots, n700, n2, if_false, go_sem, Nat.reduceAdd, Nat.reduceEqDiff, Nat.reduceLT, reduceIte, reduceCtorEq, Nat.reduceBEq, Int.reduceLT, Int.reduceToNat, Int.reducePow, Nat.reduceLeDiff, Int.reduceLE, Nat.reduceMul, Nat.reduceSub]
    first
    | rw [show IntKind.i64.wrap ((d : Int).tdiv 2) = (e : Int) by rw [q2, he]; rfl]
    | rw [show IntKind.i64.wrap ((d : Int).tdiv 700) = (e : Int) by rw [q700, he]; rfl]
    simp only [q3, q4, nh, if_false, go_sem, Nat.reduceAdd, Nat.reduceEqDiff, Nat.reduceLT, reduceIte, reduceCtorEq, Nat.reduceBEq, Int.reduceLT, Int.reduceToNat, Int.reducePow, Nat.reduceLeDiff, Int.reduceLE, Nat.reduceMul, Nat.reduceSub]
    refine loop_by (α := Nat × Nat) (fun x => ⟨[(0, some (.lit (.int .i64 ((x.1 : Nat) : Int)))), (7, some (.lit (.int .i64 ((x.2 : Nat) : Int))))], [], [], 0⟩)
      (fun x => x.2 + adl x.1 = adl m ∧ x.1 ≤ m) (fun x => x.1) (fun x y h => by
        have := congrArg (cnt 0) h
        simp [cnt, Ab.look] at this
        rw [this]) (m, 0) (weak_forget ?_ (List.Sublist.refl _) (List.Sublist.refl _)) ⟨by simp, Nat.le_refl _⟩ ?_
    · simp only [go_sem, Nat.reduceAdd, Nat.reduceEqDiff, Nat.reduceLT, reduceIte, reduceCtorEq, Nat.reduceBEq, Int.reduceLT, Int.reduceToNat, Int.reducePow, Nat.reduceLeDiff, Int.reduceLE, Nat.reduceMul, Nat.reduceSub, slotsBy, boxesBy, tipsBy, rawAt, nm, AV.ren, AV.renL, AV.under, AV.underL, List.all_nil, List.all_cons, bne_self_eq_false, List.getD_cons_zero, List.getD_cons_succ, List.length_nil, List.length_cons, and_true, true_and, slotsSub, Int.natCast_zero, hm]
    · rintro ⟨x, k⟩ ⟨h1, h2⟩
      simp only at h1 h2
      simp only [go_sem, Nat.reduceAdd, Nat.reduceEqDiff, Nat.reduceLT, reduceIte, reduceCtorEq, Nat.reduceBEq, Int.reduceLT, Int.reduceToNat, Int.reducePow, Nat.reduceLeDiff, Int.reduceLE, Nat.reduceMul, Nat.reduceSub]
      by_cases hx : x ≤ 455
      · have hgt : decide ((x : Int) > 455) = false := by simp; omega
        have ha : adl x = 36 * x / (x + 38) := by rw [adl, if_pos hx]
        have hd36 : 36 * x / (x + 38) ≤ 36 := Nat.div_le_of_le_mul (by omega)
        have w1 : IntKind.i64.wrap (36 * (x : Int)) = ((36 * x : Nat) : Int) := by rw [wrap_i64 _ (by omega) (by omega)]; omega
        have w2 : IntKind.i64.wrap ((x : Int) + 38) = ((x + 38 : Nat) : Int) := by rw [wrap_i64 _ (by omega) (by omega)]; omega
        have w3 : IntKind.i64.wrap (((36 * x : Nat) : Int).tdiv ((x + 38 : Nat) : Int)) = ((36 * x / (x + 38) : Nat) : Int) := by rw [tdivN]; exact wrapN _ (by omega)
        have w4 : IntKind.i64.wrap ((k : Int) + ((36 * x / (x + 38) : Nat) : Int)) = ((adl m : Nat) : Int) := by rw [← h1, ha, ← Int.natCast_add]; exact wrapN _ (by omega)
        have nx : (((x + 38 : Nat) : Int) = 0) = False := neI (by omega)
        simp only [hgt, w1, w2, w3, w4, nx, if_false, go_sem, Nat.reduceAdd, Nat.reduceEqDiff, Nat.reduceLT, reduceIte, reduceCtorEq, Nat.reduceBEq, Int.reduceLT, Int.reduceToNat, Int.reducePow, Nat.reduceLeDiff, Int.reduceLE, Nat.reduceMul, Nat.reduceSub]
        rw [← hm]
        simp only [Done, resAV, resL, resOne, look_nil, look_cons, Nat.reduceEqDiff, if_true, if_false, reduceIte, ite_true, ite_false, Nat.zero_ne_one, Nat.one_ne_zero, reduceCtorEq, true_or, or_true, true_and, Option.some.injEq, AV.lit.injEq, Value.int.injEq, Value.bool.injEq]
      · have hgt : decide ((x : Int) > 455) = true := by simp; omega
        have ha : adl x = 36 + adl (x / 35) := by rw [adl, if_neg hx]
        have w1 : IntKind.i64.wrap ((x : Int).tdiv 35) = ((x / 35 : Nat) : Int) := by
          have := tdivN x 35
          rw [show ((35 : Nat) : Int) = 35 from rfl] at this
          rw [this]; exact wrapN _ (by omega)
        have w2 : IntKind.i64.wrap ((k : Int) + 36) = ((k + 36 : Nat) : Int) := by rw [wrap_i64 _ (by omega) (by omega)]; omega
        simp only [hgt, w1, w2, n35, if_false, Bool.not_true, go_sem, Nat.reduceAdd, Nat.reduceEqDiff, Nat.reduceLT, reduceIte, reduceCtorEq, Nat.reduceBEq, Int.reduceLT, Int.reduceToNat, Int.reducePow, Nat.reduceLeDiff, Int.reduceLE, Nat.reduceMul, Nat.reduceSub]
        refine ⟨(x / 35, k + 36), weak_forget ?_ (List.Sublist.refl _) (List.Sublist.refl _), ⟨by simp only; omega, by simp only; omega⟩, by simp only; omega⟩
        simp only [go_sem, Nat.reduceAdd, Nat.reduceEqDiff, Nat.reduceLT, reduceIte, reduceCtorEq, Nat.reduceBEq, Int.reduceLT, Int.reduceToNat, Int.reducePow, Nat.reduceLeDiff, Int.reduceLE, Nat.reduceMul, Nat.reduceSub, slotsBy, boxesBy, tipsBy, rawAt, nm, AV.ren, AV.renL, AV.under, AV.underL, List.all_nil, List.all_cons, bne_self_eq_false, List.getD_cons_zero, List.getD_cons_succ, List.length_nil, List.length_cons, and_true, true_and, slotsSub]

set_option maxRecDepth 10000 in
theorem refNext_pure (d h : Nat) (f : Bool) (hd : d ≤ 1099511627776) (hh : 1 ≤ h) (hh2 : h ≤ 1099511627776) : Pure Try.prog 47 [.lit (.int .i64 (d : Int)), .lit (.int .i64 (h : Int)), .lit (.bool f)] [] (.lit (.int .i64 (adp d h f : Int))) := by
  refine pure0 Try.func47 c47 n47 e47 r47 (by simp) (by rfl) ?_
  obtain ⟨e, he⟩ : ∃ e, e = if f then d / 700 else d / 2 := ⟨_, rfl⟩
  have hed : e ≤ d := by rw [he]; split <;> omega
  have heh : e / h ≤ e := Nat.div_le_self _ _
  have q1 : ∀ n : Nat, 0 < n → IntKind.i64.wrap ((d : Int).tdiv (n : Int)) = ((d / n : Nat) : Int) := fun n _ => by rw [tdivN]; have := Nat.div_le_self d n; exact wrapN _ (by omega)
  have q700 : IntKind.i64.wrap ((d : Int).tdiv 700) = ((d / 700 : Nat) : Int) := q1 700 (by omega)
  have q2 : IntKind.i64.wrap ((d : Int).tdiv 2) = ((d / 2 : Nat) : Int) := q1 2 (by omega)
  have q3 : IntKind.i64.wrap ((e : Int).tdiv (h : Int)) = ((e / h : Nat) : Int) := by rw [tdivN]; exact wrapN _ (by omega)
  have q4 : IntKind.i64.wrap ((e : Int) + ((e / h : Nat) : Int)) = ((e + e / h : Nat) : Int) := by rw [← Int.natCast_add]; exact wrapN _ (by omega)
  have n700 : ((700 : Int) = 0) = False := by simp
  have n2 : ((2 : Int) = 0) = False := by simp
  have n35 : ((35 : Int) = 0) = False := by simp
  have nh : ((h : Int) = 0) = False := neI (by omega)
  have hr : adp d h f = adl (e + e / h) := by rw [he]; rfl
  rw [hr]
  obtain ⟨m, hm⟩ : ∃ m, m = e + e / h := ⟨_, rfl⟩
  have hml : m ≤ 2199023255552 := by omega
  have ham : adl m ≤ 360 := adl_le 9 _ (by omega)
  cases f
  all_goals
    simp only [a47, astart, argSlots, n700, n2, if_false, go_sem, Nat.reduceAdd, Nat.reduceEqDiff, Nat.reduceLT, reduceIte, reduceCtorEq, Nat.reduceBEq, Int.reduceLT, Int.reduceToNat, Int.reducePow, Nat.reduceLeDiff, Int.reduceLE, Nat.reduceMul, Nat.reduceSub]
    first
    | rw [show IntKind.i64.wrap ((d : Int).tdiv 2) = (e : Int) by rw [q2, he]; rfl]
    | rw [show IntKind.i64.wrap ((d : Int).tdiv 700) = (e : Int) by rw [q700, he]; rfl]
    simp only [q3, q4, nh, if_false, go_sem, Nat.reduceAdd, Nat.reduceEqDiff, Nat.reduceLT, reduceIte, reduceCtorEq, Nat.reduceBEq, Int.reduceLT, Int.reduceToNat, Int.reducePow, Nat.reduceLeDiff, Int.reduceLE, Nat.reduceMul, Nat.reduceSub]
    refine loop_by (α := Nat × Nat) (fun x => ⟨[(0, some (.lit (.int .i64 ((x.1 : Nat) : Int)))), (7, some (.lit (.int .i64 ((x.2 : Nat) : Int))))], [], [], 0⟩)
      (fun x => x.2 + adl x.1 = adl m ∧ x.1 ≤ m) (fun x => x.1) (fun x y h => by
        have := congrArg (cnt 0) h
        simp [cnt, Ab.look] at this
        rw [this]) (m, 0) (weak_forget ?_ (List.Sublist.refl _) (List.Sublist.refl _)) ⟨by simp, Nat.le_refl _⟩ ?_
    · simp only [go_sem, Nat.reduceAdd, Nat.reduceEqDiff, Nat.reduceLT, reduceIte, reduceCtorEq, Nat.reduceBEq, Int.reduceLT, Int.reduceToNat, Int.reducePow, Nat.reduceLeDiff, Int.reduceLE, Nat.reduceMul, Nat.reduceSub, slotsBy, boxesBy, tipsBy, rawAt, nm, AV.ren, AV.renL, AV.under, AV.underL, List.all_nil, List.all_cons, bne_self_eq_false, List.getD_cons_zero, List.getD_cons_succ, List.length_nil, List.length_cons, and_true, true_and, slotsSub, Int.natCast_zero, hm]
    · rintro ⟨x, k⟩ ⟨h1, h2⟩
      simp only at h1 h2
      simp only [go_sem, Nat.reduceAdd, Nat.reduceEqDiff, Nat.reduceLT, reduceIte, reduceCtorEq, Nat.reduceBEq, Int.reduceLT, Int.reduceToNat, Int.reducePow, Nat.reduceLeDiff, Int.reduceLE, Nat.reduceMul, Nat.reduceSub]
      by_cases hx : x ≤ 455
      · have hgt : decide ((x : Int) > 455) = false := by simp; omega
        have ha : adl x = 36 * x / (x + 38) := by rw [adl, if_pos hx]
        have hd36 : 36 * x / (x + 38) ≤ 36 := Nat.div_le_of_le_mul (by omega)
        have w1 : IntKind.i64.wrap (36 * (x : Int)) = ((36 * x : Nat) : Int) := by rw [wrap_i64 _ (by omega) (by omega)]; omega
        have w2 : IntKind.i64.wrap ((x : Int) + 38) = ((x + 38 : Nat) : Int) := by rw [wrap_i64 _ (by omega) (by omega)]; omega
        have w3 : IntKind.i64.wrap (((36 * x : Nat) : Int).tdiv ((x + 38 : Nat) : Int)) = ((36 * x / (x + 38) : Nat) : Int) := by rw [tdivN]; exact wrapN _ (by omega)
        have w4 : IntKind.i64.wrap ((k : Int) + ((36 * x / (x + 38) : Nat) : Int)) = ((adl m : Nat) : Int) := by rw [← h1, ha, ← Int.natCast_add]; exact wrapN _ (by omega)
        have nx : (((x + 38 : Nat) : Int) = 0) = False := neI (by omega)
        simp only [hgt, w1, w2, w3, w4, nx, if_false, go_sem, Nat.reduceAdd, Nat.reduceEqDiff, Nat.reduceLT, reduceIte, reduceCtorEq, Nat.reduceBEq, Int.reduceLT, Int.reduceToNat, Int.reducePow, Nat.reduceLeDiff, Int.reduceLE, Nat.reduceMul, Nat.reduceSub]
        rw [← hm]
        simp only [Done, resAV, resL, resOne, look_nil, look_cons, Nat.reduceEqDiff, if_true, if_false, reduceIte, ite_true, ite_false, Nat.zero_ne_one, Nat.one_ne_zero, reduceCtorEq, true_or, or_true, true_and, Option.some.injEq, AV.lit.injEq, Value.int.injEq, Value.bool.injEq]
      · have hgt : decide ((x : Int) > 455) = true := by simp; omega
        have ha : adl x = 36 + adl (x / 35) := by rw [adl, if_neg hx]
        have w1 : IntKind.i64.wrap ((x : Int).tdiv 35) = ((x / 35 : Nat) : Int) := by
          have := tdivN x 35
          rw [show ((35 : Nat) : Int) = 35 from rfl] at this
          rw [this]; exact wrapN _ (by omega)
        have w2 : IntKind.i64.wrap ((k : Int) + 36) = ((k + 36 : Nat) : Int) := by rw [wrap_i64 _ (by omega) (by omega)]; omega
        simp only [hgt, w1, w2, n35, if_false, Bool.not_true, go_sem, Nat.reduceAdd, Nat.reduceEqDiff, Nat.reduceLT, reduceIte, reduceCtorEq, Nat.reduceBEq, Int.reduceLT, Int.reduceToNat, Int.reducePow, Nat.reduceLeDiff, Int.reduceLE, Nat.reduceMul, Nat.reduceSub]
        refine ⟨(x / 35, k + 36), weak_forget ?_ (List.Sublist.refl _) (List.Sublist.refl _), ⟨by simp only; omega, by simp only; omega⟩, by simp only; omega⟩
        simp only [go_sem, Nat.reduceAdd, Nat.reduceEqDiff, Nat.reduceLT, reduceIte, reduceCtorEq, Nat.reduceBEq, Int.reduceLT, Int.reduceToNat, Int.reducePow, Nat.reduceLeDiff, Int.reduceLE, Nat.reduceMul, Nat.reduceSub, slotsBy, boxesBy, tipsBy, rawAt, nm, AV.ren, AV.renL, AV.under, AV.underL, List.all_nil, List.all_cons, bne_self_eq_false, List.getD_cons_zero, List.getD_cons_succ, List.length_nil, List.length_cons, and_true, true_and, slotsSub]

/-- A digit's sign. -/
def sgn (n : Nat) : Nat := if n < 26 then 97 + n else 22 + n
/-- What a sign is worth. -/
def wth (c : Nat) : Option Nat := if 97 ≤ c ∧ c ≤ 122 then some (c - 97) else if 48 ≤ c ∧ c ≤ 57 then some (c - 22) else none
theorem sgn_le {n : Nat} (h : n < 36) : sgn n ≤ 255 := by unfold sgn; split <;> omega
theorem wth_sgn {n : Nat} (h : n < 36) : wth (sgn n) = some n := by
  unfold wth sgn
  split
  · rw [if_pos (by omega)]; congr 1; omega
  · rw [if_neg (by omega), if_pos (by omega)]; congr 1; omega
theorem wth_some {c n : Nat} (h : wth c = some n) : n < 36 ∧ sgn n = c := by
  unfold wth at h
  unfold sgn
  (repeat' split at h) <;> simp at h <;> subst h
  · exact ⟨by omega, by rw [if_pos (by omega)]; omega⟩
  · exact ⟨by omega, by rw [if_neg (by omega)]; omega⟩

set_option maxRecDepth 10000 in
theorem digit_pure (n : Nat) (h : n < 36) : Pure Try.prog 76 [.lit (.int .i64 (n : Int))] [] (.lit (.int .u8 (sgn n : Int))) := by
  refine pure0 Try.func76 c76 n76 e76 r76 (by simp) (by rfl) ?_
  by_cases hn : n < 26
  · have e0 : decide ((n : Int) < 26) = true := by simp; omega
    have w1 : IntKind.i64.wrap (97 + (n : Int)) = 97 + (n : Int) := wrap_i64 _ (by omega) (by omega)
    have w2 : IntKind.u8.wrap (97 + (n : Int)) = (sgn n : Int) := by rw [wrap_u8 _ (by omega) (by omega), sgn, if_pos hn]; omega
    simp only [a76, astart, argSlots, e0, w1, w2, go_sem, Nat.reduceAdd, Nat.reduceEqDiff, Nat.reduceLT, reduceIte, reduceCtorEq, Nat.reduceBEq, Int.reduceLT, Int.reduceToNat, Int.reducePow, Nat.reduceLeDiff, Int.reduceLE, Nat.reduceMul, Nat.reduceSub]
    simp only [Done, resAV, resL, resOne, look_nil, look_cons, Nat.reduceEqDiff, if_true, if_false, reduceIte, ite_true, ite_false, Nat.zero_ne_one, Nat.one_ne_zero, reduceCtorEq, true_or, or_true, true_and, Option.some.injEq, AV.lit.injEq, Value.int.injEq, Value.bool.injEq]
  · have e0 : decide ((n : Int) < 26) = false := by simp; omega
    have w1 : IntKind.i64.wrap (48 + (n : Int)) = 48 + (n : Int) := wrap_i64 _ (by omega) (by omega)
    have w3 : IntKind.i64.wrap (48 + (n : Int) - 26) = 48 + (n : Int) - 26 := wrap_i64 _ (by omega) (by omega)
    have w2 : IntKind.u8.wrap (48 + (n : Int) - 26) = (sgn n : Int) := by rw [wrap_u8 _ (by omega) (by omega), sgn, if_neg hn]; omega
    simp only [a76, astart, argSlots, e0, w1, w2, w3, go_sem, Nat.reduceAdd, Nat.reduceEqDiff, Nat.reduceLT, reduceIte, reduceCtorEq, Nat.reduceBEq, Int.reduceLT, Int.reduceToNat, Int.reducePow, Nat.reduceLeDiff, Int.reduceLE, Nat.reduceMul, Nat.reduceSub]
    simp only [Done, resAV, resL, resOne, look_nil, look_cons, Nat.reduceEqDiff, if_true, if_false, reduceIte, ite_true, ite_false, Nat.zero_ne_one, Nat.one_ne_zero, reduceCtorEq, true_or, or_true, true_and, Option.some.injEq, AV.lit.injEq, Value.int.injEq, Value.bool.injEq]

set_option maxRecDepth 10000 in
theorem worth_pure (c : Nat) (h : c ≤ 255) : Pure Try.prog 80 [.lit (.int .u8 (c : Int))] [] (.lit (.int .i64 (match wth c with | some n => (n : Int) | none => -1))) := by
  refine pure0 Try.func80 c80 n80 e80 r80 (by simp) (by rfl) ?_
  by_cases h1 : 97 ≤ c ∧ c ≤ 122
  · have e1 : decide ((c : Int) ≥ 97) = true := by simp; omega
    have e2 : decide ((c : Int) ≤ 122) = true := by simp; omega
    have w1 : IntKind.u8.wrap ((c : Int) - 97) = ((c - 97 : Nat) : Int) := by rw [wrap_u8 _ (by omega) (by omega)]; omega
    have w2 : IntKind.i64.wrap ((c - 97 : Nat) : Int) = ((c - 97 : Nat) : Int) := wrapN _ (by omega)
    have hw : wth c = some (c - 97) := by rw [wth, if_pos h1]
    rw [hw]
    simp only [a80, astart, argSlots, e1, e2, w1, w2, go_sem, Nat.reduceAdd, Nat.reduceEqDiff, Nat.reduceLT, reduceIte, reduceCtorEq, Nat.reduceBEq, Int.reduceLT, Int.reduceToNat, Int.reducePow, Nat.reduceLeDiff, Int.reduceLE, Nat.reduceMul, Nat.reduceSub]
    simp only [Done, resAV, resL, resOne, look_nil, look_cons, Nat.reduceEqDiff, if_true, if_false, reduceIte, ite_true, ite_false, Nat.zero_ne_one, Nat.one_ne_zero, reduceCtorEq, true_or, or_true, true_and, Option.some.injEq, AV.lit.injEq, Value.int.injEq, Value.bool.injEq]
  · have hor : decide ((c : Int) ≥ 97) = false ∨ (decide ((c : Int) ≥ 97) = true ∧ decide ((c : Int) ≤ 122) = false) := by
      simp only [decide_eq_true_eq, decide_eq_false_iff_not]; omega
    by_cases h2 : 48 ≤ c ∧ c ≤ 57
    · have e3 : decide ((c : Int) ≥ 48) = true := by simp; omega
      have e4 : decide ((c : Int) ≤ 57) = true := by simp; omega
      have w1 : IntKind.u8.wrap ((c : Int) - 48) = ((c - 48 : Nat) : Int) := by rw [wrap_u8 _ (by omega) (by omega)]; omega
      have w2 : IntKind.i64.wrap ((c - 48 : Nat) : Int) = ((c - 48 : Nat) : Int) := wrapN _ (by omega)
      have w3 : IntKind.i64.wrap (((c - 48 : Nat) : Int) + 26) = ((c - 22 : Nat) : Int) := by rw [wrap_i64 _ (by omega) (by omega)]; omega
      have hw : wth c = some (c - 22) := by rw [wth, if_neg h1, if_pos h2]
      rw [hw]
      rcases hor with e1 | ⟨e1, e2⟩
      all_goals
        simp only [a80, astart, argSlots, e1, e3, e4, w1, w2, w3, go_sem, Nat.reduceAdd, Nat.reduceEqDiff, Nat.reduceLT, reduceIte, reduceCtorEq, Nat.reduceBEq, Int.reduceLT, Int.reduceToNat, Int.reducePow, Nat.reduceLeDiff, Int.reduceLE, Nat.reduceMul, Nat.reduceSub]
        try simp only [e2, e3, e4, w1, w2, w3, go_sem, Nat.reduceAdd, Nat.reduceEqDiff, Nat.reduceLT, reduceIte, reduceCtorEq, Nat.reduceBEq, Int.reduceLT, Int.reduceToNat, Int.reducePow, Nat.reduceLeDiff, Int.reduceLE, Nat.reduceMul, Nat.reduceSub]
        simp only [Done, resAV, resL, resOne, look_nil, look_cons, Nat.reduceEqDiff, if_true, if_false, reduceIte, ite_true, ite_false, Nat.zero_ne_one, Nat.one_ne_zero, reduceCtorEq, true_or, or_true, true_and, Option.some.injEq, AV.lit.injEq, Value.int.injEq, Value.bool.injEq]
    · have hw : wth c = none := by rw [wth, if_neg h1, if_neg h2]
      rw [hw]
      have hor2 : decide ((c : Int) ≥ 48) = false ∨ (decide ((c : Int) ≥ 48) = true ∧ decide ((c : Int) ≤ 57) = false) := by
        simp only [decide_eq_true_eq, decide_eq_false_iff_not]; omega
      rcases hor with e1 | ⟨e1, e2⟩ <;> rcases hor2 with e3 | ⟨e3, e4⟩
      all_goals
        simp only [a80, astart, argSlots, e1, e3, go_sem, Nat.reduceAdd, Nat.reduceEqDiff, Nat.reduceLT, reduceIte, reduceCtorEq, Nat.reduceBEq, Int.reduceLT, Int.reduceToNat, Int.reducePow, Nat.reduceLeDiff, Int.reduceLE, Nat.reduceMul, Nat.reduceSub]
        try simp only [e2, e3, go_sem, Nat.reduceAdd, Nat.reduceEqDiff, Nat.reduceLT, reduceIte, reduceCtorEq, Nat.reduceBEq, Int.reduceLT, Int.reduceToNat, Int.reducePow, Nat.reduceLeDiff, Int.reduceLE, Nat.reduceMul, Nat.reduceSub]
        try simp only [e4, go_sem, Nat.reduceAdd, Nat.reduceEqDiff, Nat.reduceLT, reduceIte, reduceCtorEq, Nat.reduceBEq, Int.reduceLT, Int.reduceToNat, Int.reducePow, Nat.reduceLeDiff, Int.reduceLE, Nat.reduceMul, Nat.reduceSub]
        simp only [Done, resAV, resL, resOne, look_nil, look_cons, Nat.reduceEqDiff, if_true, if_false, reduceIte, ite_true, ite_false, Nat.zero_ne_one, Nat.one_ne_zero, reduceCtorEq, true_or, or_true, true_and, Option.some.injEq, AV.lit.injEq, Value.int.injEq, Value.bool.injEq]
end Go.Proofs.Ytmhpjoadfgplgaa
