/-
Binary search, and what is known of a code point. Conditions: none.
-/
import Derived.Test.YtmhpjoadfgplgaaUcd1
set_option linter.unusedSimpArgs false
set_option linter.unusedVariables false
set_option linter.unusedSectionVars false
namespace Go.Proofs.Ytmhpjoadfgplgaa
open Go Go.Ab
def a64 : ACode :=
  (.seq (.reg [⟨(.some 4), (.mv (.k (.int .i64 0))), .none⟩]) (.seq (.reg [⟨(.some 8), (.mv (.t 0)), .none⟩, ⟨(.some 5), (.mv (.k (.int .i64 0))), .none⟩, ⟨(.some 6), (.mv (.t 8)), .none⟩]) (.seq
  (.block 0 (.loop (.seq (.seq (.reg [⟨(.some 9), (.mv (.t 5)), .none⟩, ⟨(.some 10), (.mv (.t 6)), .none⟩, ⟨(.some 11), (.bin .lss (.t 9) (.t 10)), .none⟩]) (.cond (.t 11) .skip (.exit 0))) (.block 1
  (.seq (.reg [⟨(.some 12), (.mv (.t 5)), .none⟩, ⟨(.some 13), (.mv (.t 6)), .none⟩, ⟨(.some 14), (.bin .add (.t 12) (.t 13)), .none⟩, ⟨(.some 15), (.cvI .u64 (.t 14)), .none⟩, ⟨(.some 16), (.bin .shr
  (.t 15) (.k (.int .u64 1))), .none⟩, ⟨(.some 17), (.cvI .i64 (.t 16)), .none⟩, ⟨(.some 7), (.mv (.t 17)), .none⟩]) (.seq (.reg [⟨(.some 18), (.mv (.t 1)), .none⟩, ⟨(.some 19), (.mv (.t 7)), .none⟩,
  ⟨(.some 20), (.call (.t 18) [(.t 19)]), .none⟩, ⟨(.some 21), (.not (.t 20)), .none⟩]) (.cond (.t 21) (.reg [⟨(.some 22), (.mv (.t 7)), .none⟩, ⟨(.some 23), (.bin .add (.t 22) (.k (.int .i64 1))),
  .none⟩, ⟨(.some 5), (.mv (.t 23)), .none⟩]) (.reg [⟨(.some 24), (.mv (.t 7)), .none⟩, ⟨(.some 6), (.mv (.t 24)), .none⟩])))))))) (.seq (.reg [⟨(.some 25), (.mv (.t 5)), .none⟩, ⟨(.some 4), (.mv (.t
  25)), .none⟩]) .ret))))
theorem c64 : Try.f64.body.bind (cCode Try.prog 26) = some a64 := by kernel_rfl
theorem r64 : Try.f64.results.toList = [(.tmp 4)] := by kernel_rfl
theorem n64 : Try.f64.ntmps = 26 := by kernel_rfl
theorem e64 : Enters Try.prog 64 := enters_of Try.func64 (by kernel_rfl) (by kernel_rfl)
def a65 : ACode :=
  (.seq (.reg [⟨(.some 4), (.mv (.k (.bool false))), .none⟩]) (.seq (.dreg [⟨(.some 5), (.ld .none (.t 1)), .none⟩, ⟨(.some 6), (.mv (.t 0)), .none⟩, ⟨(.some 7), (.ia 99 (.t 5) (.t 6)), .none⟩, ⟨(.some
  8), (.fa 1 (.t 7)), .none⟩, ⟨(.some 9), (.ld .none (.t 8)), .none⟩, ⟨(.some 10), (.ld .none (.t 2)), .none⟩, ⟨(.some 11), (.bin .geq (.t 9) (.t 10)), .none⟩, ⟨(.some 4), (.mv (.t 11)), .none⟩]) .ret))
theorem c65 : Try.f65.body.bind (cCode Try.prog 12) = some a65 := by kernel_rfl
theorem r65 : Try.f65.results.toList = [(.tmp 4)] := by kernel_rfl
theorem n65 : Try.f65.ntmps = 12 := by kernel_rfl
theorem e65 : Enters Try.prog 65 := enters_of Try.func65 (by kernel_rfl) (by kernel_rfl)
def a63 : ACode :=
  (.seq (.reg [⟨(.some 2), (.mv (.k (.slice .none 0 0))), .none⟩]) (.seq (.block 0 (.seq (.reg [⟨(.some 4), (.mv (.t 0)), .none⟩, ⟨(.some 5), (.bin .lss (.t 4) (.k (.int .i32 127))), .none⟩, ⟨(.some 3),
  (.mv (.t 5)), .none⟩]) (.cond (.t 3) (.seq (.reg [⟨(.some 6), (.call (.f 88) []), .none⟩, ⟨(.some 2), (.mv (.t 6)), .none⟩]) .ret) (.seq (.reg [⟨(.some 8), (.mv (.t 0)), .none⟩, ⟨(.some 9), (.bin .lss
  (.t 8) (.k (.int .i32 1030))), .none⟩, ⟨(.some 7), (.mv (.t 9)), .none⟩]) (.cond (.t 7) (.seq (.reg [⟨(.some 10), (.call (.f 89) []), .none⟩, ⟨(.some 2), (.mv (.t 10)), .none⟩]) .ret) (.seq (.reg
  [⟨(.some 12), (.mv (.t 0)), .none⟩, ⟨(.some 13), (.bin .lss (.t 12) (.k (.int .i32 1617))), .none⟩, ⟨(.some 11), (.mv (.t 13)), .none⟩]) (.cond (.t 11) (.seq (.reg [⟨(.some 14), (.call (.f 90) []),
  .none⟩, ⟨(.some 2), (.mv (.t 14)), .none⟩]) .ret) (.seq (.reg [⟨(.some 16), (.mv (.t 0)), .none⟩, ⟨(.some 17), (.bin .lss (.t 16) (.k (.int .i32 8238))), .none⟩, ⟨(.some 15), (.mv (.t 17)), .none⟩])
  (.cond (.t 15) (.seq (.reg [⟨(.some 18), (.call (.f 91) []), .none⟩, ⟨(.some 2), (.mv (.t 18)), .none⟩]) .ret) .skip))))))))) (.seq (.reg [⟨(.some 19), (.call (.f 92) []), .none⟩, ⟨(.some 2), (.mv (.t
  19)), .none⟩]) .ret)))
theorem c63 : Try.f63.body.bind (cCode Try.prog 20) = some a63 := by kernel_rfl
theorem r63 : Try.f63.results.toList = [(.tmp 2)] := by kernel_rfl
theorem n63 : Try.f63.ntmps = 20 := by kernel_rfl
theorem e63 : Enters Try.prog 63 := enters_of Try.func63 (by kernel_rfl) (by kernel_rfl)
def a27 : ACode :=
  (.seq (.reg [⟨(.some 1), (.box 21 (.t 0)), .none⟩, ⟨(.some 2), (.alc 43 [(.int .u8 0), (.int .u8 0), (.int .u8 0), (.int .u8 0), (.int .u8 0), (.int .u8 0), (.int .u8 0)]), .none⟩]) (.seq (.reg
  [⟨(.some 5), (.ld .none (.t 1)), .none⟩, ⟨(.some 6), (.call (.f 63) [(.t 5)]), .none⟩, ⟨(.some 3), (.alc 95 [(.slice .none 0 0)]), .none⟩, ⟨.none, (.st 1 (.t 3) (.t 6)), .none⟩]) (.seq (.reg [⟨(.some
  7), (.ld .none (.t 3)), .none⟩, ⟨(.some 8), (.len (.t 7)), .none⟩, ⟨(.some 9), (.mkf (.func 65) [] [(.t 3), (.t 1)]), .none⟩, ⟨(.some 10), (.call (.f 64) [(.t 8), (.t 9)]), .none⟩, ⟨(.some 4), (.mv
  (.t 10)), .none⟩]) (.seq (.seq (.dreg [⟨(.some 11), (.mv (.t 4)), .none⟩, ⟨(.some 12), (.ld .none (.t 3)), .none⟩, ⟨(.some 13), (.len (.t 12)), .none⟩, ⟨(.some 14), (.bin .eql (.t 11) (.t 13)),
  .none⟩, ⟨(.some 15), (.mv (.t 14)), .none⟩, ⟨(.some 16), (.ld .none (.t 1)), (.some (15, false))⟩, ⟨(.some 17), (.ld .none (.t 3)), (.some (15, false))⟩, ⟨(.some 18), (.mv (.t 4)), (.some (15,
  false))⟩, ⟨(.some 19), (.ia 99 (.t 17) (.t 18)), (.some (15, false))⟩, ⟨(.some 20), (.fa 0 (.t 19)), (.some (15, false))⟩, ⟨(.some 21), (.ld .none (.t 20)), (.some (15, false))⟩, ⟨(.some 22), (.bin
  .lss (.t 16) (.t 21)), (.some (15, false))⟩, ⟨(.some 23), (.pick (.t 15) (.k (.bool true)) (.t 22)), .none⟩]) (.cond (.t 23) (.seq (.reg [⟨(.some 24), (.bd [(.int .u8 0), (.int .u8 0), (.int .u8 0),
  (.int .u8 0), (.int .u8 0), (.int .u8 0), (.int .u8 0)] [(6, (1, (.k (.int .u8 1))))]), .none⟩, ⟨.none, (.st 7 (.t 2) (.t 24)), .none⟩]) .ret) .skip)) (.seq (.reg [⟨(.some 25), (.ld .none (.t 3)),
  .none⟩, ⟨(.some 26), (.mv (.t 4)), .none⟩, ⟨(.some 27), (.ia 99 (.t 25) (.t 26)), .none⟩, ⟨(.some 28), (.fa 2 (.t 27)), .none⟩, ⟨(.some 29), (.ld (.some 7) (.t 28)), .none⟩, ⟨.none, (.st 7 (.t 2) (.t
  29)), .none⟩]) .ret)))))
theorem c27 : Try.f27.body.bind (cCode Try.prog 30) = some a27 := by kernel_rfl
theorem r27 : Try.f27.results.toList = [(.cell 2 43)] := by kernel_rfl
theorem n27 : Try.f27.ntmps = 30 := by kernel_rfl
theorem e27 : Enters Try.prog 27 := enters_of Try.func27 (by kernel_rfl) (by kernel_rfl)

theorem half (i j : Nat) (h : i + j ≤ 9223372036854775807) : IntKind.i64.wrap (Int.fdiv (IntKind.u64.wrap (IntKind.i64.wrap ((i : Int) + j))) 2) = (((i + j) / 2 : Nat) : Int) := by
  rw [wrap_i64 ((i : Int) + j) (by omega) (by omega), IntWalk.u64_in _ (by omega), Int.fdiv_eq_ediv_of_nonneg _ (by omega), wrap_i64] <;> omega

set_option maxRecDepth 10000 in
theorem search_pure {g : FuncId} {first cap : List AV} {n k : Nat} {p : Nat → Bool} (hn : n ≤ 4611686018427387903) (hk : k ≤ n) (h1 : ∀ i, i < k → p i = false) (h2 : ∀ i, k ≤ i → i < n → p i = true)
    (hu : (AV.fn (.func g) first cap).under 0 = true) (hf : ∀ i : Nat, i < n → ∃ args', AV.eraseL (first ++ [.lit (.int .i64 i)] ++ cap) = some args' ∧ Pure Try.prog g args' [] (.lit (.bool (p i)))) :
    Pure Try.prog 64 [.lit (.int .i64 n), .fn (.func g) first cap] [] (.lit (.int .i64 k)) := by
  refine pure0 Try.func64 c64 n64 e64 r64 (by simp) rfl ?_
  simp only [a64, astart, argSlots, go_sem, Nat.reduceAdd, Nat.reduceEqDiff, Nat.reduceLT, reduceIte, reduceCtorEq, Nat.reduceBEq, Int.reduceLT, Int.reduceToNat, Int.reducePow, Nat.reduceLeDiff, Int.reduceLE, Nat.reduceMul, Nat.reduceSub]
  refine ⟨fun s => ∃ i j : Nat, i ≤ k ∧ k ≤ j ∧ j ≤ n ∧ s = ⟨[(1, some (.fn (.func g) first cap)), (5, some (.lit (.int .i64 i))), (6, some (.lit (.int .i64 j)))], [], [], 0⟩, fun s => cnt 6 s - cnt 5 s,
    ⟨_, weak_by [] List.nodup_nil rfl ?_ ?_ ?_ ?_, 0, n, by omega, hk, Nat.le_refl _, rfl⟩, ?_⟩
  · simp only [go_sem, Nat.reduceAdd, Nat.reduceEqDiff, Nat.reduceLT, reduceIte, reduceCtorEq, Nat.reduceBEq, Int.reduceLT, Int.reduceToNat, Int.reducePow, Nat.reduceLeDiff, Int.reduceLE, Nat.reduceMul, Nat.reduceSub, slotsBy, AV.ren_under0 _ _ hu, hu]
    simp only [slotsBy, boxesBy, tipsBy, rawAt, nm, AV.ren, AV.renL, AV.under, AV.underL, List.all_nil, List.all_cons, bne_self_eq_false, List.getD_cons_zero, List.getD_cons_succ, List.length_nil, List.length_cons, and_true, true_and, Int.natCast_zero]
    all_goals simpa [AV.under] using hu
  · trivial
  · trivial
  · simp
  · rintro _ ⟨i, j, hi, hj, hjn, rfl⟩
    simp only [go_sem, Nat.reduceAdd, Nat.reduceEqDiff, Nat.reduceLT, reduceIte, reduceCtorEq, Nat.reduceBEq, Int.reduceLT, Int.reduceToNat, Int.reducePow, Nat.reduceLeDiff, Int.reduceLE, Nat.reduceMul, Nat.reduceSub]
    refine cGo_split (fun h => ?_) (fun h => ?_)
    · simp only [decide_eq_true_eq] at h
      simp only [go_sem, Nat.reduceAdd, Nat.reduceEqDiff, Nat.reduceLT, reduceIte, reduceCtorEq, Nat.reduceBEq, Int.reduceLT, Int.reduceToNat, Int.reducePow, Nat.reduceLeDiff, Int.reduceLE, Nat.reduceMul, Nat.reduceSub, half i j (by omega)]
      obtain ⟨args', ha, hp⟩ := hf ((i + j) / 2) (by omega)
      refine callGo_pure hp ha ?_
      simp only [go_sem, Nat.reduceAdd, Nat.reduceEqDiff, Nat.reduceLT, reduceIte, reduceCtorEq, Nat.reduceBEq, Int.reduceLT, Int.reduceToNat, Int.reducePow, Nat.reduceLeDiff, Int.reduceLE, Nat.reduceMul, Nat.reduceSub, idx, List.nil_append, List.length_nil, Nat.add_zero, AV.shift]
      refine cGo_split (fun h3 => ?_) (fun h3 => ?_)
      · simp only [go_sem, Nat.reduceAdd, Nat.reduceEqDiff, Nat.reduceLT, reduceIte, reduceCtorEq, Nat.reduceBEq, Int.reduceLT, Int.reduceToNat, Int.reducePow, Nat.reduceLeDiff, Int.reduceLE, Nat.reduceMul, Nat.reduceSub]
        simp (disch := omega) only [wrap_i64]
        simp only [Bool.not_eq_true'] at h3
        refine ⟨_, weak_by [] List.nodup_nil rfl ?_ ?_ ?_ ?_, ⟨(i + j) / 2 + 1, j, ?_, hj, hjn, rfl⟩, ?_⟩
        · simp only [go_sem, Nat.reduceAdd, Nat.reduceEqDiff, Nat.reduceLT, reduceIte, reduceCtorEq, Nat.reduceBEq, Int.reduceLT, Int.reduceToNat, Int.reducePow, Nat.reduceLeDiff, Int.reduceLE, Nat.reduceMul, Nat.reduceSub, slotsBy, AV.ren_under0 _ _ hu, hu]
          simp only [slotsBy, boxesBy, tipsBy, rawAt, nm, AV.ren, AV.renL, AV.under, AV.underL, List.all_nil, List.all_cons, bne_self_eq_false, List.getD_cons_zero, List.getD_cons_succ, List.length_nil, List.length_cons, and_true, true_and, Int.natCast_add, Int.natCast_one]
          all_goals simpa [AV.under] using hu
        · trivial
        · trivial
        · simp
        · refine Nat.lt_of_not_le fun hle => ?_
          rw [h2 _ hle (by omega)] at h3; cases h3
        · simp only [cnt, go_sem, Nat.reduceAdd, Nat.reduceEqDiff, Nat.reduceLT, reduceIte, reduceCtorEq, Nat.reduceBEq, Int.reduceLT, Int.reduceToNat, Int.reducePow, Nat.reduceLeDiff, Int.reduceLE, Nat.reduceMul, Nat.reduceSub, Int.toNat_natCast]; omega
      · simp only [go_sem, Nat.reduceAdd, Nat.reduceEqDiff, Nat.reduceLT, reduceIte, reduceCtorEq, Nat.reduceBEq, Int.reduceLT, Int.reduceToNat, Int.reducePow, Nat.reduceLeDiff, Int.reduceLE, Nat.reduceMul, Nat.reduceSub]
        simp only [Bool.not_eq_false'] at h3
        refine ⟨_, weak_by [] List.nodup_nil rfl ?_ ?_ ?_ ?_, ⟨i, (i + j) / 2, hi, ?_, by omega, rfl⟩, ?_⟩
        · simp only [go_sem, Nat.reduceAdd, Nat.reduceEqDiff, Nat.reduceLT, reduceIte, reduceCtorEq, Nat.reduceBEq, Int.reduceLT, Int.reduceToNat, Int.reducePow, Nat.reduceLeDiff, Int.reduceLE, Nat.reduceMul, Nat.reduceSub, slotsBy, AV.ren_under0 _ _ hu, hu]
          simp only [slotsBy, boxesBy, tipsBy, rawAt, nm, AV.ren, AV.renL, AV.under, AV.underL, List.all_nil, List.all_cons, bne_self_eq_false, List.getD_cons_zero, List.getD_cons_succ, List.length_nil, List.length_cons, and_true, true_and]
          all_goals simpa [AV.under] using hu
        · trivial
        · trivial
        · simp
        · refine Nat.le_of_not_lt fun hlt => ?_
          rw [h1 _ hlt] at h3; cases h3
        · simp only [cnt, go_sem, Nat.reduceAdd, Nat.reduceEqDiff, Nat.reduceLT, reduceIte, reduceCtorEq, Nat.reduceBEq, Int.reduceLT, Int.reduceToNat, Int.reducePow, Nat.reduceLeDiff, Int.reduceLE, Nat.reduceMul, Nat.reduceSub, Int.toNat_natCast]; omega
    · simp only [go_sem, Nat.reduceAdd, Nat.reduceEqDiff, Nat.reduceLT, reduceIte, reduceCtorEq, Nat.reduceBEq, Int.reduceLT, Int.reduceToNat, Int.reducePow, Nat.reduceLeDiff, Int.reduceLE, Nat.reduceMul, Nat.reduceSub]
      simp only [Done, resAV, resL, resOne, look_nil, look_cons, Nat.reduceEqDiff, if_true, if_false, reduceIte, ite_true, ite_false, Nat.zero_ne_one, Nat.one_ne_zero, reduceCtorEq, true_or, or_true, true_and, Option.some.injEq, AV.lit.injEq, Value.int.injEq, Value.bool.injEq]
      simp only [decide_eq_false_iff_not] at h
      congr 1; omega
end Go.Proofs.Ytmhpjoadfgplgaa
