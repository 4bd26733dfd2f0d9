/-
The code that bytes begin with: what the program's function hands back. Conditions: none.
-/
import Derived.Test.YtbnaepdeakcljaaUtf1
set_option linter.unusedSimpArgs false
set_option linter.unusedVariables false
set_option linter.unusedSectionVars false
namespace Go.Proofs.Ytbnaepdeakcljaa
open Go Go.Ab
def a59 : ACode :=
  (.seq (.reg [⟨(.some 2), (.mv (.k (.int .i32 0))), .none⟩, ⟨(.some 3), (.mv (.k (.int .i64 0))), .none⟩]) (.seq (.reg [⟨(.some 7), (.mv (.t 0)), .none⟩, ⟨(.some 8), (.ia 5 (.t 7) (.k (.int .i64 0))),
  .none⟩, ⟨(.some 9), (.ld .none (.t 8)), .none⟩, ⟨(.some 10), (.call (.f 63) [(.t 9)]), .none⟩, ⟨(.some 4), (.alc 85 [(.int .i64 0), (.int .u8 0), (.int .u8 0), (.int .u8 0)]), .none⟩, ⟨.none, (.st 4
  (.t 4) (.t 10)), .none⟩]) (.seq (.seq (.reg [⟨(.some 11), (.ld (.some 4) (.t 4)), .none⟩, ⟨(.some 12), (.bd [(.int .i64 0), (.int .u8 0), (.int .u8 0), (.int .u8 0)] []), .none⟩, ⟨(.some 13), (.eqg
  false [.int, .int, .int, .int] (.t 11) (.t 12)), .none⟩]) (.cond (.t 13) (.seq (.reg [⟨(.some 2), (.mv (.k (.int .i32 65533))), .none⟩, ⟨(.some 3), (.mv (.k (.int .i64 1))), .none⟩]) .ret) .skip))
  (.seq (.reg [⟨(.some 14), (.fa 1 (.t 4)), .none⟩, ⟨(.some 15), (.ld .none (.t 14)), .none⟩, ⟨(.some 16), (.cvI .i32 (.t 15)), .none⟩, ⟨(.some 5), (.mv (.t 16)), .none⟩]) (.seq (.seq (.reg [⟨(.some
  17), (.fa 0 (.t 4)), .none⟩, ⟨(.some 18), (.ld .none (.t 17)), .none⟩, ⟨(.some 19), (.mv (.k (.int .i64 0))), .none⟩]) (.block 0 (.loop (.seq (.reg [⟨(.some 20), (.bin .lss (.t 19) (.t 18)), .none⟩])
  (.seq (.cond (.t 20) .skip (.exit 0)) (.seq (.block 1 (.seq (.reg [⟨(.some 21), (.mv (.t 19)), .none⟩, ⟨(.some 6), (.mv (.t 21)), .none⟩]) (.seq (.seq (.dreg [⟨(.some 22), (.mv (.t 6)), .none⟩,
  ⟨(.some 23), (.bin .add (.t 22) (.k (.int .i64 1))), .none⟩, ⟨(.some 24), (.mv (.t 0)), .none⟩, ⟨(.some 25), (.len (.t 24)), .none⟩, ⟨(.some 26), (.bin .geq (.t 23) (.t 25)), .none⟩, ⟨(.some 27), (.mv
  (.t 26)), .none⟩, ⟨(.some 28), (.mv (.t 0)), (.some (27, false))⟩, ⟨(.some 29), (.mv (.t 6)), (.some (27, false))⟩, ⟨(.some 30), (.bin .add (.t 29) (.k (.int .i64 1))), (.some (27, false))⟩, ⟨(.some
  31), (.ia 5 (.t 28) (.t 30)), (.some (27, false))⟩, ⟨(.some 32), (.ld .none (.t 31)), (.some (27, false))⟩, ⟨(.some 33), (.fa 2 (.t 4)), (.some (27, false))⟩, ⟨(.some 34), (.ld .none (.t 33)), (.some
  (27, false))⟩, ⟨(.some 35), (.bin .lss (.t 32) (.t 34)), (.some (27, false))⟩, ⟨(.some 36), (.pick (.t 27) (.k (.bool true)) (.t 35)), .none⟩, ⟨(.some 37), (.mv (.t 36)), .none⟩, ⟨(.some 38), (.mv (.t
  0)), (.some (37, false))⟩, ⟨(.some 39), (.mv (.t 6)), (.some (37, false))⟩, ⟨(.some 40), (.bin .add (.t 39) (.k (.int .i64 1))), (.some (37, false))⟩, ⟨(.some 41), (.ia 5 (.t 38) (.t 40)), (.some (37,
  false))⟩, ⟨(.some 42), (.ld .none (.t 41)), (.some (37, false))⟩, ⟨(.some 43), (.fa 3 (.t 4)), (.some (37, false))⟩, ⟨(.some 44), (.ld .none (.t 43)), (.some (37, false))⟩, ⟨(.some 45), (.bin .gtr (.t
  42) (.t 44)), (.some (37, false))⟩, ⟨(.some 46), (.pick (.t 37) (.k (.bool true)) (.t 45)), .none⟩]) (.cond (.t 46) (.seq (.reg [⟨(.some 47), (.mv (.t 6)), .none⟩, ⟨(.some 48), (.bin .add (.t 47) (.k
  (.int .i64 1))), .none⟩, ⟨(.some 2), (.mv (.k (.int .i32 65533))), .none⟩, ⟨(.some 3), (.mv (.t 48)), .none⟩]) .ret) .skip)) (.seq (.reg [⟨(.some 49), (.mv (.t 5)), .none⟩, ⟨(.some 50), (.bin .shl (.t
  49) (.k (.int .u64 6))), .none⟩, ⟨(.some 51), (.mv (.t 0)), .none⟩, ⟨(.some 52), (.mv (.t 6)), .none⟩, ⟨(.some 53), (.bin .add (.t 52) (.k (.int .i64 1))), .none⟩, ⟨(.some 54), (.ia 5 (.t 51) (.t
  53)), .none⟩, ⟨(.some 55), (.ld .none (.t 54)), .none⟩, ⟨(.some 56), (.bin .and (.t 55) (.k (.int .u8 63))), .none⟩, ⟨(.some 57), (.cvI .i32 (.t 56)), .none⟩, ⟨(.some 58), (.bin .or (.t 50) (.t 57)),
  .none⟩, ⟨(.some 5), (.mv (.t 58)), .none⟩]) (.reg [⟨(.some 59), (.fa 2 (.t 4)), .none⟩, ⟨.none, (.st 1 (.t 59) (.k (.int .u8 128))), .none⟩, ⟨(.some 60), (.fa 3 (.t 4)), .none⟩, ⟨.none, (.st 1 (.t 60)
  (.k (.int .u8 191))), .none⟩]))))) (.reg [⟨(.some 61), (.bin .add (.t 19) (.k (.int .i64 1))), .none⟩, ⟨(.some 19), (.mv (.t 61)), .none⟩]))))))) (.seq (.dreg [⟨(.some 62), (.mv (.t 5)), .none⟩,
  ⟨(.some 63), (.fa 0 (.t 4)), .none⟩, ⟨(.some 64), (.ld .none (.t 63)), .none⟩, ⟨(.some 65), (.bin .add (.k (.int .i64 1)) (.t 64)), .none⟩, ⟨(.some 2), (.mv (.t 62)), .none⟩, ⟨(.some 3), (.mv (.t
  65)), .none⟩]) .ret))))))
theorem c59 : Try.f59.body.bind (cCode Try.prog 66) = some a59 := by kernel_rfl
theorem r59 : Try.f59.results.toList = [(.tmp 2), (.tmp 3)] := by kernel_rfl
theorem n59 : Try.f59.ntmps = 66 := by kernel_rfl
theorem e59 : Enters Try.prog 59 := enters_of Try.func59 (by kernel_rfl) (by kernel_rfl)
def a20 : ACode :=
  (.seq (.reg [⟨(.some 2), (.mv (.k (.bool false))), .none⟩]) (.seq (.reg [⟨(.some 3), (.mv (.t 0)), .none⟩, ⟨(.some 4), (.bin .geq (.t 3) (.k (.int .i32 0))), .none⟩, ⟨(.some 5), (.mv (.t 4)), .none⟩,
  ⟨(.some 6), (.mv (.t 0)), (.some (5, true))⟩, ⟨(.some 7), (.bin .leq (.t 6) (.k (.int .i32 1114111))), (.some (5, true))⟩, ⟨(.some 8), (.pick (.t 5) (.t 7) (.k (.bool false))), .none⟩, ⟨(.some 9),
  (.mv (.t 8)), .none⟩, ⟨(.some 10), (.mv (.t 0)), (.some (9, true))⟩, ⟨(.some 11), (.bin .lss (.t 10) (.k (.int .i32 55296))), (.some (9, true))⟩, ⟨(.some 12), (.mv (.t 11)), (.some (9, true))⟩,
  ⟨(.some 13), (.mv (.t 0)), (.some (12, false))⟩, ⟨(.some 14), (.bin .gtr (.t 13) (.k (.int .i32 57343))), (.some (12, false))⟩, ⟨(.some 15), (.pick (.t 12) (.k (.bool true)) (.t 14)), (.some (9,
  true))⟩, ⟨(.some 16), (.pick (.t 9) (.t 15) (.k (.bool false))), .none⟩, ⟨(.some 2), (.mv (.t 16)), .none⟩]) .ret))
theorem c20 : Try.f20.body.bind (cCode Try.prog 17) = some a20 := by kernel_rfl
theorem r20 : Try.f20.results.toList = [(.tmp 2)] := by kernel_rfl
theorem n20 : Try.f20.ntmps = 17 := by kernel_rfl
theorem e20 : Enters Try.prog 20 := enters_of Try.func20 (by kernel_rfl) (by kernel_rfl)

theorem nx_cons {c : Nat} {t : List Nat} (h : leadB c = true) : nx (c :: t) = goOn (behindOf c) (lowOf c) (topOf c) (bitsOf c) 1 t := by simp only [nx, h, if_true]

/-- Whether a byte is one of those that may come next. -/
def lo' (c i : Nat) : Nat := if i = 0 then lowOf c else 128
def hi' (c i : Nat) : Nat := if i = 0 then topOf c else 191

theorem shl6 (r : Nat) (h : r < 33554432) : IntKind.i32.wrap ((r : Int) * 64) = ((r * 64 : Nat) : Int) := by
  have e : (r : Int) * 64 = ((r * 64 : Nat) : Int) := by simp
  rw [e]; exact wrap_i32 _ (by omega) (by omega)

theorem cast_u8_i32 (n : Nat) (h : n < 256) : IntKind.i32.wrap (n : Int) = n := wrap_i32 _ (by omega) (by omega)

set_option maxRecDepth 10000 in
theorem next_pure (c : Nat) (t : List Nat) (hb : ∀ n ∈ c :: t, n ≤ 255) (hl : t.length ≤ 4611686018427387904) : Pure Try.prog 59 [.sl 5 (octs (c :: t)) none] [] (.tu [.lit (.int .i32 (nx (c :: t)).1), .lit (.int .i64 (nx (c :: t)).2.1)]) := by
  have hc : c ≤ 255 := hb c (by simp)
  have ht : ∀ n ∈ t, n ≤ 255 := fun n hn => hb n (by simp [hn])
  refine pure0 Try.func59 c59 n59 e59 r59 (by simp) rfl ?_
  simp only [a59, astart, argSlots, go_sem, Nat.reduceAdd, Nat.reduceEqDiff, Nat.reduceLT, reduceIte, reduceCtorEq, Nat.reduceBEq, Int.reduceLT, Int.reduceToNat, Int.reducePow, Nat.reduceLeDiff, Int.reduceLE, Nat.reduceMul, Nat.reduceSub]
  have g0 : (octs (c :: t))[0]? = some [.int .u8 (c : Int)] := rfl
  simp only [g0, go_sem, Nat.reduceAdd, Nat.reduceEqDiff, Nat.reduceLT, reduceIte, reduceCtorEq, Nat.reduceBEq, Int.reduceLT, Int.reduceToNat, Int.reducePow, Nat.reduceLeDiff, Int.reduceLE, Nat.reduceMul, Nat.reduceSub]
  refine callGo_pure (of_pure c hc) (by rfl) ?_
  by_cases hL : leadB c = false
  · simp only [lead_first hL, go_sem, Nat.reduceAdd, Nat.reduceEqDiff, Nat.reduceLT, reduceIte, reduceCtorEq, Nat.reduceBEq, Int.reduceLT, Int.reduceToNat, Int.reducePow, Nat.reduceLeDiff, Int.reduceLE, Nat.reduceMul, Nat.reduceSub, beq_self_eq_true]
    have e : nx (c :: t) = (65533, 1, false) := by simp [nx, hL]
    rw [e]
    simp only [Done, resAV, resL, resOne, look_nil, look_cons, Nat.reduceEqDiff, if_true, if_false, reduceIte, ite_true, ite_false, Nat.zero_ne_one, Nat.one_ne_zero, reduceCtorEq, true_or, or_true, true_and, Option.some.injEq, AV.lit.injEq, Value.int.injEq, Value.bool.injEq]
    rfl
  have hL : leadB c = true := by simpa using hL
  have hne : ((((behindOf c : Nat) : Int) == 0) && ((((bitsOf c : Nat) : Int) == 0) && ((((lowOf c : Nat) : Int) == 0) && (((topOf c : Nat) : Int) == 0)))) = false := by
    have := first_facts hL
    have : (((topOf c : Nat) : Int) == 0) = false := by simp only [beq_eq_false_iff_ne, ne_eq]; omega
    rw [this]; simp
  obtain ⟨k1, k2, k3, k4, k5, k6, k7⟩ := first_facts hL
  have hw : IntKind.i32.wrap ((bitsOf c : Nat) : Int) = (bitsOf c : Nat) := cast_u8_i32 _ (by omega)
  simp only [firstC, go_sem, Nat.reduceAdd, Nat.reduceEqDiff, Nat.reduceLT, reduceIte, reduceCtorEq, Nat.reduceBEq, Int.reduceLT, Int.reduceToNat, Int.reducePow, Nat.reduceLeDiff, Int.reduceLE, Nat.reduceMul, Nat.reduceSub, hne, hw]
  refine ⟨fun s => ∃ i r : Nat, i ≤ behindOf c ∧ i ≤ t.length ∧ nx (c :: t) = goOn (behindOf c - i) (lo' c i) (hi' c i) r (1 + i) (t.drop i) ∧ (behindOf c = 0 ∨ r < 32 * 64 ^ i) ∧ r < 33554432 ∧
      s = ⟨[(0, some (.sl 5 (octs (c :: t)) none)), (4, some (.bp 0 0)), (5, some (.lit (.int .i32 (r : Int)))), (18, some (.lit (.int .i64 ((behindOf c : Nat) : Int)))), (19, some (.lit (.int .i64 (i : Int))))],
        [(0, [.lit (.int .i64 ((behindOf c : Nat) : Int)), .lit (.int .u8 ((bitsOf c : Nat) : Int)), .lit (.int .u8 ((lo' c i : Nat) : Int)), .lit (.int .u8 ((hi' c i : Nat) : Int))])], [], 1⟩,
    fun s => behindOf c - cnt 19 s, ⟨_, weak_by (tp1 := []) [0] (by simp) rfl ?_ ?_ trivial (by simp), 0, bitsOf c, Nat.zero_le _, Nat.zero_le _, ?_, by omega, by omega, rfl⟩, ?_⟩
  · simp only [go_sem, Nat.reduceAdd, Nat.reduceEqDiff, Nat.reduceLT, reduceIte, reduceCtorEq, Nat.reduceBEq, Int.reduceLT, Int.reduceToNat, Int.reducePow, Nat.reduceLeDiff, Int.reduceLE, Nat.reduceMul, Nat.reduceSub, slotsBy, boxesBy, tipsBy, rawAt, nm, AV.ren, AV.renL, AV.under, AV.underL, List.all_nil, List.all_cons, bne_self_eq_false, List.getD_cons_zero, List.getD_cons_succ, List.length_nil, List.length_cons, and_true, true_and, Int.natCast_zero]
  · simp only [go_sem, Nat.reduceAdd, Nat.reduceEqDiff, Nat.reduceLT, reduceIte, reduceCtorEq, Nat.reduceBEq, Int.reduceLT, Int.reduceToNat, Int.reducePow, Nat.reduceLeDiff, Int.reduceLE, Nat.reduceMul, Nat.reduceSub, slotsBy, boxesBy, tipsBy, rawAt, nm, AV.ren, AV.renL, AV.under, AV.underL, List.all_nil, List.all_cons, bne_self_eq_false, List.getD_cons_zero, List.getD_cons_succ, List.length_nil, List.length_cons, and_true, true_and, lo', hi']
  · rw [nx_cons hL]; simp only [lo', hi', if_true, Nat.sub_zero, Nat.add_zero, List.drop_zero]
  · rintro _ ⟨i, r, hi, hit, hnx, hr1, hr2, rfl⟩
    simp only [go_sem, Nat.reduceAdd, Nat.reduceEqDiff, Nat.reduceLT, reduceIte, reduceCtorEq, Nat.reduceBEq, Int.reduceLT, Int.reduceToNat, Int.reducePow, Nat.reduceLeDiff, Int.reduceLE, Nat.reduceMul, Nat.reduceSub]
    rcases Nat.lt_or_eq_of_le hi with hlt | heq
    · have hlt' : decide ((i : Int) < ((behindOf c : Nat) : Int)) = true := dec_lt hlt
      simp only [hlt', go_sem, Nat.reduceAdd, Nat.reduceEqDiff, Nat.reduceLT, reduceIte, reduceCtorEq, Nat.reduceBEq, Int.reduceLT, Int.reduceToNat, Int.reducePow, Nat.reduceLeDiff, Int.reduceLE, Nat.reduceMul, Nat.reduceSub]
      have hw1 : IntKind.i64.wrap ((i : Int) + 1) = ((i + 1 : Nat) : Int) := by rw [wrap_i64 _ (by omega) (by omega)]; omega
      have hbnd : r * 64 + 63 < 33554432 * 64 := by omega
      simp only [hw1, List.length_cons, go_sem, Nat.reduceAdd, Nat.reduceEqDiff, Nat.reduceLT, reduceIte, reduceCtorEq, Nat.reduceBEq, Int.reduceLT, Int.reduceToNat, Int.reducePow, Nat.reduceLeDiff, Int.reduceLE, Nat.reduceMul, Nat.reduceSub]
      by_cases hend : t.length = i
      · have hd : decide (((i + 1 : Nat) : Int) ≥ ((t.length + 1 : Nat) : Int)) = true := by simp only [decide_eq_true_eq]; omega
        simp only [hd, hw1, go_sem, Nat.reduceAdd, Nat.reduceEqDiff, Nat.reduceLT, reduceIte, reduceCtorEq, Nat.reduceBEq, Int.reduceLT, Int.reduceToNat, Int.reducePow, Nat.reduceLeDiff, Int.reduceLE, Nat.reduceMul, Nat.reduceSub]
        rw [List.drop_eq_nil_of_le (by omega), goOn_nil (by omega)] at hnx
        rw [hnx]
        simp only [Done, resAV, resL, resOne, look_nil, look_cons, Nat.reduceEqDiff, if_true, if_false, reduceIte, ite_true, ite_false, Nat.zero_ne_one, Nat.one_ne_zero, reduceCtorEq, true_or, or_true, true_and, Option.some.injEq, AV.lit.injEq, Value.int.injEq, Value.bool.injEq]
        simp only [AV.tu.injEq, List.cons.injEq, AV.lit.injEq, Value.int.injEq, true_and, and_true]; omega
      · have hd : decide (((i + 1 : Nat) : Int) ≥ ((t.length + 1 : Nat) : Int)) = false := by simp only [decide_eq_false_iff_not]; omega
        have hti : i < t.length := by omega
        have hg : (octs (c :: t))[i + 1]? = some [.int .u8 (t[i] : Int)] := by simp [octs, hti]
        have hx := ht t[i] (List.getElem_mem hti)
        rw [List.drop_eq_getElem_cons hti] at hnx
        generalize t[i] = x at hnx hg hx
        simp only [hd, hw1, hg, go_sem, Nat.reduceAdd, Nat.reduceEqDiff, Nat.reduceLT, reduceIte, reduceCtorEq, Nat.reduceBEq, Int.reduceLT, Int.reduceToNat, Int.reducePow, Nat.reduceLeDiff, Int.reduceLE, Nat.reduceMul, Nat.reduceSub]
        by_cases hlo : x < lo' c i
        · have d1 : decide ((x : Int) < ((lo' c i : Nat) : Int)) = true := dec_lt hlo
          simp only [d1, hw1, go_sem, Nat.reduceAdd, Nat.reduceEqDiff, Nat.reduceLT, reduceIte, reduceCtorEq, Nat.reduceBEq, Int.reduceLT, Int.reduceToNat, Int.reducePow, Nat.reduceLeDiff, Int.reduceLE, Nat.reduceMul, Nat.reduceSub]
          rw [goOn_bad (by omega) (.inl hlo)] at hnx
          rw [hnx]
          simp only [Done, resAV, resL, resOne, look_nil, look_cons, Nat.reduceEqDiff, if_true, if_false, reduceIte, ite_true, ite_false, Nat.zero_ne_one, Nat.one_ne_zero, reduceCtorEq, true_or, or_true, true_and, Option.some.injEq, AV.lit.injEq, Value.int.injEq, Value.bool.injEq]
          simp only [AV.tu.injEq, List.cons.injEq, AV.lit.injEq, Value.int.injEq, true_and, and_true]; omega
        · have d1 : decide ((x : Int) < ((lo' c i : Nat) : Int)) = false := by simp only [decide_eq_false_iff_not]; omega
          simp only [d1, hw1, hg, go_sem, Nat.reduceAdd, Nat.reduceEqDiff, Nat.reduceLT, reduceIte, reduceCtorEq, Nat.reduceBEq, Int.reduceLT, Int.reduceToNat, Int.reducePow, Nat.reduceLeDiff, Int.reduceLE, Nat.reduceMul, Nat.reduceSub]
          by_cases hhi : hi' c i < x
          · have d2 : decide ((x : Int) > ((hi' c i : Nat) : Int)) = true := by simp only [decide_eq_true_eq]; omega
            simp only [d2, hw1, go_sem, Nat.reduceAdd, Nat.reduceEqDiff, Nat.reduceLT, reduceIte, reduceCtorEq, Nat.reduceBEq, Int.reduceLT, Int.reduceToNat, Int.reducePow, Nat.reduceLeDiff, Int.reduceLE, Nat.reduceMul, Nat.reduceSub]
            rw [goOn_bad (by omega) (.inr hhi)] at hnx
            rw [hnx]
            simp only [Done, resAV, resL, resOne, look_nil, look_cons, Nat.reduceEqDiff, if_true, if_false, reduceIte, ite_true, ite_false, Nat.zero_ne_one, Nat.one_ne_zero, reduceCtorEq, true_or, or_true, true_and, Option.some.injEq, AV.lit.injEq, Value.int.injEq, Value.bool.injEq]
            simp only [AV.tu.injEq, List.cons.injEq, AV.lit.injEq, Value.int.injEq, true_and, and_true]; omega
          · have d2 : decide ((x : Int) > ((hi' c i : Nat) : Int)) = false := by simp only [decide_eq_false_iff_not]; omega
            rw [goOn_fine (by omega) (by omega)] at hnx
            have hi3 : i = 0 ∨ i = 1 ∨ i = 2 := by omega
            have hrr : r < 524288 := by
              rcases hr1 with h | h
              · omega
              · rcases hi3 with rfl | rfl | rfl <;> simp at h <;> omega
            have hor : orI .i32 ((r * 64 : Nat) : Int) (((x % 64 : Nat)) : Int) = ((r * 64 + x % 64 : Nat) : Int) := by
              rw [orI_i32 _ _ (by omega) (by omega), or_64 _ _ (Nat.mod_lt _ (by omega))]
            have e6 : (min (6 : Int).toNat 32) = 6 := rfl
            simp only [d2, hw1, hg, go_sem, Nat.reduceAdd, Nat.reduceEqDiff, Nat.reduceLT, reduceIte, reduceCtorEq, Nat.reduceBEq, Int.reduceLT, Int.reduceToNat, Int.reducePow, Nat.reduceLeDiff, Int.reduceLE, Nat.reduceMul, Nat.reduceSub, andI_63 x (by omega), cast_u8_i32 (x % 64) (by omega), shl6 r hr2, hor]
            refine ⟨_, weak_by (tp1 := []) [0] (by simp) rfl ?_ ?_ trivial (by simp), ⟨i + 1, r * 64 + x % 64, by omega, by omega, ?_, ?_, by omega, rfl⟩, ?_⟩
            · simp only [go_sem, Nat.reduceAdd, Nat.reduceEqDiff, Nat.reduceLT, reduceIte, reduceCtorEq, Nat.reduceBEq, Int.reduceLT, Int.reduceToNat, Int.reducePow, Nat.reduceLeDiff, Int.reduceLE, Nat.reduceMul, Nat.reduceSub, slotsBy, boxesBy, tipsBy, rawAt, nm, AV.ren, AV.renL, AV.under, AV.underL, List.all_nil, List.all_cons, bne_self_eq_false, List.getD_cons_zero, List.getD_cons_succ, List.length_nil, List.length_cons, and_true, true_and]
            · simp only [go_sem, Nat.reduceAdd, Nat.reduceEqDiff, Nat.reduceLT, reduceIte, reduceCtorEq, Nat.reduceBEq, Int.reduceLT, Int.reduceToNat, Int.reducePow, Nat.reduceLeDiff, Int.reduceLE, Nat.reduceMul, Nat.reduceSub, slotsBy, boxesBy, tipsBy, rawAt, nm, AV.ren, AV.renL, AV.under, AV.underL, List.all_nil, List.all_cons, bne_self_eq_false, List.getD_cons_zero, List.getD_cons_succ, List.length_nil, List.length_cons, and_true, true_and, lo', hi', Nat.succ_ne_zero, if_false]
              simp
            · rw [hnx]
              simp only [lo', hi', Nat.succ_ne_zero, if_false]
              rw [show behindOf c - i - 1 = behindOf c - (i + 1) by omega, show 1 + i + 1 = 1 + (i + 1) by omega]
            · rcases hr1 with h | h
              · exact .inl h
              · right; rw [Nat.pow_succ]; omega
            · simp only [cnt, go_sem, Nat.reduceAdd, Nat.reduceEqDiff, Nat.reduceLT, reduceIte, reduceCtorEq, Nat.reduceBEq, Int.reduceLT, Int.reduceToNat, Int.reducePow, Nat.reduceLeDiff, Int.reduceLE, Nat.reduceMul, Nat.reduceSub, Int.toNat_natCast]; omega
    · subst heq
      have hlt' : decide (((behindOf c : Nat) : Int) < ((behindOf c : Nat) : Int)) = false := dec_irr _
      simp only [hlt', go_sem, Nat.reduceAdd, Nat.reduceEqDiff, Nat.reduceLT, reduceIte, reduceCtorEq, Nat.reduceBEq, Int.reduceLT, Int.reduceToNat, Int.reducePow, Nat.reduceLeDiff, Int.reduceLE, Nat.reduceMul, Nat.reduceSub]
      have hw2 : IntKind.i64.wrap (1 + ((behindOf c : Nat) : Int)) = 1 + ((behindOf c : Nat) : Int) := wrap_i64 _ (by omega) (by omega)
      simp only [hw2]
      rw [Nat.sub_self] at hnx
      have e : nx (c :: t) = (r, 1 + behindOf c, true) := hnx
      rw [e]
      simp only [Done, resAV, resL, resOne, look_nil, look_cons, Nat.reduceEqDiff, if_true, if_false, reduceIte, ite_true, ite_false, Nat.zero_ne_one, Nat.one_ne_zero, reduceCtorEq, true_or, or_true, true_and, Option.some.injEq, AV.lit.injEq, Value.int.injEq, Value.bool.injEq]
      simp

def scalarB (r : Int) : Bool := decide (0 ≤ r) && decide (r ≤ 1114111) && (decide (r < 55296) || decide (57343 < r))

set_option maxRecDepth 10000 in
theorem scalar_pure (r : Int) : Pure Try.prog 20 [.lit (.int .i32 r)] [] (.lit (.bool (scalarB r))) := by
  refine pure0 Try.func20 c20 n20 e20 r20 (by simp) rfl ?_
  simp only [a20, astart, argSlots, go_sem, Nat.reduceAdd, Nat.reduceEqDiff, Nat.reduceLT, reduceIte, reduceCtorEq, Nat.reduceBEq, Int.reduceLT, Int.reduceToNat, Int.reducePow, Nat.reduceLeDiff, Int.reduceLE, Nat.reduceMul, Nat.reduceSub]
  by_cases h1 : r ≥ 0
  · have e1 : decide (r ≥ 0) = true := by simpa using h1
    simp only [e1, go_sem, Nat.reduceAdd, Nat.reduceEqDiff, Nat.reduceLT, reduceIte, reduceCtorEq, Nat.reduceBEq, Int.reduceLT, Int.reduceToNat, Int.reducePow, Nat.reduceLeDiff, Int.reduceLE, Nat.reduceMul, Nat.reduceSub]
    by_cases h2 : r ≤ 1114111
    · have e2 : decide (r ≤ 1114111) = true := by simpa using h2
      simp only [e2, go_sem, Nat.reduceAdd, Nat.reduceEqDiff, Nat.reduceLT, reduceIte, reduceCtorEq, Nat.reduceBEq, Int.reduceLT, Int.reduceToNat, Int.reducePow, Nat.reduceLeDiff, Int.reduceLE, Nat.reduceMul, Nat.reduceSub]
      by_cases h3 : r < 55296
      · have e3 : decide (r < 55296) = true := by simpa using h3
        simp only [e3, go_sem, Nat.reduceAdd, Nat.reduceEqDiff, Nat.reduceLT, reduceIte, reduceCtorEq, Nat.reduceBEq, Int.reduceLT, Int.reduceToNat, Int.reducePow, Nat.reduceLeDiff, Int.reduceLE, Nat.reduceMul, Nat.reduceSub]
        simp only [Done, resAV, resL, resOne, look_nil, look_cons, Nat.reduceEqDiff, if_true, if_false, reduceIte, ite_true, ite_false, Nat.zero_ne_one, Nat.one_ne_zero, reduceCtorEq, true_or, or_true, true_and, Option.some.injEq, AV.lit.injEq, Value.int.injEq, Value.bool.injEq]
        simp [scalarB, h2, h3]; omega
      · have e3 : decide (r < 55296) = false := by simpa using h3
        simp only [e3, go_sem, Nat.reduceAdd, Nat.reduceEqDiff, Nat.reduceLT, reduceIte, reduceCtorEq, Nat.reduceBEq, Int.reduceLT, Int.reduceToNat, Int.reducePow, Nat.reduceLeDiff, Int.reduceLE, Nat.reduceMul, Nat.reduceSub]
        simp only [Done, resAV, resL, resOne, look_nil, look_cons, Nat.reduceEqDiff, if_true, if_false, reduceIte, ite_true, ite_false, Nat.zero_ne_one, Nat.one_ne_zero, reduceCtorEq, true_or, or_true, true_and, Option.some.injEq, AV.lit.injEq, Value.int.injEq, Value.bool.injEq]
        simp [scalarB, h2, h3]; omega
    · have e2 : decide (r ≤ 1114111) = false := by simpa using h2
      simp only [e2, go_sem, Nat.reduceAdd, Nat.reduceEqDiff, Nat.reduceLT, reduceIte, reduceCtorEq, Nat.reduceBEq, Int.reduceLT, Int.reduceToNat, Int.reducePow, Nat.reduceLeDiff, Int.reduceLE, Nat.reduceMul, Nat.reduceSub]
      simp only [Done, resAV, resL, resOne, look_nil, look_cons, Nat.reduceEqDiff, if_true, if_false, reduceIte, ite_true, ite_false, Nat.zero_ne_one, Nat.one_ne_zero, reduceCtorEq, true_or, or_true, true_and, Option.some.injEq, AV.lit.injEq, Value.int.injEq, Value.bool.injEq]
      simp [scalarB]; omega
  · have e1 : decide (r ≥ 0) = false := by simpa using h1
    simp only [e1, go_sem, Nat.reduceAdd, Nat.reduceEqDiff, Nat.reduceLT, reduceIte, reduceCtorEq, Nat.reduceBEq, Int.reduceLT, Int.reduceToNat, Int.reducePow, Nat.reduceLeDiff, Int.reduceLE, Nat.reduceMul, Nat.reduceSub]
    simp only [Done, resAV, resL, resOne, look_nil, look_cons, Nat.reduceEqDiff, if_true, if_false, reduceIte, ite_true, ite_false, Nat.zero_ne_one, Nat.one_ne_zero, reduceCtorEq, true_or, or_true, true_and, Option.some.injEq, AV.lit.injEq, Value.int.injEq, Value.bool.injEq]
    simp [scalarB]; omega
end Go.Proofs.Ytbnaepdeakcljaa
