/-
The bytes of what is shown follow one another, and each says its own; the examples hold: so the law answers true, whatever it is handed. Conditions: none.
-/
import Derived.Test.YteekelelcbfekaaSafG
import Derived.Test.YteekelelcbfekaaRows
set_option linter.unusedSimpArgs false
set_option linter.unusedVariables false
set_option linter.unusedSectionVars false
namespace Go.Proofs.Yteekelelcbfekaa
open Go Go.Ab Go.ChangeShapes Go.WideShapes Go.ChangeAt Go.RowKit
def a5 : ACode :=
  (.seq (.reg [⟨(.some 2), (.mv (.k (.bool false))), .none⟩]) (.seq (.seq (.reg [⟨(.some 7), (.mv (.t 0)), .none⟩, ⟨(.some 8), (.lenS (.t 7)), .none⟩, ⟨(.some 9), (.bin .gtr (.t 8) (.k (.int .i64
  400))), .none⟩]) (.cond (.t 9) (.seq (.reg [⟨(.some 10), (.call (.f 6) []), .none⟩, ⟨(.some 2), (.mv (.t 10)), .none⟩]) .ret) .skip)) (.seq (.reg [⟨(.some 3), (.mv (.k (.int .i64 0))), .none⟩]) (.seq
  (.seq (.reg [⟨(.some 11), (.mv (.t 0)), .none⟩, ⟨(.some 12), (.call (.f 7) [(.t 11)]), .none⟩, ⟨(.some 13), (.len (.t 12)), .none⟩, ⟨(.some 14), (.mv (.k (.int .i64 0))), .none⟩]) (.block 0 (.loop
  (.seq (.reg [⟨(.some 15), (.bin .lss (.t 14) (.t 13)), .none⟩]) (.seq (.cond (.t 15) .skip (.exit 0)) (.seq (.block 1 (.seq (.reg [⟨(.some 16), (.ia 35 (.t 12) (.t 14)), .none⟩, ⟨(.some 17), (.ld
  (.some 3) (.t 16)), .none⟩, ⟨(.some 5), (.alc 35 [(.int .i32 0), (.int .i64 0), (.int .i64 0)]), .none⟩, ⟨.none, (.st 3 (.t 5) (.t 17)), .none⟩]) (.seq (.seq (.reg [⟨(.some 18), (.fa 1 (.t 5)),
  .none⟩, ⟨(.some 19), (.ld .none (.t 18)), .none⟩, ⟨(.some 20), (.mv (.t 3)), .none⟩, ⟨(.some 21), (.bin .neq (.t 19) (.t 20)), .none⟩, ⟨(.some 22), (.mv (.t 21)), .none⟩, ⟨(.some 23), (.fa 2 (.t 5)),
  (.some (22, false))⟩, ⟨(.some 24), (.ld .none (.t 23)), (.some (22, false))⟩, ⟨(.some 25), (.mv (.t 3)), (.some (22, false))⟩, ⟨(.some 26), (.bin .leq (.t 24) (.t 25)), (.some (22, false))⟩, ⟨(.some
  27), (.pick (.t 22) (.k (.bool true)) (.t 26)), .none⟩, ⟨(.some 28), (.mv (.t 27)), .none⟩, ⟨(.some 29), (.fa 2 (.t 5)), (.some (28, false))⟩, ⟨(.some 30), (.ld .none (.t 29)), (.some (28, false))⟩,
  ⟨(.some 31), (.mv (.t 0)), (.some (28, false))⟩, ⟨(.some 32), (.lenS (.t 31)), (.some (28, false))⟩, ⟨(.some 33), (.bin .gtr (.t 30) (.t 32)), (.some (28, false))⟩, ⟨(.some 34), (.pick (.t 28) (.k
  (.bool true)) (.t 33)), .none⟩]) (.cond (.t 34) (.seq (.reg [⟨(.some 2), (.mv (.k (.bool false))), .none⟩]) .ret) .skip)) (.seq (.reg [⟨(.some 35), (.mv (.t 0)), .none⟩, ⟨(.some 36), (.fa 1 (.t 5)),
  .none⟩, ⟨(.some 37), (.ld .none (.t 36)), .none⟩, ⟨(.some 38), (.fa 2 (.t 5)), .none⟩, ⟨(.some 39), (.ld .none (.t 38)), .none⟩, ⟨(.some 40), (.slS (.t 35) (.some (.t 37)) (.some (.t 39))), .none⟩,
  ⟨(.some 6), (.mv (.t 40)), .none⟩]) (.seq (.block 2 (.seq (.reg [⟨(.some 42), (.mv (.t 6)), .none⟩, ⟨(.some 43), (.lenS (.t 42)), .none⟩, ⟨(.some 44), (.bin .eql (.t 43) (.k (.int .i64 1))), .none⟩,
  ⟨(.some 45), (.mv (.t 44)), .none⟩, ⟨(.some 46), (.mv (.t 6)), (.some (45, true))⟩, ⟨(.some 47), (.ixS (.t 46) (.k (.int .i64 0))), (.some (45, true))⟩, ⟨(.some 48), (.bin .lss (.t 47) (.k (.int .u8
  128))), (.some (45, true))⟩, ⟨(.some 49), (.pick (.t 45) (.t 48) (.k (.bool false))), .none⟩, ⟨(.some 41), (.mv (.t 49)), .none⟩]) (.cond (.t 41) (.seq (.dreg [⟨(.some 50), (.fa 0 (.t 5)), .none⟩,
  ⟨(.some 51), (.ld .none (.t 50)), .none⟩, ⟨(.some 52), (.mv (.t 6)), .none⟩, ⟨(.some 53), (.ixS (.t 52) (.k (.int .i64 0))), .none⟩, ⟨(.some 54), (.cvI .i32 (.t 53)), .none⟩, ⟨(.some 55), (.bin .neq
  (.t 51) (.t 54)), .none⟩]) (.cond (.t 55) (.seq (.reg [⟨(.some 2), (.mv (.k (.bool false))), .none⟩]) .ret) .skip)) (.seq (.reg [⟨(.some 57), (.mv (.t 6)), .none⟩, ⟨(.some 58), (.lenS (.t 57)),
  .none⟩, ⟨(.some 59), (.bin .eql (.t 58) (.k (.int .i64 1))), .none⟩, ⟨(.some 56), (.mv (.t 59)), .none⟩]) (.cond (.t 56) (.seq (.reg [⟨(.some 60), (.fa 0 (.t 5)), .none⟩, ⟨(.some 61), (.ld .none (.t
  60)), .none⟩, ⟨(.some 62), (.bin .neq (.t 61) (.k (.int .i32 65533))), .none⟩]) (.cond (.t 62) (.seq (.reg [⟨(.some 2), (.mv (.k (.bool false))), .none⟩]) .ret) .skip)) (.seq (.dreg [⟨(.some 64), (.fa
  0 (.t 5)), .none⟩, ⟨(.some 65), (.ld .none (.t 64)), .none⟩, ⟨(.some 66), (.call (.f 8) [(.t 65)]), .none⟩, ⟨(.some 67), (.not (.t 66)), .none⟩, ⟨(.some 68), (.mv (.t 67)), .none⟩, ⟨(.some 69), (.mv
  (.t 6)), (.some (68, false))⟩, ⟨(.some 70), (.call (.f 16) [(.t 69)]), (.some (68, false))⟩, ⟨(.some 71), (.cvBS (.t 70)), (.some (68, false))⟩, ⟨(.some 72), (.fa 0 (.t 5)), (.some (68, false))⟩,
  ⟨(.some 73), (.ld .none (.t 72)), (.some (68, false))⟩, ⟨(.some 74), (.bs 21 1 [(.t 73)]), (.some (68, false))⟩, ⟨(.some 75), (.call (.f 17) [(.t 74)]), (.some (68, false))⟩, ⟨(.some 76), (.cvBS (.t
  75)), (.some (68, false))⟩, ⟨(.some 77), (.bin .neq (.t 71) (.t 76)), (.some (68, false))⟩, ⟨(.some 78), (.pick (.t 68) (.k (.bool true)) (.t 77)), .none⟩, ⟨(.some 79), (.mv (.t 78)), .none⟩, ⟨(.some
  80), (.mv (.t 6)), (.some (79, false))⟩, ⟨(.some 81), (.lenS (.t 80)), (.some (79, false))⟩, ⟨(.some 82), (.fa 0 (.t 5)), (.some (79, false))⟩, ⟨(.some 83), (.ld .none (.t 82)), (.some (79, false))⟩,
  ⟨(.some 84), (.bs 21 1 [(.t 83)]), (.some (79, false))⟩, ⟨(.some 85), (.call (.f 17) [(.t 84)]), (.some (79, false))⟩, ⟨(.some 86), (.len (.t 85)), (.some (79, false))⟩, ⟨(.some 87), (.bin .mul (.k
  (.int .i64 3)) (.t 86)), (.some (79, false))⟩, ⟨(.some 88), (.bin .neq (.t 81) (.t 87)), (.some (79, false))⟩, ⟨(.some 89), (.pick (.t 79) (.k (.bool true)) (.t 88)), .none⟩, ⟨(.some 63), (.mv (.t
  89)), .none⟩]) (.cond (.t 63) (.seq (.reg [⟨(.some 2), (.mv (.k (.bool false))), .none⟩]) .ret) .skip))))))) (.reg [⟨(.some 90), (.fa 2 (.t 5)), .none⟩, ⟨(.some 91), (.ld .none (.t 90)), .none⟩,
  ⟨(.some 3), (.mv (.t 91)), .none⟩])))))) (.reg [⟨(.some 92), (.bin .add (.t 14) (.k (.int .i64 1))), .none⟩, ⟨(.some 14), (.mv (.t 92)), .none⟩]))))))) (.seq (.reg [⟨(.some 93), (.mv (.t 3)), .none⟩,
  ⟨(.some 94), (.mv (.t 0)), .none⟩, ⟨(.some 95), (.lenS (.t 94)), .none⟩, ⟨(.some 96), (.bin .eql (.t 93) (.t 95)), .none⟩, ⟨(.some 97), (.mv (.t 96)), .none⟩, ⟨(.some 98), (.call (.f 6) []), (.some
  (97, true))⟩, ⟨(.some 99), (.pick (.t 97) (.t 98) (.k (.bool false))), .none⟩, ⟨(.some 2), (.mv (.t 99)), .none⟩]) .ret)))))
theorem c5 : Try.f5.body.bind (cCode Try.prog 100) = some a5 := by kernel_rfl
theorem r5 : Try.f5.results.toList = [(.tmp 2)] := by kernel_rfl
theorem n5 : Try.f5.ntmps = 100 := by kernel_rfl
theorem e5 : Enters Try.prog 5 := enters_of Try.func5 (by kernel_rfl) (by kernel_rfl)

theorem chain_in {b : List Nat} : ∀ {l : List T3} {i j : Nat}, chain b i l j → i ≤ j
  | [], i, j, h => by simp only [chain] at h; omega
  | x :: l, i, j, h => by have := chain_in h.2; have := h.1.2.1; omega

theorem encL_one {r : Nat} (h : Scalar r) : encL [(r : Int)] = encN r := by
  have hs : scalarB (r : Int) = true := by
    unfold Scalar at h
    simp only [scalarB, Bool.and_eq_true, Bool.or_eq_true, decide_eq_true_eq]
    omega
  have hf : fixN (r : Int) = r := by have := fixN_of hs; omega
  simp [encL, hf]

set_option maxRecDepth 10000 in
set_option maxHeartbeats 1000000 in
theorem safeCuts_pure (s : ByteArray) (hs : s.size ≤ 140737488351232) : Pure Try.prog 5 [.lit (.string s)] [] (.lit (.bool true)) := by
  obtain ⟨b, rfl, hb, hbl⟩ := txt_of s
  refine pure0 Try.func5 c5 n5 e5 r5 (by simp) rfl ?_
  simp only [a5, astart, argSlots, txt_size, go_sem, Nat.reduceAdd, Nat.reduceEqDiff, Nat.reduceLT, reduceIte, reduceCtorEq, Nat.reduceBEq, Int.reduceLT, Int.reduceToNat, Int.reducePow, Nat.reduceLeDiff, Int.reduceLE, Nat.reduceMul, Nat.reduceSub]
  refine cGo_split (fun h => ?_) (fun h => ?_)
  · simp only [go_sem, Nat.reduceAdd, Nat.reduceEqDiff, Nat.reduceLT, reduceIte, reduceCtorEq, Nat.reduceBEq, Int.reduceLT, Int.reduceToNat, Int.reducePow, Nat.reduceLeDiff, Int.reduceLE, Nat.reduceMul, Nat.reduceSub]
    refine callGo_pure awake25_pure (by rfl) ?_
    simp only [go_sem, Nat.reduceAdd, Nat.reduceEqDiff, Nat.reduceLT, reduceIte, reduceCtorEq, Nat.reduceBEq, Int.reduceLT, Int.reduceToNat, Int.reducePow, Nat.reduceLeDiff, Int.reduceLE, Nat.reduceMul, Nat.reduceSub]
    simp only [Done, resAV, resL, resOne, look_nil, look_cons, Nat.reduceEqDiff, if_true, if_false, reduceIte, ite_true, ite_false, Nat.zero_ne_one, Nat.one_ne_zero, reduceCtorEq, true_or, or_true, true_and, Option.some.injEq, AV.lit.injEq, Value.int.injEq, Value.bool.injEq]
  · simp only [decide_eq_false_iff_not] at h
    have hl : b.length ≤ 400 := by omega
    simp only [go_sem, Nat.reduceAdd, Nat.reduceEqDiff, Nat.reduceLT, reduceIte, reduceCtorEq, Nat.reduceBEq, Int.reduceLT, Int.reduceToNat, Int.reducePow, Nat.reduceLeDiff, Int.reduceLE, Nat.reduceMul, Nat.reduceSub]
    refine callGo_pure (show_pure b hb (by omega)) (by rfl) ?_
    have hch := chain_show b hb b.length 0 (by omega) (by omega)
    rw [List.drop_zero] at hch
    have hsl := showT_len 0 b
    generalize showT 0 b = l at hch hsl
    simp only [codesT_length, go_sem, Nat.reduceAdd, Nat.reduceEqDiff, Nat.reduceLT, reduceIte, reduceCtorEq, Nat.reduceBEq, Int.reduceLT, Int.reduceToNat, Int.reducePow, Nat.reduceLeDiff, Int.reduceLE, Nat.reduceMul, Nat.reduceSub]
    refine loop_by (α := Nat × Nat) (fun x => ⟨[(0, some (.lit (.string (txt b)))), (3, some (.lit (.int .i64 ((x.2 : Nat) : Int)))), (12, some (.sl 35 (codesT l) none)), (13, some (.lit (.int .i64 (l.length : Int)))), (14, some (.lit (.int .i64 ((x.1 : Nat) : Int))))], [], [], 0⟩)
      (fun x => x.1 ≤ l.length ∧ chain b x.2 (l.drop x.1) b.length) (fun x => l.length - x.1) (fun x y h => by
        have := congrArg (cnt 14) h
        simp [cnt, Ab.look] at this
        rw [this]) (0, 0) ((weak_untip 12 rfl).trans (weak_by [] List.nodup_nil rfl ?_ trivial trivial (by simp))) ⟨by simp, by simpa using hch⟩ ?_
    · simp only [go_sem, Nat.reduceAdd, Nat.reduceEqDiff, Nat.reduceLT, reduceIte, reduceCtorEq, Nat.reduceBEq, Int.reduceLT, Int.reduceToNat, Int.reducePow, Nat.reduceLeDiff, Int.reduceLE, Nat.reduceMul, Nat.reduceSub, slotsBy, boxesBy, tipsBy, rawAt, nm, AV.ren, AV.renL, AV.under, AV.underL, List.all_nil, List.all_cons, bne_self_eq_false, List.getD_cons_zero, List.getD_cons_succ, List.length_nil, List.length_cons, and_true, true_and, Int.natCast_zero]
    · rintro ⟨i, at_⟩ ⟨hi, hc⟩
      simp only at hi hc
      simp only [go_sem, Nat.reduceAdd, Nat.reduceEqDiff, Nat.reduceLT, reduceIte, reduceCtorEq, Nat.reduceBEq, Int.reduceLT, Int.reduceToNat, Int.reducePow, Nat.reduceLeDiff, Int.reduceLE, Nat.reduceMul, Nat.reduceSub]
      rcases Nat.lt_or_eq_of_le hi with hlt | heq
      · rw [List.drop_eq_getElem_cons hlt] at hc
        have hg := codesT_get l i hlt
        obtain ⟨⟨c1, c2, c3, c4, c5⟩, hc2⟩ := hc
        generalize l[i] = x at hg c1 c2 c3 c4 c5 hc2
        obtain ⟨r, fr, to⟩ := x
        simp only at hg c1 c2 c3 c4 c5 hc2
        subst c1
        have h1 : IntKind.i64.wrap ((i : Int) + 1) = ((i + 1 : Nat) : Int) := by rw [wrap_i64 _ (by omega) (by omega)]; omega
        have d1 : decide (((to : Nat) : Int) ≤ ((fr : Nat) : Int)) = false := by simp only [decide_eq_false_iff_not]; omega
        have d2 : decide (((to : Nat) : Int) > ((b.length : Nat) : Int)) = false := by simp only [decide_eq_false_iff_not]; omega
        have hin : (if fr ≤ to ∧ to ≤ b.length then some (fr, to) else none : Option (Nat × Nat)) = some (fr, to) := if_pos ⟨by omega, c3⟩
        simp only [dec_lt hlt, hg, d1, d2, txt_size, txt_slice, hin, bne_self_eq_false, go_sem, Nat.reduceAdd, Nat.reduceEqDiff, Nat.reduceLT, reduceIte, reduceCtorEq, Nat.reduceBEq, Int.reduceLT, Int.reduceToNat, Int.reducePow, Nat.reduceLeDiff, Int.reduceLE, Nat.reduceMul, Nat.reduceSub, allOne, AV.one, Value.oneCell', Int.natCast_zero, Nat.le_refl]
        have hol : ((b.take to).drop fr).length = to - fr := by rw [List.length_drop, List.length_take]; omega
        have hob : ∀ n ∈ (b.take to).drop fr, n ≤ 255 := fun n hn => hb n (List.mem_of_mem_take (List.mem_of_mem_drop hn))
        generalize (b.take to).drop fr = own at c4 c5 hol hob
        by_cases ho : own.length = 1
        · obtain ⟨c, rfl, hr⟩ := c4 ho
          have hc255 := hob c (by simp)
          have b1 : ((((1 : Nat)) : Int) == 1) = true := rfl
          have hg0 : (txt [c])[0]? = some (UInt8.ofNat c) := txt_get0 c []
          by_cases hc7 : 127 < c
          · have d3 : decide (((c : Nat) : Int) < 128) = false := by simp only [decide_eq_false_iff_not]; omega
            rw [if_pos hc7] at hr
            subst hr
            have b2 : ((((65533 : Nat) : Int)) != 65533) = false := rfl
            simp only [b1, b2, hg0, u8_int hc255, d3, h1, txt_size, go_sem, Nat.reduceAdd, Nat.reduceEqDiff, Nat.reduceLT, reduceIte, reduceCtorEq, Nat.reduceBEq, Int.reduceLT, Int.reduceToNat, Int.reducePow, Nat.reduceLeDiff, Int.reduceLE, Nat.reduceMul, Nat.reduceSub]
            refine ⟨(i + 1, to), weak_by [] List.nodup_nil rfl ?_ trivial trivial (by simp), ⟨by omega, hc2⟩, by omega⟩
            simp only [go_sem, Nat.reduceAdd, Nat.reduceEqDiff, Nat.reduceLT, reduceIte, reduceCtorEq, Nat.reduceBEq, Int.reduceLT, Int.reduceToNat, Int.reducePow, Nat.reduceLeDiff, Int.reduceLE, Nat.reduceMul, Nat.reduceSub, slotsBy, boxesBy, tipsBy, rawAt, nm, AV.ren, AV.renL, AV.under, AV.underL, List.all_nil, List.all_cons, bne_self_eq_false, List.getD_cons_zero, List.getD_cons_succ, List.length_nil, List.length_cons, and_true, true_and]
          · have d3 : decide (((c : Nat) : Int) < 128) = true := by simp only [decide_eq_true_eq]; omega
            rw [if_neg hc7] at hr
            subst hr
            have w4 : IntKind.i32.wrap ((r : Nat) : Int) = (r : Int) := wrap_i32 _ (by omega) (by omega)
            simp only [b1, hg0, u8_int hc255, d3, w4, h1, txt_size, bne_self_eq_false, go_sem, Nat.reduceAdd, Nat.reduceEqDiff, Nat.reduceLT, reduceIte, reduceCtorEq, Nat.reduceBEq, Int.reduceLT, Int.reduceToNat, Int.reducePow, Nat.reduceLeDiff, Int.reduceLE, Nat.reduceMul, Nat.reduceSub]
            refine ⟨(i + 1, to), weak_by [] List.nodup_nil rfl ?_ trivial trivial (by simp), ⟨by omega, hc2⟩, by omega⟩
            simp only [go_sem, Nat.reduceAdd, Nat.reduceEqDiff, Nat.reduceLT, reduceIte, reduceCtorEq, Nat.reduceBEq, Int.reduceLT, Int.reduceToNat, Int.reducePow, Nat.reduceLeDiff, Int.reduceLE, Nat.reduceMul, Nat.reduceSub, slotsBy, boxesBy, tipsBy, rawAt, nm, AV.ren, AV.renL, AV.under, AV.underL, List.all_nil, List.all_cons, bne_self_eq_false, List.getD_cons_zero, List.getD_cons_succ, List.length_nil, List.length_cons, and_true, true_and]
        · obtain ⟨k1, k2, k3, k4⟩ := c5 ho
          have b1 : (((own.length : Nat) : Int) == 1) = false := by simp only [beq_eq_false_iff_ne, ne_eq]; omega
          have henc : octs (encL [(r : Int)]) = octs (encN r) := by rw [encL_one k2]
          have hrle : r ≤ 1114111 := by unfold Scalar at k2; omega
          have hel : (encL [(r : Int)]).length = (encN r).length := by rw [encL_one k2]
          have w5 : IntKind.i64.wrap (3 * (((encN r).length : Nat) : Int)) = ((own.length : Nat) : Int) := by rw [wrap_i64 _ (by omega) (by omega)]; omega
          have he255 : ∀ n ∈ encN r, n ≤ 255 := encN_octs hrle
          simp only [b1, txt_size, go_sem, Nat.reduceAdd, Nat.reduceEqDiff, Nat.reduceLT, reduceIte, reduceCtorEq, Nat.reduceBEq, Int.reduceLT, Int.reduceToNat, Int.reducePow, Nat.reduceLeDiff, Int.reduceLE, Nat.reduceMul, Nat.reduceSub]
          refine dcallGo_pure (safe_pure _) (by rfl) rfl ?_
          simp only [k1, Bool.not_true, go_sem, Nat.reduceAdd, Nat.reduceEqDiff, Nat.reduceLT, reduceIte, reduceCtorEq, Nat.reduceBEq, Int.reduceLT, Int.reduceToNat, Int.reducePow, Nat.reduceLeDiff, Int.reduceLE, Nat.reduceMul, Nat.reduceSub]
          refine dcallGo_pure (pctDecode_pure own hob (by omega)) (by rfl) rfl ?_
          simp only [k3, cells_bytes _ he255, go_sem, Nat.reduceAdd, Nat.reduceEqDiff, Nat.reduceLT, reduceIte, reduceCtorEq, Nat.reduceBEq, Int.reduceLT, Int.reduceToNat, Int.reducePow, Nat.reduceLeDiff, Int.reduceLE, Nat.reduceMul, Nat.reduceSub]
          refine dcallGo_pure (encode_pure [(r : Int)] (by simp)) (by rfl) rfl ?_
          simp only [henc, cells_bytes _ he255, binStr, beq_self_eq_true, Bool.not_true, go_sem, Nat.reduceAdd, Nat.reduceEqDiff, Nat.reduceLT, reduceIte, reduceCtorEq, Nat.reduceBEq, Int.reduceLT, Int.reduceToNat, Int.reducePow, Nat.reduceLeDiff, Int.reduceLE, Nat.reduceMul, Nat.reduceSub]
          refine dcallGo_pure (encode_pure [(r : Int)] (by simp)) (by rfl) rfl ?_
          simp only [henc, octs_length, txt_size, w5, bne_self_eq_false, h1, go_sem, Nat.reduceAdd, Nat.reduceEqDiff, Nat.reduceLT, reduceIte, reduceCtorEq, Nat.reduceBEq, Int.reduceLT, Int.reduceToNat, Int.reducePow, Nat.reduceLeDiff, Int.reduceLE, Nat.reduceMul, Nat.reduceSub]
          refine ⟨(i + 1, to), weak_by [] List.nodup_nil rfl ?_ trivial trivial (by simp), ⟨by omega, hc2⟩, by omega⟩
          simp only [go_sem, Nat.reduceAdd, Nat.reduceEqDiff, Nat.reduceLT, reduceIte, reduceCtorEq, Nat.reduceBEq, Int.reduceLT, Int.reduceToNat, Int.reducePow, Nat.reduceLeDiff, Int.reduceLE, Nat.reduceMul, Nat.reduceSub, slotsBy, boxesBy, tipsBy, rawAt, nm, AV.ren, AV.renL, AV.under, AV.underL, List.all_nil, List.all_cons, bne_self_eq_false, List.getD_cons_zero, List.getD_cons_succ, List.length_nil, List.length_cons, and_true, true_and]
      · subst heq
        rw [List.drop_length] at hc
        simp only [chain] at hc
        subst hc
        simp only [dec_irr, txt_size, beq_self_eq_true, go_sem, Nat.reduceAdd, Nat.reduceEqDiff, Nat.reduceLT, reduceIte, reduceCtorEq, Nat.reduceBEq, Int.reduceLT, Int.reduceToNat, Int.reducePow, Nat.reduceLeDiff, Int.reduceLE, Nat.reduceMul, Nat.reduceSub]
        refine callGo_pure awake25_pure (by rfl) ?_
        simp only [go_sem, Nat.reduceAdd, Nat.reduceEqDiff, Nat.reduceLT, reduceIte, reduceCtorEq, Nat.reduceBEq, Int.reduceLT, Int.reduceToNat, Int.reducePow, Nat.reduceLeDiff, Int.reduceLE, Nat.reduceMul, Nat.reduceSub]
        simp only [Done, resAV, resL, resOne, look_nil, look_cons, Nat.reduceEqDiff, if_true, if_false, reduceIte, ite_true, ite_false, Nat.zero_ne_one, Nat.one_ne_zero, reduceCtorEq, true_or, or_true, true_and, Option.some.injEq, AV.lit.injEq, Value.int.injEq, Value.bool.injEq]

theorem safeCuts_any (avs : List AV) (h : Args Try.prog Try.f5.params.toList avs) : Pure Try.prog 5 avs [] (.lit (.bool true)) := by
  have hp : Try.f5.params.toList = [9] := by kernel_rfl
  rw [hp] at h
  obtain ⟨av0, rest0, rfl, a0, rfl⟩ := h
  obtain ⟨z0, rfl, w0⟩ := arg_str (by kernel_rfl) a0
  exact safeCuts_pure z0 w0

set_option maxRecDepth 100000 in
theorem safeCuts_lifted (os : Os) (started : os.Started) (H : Type) (enc : TypeId × Value → H) :
    ReturnsInHanded {} Try.checked os 5 .any (Rows.safeCutsSpec.pre6 enc Try.prog Try.f5 Rows.safeCutsRow.domain false) (Rows.safeCutsSpec.post enc Try.prog Try.f5 false true false false) := by
  refine law_returns (C := Try.checked) (tb := 4) (by kernel_rfl) started (by kernel_rfl) Try.func5
    (ChangeSpec.witness6 (enc := enc) (C := Try.checked) false ⟨#[], #[.string ⟨#[]⟩], []⟩ 8 (by kernel_rfl) (by kernel_rfl) (by kernel_rfl) (by kernel_rfl))
    (by kernel_rfl) (by kernel_rfl) rfl rfl (by kernel_rfl) (by kernel_rfl) ?_ safeCuts_any
  intro ds hds
  have hp : Try.f5.params.toList = [9] := by kernel_rfl
  rw [hp] at hds
  match ds, hds with
  | [d0], _ => exact ⟨rfl, rfl, rfl⟩

theorem safeCuts_holds : Rows.SafeCutsSaid :=
  OpenClaim.holds_of_wide 5 Try.f5 rfl rfl rfl rfl rfl rfl rfl ⟨rfl, rfl, rfl, rfl, rfl⟩ rfl rfl rfl rfl rfl (by kernel_rfl) Try.func5 (by kernel_rfl)
    (of_decide_eq_true (by kernel_rfl)) (by unfold Func.isWrapper; first | (rw [if_pos (by decide +kernel)]; kernel_rfl) | (rw [if_neg (by decide +kernel)]; exact ⟨rfl, rfl⟩))
    (fun os started H enc _ => safeCuts_lifted os started H enc)
end Go.Proofs.Yteekelelcbfekaa
