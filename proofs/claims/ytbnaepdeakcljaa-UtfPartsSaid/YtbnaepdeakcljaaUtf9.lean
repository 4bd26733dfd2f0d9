/-
Codes follow one another without a gap, each by itself is that code: so the law answers true, whatever it is handed. Conditions: none.
-/
import Derived.Test.YtbnaepdeakcljaaUtf8
set_option linter.unusedSimpArgs false
set_option linter.unusedVariables false
set_option linter.unusedSectionVars false
namespace Go.Proofs.Ytbnaepdeakcljaa
open Go Go.Ab Go.ChangeShapes Go.WideShapes Go.ChangeAt Go.RowKit
def a8 : ACode :=
  (.seq (.reg [⟨(.some 2), (.mv (.k (.bool false))), .none⟩]) (.seq (.seq (.reg [⟨(.some 7), (.mv (.t 0)), .none⟩, ⟨(.some 8), (.len (.t 7)), .none⟩, ⟨(.some 9), (.bin .gtr (.t 8) (.k (.int .i64 500))),
  .none⟩]) (.cond (.t 9) (.seq (.reg [⟨(.some 10), (.call (.f 19) []), .none⟩, ⟨(.some 2), (.mv (.t 10)), .none⟩]) .ret) .skip)) (.seq (.reg [⟨(.some 3), (.mv (.k (.int .i64 0))), .none⟩]) (.seq (.seq
  (.reg [⟨(.some 11), (.mv (.t 0)), .none⟩, ⟨(.some 12), (.call (.f 14) [(.t 11)]), .none⟩, ⟨(.some 13), (.len (.t 12)), .none⟩, ⟨(.some 14), (.mv (.k (.int .i64 0))), .none⟩]) (.block 0 (.loop (.seq
  (.reg [⟨(.some 15), (.bin .lss (.t 14) (.t 13)), .none⟩]) (.seq (.cond (.t 15) .skip (.exit 0)) (.seq (.block 1 (.seq (.reg [⟨(.some 16), (.ia 27 (.t 12) (.t 14)), .none⟩, ⟨(.some 17), (.ld (.some 3)
  (.t 16)), .none⟩, ⟨(.some 5), (.alc 27 [(.int .i32 0), (.int .i64 0), (.int .i64 0)]), .none⟩, ⟨.none, (.st 3 (.t 5) (.t 17)), .none⟩]) (.seq (.seq (.reg [⟨(.some 18), (.fa 1 (.t 5)), .none⟩, ⟨(.some
  19), (.ld .none (.t 18)), .none⟩, ⟨(.some 20), (.mv (.t 3)), .none⟩, ⟨(.some 21), (.bin .neq (.t 19) (.t 20)), .none⟩, ⟨(.some 22), (.mv (.t 21)), .none⟩, ⟨(.some 23), (.fa 2 (.t 5)), (.some (22,
  false))⟩, ⟨(.some 24), (.ld .none (.t 23)), (.some (22, false))⟩, ⟨(.some 25), (.fa 1 (.t 5)), (.some (22, false))⟩, ⟨(.some 26), (.ld .none (.t 25)), (.some (22, false))⟩, ⟨(.some 27), (.bin .leq (.t
  24) (.t 26)), (.some (22, false))⟩, ⟨(.some 28), (.pick (.t 22) (.k (.bool true)) (.t 27)), .none⟩, ⟨(.some 29), (.mv (.t 28)), .none⟩, ⟨(.some 30), (.fa 2 (.t 5)), (.some (29, false))⟩, ⟨(.some 31),
  (.ld .none (.t 30)), (.some (29, false))⟩, ⟨(.some 32), (.mv (.t 0)), (.some (29, false))⟩, ⟨(.some 33), (.len (.t 32)), (.some (29, false))⟩, ⟨(.some 34), (.bin .gtr (.t 31) (.t 33)), (.some (29,
  false))⟩, ⟨(.some 35), (.pick (.t 29) (.k (.bool true)) (.t 34)), .none⟩, ⟨(.some 36), (.mv (.t 35)), .none⟩, ⟨(.some 37), (.fa 2 (.t 5)), (.some (36, false))⟩, ⟨(.some 38), (.ld .none (.t 37)),
  (.some (36, false))⟩, ⟨(.some 39), (.fa 1 (.t 5)), (.some (36, false))⟩, ⟨(.some 40), (.ld .none (.t 39)), (.some (36, false))⟩, ⟨(.some 41), (.bin .sub (.t 38) (.t 40)), (.some (36, false))⟩, ⟨(.some
  42), (.bin .gtr (.t 41) (.k (.int .i64 4))), (.some (36, false))⟩, ⟨(.some 43), (.pick (.t 36) (.k (.bool true)) (.t 42)), .none⟩, ⟨(.some 44), (.mv (.t 43)), .none⟩, ⟨(.some 45), (.fa 0 (.t 5)),
  (.some (44, false))⟩, ⟨(.some 46), (.ld .none (.t 45)), (.some (44, false))⟩, ⟨(.some 47), (.call (.f 20) [(.t 46)]), (.some (44, false))⟩, ⟨(.some 48), (.not (.t 47)), (.some (44, false))⟩, ⟨(.some
  49), (.pick (.t 44) (.k (.bool true)) (.t 48)), .none⟩]) (.cond (.t 49) (.seq (.reg [⟨(.some 2), (.mv (.k (.bool false))), .none⟩]) .ret) .skip)) (.seq (.reg [⟨(.some 50), (.mv (.t 0)), .none⟩,
  ⟨(.some 51), (.fa 1 (.t 5)), .none⟩, ⟨(.some 52), (.ld .none (.t 51)), .none⟩, ⟨(.some 53), (.fa 2 (.t 5)), .none⟩, ⟨(.some 54), (.ld .none (.t 53)), .none⟩, ⟨(.some 55), (.slc 5 (.t 50) (.some (.t
  52)) (.some (.t 54))), .none⟩, ⟨(.some 56), (.call (.f 14) [(.t 55)]), .none⟩, ⟨(.some 6), (.mv (.t 56)), .none⟩]) (.seq (.seq (.dreg [⟨(.some 57), (.mv (.t 6)), .none⟩, ⟨(.some 58), (.len (.t 57)),
  .none⟩, ⟨(.some 59), (.bin .neq (.t 58) (.k (.int .i64 1))), .none⟩, ⟨(.some 60), (.mv (.t 59)), .none⟩, ⟨(.some 61), (.mv (.t 6)), (.some (60, false))⟩, ⟨(.some 62), (.ia 27 (.t 61) (.k (.int .i64
  0))), (.some (60, false))⟩, ⟨(.some 63), (.fa 0 (.t 62)), (.some (60, false))⟩, ⟨(.some 64), (.ld .none (.t 63)), (.some (60, false))⟩, ⟨(.some 65), (.fa 0 (.t 5)), (.some (60, false))⟩, ⟨(.some 66),
  (.ld .none (.t 65)), (.some (60, false))⟩, ⟨(.some 67), (.bin .neq (.t 64) (.t 66)), (.some (60, false))⟩, ⟨(.some 68), (.pick (.t 60) (.k (.bool true)) (.t 67)), .none⟩, ⟨(.some 69), (.mv (.t 68)),
  .none⟩, ⟨(.some 70), (.mv (.t 6)), (.some (69, false))⟩, ⟨(.some 71), (.ia 27 (.t 70) (.k (.int .i64 0))), (.some (69, false))⟩, ⟨(.some 72), (.fa 2 (.t 71)), (.some (69, false))⟩, ⟨(.some 73), (.ld
  .none (.t 72)), (.some (69, false))⟩, ⟨(.some 74), (.fa 2 (.t 5)), (.some (69, false))⟩, ⟨(.some 75), (.ld .none (.t 74)), (.some (69, false))⟩, ⟨(.some 76), (.fa 1 (.t 5)), (.some (69, false))⟩,
  ⟨(.some 77), (.ld .none (.t 76)), (.some (69, false))⟩, ⟨(.some 78), (.bin .sub (.t 75) (.t 77)), (.some (69, false))⟩, ⟨(.some 79), (.bin .neq (.t 73) (.t 78)), (.some (69, false))⟩, ⟨(.some 80),
  (.pick (.t 69) (.k (.bool true)) (.t 79)), .none⟩]) (.cond (.t 80) (.seq (.reg [⟨(.some 2), (.mv (.k (.bool false))), .none⟩]) .ret) .skip)) (.seq (.seq (.reg [⟨(.some 81), (.mv (.t 0)), .none⟩,
  ⟨(.some 82), (.fa 1 (.t 5)), .none⟩, ⟨(.some 83), (.ld .none (.t 82)), .none⟩, ⟨(.some 84), (.fa 2 (.t 5)), .none⟩, ⟨(.some 85), (.ld .none (.t 84)), .none⟩, ⟨(.some 86), (.slc 5 (.t 81) (.some (.t
  83)) (.some (.t 85))), .none⟩, ⟨(.some 87), (.call (.f 26) [(.t 86)]), .none⟩, ⟨(.some 88), (.not (.t 87)), .none⟩, ⟨(.some 89), (.mv (.t 88)), .none⟩, ⟨(.some 90), (.fa 0 (.t 5)), (.some (89,
  true))⟩, ⟨(.some 91), (.ld .none (.t 90)), (.some (89, true))⟩, ⟨(.some 92), (.bin .neq (.t 91) (.k (.int .i32 65533))), (.some (89, true))⟩, ⟨(.some 93), (.mv (.t 92)), (.some (89, true))⟩, ⟨(.some
  94), (.fa 2 (.t 5)), (.some (93, false))⟩, ⟨(.some 95), (.ld .none (.t 94)), (.some (93, false))⟩, ⟨(.some 96), (.fa 1 (.t 5)), (.some (93, false))⟩, ⟨(.some 97), (.ld .none (.t 96)), (.some (93,
  false))⟩, ⟨(.some 98), (.bin .sub (.t 95) (.t 97)), (.some (93, false))⟩, ⟨(.some 99), (.bin .gtr (.t 98) (.k (.int .i64 3))), (.some (93, false))⟩, ⟨(.some 100), (.pick (.t 93) (.k (.bool true)) (.t
  99)), (.some (89, true))⟩, ⟨(.some 101), (.pick (.t 89) (.t 100) (.k (.bool false))), .none⟩]) (.cond (.t 101) (.seq (.reg [⟨(.some 2), (.mv (.k (.bool false))), .none⟩]) .ret) .skip)) (.reg [⟨(.some
  102), (.fa 2 (.t 5)), .none⟩, ⟨(.some 103), (.ld .none (.t 102)), .none⟩, ⟨(.some 3), (.mv (.t 103)), .none⟩]))))))) (.reg [⟨(.some 104), (.bin .add (.t 14) (.k (.int .i64 1))), .none⟩, ⟨(.some 14),
  (.mv (.t 104)), .none⟩]))))))) (.seq (.reg [⟨(.some 105), (.mv (.t 3)), .none⟩, ⟨(.some 106), (.mv (.t 0)), .none⟩, ⟨(.some 107), (.len (.t 106)), .none⟩, ⟨(.some 108), (.bin .eql (.t 105) (.t 107)),
  .none⟩, ⟨(.some 109), (.mv (.t 108)), .none⟩, ⟨(.some 110), (.call (.f 19) []), (.some (109, true))⟩, ⟨(.some 111), (.pick (.t 109) (.t 110) (.k (.bool false))), .none⟩, ⟨(.some 2), (.mv (.t 111)),
  .none⟩]) .ret)))))
theorem c8 : Try.f8.body.bind (cCode Try.prog 112) = some a8 := by kernel_rfl
theorem r8 : Try.f8.results.toList = [(.tmp 2)] := by kernel_rfl
theorem n8 : Try.f8.ntmps = 112 := by kernel_rfl
theorem e8 : Enters Try.prog 8 := enters_of Try.func8 (by kernel_rfl) (by kernel_rfl)

theorem cut_own {b : List Nat} {i : Nat} (h : i < b.length) : cut 0 ((b.drop i).take (nx (b.drop i)).2.1) = [((nx (b.drop i)).1, 0, (nx (b.drop i)).2.1, (nx (b.drop i)).2.2)] := by
  have hk := nx_drop h
  have hn := nx_take (b := b.drop i) (m := (nx (b.drop i)).2.1) (Nat.le_refl _)
  have hl : ((b.drop i).take (nx (b.drop i)).2.1).length = (nx (b.drop i)).2.1 := by simp only [List.length_take, List.length_drop]; omega
  have hd : ((b.drop i).take (nx (b.drop i)).2.1).drop (nx (b.drop i)).2.1 = [] := List.drop_eq_nil_of_le (by omega)
  cases he : (b.drop i).take (nx (b.drop i)).2.1 with
  | nil => rw [he] at hl; simp at hl; omega
  | cons c u =>
    rw [he] at hn hd
    rw [cut_cons, hn, hd, Nat.zero_add]
    rfl

theorem split_drop {α : Type} {L B : List α} {j : Nat} (h : L = L.take j ++ B) (hj : j ≤ L.length) : L.drop j = B := by
  have h2 : L.drop j = (L.take j ++ B).drop j := congrArg (List.drop j) h
  rw [List.drop_append_of_le_length (by simp only [List.length_take]; omega), List.drop_take_self, List.nil_append] at h2
  exact h2

/-- Where a code stands, its bytes. -/
theorem cut_at {b : List Nat} {j : Nat} (h : j < (cut 0 b).length) : ∃ i, i < b.length ∧ (cut 0 b)[j] = ((nx (b.drop i)).1, i, i + (nx (b.drop i)).2.1, (nx (b.drop i)).2.2) ∧ cut 0 b = (cut 0 b).take j ++ cut i (b.drop i) := by
  have key : ∀ j, j ≤ (cut 0 b).length → ∃ i, i ≤ b.length ∧ cut 0 b = (cut 0 b).take j ++ cut i (b.drop i) := by
    intro j
    induction j with
    | zero => intro _; exact ⟨0, Nat.zero_le _, by simp⟩
    | succ j ih =>
      intro hj
      obtain ⟨i, hi, he⟩ := ih (by omega)
      have hd : (cut 0 b).drop j = cut i (b.drop i) := split_drop he (by omega)
      rcases Nat.lt_or_eq_of_le hi with hlt | heq
      · have hk := nx_drop hlt
        refine ⟨i + (nx (b.drop i)).2.1, hk.2.1, ?_⟩
        have hd2 : (cut 0 b).drop (j + 1) = cut (i + (nx (b.drop i)).2.1) (b.drop (i + (nx (b.drop i)).2.1)) := by
          rw [← List.drop_drop, hd, cut_drop hlt]; rfl
        rw [← hd2, List.take_append_drop]
      · subst heq
        rw [List.drop_length, cut_nil] at hd
        have := congrArg List.length hd
        simp only [List.length_drop, List.length_nil] at this
        omega
  obtain ⟨i, hi, he⟩ := key j (by omega)
  have hd : (cut 0 b).drop j = cut i (b.drop i) := split_drop he (by omega)
  have hlt : i < b.length := by
    rcases Nat.lt_or_eq_of_le hi with hlt | heq
    · exact hlt
    · subst heq
      rw [List.drop_length, cut_nil] at hd
      have := congrArg List.length hd
      simp only [List.length_drop, List.length_nil] at this
      omega
  refine ⟨i, hlt, ?_, he⟩
  rw [cut_drop hlt, List.drop_eq_getElem_cons h] at hd
  exact (List.cons.inj hd).1

theorem codesC_get (l : List (Nat × Nat × Nat × Bool)) (i : Nat) (h : i < l.length) : (codesC l)[i]? = some [.int .i32 ((l[i].1 : Nat) : Int), .int .i64 ((l[i].2.1 : Nat) : Int), .int .i64 ((l[i].2.2.1 : Nat) : Int)] := by simp [codesC, codeC, h]

/-- Where the code at an index begins. -/
def fromOf (b : List Nat) (j : Nat) : Nat := match (cut 0 b)[j]? with
  | some x => x.2.1
  | none => b.length
theorem fromOf_zero (b : List Nat) : fromOf b 0 = 0 := by
  unfold fromOf
  cases b with
  | nil => rfl
  | cons c t => rw [cut_cons]; rfl
theorem fromOf_next {b : List Nat} {j i : Nat} (hi : i < b.length) (he : cut 0 b = (cut 0 b).take j ++ cut i (b.drop i)) (h : j < (cut 0 b).length) : fromOf b (j + 1) = i + (nx (b.drop i)).2.1 := by
  have hk := nx_drop hi
  have hd : (cut 0 b).drop j = cut i (b.drop i) := split_drop he (by omega)
  have hd2 : (cut 0 b).drop (j + 1) = cut (i + (nx (b.drop i)).2.1) (b.drop (i + (nx (b.drop i)).2.1)) := by
    rw [← List.drop_drop, hd, cut_drop hi]; rfl
  have hg : (cut 0 b)[j + 1]? = (cut (i + (nx (b.drop i)).2.1) (b.drop (i + (nx (b.drop i)).2.1)))[0]? := by rw [← hd2, List.getElem?_drop, Nat.add_zero]
  unfold fromOf
  rw [hg]
  rcases Nat.lt_or_eq_of_le hk.2.1 with hlt | heq
  · rw [cut_drop hlt]; rfl
  · rw [heq, List.drop_length, cut_nil]; rfl

set_option maxRecDepth 10000 in
theorem utfCuts_pure (b : List Nat) (hb : Octs b) : Pure Try.prog 8 [.sl 5 (octs b) none] [] (.lit (.bool true)) := by
  refine pure0 Try.func8 c8 n8 e8 r8 (by simp) rfl ?_
  simp only [a8, astart, argSlots, go_sem, Nat.reduceAdd, Nat.reduceEqDiff, Nat.reduceLT, reduceIte, reduceCtorEq, Nat.reduceBEq, Int.reduceLT, Int.reduceToNat, Int.reducePow, Nat.reduceLeDiff, Int.reduceLE, Nat.reduceMul, Nat.reduceSub]
  refine cGo_split (fun h1 => ?_) (fun h1 => ?_)
  · simp only [go_sem, Nat.reduceAdd, Nat.reduceEqDiff, Nat.reduceLT, reduceIte, reduceCtorEq, Nat.reduceBEq, Int.reduceLT, Int.reduceToNat, Int.reducePow, Nat.reduceLeDiff, Int.reduceLE, Nat.reduceMul, Nat.reduceSub]
    refine callGo_pure awake01_pure (by rfl) ?_
    simp only [go_sem, Nat.reduceAdd, Nat.reduceEqDiff, Nat.reduceLT, reduceIte, reduceCtorEq, Nat.reduceBEq, Int.reduceLT, Int.reduceToNat, Int.reducePow, Nat.reduceLeDiff, Int.reduceLE, Nat.reduceMul, Nat.reduceSub]
    simp only [Done, resAV, resL, resOne, look_nil, look_cons, Nat.reduceEqDiff, if_true, if_false, reduceIte, ite_true, ite_false, Nat.zero_ne_one, Nat.one_ne_zero, reduceCtorEq, true_or, or_true, true_and, Option.some.injEq, AV.lit.injEq, Value.int.injEq, Value.bool.injEq]
  simp only [decide_eq_false_iff_not] at h1
  simp only [go_sem, Nat.reduceAdd, Nat.reduceEqDiff, Nat.reduceLT, reduceIte, reduceCtorEq, Nat.reduceBEq, Int.reduceLT, Int.reduceToNat, Int.reducePow, Nat.reduceLeDiff, Int.reduceLE, Nat.reduceMul, Nat.reduceSub]
  refine callGo_pure (codes_pure b hb.2 (by omega)) (by rfl) ?_
  simp only [go_sem, Nat.reduceAdd, Nat.reduceEqDiff, Nat.reduceLT, reduceIte, reduceCtorEq, Nat.reduceBEq, Int.reduceLT, Int.reduceToNat, Int.reducePow, Nat.reduceLeDiff, Int.reduceLE, Nat.reduceMul, Nat.reduceSub, codesC_length]
  have hcl := cut_length 0 b
  refine loop_to (cut 0 b).length (fun j => ⟨[(0, some (.sl 5 (octs b) none)), (3, some (.lit (.int .i64 (fromOf b j : Int)))), (12, some (.sl 27 (codesC (cut 0 b)) none)), (13, some (.lit (.int .i64 ((cut 0 b).length : Int)))), (14, some (.lit (.int .i64 (j : Int))))], [], [], 0⟩)
    (fun _ => True) ((weak_untip 12 (by simp only [go_sem, Nat.reduceAdd, Nat.reduceEqDiff, Nat.reduceLT, reduceIte, reduceCtorEq, Nat.reduceBEq, Int.reduceLT, Int.reduceToNat, Int.reducePow, Nat.reduceLeDiff, Int.reduceLE, Nat.reduceMul, Nat.reduceSub]; rfl)).trans (weak_by [] List.nodup_nil rfl ?_ trivial trivial (by simp))) trivial ?_ ?_
  · simp only [go_sem, Nat.reduceAdd, Nat.reduceEqDiff, Nat.reduceLT, reduceIte, reduceCtorEq, Nat.reduceBEq, Int.reduceLT, Int.reduceToNat, Int.reducePow, Nat.reduceLeDiff, Int.reduceLE, Nat.reduceMul, Nat.reduceSub, slotsBy, boxesBy, tipsBy, rawAt, nm, AV.ren, AV.renL, AV.under, AV.underL, List.all_nil, List.all_cons, bne_self_eq_false, List.getD_cons_zero, List.getD_cons_succ, List.length_nil, List.length_cons, and_true, true_and, Int.natCast_zero, fromOf_zero]
  · intro j hj _
    obtain ⟨i, hi, hx, he⟩ := cut_at hj
    have hnext := fromOf_next hi he hj
    have hfrom : fromOf b j = i := by
      unfold fromOf
      rw [List.getElem?_eq_getElem hj, hx]
    have hg := codesC_get (cut 0 b) j hj
    rw [hx] at hg
    have hk := nx_drop hi
    have hown := cut_own hi
    have hval : validL ((b.drop i).take (nx (b.drop i)).2.1) = (nx (b.drop i)).2.2 := by simp only [validL, hown, List.all_cons, List.all_nil, Bool.and_true]
    have hoct : ∀ n ∈ (b.drop i).take (nx (b.drop i)).2.1, n ≤ 255 := fun n hn => hb.2 n (List.mem_of_mem_drop (List.mem_of_mem_take hn))
    have hsc : scalarB (((nx (b.drop i)).1 : Nat) : Int) = true := by
      refine scalar_B ?_
      rw [List.drop_eq_getElem_cons hi]
      exact nx_scalar fun n hn => hb.2 n (by rw [← List.drop_eq_getElem_cons hi] at hn; exact List.mem_of_mem_drop hn)
    have hfl := nx_fail (c := b[i]) (t := b.drop (i + 1))
    rw [← List.drop_eq_getElem_cons hi] at hfl
    have hcodes := codesAt_pure ((b.drop i).take (nx (b.drop i)).2.1) [((nx (b.drop i)).1, 0, (nx (b.drop i)).2.1)] hoct (by simp only [List.length_take, List.length_drop]; omega) (by rw [hown]; rfl)
    have hvp := valid_pure ((b.drop i).take (nx (b.drop i)).2.1) hoct (by simp only [List.length_take, List.length_drop]; omega)
    rw [hval] at hvp
    have htk : ((octs b).take (i + (nx (b.drop i)).2.1)).drop i = octs ((b.drop i).take (nx (b.drop i)).2.1) := by
      rw [octs_take, octs_drop, List.drop_take]
      congr 1
      simp
    simp only [hfrom, hnext]
    clear hnext he hx hown hval
    generalize nx (b.drop i) = z at hk hg hfl hcodes hvp hsc htk ⊢
    have b1 : (((i : Nat) : Int) != ((i : Nat) : Int)) = false := by simp
    have b2 : decide (((i + z.2.1 : Nat) : Int) ≤ ((i : Nat) : Int)) = false := by simp only [decide_eq_false_iff_not]; omega
    have b3 : decide (((i + z.2.1 : Nat) : Int) > (b.length : Int)) = false := by simp only [decide_eq_false_iff_not]; omega
    have hsub : IntKind.i64.wrap (((i + z.2.1 : Nat) : Int) - (i : Int)) = (z.2.1 : Nat) := by rw [wrap_i64 _ (by omega) (by omega)]; omega
    have b4 : decide (((z.2.1 : Nat) : Int) > 4) = false := by simp only [decide_eq_false_iff_not]; omega
    have b5 : decide (((z.2.1 : Nat) : Int) > 3) = true → z.2.2 = true := by
      intro h
      simp only [decide_eq_true_eq] at h
      cases h2 : z.2.2 with
      | true => rfl
      | false => have := (hfl h2).2.1; omega
    have hsl : (if i ≤ i + z.2.1 ∧ i + z.2.1 ≤ b.length then some (i, i + z.2.1) else none : Option (Nat × Nat)) = some (i, i + z.2.1) := if_pos ⟨by omega, hk.2.1⟩
    simp only [dec_lt hj, hg, b1, b2, b3, hsub, b4, allOne, AV.one, Nat.le_refl, go_sem, Nat.reduceAdd, Nat.reduceEqDiff, Nat.reduceLT, reduceIte, reduceCtorEq, Nat.reduceBEq, Int.reduceLT, Int.reduceToNat, Int.reducePow, Nat.reduceLeDiff, Int.reduceLE, Nat.reduceMul, Nat.reduceSub]
    refine callGo_pure (scalar_pure _) (by rfl) ?_
    simp only [hsc, hsl, htk, go_sem, Nat.reduceAdd, Nat.reduceEqDiff, Nat.reduceLT, reduceIte, reduceCtorEq, Nat.reduceBEq, Int.reduceLT, Int.reduceToNat, Int.reducePow, Nat.reduceLeDiff, Int.reduceLE, Nat.reduceMul, Nat.reduceSub]
    refine callGo_pure hcodes (by rfl) ?_
    have g0 : (codesT [(z.1, 0, z.2.1)])[0]? = some [.int .i32 ((z.1 : Nat) : Int), .int .i64 0, .int .i64 ((z.2.1 : Nat) : Int)] := rfl
    have c1 : ((((1 : Nat)) : Int) != 1) = false := rfl
    have c2 : (((z.1 : Nat) : Int) != ((z.1 : Nat) : Int)) = false := by simp
    have c3 : (((z.2.1 : Nat) : Int) != ((z.2.1 : Nat) : Int)) = false := by simp
    simp only [codesT_length, g0, c1, c2, c3, hsub, hsl, htk, Int.reduceLE, Int.reduceToNat, go_sem, Nat.reduceAdd, Nat.reduceEqDiff, Nat.reduceLT, reduceIte, reduceCtorEq, Nat.reduceBEq, Int.reduceLT, Int.reduceToNat, Int.reducePow, Nat.reduceLeDiff, Int.reduceLE, Nat.reduceMul, Nat.reduceSub]
    refine callGo_pure hvp (by rfl) ?_
    cases hz : z.2.2 with
    | true =>
      simp only [go_sem, Nat.reduceAdd, Nat.reduceEqDiff, Nat.reduceLT, reduceIte, reduceCtorEq, Nat.reduceBEq, Int.reduceLT, Int.reduceToNat, Int.reducePow, Nat.reduceLeDiff, Int.reduceLE, Nat.reduceMul, Nat.reduceSub]
      simp (disch := omega) only [wrap_i64]
      refine weak_by [] List.nodup_nil rfl ?_ trivial trivial (by simp)
      simp only [go_sem, Nat.reduceAdd, Nat.reduceEqDiff, Nat.reduceLT, reduceIte, reduceCtorEq, Nat.reduceBEq, Int.reduceLT, Int.reduceToNat, Int.reducePow, Nat.reduceLeDiff, Int.reduceLE, Nat.reduceMul, Nat.reduceSub, slotsBy, boxesBy, tipsBy, rawAt, nm, AV.ren, AV.renL, AV.under, AV.underL, List.all_nil, List.all_cons, bne_self_eq_false, List.getD_cons_zero, List.getD_cons_succ, List.length_nil, List.length_cons, and_true, true_and, Int.natCast_add, Int.natCast_one]
    | false =>
      have hf := hfl hz
      have b6 : (((z.1 : Nat) : Int) != 65533) = false := by rw [hf.1]; rfl
      have b7 : decide (((z.2.1 : Nat) : Int) > 3) = false := by simp only [decide_eq_false_iff_not]; omega
      simp only [b6, b7, hsub, go_sem, Nat.reduceAdd, Nat.reduceEqDiff, Nat.reduceLT, reduceIte, reduceCtorEq, Nat.reduceBEq, Int.reduceLT, Int.reduceToNat, Int.reducePow, Nat.reduceLeDiff, Int.reduceLE, Nat.reduceMul, Nat.reduceSub]
      simp (disch := omega) only [wrap_i64]
      refine weak_by [] List.nodup_nil rfl ?_ trivial trivial (by simp)
      simp only [go_sem, Nat.reduceAdd, Nat.reduceEqDiff, Nat.reduceLT, reduceIte, reduceCtorEq, Nat.reduceBEq, Int.reduceLT, Int.reduceToNat, Int.reducePow, Nat.reduceLeDiff, Int.reduceLE, Nat.reduceMul, Nat.reduceSub, slotsBy, boxesBy, tipsBy, rawAt, nm, AV.ren, AV.renL, AV.under, AV.underL, List.all_nil, List.all_cons, bne_self_eq_false, List.getD_cons_zero, List.getD_cons_succ, List.length_nil, List.length_cons, and_true, true_and, Int.natCast_add, Int.natCast_one]
  · intro _
    have hend : fromOf b (cut 0 b).length = b.length := by unfold fromOf; rw [List.getElem?_eq_none (Nat.le_refl _)]
    simp only [dec_irr, hend, beq_self_eq_true, go_sem, Nat.reduceAdd, Nat.reduceEqDiff, Nat.reduceLT, reduceIte, reduceCtorEq, Nat.reduceBEq, Int.reduceLT, Int.reduceToNat, Int.reducePow, Nat.reduceLeDiff, Int.reduceLE, Nat.reduceMul, Nat.reduceSub]
    refine callGo_pure awake01_pure (by rfl) ?_
    simp only [go_sem, Nat.reduceAdd, Nat.reduceEqDiff, Nat.reduceLT, reduceIte, reduceCtorEq, Nat.reduceBEq, Int.reduceLT, Int.reduceToNat, Int.reducePow, Nat.reduceLeDiff, Int.reduceLE, Nat.reduceMul, Nat.reduceSub]
    simp only [Done, resAV, resL, resOne, look_nil, look_cons, Nat.reduceEqDiff, if_true, if_false, reduceIte, ite_true, ite_false, Nat.zero_ne_one, Nat.one_ne_zero, reduceCtorEq, true_or, or_true, true_and, Option.some.injEq, AV.lit.injEq, Value.int.injEq, Value.bool.injEq]

theorem utfCuts_any (avs : List AV) (h : Args Try.prog Try.f8.params.toList avs) : Pure Try.prog 8 avs [] (.lit (.bool true)) := by
  have hp : Try.f8.params.toList = [22] := by kernel_rfl
  rw [hp] at h
  obtain ⟨av0, rest0, rfl, a0, rfl⟩ := h
  obtain ⟨z0, rfl, w0, s0⟩ := arg_ints (e := 5) (k := .u8) (by kernel_rfl) (by kernel_rfl) a0
  rw [show Try.prog.bytesOf 5 = 1 from by kernel_rfl] at s0
  obtain ⟨y0, e0, v0, k0⟩ := octs_of z0 (fun n hn => by simpa [Lit.wf, IntKind.min, IntKind.max, IntKind.signed, IntKind.bits] using w0 n hn)
  rw [e0]
  exact utfCuts_pure y0 ⟨by omega, v0⟩

set_option maxRecDepth 100000 in
theorem utfCuts_lifted (os : Os) (started : os.Started) (H : Type) (enc : TypeId × Value → H) :
    ReturnsInHanded {} Try.checked os 8 .any (Rows.utfCutsSpec.pre6 enc Try.prog Try.f8 Rows.utfCutsRow.domain false) (Rows.utfCutsSpec.post enc Try.prog Try.f8 false true false false) := by
  refine law_returns (C := Try.checked) (tb := 4) (by kernel_rfl) started (by kernel_rfl) Try.func8
    (ChangeSpec.witness6 (enc := enc) (C := Try.checked) false ⟨#[], #[.slice none 0 0], []⟩ 8 (by kernel_rfl) (by kernel_rfl) (by kernel_rfl) (by kernel_rfl))
    (by kernel_rfl) (by kernel_rfl) rfl rfl (by kernel_rfl) (by kernel_rfl) ?_ utfCuts_any
  intro ds hds
  have hp : Try.f8.params.toList = [22] := by kernel_rfl
  rw [hp] at hds
  match ds, hds with
  | [d0], _ => exact ⟨rfl, rfl, rfl⟩

theorem utfCuts_holds : Rows.UtfCutsSaid :=
  OpenClaim.holds_of_wide 8 Try.f8 rfl rfl rfl rfl rfl rfl rfl ⟨rfl, rfl, rfl, rfl, rfl⟩ rfl rfl rfl rfl rfl (by kernel_rfl) Try.func8 (by kernel_rfl)
    (of_decide_eq_true (by kernel_rfl)) (by unfold Func.isWrapper; first | (rw [if_pos (by decide +kernel)]; kernel_rfl) | (rw [if_neg (by decide +kernel)]; exact ⟨rfl, rfl⟩))
    (fun os started H enc _ => utfCuts_lifted os started H enc)
end Go.Proofs.Ytbnaepdeakcljaa
