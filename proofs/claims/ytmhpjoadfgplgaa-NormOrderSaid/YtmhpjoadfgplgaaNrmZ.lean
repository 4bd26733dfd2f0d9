/-
Code points taken apart, as the document says. Conditions: none.
-/
import Derived.Test.YtmhpjoadfgplgaaNrmY
set_option linter.unusedSimpArgs false
set_option linter.unusedVariables false
set_option linter.unusedSectionVars false
namespace Go.Proofs.Ytmhpjoadfgplgaa
open Go Go.Ab
def a69 : ACode :=
  (.seq (.reg [⟨(.some 2), (.mv (.k (.slice .none 0 0))), .none⟩]) (.seq (.seq (.reg [⟨(.some 6), (.mv (.t 0)), .none⟩, ⟨(.some 7), (.bin .eql (.t 6) (.k (.int .i32 9001))), .none⟩]) (.cond (.t 7) (.seq
  (.reg [⟨(.some 8), (.bs 21 1 [(.k (.int .i32 12296))]), .none⟩, ⟨(.some 2), (.mv (.t 8)), .none⟩]) .ret) .skip)) (.seq (.seq (.reg [⟨(.some 9), (.mv (.t 0)), .none⟩, ⟨(.some 10), (.bin .eql (.t 9) (.k
  (.int .i32 9002))), .none⟩]) (.cond (.t 10) (.seq (.reg [⟨(.some 11), (.bs 21 1 [(.k (.int .i32 12297))]), .none⟩, ⟨(.some 2), (.mv (.t 11)), .none⟩]) .ret) .skip)) (.seq (.seq (.reg [⟨(.some 12),
  (.mv (.t 0)), .none⟩, ⟨(.some 13), (.bin .geq (.t 12) (.k (.int .i32 44032))), .none⟩, ⟨(.some 14), (.mv (.t 13)), .none⟩, ⟨(.some 15), (.mv (.t 0)), (.some (14, true))⟩, ⟨(.some 16), (.bin .leq (.t
  15) (.k (.int .i32 55203))), (.some (14, true))⟩, ⟨(.some 17), (.pick (.t 14) (.t 16) (.k (.bool false))), .none⟩]) (.cond (.t 17) (.seq (.reg [⟨(.some 18), (.mv (.t 0)), .none⟩, ⟨(.some 19), (.bin
  .sub (.t 18) (.k (.int .i32 44032))), .none⟩, ⟨(.some 3), (.mv (.t 19)), .none⟩]) (.seq (.seq (.reg [⟨(.some 20), (.mv (.t 3)), .none⟩, ⟨(.some 21), (.bin .rem (.t 20) (.k (.int .i32 28))), .none⟩,
  ⟨(.some 22), (.bin .gtr (.t 21) (.k (.int .i32 0))), .none⟩]) (.cond (.t 22) (.seq (.reg [⟨(.some 23), (.mv (.t 0)), .none⟩, ⟨(.some 24), (.mv (.t 3)), .none⟩, ⟨(.some 25), (.bin .rem (.t 24) (.k
  (.int .i32 28))), .none⟩, ⟨(.some 26), (.bin .sub (.t 23) (.t 25)), .none⟩, ⟨(.some 27), (.mv (.t 3)), .none⟩, ⟨(.some 28), (.bin .rem (.t 27) (.k (.int .i32 28))), .none⟩, ⟨(.some 29), (.bin .add (.k
  (.int .i32 4519)) (.t 28)), .none⟩, ⟨(.some 30), (.bs 21 1 [(.t 26), (.t 29)]), .none⟩, ⟨(.some 2), (.mv (.t 30)), .none⟩]) .ret) .skip)) (.seq (.reg [⟨(.some 31), (.mv (.t 3)), .none⟩, ⟨(.some 32),
  (.bin .quo (.t 31) (.k (.int .i32 588))), .none⟩, ⟨(.some 33), (.bin .add (.k (.int .i32 4352)) (.t 32)), .none⟩, ⟨(.some 34), (.mv (.t 3)), .none⟩, ⟨(.some 35), (.bin .quo (.t 34) (.k (.int .i32
  28))), .none⟩, ⟨(.some 36), (.bin .rem (.t 35) (.k (.int .i32 21))), .none⟩, ⟨(.some 37), (.bin .add (.k (.int .i32 4449)) (.t 36)), .none⟩, ⟨(.some 38), (.bs 21 1 [(.t 33), (.t 37)]), .none⟩, ⟨(.some
  2), (.mv (.t 38)), .none⟩]) .ret))) .skip)) (.seq (.reg [⟨(.some 39), (.call (.f 68) []), .none⟩, ⟨(.some 4), (.mv (.t 39)), .none⟩]) (.seq (.seq (.reg [⟨(.some 5), (.mv (.k (.int .i64 0))), .none⟩])
  (.block 0 (.loop (.seq (.seq (.reg [⟨(.some 40), (.mv (.t 5)), .none⟩, ⟨(.some 41), (.mv (.t 4)), .none⟩, ⟨(.some 42), (.len (.t 41)), .none⟩, ⟨(.some 43), (.bin .lss (.t 40) (.t 42)), .none⟩]) (.cond
  (.t 43) .skip (.exit 0))) (.seq (.block 1 (.seq (.reg [⟨(.some 46), (.mv (.t 4)), .none⟩, ⟨(.some 47), (.mv (.t 5)), .none⟩, ⟨(.some 48), (.ia 93 (.t 46) (.t 47)), .none⟩, ⟨(.some 49), (.iaA 3 1 (.t
  48) (.k (.int .i64 0))), .none⟩, ⟨(.some 50), (.ld .none (.t 49)), .none⟩, ⟨(.some 51), (.mv (.t 0)), .none⟩, ⟨(.some 52), (.bin .eql (.t 50) (.t 51)), .none⟩]) (.cond (.t 52) (.seq (.dreg [⟨(.some
  53), (.mv (.t 4)), .none⟩, ⟨(.some 54), (.mv (.t 5)), .none⟩, ⟨(.some 55), (.ia 93 (.t 53) (.t 54)), .none⟩, ⟨(.some 56), (.iaA 3 1 (.t 55) (.k (.int .i64 1))), .none⟩, ⟨(.some 57), (.ld .none (.t
  56)), .none⟩, ⟨(.some 58), (.mv (.t 4)), .none⟩, ⟨(.some 59), (.mv (.t 5)), .none⟩, ⟨(.some 60), (.ia 93 (.t 58) (.t 59)), .none⟩, ⟨(.some 61), (.iaA 3 1 (.t 60) (.k (.int .i64 2))), .none⟩, ⟨(.some
  62), (.ld .none (.t 61)), .none⟩, ⟨(.some 63), (.bs 21 1 [(.t 57), (.t 62)]), .none⟩, ⟨(.some 2), (.mv (.t 63)), .none⟩]) .ret) .skip))) (.reg [⟨(.some 44), (.mv (.t 5)), .none⟩, ⟨(.some 45), (.bin
  .add (.t 44) (.k (.int .i64 1))), .none⟩, ⟨(.some 5), (.mv (.t 45)), .none⟩])))))) (.seq (.reg [⟨(.some 2), (.mv (.k (.slice .none 0 0))), .none⟩]) .ret)))))))
theorem c69 : Try.f69.body.bind (cCode Try.prog 64) = some a69 := by kernel_rfl
theorem r69 : Try.f69.results.toList = [(.tmp 2)] := by kernel_rfl
theorem n69 : Try.f69.ntmps = 64 := by kernel_rfl
theorem e69 : Enters Try.prog 69 := enters_of Try.func69 (by kernel_rfl) (by kernel_rfl)
def a31 : ACode :=
  (.seq (.reg [⟨(.some 2), (.mv (.k (.slice .none 0 0))), .none⟩]) (.seq (.reg [⟨(.some 5), (.mv (.t 0)), .none⟩, ⟨(.some 6), (.call (.f 69) [(.t 5)]), .none⟩, ⟨(.some 3), (.mv (.t 6)), .none⟩]) (.seq
  (.seq (.reg [⟨(.some 7), (.mv (.t 3)), .none⟩, ⟨(.some 8), (.len (.t 7)), .none⟩, ⟨(.some 9), (.bin .eql (.t 8) (.k (.int .i64 0))), .none⟩]) (.cond (.t 9) (.seq (.reg [⟨(.some 10), (.mv (.t 0)),
  .none⟩, ⟨(.some 11), (.bs 21 1 [(.t 10)]), .none⟩, ⟨(.some 2), (.mv (.t 11)), .none⟩]) .ret) .skip)) (.seq (.reg [⟨(.some 12), (.mv (.t 3)), .none⟩, ⟨(.some 13), (.ia 21 (.t 12) (.k (.int .i64 0))),
  .none⟩, ⟨(.some 14), (.ld .none (.t 13)), .none⟩, ⟨(.some 15), (.call (.f 31) [(.t 14)]), .none⟩, ⟨(.some 4), (.mv (.t 15)), .none⟩]) (.seq (.seq (.reg [⟨(.some 16), (.mv (.t 3)), .none⟩, ⟨(.some 17),
  (.len (.t 16)), .none⟩, ⟨(.some 18), (.bin .eql (.t 17) (.k (.int .i64 2))), .none⟩]) (.cond (.t 18) (.reg [⟨(.some 19), (.mv (.t 4)), .none⟩, ⟨(.some 20), (.mv (.t 3)), .none⟩, ⟨(.some 21), (.ia 21
  (.t 20) (.k (.int .i64 1))), .none⟩, ⟨(.some 22), (.ld .none (.t 21)), .none⟩, ⟨(.some 23), (.bs 21 1 [(.t 22)]), .none⟩, ⟨(.some 24), (.app 21 4 (.t 19) (.t 23)), .none⟩, ⟨(.some 4), (.mv (.t 24)),
  .none⟩]) .skip)) (.seq (.reg [⟨(.some 25), (.mv (.t 4)), .none⟩, ⟨(.some 2), (.mv (.t 25)), .none⟩]) .ret))))))
theorem c31 : Try.f31.body.bind (cCode Try.prog 26) = some a31 := by kernel_rfl
theorem r31 : Try.f31.results.toList = [(.tmp 2)] := by kernel_rfl
theorem n31 : Try.f31.ntmps = 26 := by kernel_rfl
theorem e31 : Enters Try.prog 31 := enters_of Try.func31 (by kernel_rfl) (by kernel_rfl)

theorem isSyl_iff (r : Int) : isSyl r = true ↔ 44032 ≤ r ∧ r ≤ 55203 := by unfold isSyl; simp
theorem rowOf_some {r : Int} {i : Nat} (hi : i < T.length) (h : ∀ (j : Nat) (h : j < T.length), j < i → T[j].1 ≠ r) (he : T[i].1 = r) : rowOf r = some i := by
  rw [rowOf, List.findIdx?_eq_some_iff_getElem]
  exact ⟨hi, by simpa using he, fun j hj => by simpa using h j (by omega) hj⟩
theorem rowOf_none {r : Int} (h : ∀ (j : Nat) (h : j < T.length), j < T.length → T[j].1 ≠ r) : rowOf r = none := by
  rw [rowOf, List.findIdx?_eq_none_iff]
  intro p hp'
  obtain ⟨j, hj, rfl⟩ := List.mem_iff_getElem.1 hp'
  simpa using h j hj hj

set_option maxRecDepth 10000 in
theorem refStep_none {r : Int} (h1 : r ≠ 9001) (h2 : r ≠ 9002) (h3 : isSyl r = false) (h4 : rowOf r = none) : Pure Try.prog 69 [.lit (.int .i32 r)] [] (.lit (.slice none 0 0)) := by
  refine pure0 Try.func69 c69 n69 e69 r69 (by simp) rfl ?_
  have hT := T_len
  have b1 : (r == 9001) = false := by simp [h1]
  have b2 : (r == 9002) = false := by simp [h2]
  have hs : ¬(44032 ≤ r ∧ r ≤ 55203) := fun h => by rw [(isSyl_iff r).2 h] at h3; cases h3
  have hor : decide (r ≥ 44032) = false ∨ (decide (r ≥ 44032) = true ∧ decide (r ≤ 55203) = false) := by
    simp only [decide_eq_true_eq, decide_eq_false_iff_not]; omega
  rcases hor with e1 | ⟨e1, e2⟩
  all_goals
    simp only [a69, astart, argSlots, b1, b2, e1, go_sem, Nat.reduceAdd, Nat.reduceEqDiff, Nat.reduceLT, reduceIte, reduceCtorEq, Nat.reduceBEq, Int.reduceLT, Int.reduceToNat, Int.reducePow, Nat.reduceLeDiff, Int.reduceLE, Nat.reduceMul, Nat.reduceSub]
    try simp only [e2, go_sem, Nat.reduceAdd, Nat.reduceEqDiff, Nat.reduceLT, reduceIte, reduceCtorEq, Nat.reduceBEq, Int.reduceLT, Int.reduceToNat, Int.reducePow, Nat.reduceLeDiff, Int.reduceLE, Nat.reduceMul, Nat.reduceSub]
    refine callGo_pure refPairs_pure (by rfl) ?_
    simp only [go_sem, Nat.reduceAdd, Nat.reduceEqDiff, Nat.reduceLT, reduceIte, reduceCtorEq, Nat.reduceBEq, Int.reduceLT, Int.reduceToNat, Int.reducePow, Nat.reduceLeDiff, Int.reduceLE, Nat.reduceMul, Nat.reduceSub]
    refine loop_to T.length (fun i => ⟨[(0, some (.lit (.int .i32 r))), (4, some (.sl 93 pT none)), (5, some (.lit (.int .i64 (i : Int))))], [], [], 1⟩)
      (fun i => ∀ (j : Nat) (h : j < T.length), j < i → T[j].1 ≠ r) ((weak_untip 4 rfl).trans (weak_forget ?_ (List.Sublist.refl _) (List.nil_sublist _))) (fun j _ hj => by omega) ?_ ?_
    · simp only [go_sem, Nat.reduceAdd, Nat.reduceEqDiff, Nat.reduceLT, reduceIte, reduceCtorEq, Nat.reduceBEq, Int.reduceLT, Int.reduceToNat, Int.reducePow, Nat.reduceLeDiff, Int.reduceLE, Nat.reduceMul, Nat.reduceSub, slotsSub, Int.natCast_zero]
    · intro i hi hp
      have hne : T[i].1 ≠ r := fun he => by rw [rowOf_some hi hp he] at h4; cases h4
      have e3 : (T[i].1 == r) = false := by simp [hne]
      have w : IntKind.i64.wrap ((i : Int) + 1) = ((i + 1 : Nat) : Int) := by rw [wrap_i64 _ (by omega) (by omega)]; omega
      simp only [dec_lt hi, pT_length, hi, pT_get hi, tri, e3, w, go_sem, Nat.reduceAdd, Nat.reduceEqDiff, Nat.reduceLT, reduceIte, reduceCtorEq, Nat.reduceBEq, Int.reduceLT, Int.reduceToNat, Int.reducePow, Nat.reduceLeDiff, Int.reduceLE, Nat.reduceMul, Nat.reduceSub]
      refine ⟨weak_forget ?_ (List.Sublist.refl _) (List.Sublist.refl _), fun j h hj => ?_⟩
      · simp only [go_sem, Nat.reduceAdd, Nat.reduceEqDiff, Nat.reduceLT, reduceIte, reduceCtorEq, Nat.reduceBEq, Int.reduceLT, Int.reduceToNat, Int.reducePow, Nat.reduceLeDiff, Int.reduceLE, Nat.reduceMul, Nat.reduceSub, slotsSub]
      · rcases Nat.lt_succ_iff_lt_or_eq.1 hj with hj | hj
        · exact hp j h hj
        · subst hj; exact hne
    · intro hp
      simp only [dec_irr, pT_length, go_sem, Nat.reduceAdd, Nat.reduceEqDiff, Nat.reduceLT, reduceIte, reduceCtorEq, Nat.reduceBEq, Int.reduceLT, Int.reduceToNat, Int.reducePow, Nat.reduceLeDiff, Int.reduceLE, Nat.reduceMul, Nat.reduceSub]
      simp only [Done, resAV, resL, resOne, look_nil, look_cons, Nat.reduceEqDiff, if_true, if_false, reduceIte, ite_true, ite_false, Nat.zero_ne_one, Nat.one_ne_zero, reduceCtorEq, true_or, or_true, true_and, Option.some.injEq, AV.lit.injEq, Value.int.injEq, Value.bool.injEq]

/-- What a code point is made of, one step down. -/
def stepL (r : Int) : List Int := if r = 9001 then [12296] else if r = 9002 then [12297] else if isSyl r = true then (if (r - 44032) % 28 > 0 then [r - (r - 44032) % 28, 4519 + (r - 44032) % 28] else [4352 + (r - 44032) / 588, 4449 + (r - 44032) / 28 % 21]) else match rowOf r with
  | some i => [(T.getD i (0, 0, 0)).2.1, (T.getD i (0, 0, 0)).2.2]
  | none => []

set_option maxRecDepth 10000 in
theorem refStep_row {r : Int} (hr : -2147483648 ≤ r ∧ r ≤ 2147483647) (h0 : stepL r ≠ []) : Pure Try.prog 69 [.lit (.int .i32 r)] [21] (rS (stepL r) (some 0)) := by
  refine pure1 Try.func69 c69 n69 e69 r69 (by simp) ?_
  have hT := T_len
  by_cases h1 : r = 9001
  · subst h1
    have b1 : ((9001 : Int) == 9001) = true := rfl
    simp only [a69, astart, argSlots, b1, go_sem, Nat.reduceAdd, Nat.reduceEqDiff, Nat.reduceLT, reduceIte, reduceCtorEq, Nat.reduceBEq, Int.reduceLT, Int.reduceToNat, Int.reducePow, Nat.reduceLeDiff, Int.reduceLE, Nat.reduceMul, Nat.reduceSub]
    exact ⟨.inr rfl, 0, by simp only [resAV, resL, resOne, go_sem, Nat.reduceAdd, Nat.reduceEqDiff, Nat.reduceLT, reduceIte, reduceCtorEq, Nat.reduceBEq, Int.reduceLT, Int.reduceToNat, Int.reducePow, Nat.reduceLeDiff, Int.reduceLE, Nat.reduceMul, Nat.reduceSub]; rfl, by simp only [go_sem, Nat.reduceAdd, Nat.reduceEqDiff, Nat.reduceLT, reduceIte, reduceCtorEq, Nat.reduceBEq, Int.reduceLT, Int.reduceToNat, Int.reducePow, Nat.reduceLeDiff, Int.reduceLE, Nat.reduceMul, Nat.reduceSub, beq_self_eq_true]⟩
  by_cases h2 : r = 9002
  · subst h2
    have b1 : ((9002 : Int) == 9001) = false := rfl
    have b2 : ((9002 : Int) == 9002) = true := rfl
    simp only [a69, astart, argSlots, b1, b2, go_sem, Nat.reduceAdd, Nat.reduceEqDiff, Nat.reduceLT, reduceIte, reduceCtorEq, Nat.reduceBEq, Int.reduceLT, Int.reduceToNat, Int.reducePow, Nat.reduceLeDiff, Int.reduceLE, Nat.reduceMul, Nat.reduceSub]
    exact ⟨.inr rfl, 0, by simp only [resAV, resL, resOne, go_sem, Nat.reduceAdd, Nat.reduceEqDiff, Nat.reduceLT, reduceIte, reduceCtorEq, Nat.reduceBEq, Int.reduceLT, Int.reduceToNat, Int.reducePow, Nat.reduceLeDiff, Int.reduceLE, Nat.reduceMul, Nat.reduceSub]; rfl, by simp only [go_sem, Nat.reduceAdd, Nat.reduceEqDiff, Nat.reduceLT, reduceIte, reduceCtorEq, Nat.reduceBEq, Int.reduceLT, Int.reduceToNat, Int.reducePow, Nat.reduceLeDiff, Int.reduceLE, Nat.reduceMul, Nat.reduceSub, beq_self_eq_true]⟩
  have b1 : (r == 9001) = false := by simp [h1]
  have b2 : (r == 9002) = false := by simp [h2]
  by_cases h3 : isSyl r = true
  · have hs := (isSyl_iff r).1 h3
    have e1 : decide (r ≥ 44032) = true := by simp only [decide_eq_true_eq]; omega
    have e2 : decide (r ≤ 55203) = true := by simp only [decide_eq_true_eq]; omega
    obtain ⟨s, hsd⟩ : ∃ s, s = r - 44032 := ⟨_, rfl⟩
    have k1 : 0 ≤ s := by omega
    have c1 : ((588 : Int) = 0) = False := by simp
    have c2 : ((28 : Int) = 0) = False := by simp
    have c3 : ((21 : Int) = 0) = False := by simp
    have w0 : IntKind.i32.wrap (r - 44032) = s := by rw [wrap_i32 _ (by omega) (by omega)]; omega
    have d1 : s.tdiv 588 = s / 588 := fdiv_nn _ _ k1 (by omega)
    have d2 : s.tdiv 28 = s / 28 := fdiv_nn _ _ k1 (by omega)
    have d3 : s.tmod 28 = s % 28 := fmod_nn _ _ k1
    have d4 : (s / 28).tmod 21 = s / 28 % 21 := fmod_nn _ _ (by omega)
    have w1 : IntKind.i32.wrap (s / 588) = s / 588 := wrap_i32 _ (by omega) (by omega)
    have w2 : IntKind.i32.wrap (s / 28) = s / 28 := wrap_i32 _ (by omega) (by omega)
    have w3 : IntKind.i32.wrap (s / 28 % 21) = s / 28 % 21 := wrap_i32 _ (by omega) (by omega)
    have w4 : IntKind.i32.wrap (s % 28) = s % 28 := wrap_i32 _ (by omega) (by omega)
    have w5 : IntKind.i32.wrap (4352 + s / 588) = 4352 + s / 588 := wrap_i32 _ (by omega) (by omega)
    have w6 : IntKind.i32.wrap (4449 + s / 28 % 21) = 4449 + s / 28 % 21 := wrap_i32 _ (by omega) (by omega)
    have w7 : IntKind.i32.wrap (4519 + s % 28) = 4519 + s % 28 := wrap_i32 _ (by omega) (by omega)
    have w8 : IntKind.i32.wrap (r - s % 28) = r - s % 28 := wrap_i32 _ (by omega) (by omega)
    have hl : stepL r = if s % 28 > 0 then [r - s % 28, 4519 + s % 28] else [4352 + s / 588, 4449 + s / 28 % 21] := by
      unfold stepL
      rw [if_neg h1, if_neg h2, if_pos h3, ← hsd]
    rw [hl]
    simp only [a69, astart, argSlots, b1, b2, e1, e2, c1, c2, c3, w0, d1, d2, d3, d4, w1, w2, w3, w4, w5, w6, w7, w8, go_sem, Nat.reduceAdd, Nat.reduceEqDiff, Nat.reduceLT, reduceIte, reduceCtorEq, Nat.reduceBEq, Int.reduceLT, Int.reduceToNat, Int.reducePow, Nat.reduceLeDiff, Int.reduceLE, Nat.reduceMul, Nat.reduceSub]
    refine cGo_split (fun h => ?_) (fun h => ?_)
    · simp only [decide_eq_true_eq] at h
      rw [if_pos h]
      simp only [c2, d3, w4, w7, w8, go_sem, Nat.reduceAdd, Nat.reduceEqDiff, Nat.reduceLT, reduceIte, reduceCtorEq, Nat.reduceBEq, Int.reduceLT, Int.reduceToNat, Int.reducePow, Nat.reduceLeDiff, Int.reduceLE, Nat.reduceMul, Nat.reduceSub]
      exact ⟨.inr rfl, 0, by simp only [resAV, resL, resOne, go_sem, Nat.reduceAdd, Nat.reduceEqDiff, Nat.reduceLT, reduceIte, reduceCtorEq, Nat.reduceBEq, Int.reduceLT, Int.reduceToNat, Int.reducePow, Nat.reduceLeDiff, Int.reduceLE, Nat.reduceMul, Nat.reduceSub]; rfl, by simp only [go_sem, Nat.reduceAdd, Nat.reduceEqDiff, Nat.reduceLT, reduceIte, reduceCtorEq, Nat.reduceBEq, Int.reduceLT, Int.reduceToNat, Int.reducePow, Nat.reduceLeDiff, Int.reduceLE, Nat.reduceMul, Nat.reduceSub, beq_self_eq_true]⟩
    · simp only [decide_eq_false_iff_not] at h
      rw [if_neg h]
      simp only [c1, c2, c3, d1, d2, d4, w1, w2, w3, w5, w6, go_sem, Nat.reduceAdd, Nat.reduceEqDiff, Nat.reduceLT, reduceIte, reduceCtorEq, Nat.reduceBEq, Int.reduceLT, Int.reduceToNat, Int.reducePow, Nat.reduceLeDiff, Int.reduceLE, Nat.reduceMul, Nat.reduceSub]
      exact ⟨.inr rfl, 0, by simp only [resAV, resL, resOne, go_sem, Nat.reduceAdd, Nat.reduceEqDiff, Nat.reduceLT, reduceIte, reduceCtorEq, Nat.reduceBEq, Int.reduceLT, Int.reduceToNat, Int.reducePow, Nat.reduceLeDiff, Int.reduceLE, Nat.reduceMul, Nat.reduceSub]; rfl, by simp only [go_sem, Nat.reduceAdd, Nat.reduceEqDiff, Nat.reduceLT, reduceIte, reduceCtorEq, Nat.reduceBEq, Int.reduceLT, Int.reduceToNat, Int.reducePow, Nat.reduceLeDiff, Int.reduceLE, Nat.reduceMul, Nat.reduceSub, beq_self_eq_true]⟩
  have hs : ¬(44032 ≤ r ∧ r ≤ 55203) := fun h => h3 ((isSyl_iff r).2 h)
  have hor : decide (r ≥ 44032) = false ∨ (decide (r ≥ 44032) = true ∧ decide (r ≤ 55203) = false) := by
    simp only [decide_eq_true_eq, decide_eq_false_iff_not]; omega
  have hl : stepL r = match rowOf r with
    | some i => [(T.getD i (0, 0, 0)).2.1, (T.getD i (0, 0, 0)).2.2]
    | none => [] := by
    unfold stepL
    rw [if_neg h1, if_neg h2, if_neg h3]
  rw [hl] at h0 ⊢
  clear hl
  rcases hor with e1 | ⟨e1, e2⟩
  all_goals
    simp only [a69, astart, argSlots, b1, b2, e1, go_sem, Nat.reduceAdd, Nat.reduceEqDiff, Nat.reduceLT, reduceIte, reduceCtorEq, Nat.reduceBEq, Int.reduceLT, Int.reduceToNat, Int.reducePow, Nat.reduceLeDiff, Int.reduceLE, Nat.reduceMul, Nat.reduceSub]
    try simp only [e2, go_sem, Nat.reduceAdd, Nat.reduceEqDiff, Nat.reduceLT, reduceIte, reduceCtorEq, Nat.reduceBEq, Int.reduceLT, Int.reduceToNat, Int.reducePow, Nat.reduceLeDiff, Int.reduceLE, Nat.reduceMul, Nat.reduceSub]
    refine callGo_pure refPairs_pure (by rfl) ?_
    simp only [go_sem, Nat.reduceAdd, Nat.reduceEqDiff, Nat.reduceLT, reduceIte, reduceCtorEq, Nat.reduceBEq, Int.reduceLT, Int.reduceToNat, Int.reducePow, Nat.reduceLeDiff, Int.reduceLE, Nat.reduceMul, Nat.reduceSub]
    refine loop_to T.length (fun i => ⟨[(0, some (.lit (.int .i32 r))), (4, some (.sl 93 pT none)), (5, some (.lit (.int .i64 (i : Int))))], [], [], 1⟩)
      (fun i => ∀ (j : Nat) (h : j < T.length), j < i → T[j].1 ≠ r) ((weak_untip 4 rfl).trans (weak_forget ?_ (List.Sublist.refl _) (List.nil_sublist _))) (fun j _ hj => by omega) ?_ ?_
    · simp only [go_sem, Nat.reduceAdd, Nat.reduceEqDiff, Nat.reduceLT, reduceIte, reduceCtorEq, Nat.reduceBEq, Int.reduceLT, Int.reduceToNat, Int.reducePow, Nat.reduceLeDiff, Int.reduceLE, Nat.reduceMul, Nat.reduceSub, slotsSub, Int.natCast_zero]
    · intro i hi hp
      simp only [dec_lt hi, pT_length, hi, pT_get hi, tri, go_sem, Nat.reduceAdd, Nat.reduceEqDiff, Nat.reduceLT, reduceIte, reduceCtorEq, Nat.reduceBEq, Int.reduceLT, Int.reduceToNat, Int.reducePow, Nat.reduceLeDiff, Int.reduceLE, Nat.reduceMul, Nat.reduceSub]
      by_cases he : T[i].1 = r
      · have e3 : (T[i].1 == r) = true := by simp [he]
        have hro := rowOf_some hi hp he
        simp only [e3, pT_length, hi, pT_get hi, tri, go_sem, Nat.reduceAdd, Nat.reduceEqDiff, Nat.reduceLT, reduceIte, reduceCtorEq, Nat.reduceBEq, Int.reduceLT, Int.reduceToNat, Int.reducePow, Nat.reduceLeDiff, Int.reduceLE, Nat.reduceMul, Nat.reduceSub]
        rw [hro]
        refine ⟨.inr rfl, 1, ?_, by simp only [go_sem, Nat.reduceAdd, Nat.reduceEqDiff, Nat.reduceLT, reduceIte, reduceCtorEq, Nat.reduceBEq, Int.reduceLT, Int.reduceToNat, Int.reducePow, Nat.reduceLeDiff, Int.reduceLE, Nat.reduceMul, Nat.reduceSub, beq_self_eq_true]⟩
        simp only [resAV, resL, resOne, List.getD_eq_getElem?_getD, List.getElem?_eq_getElem hi, Option.getD_some, rS, runes, go_sem, Nat.reduceAdd, Nat.reduceEqDiff, Nat.reduceLT, reduceIte, reduceCtorEq, Nat.reduceBEq, Int.reduceLT, Int.reduceToNat, Int.reducePow, Nat.reduceLeDiff, Int.reduceLE, Nat.reduceMul, Nat.reduceSub]
      · have e3 : (T[i].1 == r) = false := by simp [he]
        have w : IntKind.i64.wrap ((i : Int) + 1) = ((i + 1 : Nat) : Int) := by rw [wrap_i64 _ (by omega) (by omega)]; omega
        simp only [e3, w, go_sem, Nat.reduceAdd, Nat.reduceEqDiff, Nat.reduceLT, reduceIte, reduceCtorEq, Nat.reduceBEq, Int.reduceLT, Int.reduceToNat, Int.reducePow, Nat.reduceLeDiff, Int.reduceLE, Nat.reduceMul, Nat.reduceSub]
        refine ⟨weak_forget ?_ (List.Sublist.refl _) (List.Sublist.refl _), fun j h hj => ?_⟩
        · simp only [go_sem, Nat.reduceAdd, Nat.reduceEqDiff, Nat.reduceLT, reduceIte, reduceCtorEq, Nat.reduceBEq, Int.reduceLT, Int.reduceToNat, Int.reducePow, Nat.reduceLeDiff, Int.reduceLE, Nat.reduceMul, Nat.reduceSub, slotsSub]
        · rcases Nat.lt_succ_iff_lt_or_eq.1 hj with hj | hj
          · exact hp j h hj
          · subst hj; exact he
    · intro hp
      rw [rowOf_none hp] at h0
      exact absurd rfl h0

/-- One step down, and what is behind. -/
theorem stepL_split (r : Int) : (stepL r = [] ∧ splitP T r = [r] ∧ r ≠ 9001 ∧ r ≠ 9002 ∧ isSyl r = false ∧ rowOf r = none) ∨ (∃ a, stepL r = [a] ∧ splitP T r = splitP T a ∧ a ≠ r ∧ (a = 12296 ∨ a = 12297)) ∨
    ∃ a b, stepL r = [a, b] ∧ splitP T r = splitP T a ++ [b] ∧ ((isSyl r = true ∧ (isSyl a = true ∧ (a - 44032) % 28 = 0 ∧ (r - 44032) % 28 ≠ 0) ∨ (4352 ≤ a ∧ a ≤ 4607)) ∨ ∃ i, ∃ h : i < T.length, rowOf r = some i ∧ a = T[i].2.1) := by
  unfold stepL
  by_cases h1 : r = 9001
  · right; left; subst h1
    have hs : splitP T 9001 = [12296] := rfl
    exact ⟨12296, rfl, by rw [hs, split_all nf 9001 12296 (by rw [hs]; simp)], by decide, .inl rfl⟩
  by_cases h2 : r = 9002
  · right; left; subst h2
    have hs : splitP T 9002 = [12297] := rfl
    exact ⟨12297, rfl, by rw [hs, split_all nf 9002 12297 (by rw [hs]; simp)], by decide, .inr rfl⟩
  rw [if_neg h1, if_neg h2]
  by_cases h3 : isSyl r = true
  · rw [if_pos h3]
    have hs := (isSyl_iff r).1 h3
    right; right
    rw [syl_split nf hs.1 hs.2]
    by_cases h : (r - 44032) % 28 > 0
    · rw [if_pos h]
      refine ⟨_, _, rfl, ?_, .inl (.inl ⟨h3, (isSyl_iff _).2 (by omega), by omega, by omega⟩)⟩
      rw [syl_split nf (by omega) (by omega)]
      unfold sylP
      rw [if_neg (by omega), if_pos (by omega)]
      simp only [List.cons_append, List.nil_append]
      congr 1
      · omega
      · congr 1; omega
    · rw [if_neg h]
      refine ⟨_, _, rfl, ?_, .inl (.inr (by omega))⟩
      rw [split_jamo nf (by omega) (by omega)]
      unfold sylP
      rw [if_pos (by omega)]
      rfl
  · rw [if_neg h3]
    cases hr : rowOf r with
    | none =>
      left
      refine ⟨rfl, ?_, h1, h2, by simpa using h3, rfl⟩
      unfold splitP
      rw [if_neg h3, if_neg h1, if_neg h2, oneP_norow hr]
    | some i =>
      right; right
      obtain ⟨hi, ho, hi1⟩ := oneP_row hr
      simp only [List.getD_eq_getElem?_getD, List.getElem?_eq_getElem hi, Option.getD_some]
      refine ⟨_, _, rfl, ?_, .inr ⟨i, hi, rfl, rfl⟩⟩
      rw [← hi1]; exact nf.made _ (List.getElem_mem hi)

set_option maxRecDepth 10000 in
theorem refSplit_step (r : Int) (hr : -2147483648 ≤ r ∧ r ≤ 2147483647) (hrec : ∀ a l, stepL r = a :: l → Pure Try.prog 31 [.lit (.int .i32 a)] [21] (rS (splitP T a) (some 0))) :
    Pure Try.prog 31 [.lit (.int .i32 r)] [21] (rS (splitP T r) (some 0)) := by
  refine pure1 Try.func31 c31 n31 e31 r31 (by simp) ?_
  simp only [a31, astart, argSlots, go_sem, Nat.reduceAdd, Nat.reduceEqDiff, Nat.reduceLT, reduceIte, reduceCtorEq, Nat.reduceBEq, Int.reduceLT, Int.reduceToNat, Int.reducePow, Nat.reduceLeDiff, Int.reduceLE, Nat.reduceMul, Nat.reduceSub]
  rcases stepL_split r with ⟨h0, hsp, g1, g2, g3, g4⟩ | ⟨a, h0, hsp, _⟩ | ⟨a, b, h0, hsp, _⟩
  · refine callGo_pure (refStep_none g1 g2 g3 g4) (by rfl) ?_
    rw [hsp]
    simp only [beq_self_eq_true, go_sem, Nat.reduceAdd, Nat.reduceEqDiff, Nat.reduceLT, reduceIte, reduceCtorEq, Nat.reduceBEq, Int.reduceLT, Int.reduceToNat, Int.reducePow, Nat.reduceLeDiff, Int.reduceLE, Nat.reduceMul, Nat.reduceSub]
    exact ⟨.inr rfl, 0, by simp only [resAV, resL, resOne, go_sem, Nat.reduceAdd, Nat.reduceEqDiff, Nat.reduceLT, reduceIte, reduceCtorEq, Nat.reduceBEq, Int.reduceLT, Int.reduceToNat, Int.reducePow, Nat.reduceLeDiff, Int.reduceLE, Nat.reduceMul, Nat.reduceSub, rS, runes], by simp only [go_sem, Nat.reduceAdd, Nat.reduceEqDiff, Nat.reduceLT, reduceIte, reduceCtorEq, Nat.reduceBEq, Int.reduceLT, Int.reduceToNat, Int.reducePow, Nat.reduceLeDiff, Int.reduceLE, Nat.reduceMul, Nat.reduceSub, beq_self_eq_true]⟩
  · refine callGo_pure (refStep_row hr (by rw [h0]; simp)) (by rfl) ?_
    have b1 : ((1 : Int) == 0) = false := rfl
    have b2 : ((1 : Int) == 2) = false := rfl
    have hrec' := hrec a [] h0
    rw [h0, hsp]
    simp only [rS, runes, b1, b2, Int.natCast_one, go_sem, Nat.reduceAdd, Nat.reduceEqDiff, Nat.reduceLT, reduceIte, reduceCtorEq, Nat.reduceBEq, Int.reduceLT, Int.reduceToNat, Int.reducePow, Nat.reduceLeDiff, Int.reduceLE, Nat.reduceMul, Nat.reduceSub]
    refine callGo_pure hrec' (by rfl) ?_
    simp only [b2, Int.natCast_one, go_sem, Nat.reduceAdd, Nat.reduceEqDiff, Nat.reduceLT, reduceIte, reduceCtorEq, Nat.reduceBEq, Int.reduceLT, Int.reduceToNat, Int.reducePow, Nat.reduceLeDiff, Int.reduceLE, Nat.reduceMul, Nat.reduceSub]
    exact ⟨.inr rfl, 1, by simp only [resAV, resL, resOne, go_sem, Nat.reduceAdd, Nat.reduceEqDiff, Nat.reduceLT, reduceIte, reduceCtorEq, Nat.reduceBEq, Int.reduceLT, Int.reduceToNat, Int.reducePow, Nat.reduceLeDiff, Int.reduceLE, Nat.reduceMul, Nat.reduceSub, rS, runes], by simp only [go_sem, Nat.reduceAdd, Nat.reduceEqDiff, Nat.reduceLT, reduceIte, reduceCtorEq, Nat.reduceBEq, Int.reduceLT, Int.reduceToNat, Int.reducePow, Nat.reduceLeDiff, Int.reduceLE, Nat.reduceMul, Nat.reduceSub, beq_self_eq_true]⟩
  · refine callGo_pure (refStep_row hr (by rw [h0]; simp)) (by rfl) ?_
    have b1 : ((2 : Int) == 0) = false := rfl
    have b2 : ((2 : Int) == 2) = true := rfl
    have c2 : ((2 : Nat) : Int) = 2 := rfl
    have hrec' := hrec a [b] h0
    have hl := splitP_len a
    rw [h0, hsp]
    simp only [rS, runes, b1, b2, c2, Int.natCast_one, go_sem, Nat.reduceAdd, Nat.reduceEqDiff, Nat.reduceLT, reduceIte, reduceCtorEq, Nat.reduceBEq, Int.reduceLT, Int.reduceToNat, Int.reducePow, Nat.reduceLeDiff, Int.reduceLE, Nat.reduceMul, Nat.reduceSub]
    refine callGo_pure hrec' (by rfl) ?_
    simp only [b2, c2, Int.natCast_one, rS, runes, List.length_map, beq_self_eq_true, go_sem, Nat.reduceAdd, Nat.reduceEqDiff, Nat.reduceLT, reduceIte, reduceCtorEq, Nat.reduceBEq, Int.reduceLT, Int.reduceToNat, Int.reducePow, Nat.reduceLeDiff, Int.reduceLE, Nat.reduceMul, Nat.reduceSub]
    refine ⟨by omega, .inr rfl, 3, ?_, by simp only [go_sem, Nat.reduceAdd, Nat.reduceEqDiff, Nat.reduceLT, reduceIte, reduceCtorEq, Nat.reduceBEq, Int.reduceLT, Int.reduceToNat, Int.reducePow, Nat.reduceLeDiff, Int.reduceLE, Nat.reduceMul, Nat.reduceSub, beq_self_eq_true]⟩
    simp only [resAV, resL, resOne, List.map_append, go_sem, Nat.reduceAdd, Nat.reduceEqDiff, Nat.reduceLT, reduceIte, reduceCtorEq, Nat.reduceBEq, Int.reduceLT, Int.reduceToNat, Int.reducePow, Nat.reduceLeDiff, Int.reduceLE, Nat.reduceMul, Nat.reduceSub]

theorem rS0_pure {r : Int} (hr : -2147483648 ≤ r ∧ r ≤ 2147483647) (h : stepL r = []) : Pure Try.prog 31 [.lit (.int .i32 r)] [21] (rS (splitP T r) (some 0)) :=
  refSplit_step r hr fun a l hl => by rw [h] at hl; cases hl
theorem stepL_none {r : Int} (h1 : r ≠ 9001) (h2 : r ≠ 9002) (h3 : isSyl r = false) (h4 : rowOf r = none) : stepL r = [] := by
  unfold stepL
  rw [if_neg h1, if_neg h2, if_neg (by simp [h3]), h4]
theorem jamo_row {a : Int} (h1 : 4352 ≤ a) (h2 : a ≤ 4607) : rowOf a = none := by
  refine rowOf_none fun j hj _ he => ?_
  have := (nf.away _ (List.getElem_mem hj)).1.2.1
  rw [he] at this
  omega
theorem rS_jamo_pure {a : Int} (h1 : 4352 ≤ a) (h2 : a ≤ 4607) : Pure Try.prog 31 [.lit (.int .i32 a)] [21] (rS (splitP T a) (some 0)) :=
  rS0_pure (by omega) (stepL_none (by omega) (by omega) (by unfold isSyl; simp; omega) (jamo_row h1 h2))
theorem rS_low_pure {a : Int} (h : rowOf a = none) (h1 : 0 ≤ a ∧ a ≤ 1114111) (h2 : a ≠ 9001) (h3 : a ≠ 9002) (h4 : isSyl a = false) : Pure Try.prog 31 [.lit (.int .i32 a)] [21] (rS (splitP T a) (some 0)) :=
  rS0_pure (by omega) (stepL_none h2 h3 h4 h)
theorem refSplit_pure (r : Int) (hr : -2147483648 ≤ r ∧ r ≤ 2147483647) : Pure Try.prog 31 [.lit (.int .i32 r)] [21] (rS (splitP T r) (some 0)) := by
  refine refSplit_step r hr fun a l hl => ?_
  rcases stepL_split r with ⟨h0, _⟩ | ⟨a', h0, hsp, hne, ha⟩ | ⟨a', b, h0, hsp, hc⟩
  · rw [h0] at hl; cases hl
  · rw [h0] at hl
    simp only [List.cons.injEq] at hl
    obtain ⟨rfl, _⟩ := hl
    refine rS_low_pure (rowOf_none fun j hj _ he => ?_) (by omega) (by omega) (by omega) (by unfold isSyl; simp; omega)
    have := (nf.away _ (List.getElem_mem hj)).1.2.2.2.2.2
    rw [he] at this
    omega
  · rw [h0] at hl
    simp only [List.cons.injEq] at hl
    obtain ⟨rfl, _⟩ := hl
    rcases hc with (⟨g1, g2, g3, g4⟩ | ⟨g1, g2⟩) | ⟨i, hi, g1, g2⟩
    · have hs := (isSyl_iff a').1 g2
      refine refSplit_step _ (by omega) fun c l' hl' => ?_
      have : stepL a' = [4352 + (a' - 44032) / 588, 4449 + (a' - 44032) / 28 % 21] := by
        unfold stepL
        rw [if_neg (by omega), if_neg (by omega), if_pos g2, if_neg (by omega)]
      rw [this] at hl'
      simp only [List.cons.injEq] at hl'
      obtain ⟨rfl, _⟩ := hl'
      exact rS_jamo_pure (by omega) (by omega)
    · exact rS_jamo_pure g1 g2
    · have h1 := deep_at hi
      have h2 := (nf.away _ (List.getElem_mem hi)).2.1
      rw [← g2] at h1 h2
      clear g2
      obtain ⟨d1, d2, d3, d4⟩ := h1
      rcases d1 with d1 | ⟨j, hj, d1, d5⟩
      · exact rS_low_pure d1 ⟨d2.2.2.1, d2.2.2.2.1⟩ d3 d4 h2
      · refine refSplit_step _ (by omega) fun c l' hl' => ?_
        have hst : stepL a' = [T[j].2.1, T[j].2.2] := by
          unfold stepL
          rw [if_neg d3, if_neg d4, if_neg (by simp [h2]), d1]
          simp only [List.getD_eq_getElem?_getD, List.getElem?_eq_getElem hj, Option.getD_some]
        rw [hst] at hl'
        simp only [List.cons.injEq] at hl'
        have k1 := deep_at hj
        have k2 := (nf.away _ (List.getElem_mem hj)).2.1
        rw [hl'.1] at k1 k2 d5
        obtain ⟨q1, q2, q3, q4⟩ := k1
        exact rS_low_pure d5 ⟨q2.2.2.1, q2.2.2.2.1⟩ q3 q4 k2
end Go.Proofs.Ytmhpjoadfgplgaa
