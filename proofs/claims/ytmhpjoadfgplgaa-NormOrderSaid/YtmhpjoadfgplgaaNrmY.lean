/-
Code points taken apart, on both sides. Conditions: none.
-/
import Derived.Test.YtmhpjoadfgplgaaNrmX
set_option linter.unusedSimpArgs false
set_option linter.unusedVariables false
set_option linter.unusedSectionVars false
namespace Go.Proofs.Ytmhpjoadfgplgaa
open Go Go.Ab
def a59 : ACode :=
  (.seq (.reg [⟨(.some 2), (.mv (.k (.slice .none 0 0))), .none⟩, ⟨(.some 3), (.mv (.k (.bool false))), .none⟩]) (.seq (.reg [⟨(.some 7), (.mv (.t 0)), .none⟩, ⟨(.some 8), (.bin .sub (.t 7) (.k (.int
  .i32 44032))), .none⟩, ⟨(.some 4), (.mv (.t 8)), .none⟩]) (.seq (.seq (.reg [⟨(.some 9), (.mv (.t 4)), .none⟩, ⟨(.some 10), (.bin .lss (.t 9) (.k (.int .i32 0))), .none⟩, ⟨(.some 11), (.mv (.t 10)),
  .none⟩, ⟨(.some 12), (.mv (.t 4)), (.some (11, false))⟩, ⟨(.some 13), (.bin .geq (.t 12) (.k (.int .i32 11172))), (.some (11, false))⟩, ⟨(.some 14), (.pick (.t 11) (.k (.bool true)) (.t 13)), .none⟩])
  (.cond (.t 14) (.seq (.reg [⟨(.some 2), (.mv (.k (.slice .none 0 0))), .none⟩, ⟨(.some 3), (.mv (.k (.bool false))), .none⟩]) .ret) .skip)) (.seq (.reg [⟨(.some 15), (.mv (.t 4)), .none⟩, ⟨(.some 16),
  (.bin .quo (.t 15) (.k (.int .i32 588))), .none⟩, ⟨(.some 17), (.bin .add (.k (.int .i32 4352)) (.t 16)), .none⟩, ⟨(.some 18), (.mv (.t 4)), .none⟩, ⟨(.some 19), (.bin .quo (.t 18) (.k (.int .i32
  28))), .none⟩, ⟨(.some 20), (.bin .rem (.t 19) (.k (.int .i32 21))), .none⟩, ⟨(.some 21), (.bin .add (.k (.int .i32 4449)) (.t 20)), .none⟩, ⟨(.some 22), (.bs 21 1 [(.t 17), (.t 21)]), .none⟩, ⟨(.some
  5), (.mv (.t 22)), .none⟩]) (.seq (.seq (.reg [⟨(.some 23), (.mv (.t 4)), .none⟩, ⟨(.some 24), (.bin .rem (.t 23) (.k (.int .i32 28))), .none⟩, ⟨(.some 6), (.mv (.t 24)), .none⟩]) (.seq (.reg [⟨(.some
  25), (.mv (.t 6)), .none⟩, ⟨(.some 26), (.bin .gtr (.t 25) (.k (.int .i32 0))), .none⟩]) (.cond (.t 26) (.reg [⟨(.some 27), (.mv (.t 5)), .none⟩, ⟨(.some 28), (.mv (.t 6)), .none⟩, ⟨(.some 29), (.bin
  .add (.k (.int .i32 4519)) (.t 28)), .none⟩, ⟨(.some 30), (.bs 21 1 [(.t 29)]), .none⟩, ⟨(.some 31), (.app 21 4 (.t 27) (.t 30)), .none⟩, ⟨(.some 5), (.mv (.t 31)), .none⟩]) .skip))) (.seq (.reg
  [⟨(.some 32), (.mv (.t 5)), .none⟩, ⟨(.some 2), (.mv (.t 32)), .none⟩, ⟨(.some 3), (.mv (.k (.bool true))), .none⟩]) .ret))))))
theorem c59 : Try.f59.body.bind (cCode Try.prog 33) = some a59 := by kernel_rfl
theorem r59 : Try.f59.results.toList = [(.tmp 2), (.tmp 3)] := by kernel_rfl
theorem n59 : Try.f59.ntmps = 33 := by kernel_rfl
theorem e59 : Enters Try.prog 59 := enters_of Try.func59 (by kernel_rfl) (by kernel_rfl)
def a26 : ACode :=
  (.seq (.reg [⟨(.some 1), (.box 21 (.t 0)), .none⟩, ⟨(.some 2), (.mv (.k (.slice .none 0 0))), .none⟩]) (.seq (.seq (.reg [⟨(.some 8), (.ld .none (.t 1)), .none⟩, ⟨(.some 9), (.call (.f 59) [(.t 8)]),
  .none⟩, ⟨(.some 7), (.mv (.t 9)), .none⟩, ⟨(.some 10), (.ext (.t 7) 0), .none⟩, ⟨(.some 11), (.ext (.t 7) 1), .none⟩, ⟨(.some 3), (.mv (.t 10)), .none⟩, ⟨(.some 4), (.mv (.t 11)), .none⟩]) (.seq (.reg
  [⟨(.some 12), (.mv (.t 4)), .none⟩]) (.cond (.t 12) (.seq (.reg [⟨(.some 13), (.mv (.t 3)), .none⟩, ⟨(.some 2), (.mv (.t 13)), .none⟩]) .ret) .skip))) (.seq (.seq (.reg [⟨(.some 14), (.ld .none (.t
  1)), .none⟩]) (.block 0 (.seq (.seq (.reg [⟨(.some 16), (.bin .eql (.t 14) (.k (.int .i32 9001))), .none⟩, ⟨(.some 15), (.mv (.t 16)), .none⟩]) (.cond (.t 15) .skip (.reg [⟨(.some 17), (.bin .eql (.t
  14) (.k (.int .i32 9002))), .none⟩, ⟨(.some 15), (.mv (.t 17)), .none⟩]))) (.cond (.t 15) (.seq (.reg [⟨(.some 18), (.ld .none (.t 1)), .none⟩, ⟨(.some 19), (.bin .sub (.t 18) (.k (.int .i32 9001))),
  .none⟩, ⟨(.some 20), (.bin .add (.t 19) (.k (.int .i32 12296))), .none⟩, ⟨(.some 21), (.bs 21 1 [(.t 20)]), .none⟩, ⟨(.some 2), (.mv (.t 21)), .none⟩]) .ret) .skip)))) (.seq (.seq (.reg [⟨(.some 22),
  (.ld .none (.t 1)), .none⟩, ⟨(.some 23), (.bin .lss (.t 22) (.k (.int .i32 192))), .none⟩]) (.cond (.t 23) (.seq (.reg [⟨(.some 24), (.ld .none (.t 1)), .none⟩, ⟨(.some 25), (.bs 21 1 [(.t 24)]),
  .none⟩, ⟨(.some 2), (.mv (.t 25)), .none⟩]) .ret) .skip)) (.seq (.reg [⟨(.some 26), (.call (.f 60) []), .none⟩, ⟨(.some 5), (.mv (.t 26)), .none⟩]) (.seq (.seq (.reg [⟨(.some 27), (.mv (.t 5)),
  .none⟩, ⟨(.some 28), (.mkf (.func 62) [] [(.t 1)]), .none⟩, ⟨(.some 29), (.call (.f 61) [(.t 27), (.t 28)]), .none⟩, ⟨(.some 6), (.mv (.t 29)), .none⟩]) (.seq (.reg [⟨(.some 30), (.mv (.t 6)), .none⟩,
  ⟨(.some 31), (.bin .geq (.t 30) (.k (.int .i64 0))), .none⟩]) (.cond (.t 31) (.seq (.dreg [⟨(.some 32), (.mv (.t 5)), .none⟩, ⟨(.some 33), (.mv (.t 6)), .none⟩, ⟨(.some 34), (.ia 93 (.t 32) (.t 33)),
  .none⟩, ⟨(.some 35), (.iaA 3 1 (.t 34) (.k (.int .i64 1))), .none⟩, ⟨(.some 36), (.ld .none (.t 35)), .none⟩, ⟨(.some 37), (.callT (.f 26) [(.t 36)]), .none⟩, ⟨(.some 38), (.mv (.t 5)), .none⟩,
  ⟨(.some 39), (.mv (.t 6)), .none⟩, ⟨(.some 40), (.ia 93 (.t 38) (.t 39)), .none⟩, ⟨(.some 41), (.iaA 3 1 (.t 40) (.k (.int .i64 2))), .none⟩, ⟨(.some 42), (.ld .none (.t 41)), .none⟩, ⟨(.some 43),
  (.bs0 21 1 [(.t 42)]), .none⟩, ⟨(.some 44), (.app 21 4 (.t 37) (.t 43)), .none⟩, ⟨(.some 2), (.mv (.t 44)), .none⟩]) .ret) .skip))) (.seq (.reg [⟨(.some 45), (.ld .none (.t 1)), .none⟩, ⟨(.some 46),
  (.bs 21 1 [(.t 45)]), .none⟩, ⟨(.some 2), (.mv (.t 46)), .none⟩]) .ret)))))))
theorem c26 : Try.f26.body.bind (cCode Try.prog 47) = some a26 := by kernel_rfl
theorem r26 : Try.f26.results.toList = [(.tmp 2)] := by kernel_rfl
theorem n26 : Try.f26.ntmps = 47 := by kernel_rfl
theorem e26 : Enters Try.prog 26 := enters_of Try.func26 (by kernel_rfl) (by kernel_rfl)
def a62 : ACode :=
  (.seq (.reg [⟨(.some 2), (.box 93 (.t 0)), .none⟩, ⟨(.some 3), (.mv (.k (.bool false))), .none⟩]) (.seq (.reg [⟨(.some 4), (.iaA 3 1 (.t 2) (.k (.int .i64 0))), .none⟩, ⟨(.some 5), (.ld .none (.t 4)),
  .none⟩, ⟨(.some 6), (.ld .none (.t 1)), .none⟩, ⟨(.some 7), (.bin .eql (.t 5) (.t 6)), .none⟩, ⟨(.some 3), (.mv (.t 7)), .none⟩]) .ret))
theorem c62 : Try.f62.body.bind (cCode Try.prog 8) = some a62 := by kernel_rfl
theorem r62 : Try.f62.results.toList = [(.tmp 3)] := by kernel_rfl
theorem n62 : Try.f62.ntmps = 8 := by kernel_rfl
theorem e62 : Enters Try.prog 62 := enters_of Try.func62 (by kernel_rfl) (by kernel_rfl)
def a61 : ACode :=
  (.seq (.reg [⟨(.some 4), (.mv (.k (.int .i64 0))), .none⟩]) (.seq (.seq (.reg [⟨(.some 6), (.mv (.t 0)), .none⟩, ⟨(.some 7), (.len (.t 6)), .none⟩, ⟨(.some 8), (.mv (.k (.int .i64 0))), .none⟩])
  (.block 0 (.loop (.seq (.reg [⟨(.some 9), (.bin .lss (.t 8) (.t 7)), .none⟩]) (.seq (.cond (.t 9) .skip (.exit 0)) (.seq (.block 1 (.seq (.reg [⟨(.some 10), (.mv (.t 8)), .none⟩, ⟨(.some 5), (.mv (.t
  10)), .none⟩]) (.seq (.reg [⟨(.some 11), (.mv (.t 1)), .none⟩, ⟨(.some 12), (.mv (.t 0)), .none⟩, ⟨(.some 13), (.mv (.t 5)), .none⟩, ⟨(.some 14), (.ia 93 (.t 12) (.t 13)), .none⟩, ⟨(.some 15), (.ld
  (.some 3) (.t 14)), .none⟩, ⟨(.some 16), (.call (.t 11) [(.t 15)]), .none⟩]) (.cond (.t 16) (.seq (.reg [⟨(.some 17), (.mv (.t 5)), .none⟩, ⟨(.some 4), (.mv (.t 17)), .none⟩]) .ret) .skip)))) (.reg
  [⟨(.some 18), (.bin .add (.t 8) (.k (.int .i64 1))), .none⟩, ⟨(.some 8), (.mv (.t 18)), .none⟩]))))))) (.seq (.reg [⟨(.some 4), (.mv (.k (.int .i64 (-1)))), .none⟩]) .ret)))
theorem c61 : Try.f61.body.bind (cCode Try.prog 19) = some a61 := by kernel_rfl
theorem r61 : Try.f61.results.toList = [(.tmp 4)] := by kernel_rfl
theorem n61 : Try.f61.ntmps = 19 := by kernel_rfl
theorem e61 : Enters Try.prog 61 := enters_of Try.func61 (by kernel_rfl) (by kernel_rfl)

/-- The first row of the table for a code point. -/
def rowOf (r : Int) : Option Nat := T.findIdx? fun p => p.1 == r
theorem pT_get {i : Nat} (h : i < T.length) : pT[i]? = some (tri T[i]) := by rw [pT_eq]; simp [h]
theorem pT_length : pT.length = T.length := by rw [pT_eq]; simp
theorem oneP_row {r : Int} {i : Nat} (h : rowOf r = some i) : ∃ h' : i < T.length, oneP T r = some (T[i].2) ∧ T[i].1 = r := by
  rw [rowOf, List.findIdx?_eq_some_iff_getElem] at h
  obtain ⟨h1, h2, h3⟩ := h
  refine ⟨h1, ?_, by simpa using h2⟩
  unfold oneP
  have : T.find? (fun p => p.1 == r) = some T[i] := by
    rw [List.find?_eq_some_iff_getElem]
    exact ⟨h2, i, h1, rfl, fun j hj => by simpa using h3 j hj⟩
  rw [this]; rfl
theorem oneP_norow {r : Int} (h : rowOf r = none) : oneP T r = none := by
  rw [rowOf, List.findIdx?_eq_none_iff] at h
  exact oneP_none nf fun p hp => by simpa using h p hp

set_option maxRecDepth 10000 in
theorem eq3_pure (p : Int × Int × Int) (r : Int) : Pure Try.prog 62 [.ag ((tri p).map .lit), .ep [.lit (.int .i32 r)]] [] (.lit (.bool (p.1 == r))) := by
  refine pure0 Try.func62 c62 n62 e62 r62 (by simp) rfl ?_
  simp only [a62, astart, argSlots, tri, go_sem, Nat.reduceAdd, Nat.reduceEqDiff, Nat.reduceLT, reduceIte, reduceCtorEq, Nat.reduceBEq, Int.reduceLT, Int.reduceToNat, Int.reducePow, Nat.reduceLeDiff, Int.reduceLE, Nat.reduceMul, Nat.reduceSub]
  simp only [Done, resAV, resL, resOne, look_nil, look_cons, Nat.reduceEqDiff, if_true, if_false, reduceIte, ite_true, ite_false, Nat.zero_ne_one, Nat.one_ne_zero, reduceCtorEq, true_or, or_true, true_and, Option.some.injEq, AV.lit.injEq, Value.int.injEq, Value.bool.injEq]

def rowI (o : Option Nat) : Int := match o with
  | some i => (i : Int)
  | none => -1

set_option maxRecDepth 10000 in
theorem index3_pure (r : Int) : Pure Try.prog 61 [.sl 93 pT none, .fn (.func 62) [] [.ep [.lit (.int .i32 r)]]] [] (.lit (.int .i64 (rowI (rowOf r)))) := by
  refine pure0 Try.func61 c61 n61 e61 r61 (by simp) rfl ?_
  simp only [a61, astart, argSlots, pT_length, go_sem, Nat.reduceAdd, Nat.reduceEqDiff, Nat.reduceLT, reduceIte, reduceCtorEq, Nat.reduceBEq, Int.reduceLT, Int.reduceToNat, Int.reducePow, Nat.reduceLeDiff, Int.reduceLE, Nat.reduceMul, Nat.reduceSub]
  have hT := T_len
  refine loop_to T.length (fun i => ⟨[(0, some (.sl 93 pT none)), (1, some (.fn (.func 62) [] [.ep [.lit (.int .i32 r)]])), (7, some (.lit (.int .i64 (T.length : Int)))), (8, some (.lit (.int .i64 (i : Int))))], [], [], 0⟩)
    (fun i => ∀ (j : Nat) (h : j < T.length), j < i → T[j].1 ≠ r) (weak_forget ?_ (List.Sublist.refl _) (List.Sublist.refl _)) (fun j _ hj => by omega) ?_ ?_
  · simp only [go_sem, Nat.reduceAdd, Nat.reduceEqDiff, Nat.reduceLT, reduceIte, reduceCtorEq, Nat.reduceBEq, Int.reduceLT, Int.reduceToNat, Int.reducePow, Nat.reduceLeDiff, Int.reduceLE, Nat.reduceMul, Nat.reduceSub, slotsSub, Int.natCast_zero]
  · intro i hi hp
    simp only [dec_lt hi, pT_length, hi, pT_get hi, tri, go_sem, Nat.reduceAdd, Nat.reduceEqDiff, Nat.reduceLT, reduceIte, reduceCtorEq, Nat.reduceBEq, Int.reduceLT, Int.reduceToNat, Int.reducePow, Nat.reduceLeDiff, Int.reduceLE, Nat.reduceMul, Nat.reduceSub]
    refine callGo_pure (eq3_pure T[i] r) (by rfl) ?_
    simp only [go_sem, Nat.reduceAdd, Nat.reduceEqDiff, Nat.reduceLT, reduceIte, reduceCtorEq, Nat.reduceBEq, Int.reduceLT, Int.reduceToNat, Int.reducePow, Nat.reduceLeDiff, Int.reduceLE, Nat.reduceMul, Nat.reduceSub]
    by_cases he : T[i].1 = r
    · have e : (T[i].1 == r) = true := by simp [he]
      simp only [e, go_sem, Nat.reduceAdd, Nat.reduceEqDiff, Nat.reduceLT, reduceIte, reduceCtorEq, Nat.reduceBEq, Int.reduceLT, Int.reduceToNat, Int.reducePow, Nat.reduceLeDiff, Int.reduceLE, Nat.reduceMul, Nat.reduceSub]
      simp only [Done, resAV, resL, resOne, look_nil, look_cons, Nat.reduceEqDiff, if_true, if_false, reduceIte, ite_true, ite_false, Nat.zero_ne_one, Nat.one_ne_zero, reduceCtorEq, true_or, or_true, true_and, Option.some.injEq, AV.lit.injEq, Value.int.injEq, Value.bool.injEq]
      have : rowOf r = some i := by
        rw [rowOf, List.findIdx?_eq_some_iff_getElem]
        exact ⟨hi, e, fun j hj => by simpa using hp j (by omega) hj⟩
      rw [this]; rfl
    · have e : (T[i].1 == r) = false := by simp [he]
      have w : IntKind.i64.wrap ((i : Int) + 1) = ((i + 1 : Nat) : Int) := by rw [wrap_i64 _ (by omega) (by omega)]; omega
      simp only [e, w, go_sem, Nat.reduceAdd, Nat.reduceEqDiff, Nat.reduceLT, reduceIte, reduceCtorEq, Nat.reduceBEq, Int.reduceLT, Int.reduceToNat, Int.reducePow, Nat.reduceLeDiff, Int.reduceLE, Nat.reduceMul, Nat.reduceSub]
      refine ⟨weak_forget ?_ (List.Sublist.refl _) (List.Sublist.refl _), fun j h hj => ?_⟩
      · simp only [go_sem, Nat.reduceAdd, Nat.reduceEqDiff, Nat.reduceLT, reduceIte, reduceCtorEq, Nat.reduceBEq, Int.reduceLT, Int.reduceToNat, Int.reducePow, Nat.reduceLeDiff, Int.reduceLE, Nat.reduceMul, Nat.reduceSub, slotsSub]
      · rcases Nat.lt_succ_iff_lt_or_eq.1 hj with hj | hj
        · exact hp j h hj
        · subst hj; exact he
  · intro hp
    simp only [dec_irr, go_sem, Nat.reduceAdd, Nat.reduceEqDiff, Nat.reduceLT, reduceIte, reduceCtorEq, Nat.reduceBEq, Int.reduceLT, Int.reduceToNat, Int.reducePow, Nat.reduceLeDiff, Int.reduceLE, Nat.reduceMul, Nat.reduceSub]
    simp only [Done, resAV, resL, resOne, look_nil, look_cons, Nat.reduceEqDiff, if_true, if_false, reduceIte, ite_true, ite_false, Nat.zero_ne_one, Nat.one_ne_zero, reduceCtorEq, true_or, or_true, true_and, Option.some.injEq, AV.lit.injEq, Value.int.injEq, Value.bool.injEq]
    have : rowOf r = none := by
      rw [rowOf, List.findIdx?_eq_none_iff]
      intro p hp'
      obtain ⟨j, hj, rfl⟩ := List.mem_iff_getElem.1 hp'
      simpa using hp j hj hj
    rw [this]; rfl

/-- A row of code points as a value. -/
abbrev rS (l : List Int) (t : Option Nat) : AV := .sl 21 (runes l) t
theorem fdiv_nn (a b : Int) (h : 0 ≤ a) (hb : 0 < b) : a.tdiv b = a / b := Int.tdiv_eq_ediv_of_nonneg h
theorem fmod_nn (a b : Int) (h : 0 ≤ a) : a.tmod b = a % b := Int.tmod_eq_emod_of_nonneg h

theorem wrap_sub_i32 (r : Int) (hr : -2147483648 ≤ r ∧ r ≤ 2147483647) : (∃ v, IntKind.i32.wrap (r - 44032) = v ∧ ((0 ≤ r - 44032 ∧ r - 44032 < 11172 ∧ v = r - 44032) ∨ (isSyl r = false ∧ (v < 0 ∨ 11172 ≤ v)))) := by
  by_cases h : -2147483648 ≤ r - 44032
  · refine ⟨_, rfl, ?_⟩
    rw [wrap_i32 _ h (by omega)]
    by_cases h2 : 0 ≤ r - 44032 ∧ r - 44032 < 11172
    · exact .inl ⟨h2.1, h2.2, rfl⟩
    · right
      refine ⟨?_, by omega⟩
      unfold isSyl; simp; omega
  · refine ⟨_, rfl, .inr ⟨?_, ?_⟩⟩
    · unfold isSyl; simp; omega
    · right
      have : IntKind.i32.wrap (r - 44032) = r - 44032 + 4294967296 := by
        simp only [IntKind.wrap, IntKind.signed, IntKind.bits]
        simp; omega
      rw [this]; omega

theorem splitP_len (r : Int) : (splitP T r).length ≤ 3 := by
  unfold splitP
  split
  · unfold sylP; split <;> simp
  · split
    · simp
    · split
      · simp
      · split
        · simp
        · unfold deepP; split <;> simp

set_option maxRecDepth 10000 in
set_option maxHeartbeats 1000000 in
theorem Split_step (r : Int) (hr : -2147483648 ≤ r ∧ r ≤ 2147483647) (hrec : ∀ (i : Nat) (h : i < T.length), rowOf r = some i → Pure Try.prog 26 [.lit (.int .i32 T[i].2.1)] [21] (rS (splitP T T[i].2.1) (some 0))) :
    Pure Try.prog 26 [.lit (.int .i32 r)] [21] (rS (splitP T r) (some 0)) := by
  refine pure1 Try.func26 c26 n26 e26 r26 (by simp) ?_
  simp only [a26, astart, argSlots, go_sem, Nat.reduceAdd, Nat.reduceEqDiff, Nat.reduceLT, reduceIte, reduceCtorEq, Nat.reduceBEq, Int.reduceLT, Int.reduceToNat, Int.reducePow, Nat.reduceLeDiff, Int.reduceLE, Nat.reduceMul, Nat.reduceSub]
  refine callGo_walk Try.func59 c59 n59 e59 r59 (by simp) ?_
  obtain ⟨v, hv, hcase⟩ := wrap_sub_i32 r hr
  simp only [a59, astart, argSlots, hv, go_sem, Nat.reduceAdd, Nat.reduceEqDiff, Nat.reduceLT, reduceIte, reduceCtorEq, Nat.reduceBEq, Int.reduceLT, Int.reduceToNat, Int.reducePow, Nat.reduceLeDiff, Int.reduceLE, Nat.reduceMul, Nat.reduceSub]
  rcases hcase with ⟨k1, k2, rfl⟩ | ⟨hsyl, hcase⟩
  · have e1 : decide (r - 44032 < 0) = false := by simp only [decide_eq_false_iff_not]; omega
    have e2 : decide (r - 44032 ≥ 11172) = false := by simp only [decide_eq_false_iff_not]; omega
    have hsp : splitP T r = sylP (r - 44032) := syl_split nf (by omega) (by omega)
    rw [hsp]
    generalize hs : r - 44032 = s at k1 k2 hv e1 e2
    have c1 : ((588 : Int) = 0) = False := by simp
    have c2 : ((28 : Int) = 0) = False := by simp
    have c3 : ((21 : Int) = 0) = False := by simp
    have d1 : s.tdiv 588 = s / 588 := fdiv_nn _ _ k1 (by omega)
    have d2 : s.tdiv 28 = s / 28 := fdiv_nn _ _ k1 (by omega)
    have d3 : s.tmod 28 = s % 28 := fmod_nn _ _ k1
    have d4 : (s / 28).tmod 21 = s / 28 % 21 := fmod_nn _ _ (by omega)
    have w1 : IntKind.i32.wrap (s / 588) = s / 588 := wrap_i32 _ (by omega) (by omega)
    have w2 : IntKind.i32.wrap (s / 28) = s / 28 := wrap_i32 _ (by omega) (by omega)
    have w3 : IntKind.i32.wrap (s / 28 % 21) = s / 28 % 21 := wrap_i32 _ (by omega) (by omega)
    have w4 : IntKind.i32.wrap (s % 28) = s % 28 := wrap_i32 _ (by omega) (by omega)
    have w5 : IntKind.i32.wrap (4352 + s / 588) = 4352 + s / 588 := wrap_i32 _ (by omega) (by omega)
    have w6 : IntKind.i32.wrap (4449 + s / 28 % 21) = 4449 + s / 28 % 21 := wrap_i32 _ (by omega) (by omega)
    have w7 : IntKind.i32.wrap (4519 + s % 28) = 4519 + s % 28 := wrap_i32 _ (by omega) (by omega)
    simp only [e1, e2, c1, c2, c3, d1, d2, d3, d4, w1, w2, w3, w4, w5, w6, w7, go_sem, Nat.reduceAdd, Nat.reduceEqDiff, Nat.reduceLT, reduceIte, reduceCtorEq, Nat.reduceBEq, Int.reduceLT, Int.reduceToNat, Int.reducePow, Nat.reduceLeDiff, Int.reduceLE, Nat.reduceMul, Nat.reduceSub]
    refine cGo_split (fun h => ?_) (fun h => ?_)
    · simp only [decide_eq_true_eq] at h
      simp only [w7, go_sem, Nat.reduceAdd, Nat.reduceEqDiff, Nat.reduceLT, reduceIte, reduceCtorEq, Nat.reduceBEq, Int.reduceLT, Int.reduceToNat, Int.reducePow, Nat.reduceLeDiff, Int.reduceLE, Nat.reduceMul, Nat.reduceSub]
      refine ⟨.inr trivial, _, by simp only [resAV, resL, resOne, go_sem, Nat.reduceAdd, Nat.reduceEqDiff, Nat.reduceLT, reduceIte, reduceCtorEq, Nat.reduceBEq, Int.reduceLT, Int.reduceToNat, Int.reducePow, Nat.reduceLeDiff, Int.reduceLE, Nat.reduceMul, Nat.reduceSub]; rfl, ?_⟩
      have hl : sylP s = [4352 + s / 588, 4449 + s / 28 % 21, 4519 + s % 28] := by unfold sylP; rw [if_neg (by omega)]
      rw [hl]
      simp only [go_sem, Nat.reduceAdd, Nat.reduceEqDiff, Nat.reduceLT, reduceIte, reduceCtorEq, Nat.reduceBEq, Int.reduceLT, Int.reduceToNat, Int.reducePow, Nat.reduceLeDiff, Int.reduceLE, Nat.reduceMul, Nat.reduceSub]
      exact ⟨.inr rfl, 3, by simp only [resAV, resL, resOne, go_sem, Nat.reduceAdd, Nat.reduceEqDiff, Nat.reduceLT, reduceIte, reduceCtorEq, Nat.reduceBEq, Int.reduceLT, Int.reduceToNat, Int.reducePow, Nat.reduceLeDiff, Int.reduceLE, Nat.reduceMul, Nat.reduceSub, rS, runes], by simp only [go_sem, Nat.reduceAdd, Nat.reduceEqDiff, Nat.reduceLT, reduceIte, reduceCtorEq, Nat.reduceBEq, Int.reduceLT, Int.reduceToNat, Int.reducePow, Nat.reduceLeDiff, Int.reduceLE, Nat.reduceMul, Nat.reduceSub, beq_self_eq_true]⟩
    · simp only [decide_eq_false_iff_not] at h
      simp only [go_sem, Nat.reduceAdd, Nat.reduceEqDiff, Nat.reduceLT, reduceIte, reduceCtorEq, Nat.reduceBEq, Int.reduceLT, Int.reduceToNat, Int.reducePow, Nat.reduceLeDiff, Int.reduceLE, Nat.reduceMul, Nat.reduceSub]
      refine ⟨.inr trivial, _, by simp only [resAV, resL, resOne, go_sem, Nat.reduceAdd, Nat.reduceEqDiff, Nat.reduceLT, reduceIte, reduceCtorEq, Nat.reduceBEq, Int.reduceLT, Int.reduceToNat, Int.reducePow, Nat.reduceLeDiff, Int.reduceLE, Nat.reduceMul, Nat.reduceSub]; rfl, ?_⟩
      have hl : sylP s = [4352 + s / 588, 4449 + s / 28 % 21] := by unfold sylP; rw [if_pos (by omega)]
      rw [hl]
      simp only [go_sem, Nat.reduceAdd, Nat.reduceEqDiff, Nat.reduceLT, reduceIte, reduceCtorEq, Nat.reduceBEq, Int.reduceLT, Int.reduceToNat, Int.reducePow, Nat.reduceLeDiff, Int.reduceLE, Nat.reduceMul, Nat.reduceSub]
      exact ⟨.inr rfl, 1, by simp only [resAV, resL, resOne, go_sem, Nat.reduceAdd, Nat.reduceEqDiff, Nat.reduceLT, reduceIte, reduceCtorEq, Nat.reduceBEq, Int.reduceLT, Int.reduceToNat, Int.reducePow, Nat.reduceLeDiff, Int.reduceLE, Nat.reduceMul, Nat.reduceSub, rS, runes], by simp only [go_sem, Nat.reduceAdd, Nat.reduceEqDiff, Nat.reduceLT, reduceIte, reduceCtorEq, Nat.reduceBEq, Int.reduceLT, Int.reduceToNat, Int.reducePow, Nat.reduceLeDiff, Int.reduceLE, Nat.reduceMul, Nat.reduceSub, beq_self_eq_true]⟩
  -- no syllable
  have hno : (decide (v < 0) = true) ∨ (decide (v < 0) = false ∧ decide (v ≥ 11172) = true) := by
    simp only [decide_eq_true_eq, decide_eq_false_iff_not]; omega
  rcases hno with e1 | ⟨e1, e2⟩
  all_goals
    simp only [e1, go_sem, Nat.reduceAdd, Nat.reduceEqDiff, Nat.reduceLT, reduceIte, reduceCtorEq, Nat.reduceBEq, Int.reduceLT, Int.reduceToNat, Int.reducePow, Nat.reduceLeDiff, Int.reduceLE, Nat.reduceMul, Nat.reduceSub]
    try simp only [e2, go_sem, Nat.reduceAdd, Nat.reduceEqDiff, Nat.reduceLT, reduceIte, reduceCtorEq, Nat.reduceBEq, Int.reduceLT, Int.reduceToNat, Int.reducePow, Nat.reduceLeDiff, Int.reduceLE, Nat.reduceMul, Nat.reduceSub]
    refine ⟨.inr trivial, _, by simp only [resAV, resL, resOne, go_sem, Nat.reduceAdd, Nat.reduceEqDiff, Nat.reduceLT, reduceIte, reduceCtorEq, Nat.reduceBEq, Int.reduceLT, Int.reduceToNat, Int.reducePow, Nat.reduceLeDiff, Int.reduceLE, Nat.reduceMul, Nat.reduceSub]; rfl, ?_⟩
    by_cases h1 : r = 9001
    · subst h1
      have hsp : splitP T 9001 = [12296] := rfl
      have b1 : ((9001 : Int) == 9001) = true := rfl
      have w1 : IntKind.i32.wrap (9001 - 9001) = 0 := rfl
      have w2 : IntKind.i32.wrap (0 + 12296) = 12296 := rfl
      rw [hsp]
      simp only [b1, w1, w2, go_sem, Nat.reduceAdd, Nat.reduceEqDiff, Nat.reduceLT, reduceIte, reduceCtorEq, Nat.reduceBEq, Int.reduceLT, Int.reduceToNat, Int.reducePow, Nat.reduceLeDiff, Int.reduceLE, Nat.reduceMul, Nat.reduceSub]
      exact ⟨.inr rfl, 1, by simp only [resAV, resL, resOne, go_sem, Nat.reduceAdd, Nat.reduceEqDiff, Nat.reduceLT, reduceIte, reduceCtorEq, Nat.reduceBEq, Int.reduceLT, Int.reduceToNat, Int.reducePow, Nat.reduceLeDiff, Int.reduceLE, Nat.reduceMul, Nat.reduceSub, rS, runes], by simp only [go_sem, Nat.reduceAdd, Nat.reduceEqDiff, Nat.reduceLT, reduceIte, reduceCtorEq, Nat.reduceBEq, Int.reduceLT, Int.reduceToNat, Int.reducePow, Nat.reduceLeDiff, Int.reduceLE, Nat.reduceMul, Nat.reduceSub, beq_self_eq_true]⟩
    by_cases h2 : r = 9002
    · subst h2
      have hsp : splitP T 9002 = [12297] := rfl
      have b1 : ((9002 : Int) == 9001) = false := rfl
      have b2 : ((9002 : Int) == 9002) = true := rfl
      have w1 : IntKind.i32.wrap (9002 - 9001) = 1 := rfl
      have w2 : IntKind.i32.wrap (1 + 12296) = 12297 := rfl
      rw [hsp]
      simp only [b1, b2, w1, w2, go_sem, Nat.reduceAdd, Nat.reduceEqDiff, Nat.reduceLT, reduceIte, reduceCtorEq, Nat.reduceBEq, Int.reduceLT, Int.reduceToNat, Int.reducePow, Nat.reduceLeDiff, Int.reduceLE, Nat.reduceMul, Nat.reduceSub]
      exact ⟨.inr rfl, 1, by simp only [resAV, resL, resOne, go_sem, Nat.reduceAdd, Nat.reduceEqDiff, Nat.reduceLT, reduceIte, reduceCtorEq, Nat.reduceBEq, Int.reduceLT, Int.reduceToNat, Int.reducePow, Nat.reduceLeDiff, Int.reduceLE, Nat.reduceMul, Nat.reduceSub, rS, runes], by simp only [go_sem, Nat.reduceAdd, Nat.reduceEqDiff, Nat.reduceLT, reduceIte, reduceCtorEq, Nat.reduceBEq, Int.reduceLT, Int.reduceToNat, Int.reducePow, Nat.reduceLeDiff, Int.reduceLE, Nat.reduceMul, Nat.reduceSub, beq_self_eq_true]⟩
    have b1 : (r == 9001) = false := by simp [h1]
    have b2 : (r == 9002) = false := by simp [h2]
    by_cases h3 : r < 192
    · rw [split_low nf h3]
      simp only [b1, b2, h3, go_sem, Nat.reduceAdd, Nat.reduceEqDiff, Nat.reduceLT, reduceIte, reduceCtorEq, Nat.reduceBEq, Int.reduceLT, Int.reduceToNat, Int.reducePow, Nat.reduceLeDiff, Int.reduceLE, Nat.reduceMul, Nat.reduceSub]
      exact ⟨.inr rfl, 1, by simp only [resAV, resL, resOne, go_sem, Nat.reduceAdd, Nat.reduceEqDiff, Nat.reduceLT, reduceIte, reduceCtorEq, Nat.reduceBEq, Int.reduceLT, Int.reduceToNat, Int.reducePow, Nat.reduceLeDiff, Int.reduceLE, Nat.reduceMul, Nat.reduceSub, rS, runes], by simp only [go_sem, Nat.reduceAdd, Nat.reduceEqDiff, Nat.reduceLT, reduceIte, reduceCtorEq, Nat.reduceBEq, Int.reduceLT, Int.reduceToNat, Int.reducePow, Nat.reduceLeDiff, Int.reduceLE, Nat.reduceMul, Nat.reduceSub, beq_self_eq_true]⟩
    have b3 : decide (r < 192) = false := by simp [h3]
    simp only [b1, b2, b3, go_sem, Nat.reduceAdd, Nat.reduceEqDiff, Nat.reduceLT, reduceIte, reduceCtorEq, Nat.reduceBEq, Int.reduceLT, Int.reduceToNat, Int.reducePow, Nat.reduceLeDiff, Int.reduceLE, Nat.reduceMul, Nat.reduceSub]
    refine callGo_pure pairs_pure (by rfl) ?_
    simp only [go_sem, Nat.reduceAdd, Nat.reduceEqDiff, Nat.reduceLT, reduceIte, reduceCtorEq, Nat.reduceBEq, Int.reduceLT, Int.reduceToNat, Int.reducePow, Nat.reduceLeDiff, Int.reduceLE, Nat.reduceMul, Nat.reduceSub]
    refine callGo_see (index3_pure r) (by rfl) rfl ?_
    simp only [go_sem, Nat.reduceAdd, Nat.reduceEqDiff, Nat.reduceLT, reduceIte, reduceCtorEq, Nat.reduceBEq, Int.reduceLT, Int.reduceToNat, Int.reducePow, Nat.reduceLeDiff, Int.reduceLE, Nat.reduceMul, Nat.reduceSub]
    cases hrow : rowOf r with
    | none =>
      have hsp : splitP T r = [r] := by
        unfold splitP
        rw [if_neg (by simp [hsyl]), if_neg h1, if_neg h2, oneP_norow hrow]
      have b4 : decide (rowI none ≥ 0) = false := rfl
      rw [hsp]
      simp only [b4, go_sem, Nat.reduceAdd, Nat.reduceEqDiff, Nat.reduceLT, reduceIte, reduceCtorEq, Nat.reduceBEq, Int.reduceLT, Int.reduceToNat, Int.reducePow, Nat.reduceLeDiff, Int.reduceLE, Nat.reduceMul, Nat.reduceSub]
      exact ⟨.inr rfl, 2, by simp only [resAV, resL, resOne, go_sem, Nat.reduceAdd, Nat.reduceEqDiff, Nat.reduceLT, reduceIte, reduceCtorEq, Nat.reduceBEq, Int.reduceLT, Int.reduceToNat, Int.reducePow, Nat.reduceLeDiff, Int.reduceLE, Nat.reduceMul, Nat.reduceSub, rS, runes], by simp only [go_sem, Nat.reduceAdd, Nat.reduceEqDiff, Nat.reduceLT, reduceIte, reduceCtorEq, Nat.reduceBEq, Int.reduceLT, Int.reduceToNat, Int.reducePow, Nat.reduceLeDiff, Int.reduceLE, Nat.reduceMul, Nat.reduceSub, beq_self_eq_true]⟩
    | some i =>
      obtain ⟨hi, ho, hi1⟩ := oneP_row hrow
      have hsp : splitP T r = splitP T T[i].2.1 ++ [T[i].2.2] := by rw [← hi1]; exact nf.made _ (List.getElem_mem hi)
      have b4 : decide (rowI (some i) ≥ 0) = true := by simp [rowI]
      have hl := splitP_len T[i].2.1
      simp only [b4, rowI, hi, pT_length, pT_get hi, tri, go_sem, Nat.reduceAdd, Nat.reduceEqDiff, Nat.reduceLT, reduceIte, reduceCtorEq, Nat.reduceBEq, Int.reduceLT, Int.reduceToNat, Int.reducePow, Nat.reduceLeDiff, Int.reduceLE, Nat.reduceMul, Nat.reduceSub]
      refine dcallTGo_pure (hrec i hi hrow) (by rfl) ?_
      simp only [hi, pT_length, pT_get hi, tri, runes_length, rS, beq_self_eq_true, go_sem, Nat.reduceAdd, Nat.reduceEqDiff, Nat.reduceLT, reduceIte, reduceCtorEq, Nat.reduceBEq, Int.reduceLT, Int.reduceToNat, Int.reducePow, Nat.reduceLeDiff, Int.reduceLE, Nat.reduceMul, Nat.reduceSub]
      refine ⟨by omega, .inr rfl, 3, ?_, by simp only [go_sem, Nat.reduceAdd, Nat.reduceEqDiff, Nat.reduceLT, reduceIte, reduceCtorEq, Nat.reduceBEq, Int.reduceLT, Int.reduceToNat, Int.reducePow, Nat.reduceLeDiff, Int.reduceLE, Nat.reduceMul, Nat.reduceSub, beq_self_eq_true]⟩
      rw [hsp, runes_append]
      simp only [resAV, resL, resOne, go_sem, Nat.reduceAdd, Nat.reduceEqDiff, Nat.reduceLT, reduceIte, reduceCtorEq, Nat.reduceBEq, Int.reduceLT, Int.reduceToNat, Int.reducePow, Nat.reduceLeDiff, Int.reduceLE, Nat.reduceMul, Nat.reduceSub, runes]

def deepB (p : Int × Int × Int) : Bool := (match rowOf p.2.1 with
  | none => true
  | some j => rowOf (T.getD j (0, 0, 0)).2.1 == none) && decide (0 ≤ p.1) && decide (p.1 ≤ 1114111) && decide (0 ≤ p.2.1) && decide (p.2.1 ≤ 1114111) && decide (0 ≤ p.2.2) && decide (p.2.2 ≤ 1114111) && !(p.2.1 == 9001) && !(p.2.1 == 9002)
theorem deep_ok : T.all deepB = true := by decide +kernel
theorem deep_at {i : Nat} (h : i < T.length) : (rowOf T[i].2.1 = none ∨ ∃ j, ∃ h' : j < T.length, rowOf T[i].2.1 = some j ∧ rowOf T[j].2.1 = none) ∧ (0 ≤ T[i].1 ∧ T[i].1 ≤ 1114111 ∧ 0 ≤ T[i].2.1 ∧ T[i].2.1 ≤ 1114111 ∧ 0 ≤ T[i].2.2 ∧ T[i].2.2 ≤ 1114111) ∧ T[i].2.1 ≠ 9001 ∧ T[i].2.1 ≠ 9002 := by
  have hd := List.all_eq_true.1 deep_ok _ (List.getElem_mem h)
  simp only [deepB, Bool.and_eq_true, decide_eq_true_eq, Bool.not_eq_true', beq_eq_false_iff_ne, ne_eq] at hd
  obtain ⟨⟨⟨⟨⟨⟨⟨⟨d1, d2⟩, d3⟩, d4⟩, d5⟩, d6⟩, d7⟩, d8⟩, d9⟩ := hd
  refine ⟨?_, ⟨d2, d3, d4, d5, d6, d7⟩, d8, d9⟩
  cases hr : rowOf T[i].2.1 with
  | none => exact .inl rfl
  | some j =>
    right
    obtain ⟨hj, _⟩ := oneP_row hr
    refine ⟨j, hj, rfl, ?_⟩
    rw [hr] at d1
    simp only [List.getD_eq_getElem?_getD, List.getElem?_eq_getElem hj, Option.getD_some, beq_iff_eq] at d1
    exact d1

theorem Split0_pure {r : Int} (hr : -2147483648 ≤ r ∧ r ≤ 2147483647) (h : rowOf r = none) : Pure Try.prog 26 [.lit (.int .i32 r)] [21] (rS (splitP T r) (some 0)) :=
  Split_step r hr fun i _ hi => by rw [h] at hi; cases hi
theorem Split0'_pure {r : Int} (h1 : 0 ≤ r) (h2 : r ≤ 1114111) (h : rowOf r = none) : Pure Try.prog 26 [.lit (.int .i32 r)] [21] (rS (splitP T r) (some 0)) := Split0_pure (by omega) h
theorem Split_pure (r : Int) (hr : -2147483648 ≤ r ∧ r ≤ 2147483647) : Pure Try.prog 26 [.lit (.int .i32 r)] [21] (rS (splitP T r) (some 0)) := by
  refine Split_step r hr fun i hi _ => ?_
  have h1 := deep_at hi
  rcases h1.1 with h2 | ⟨j, hj, h2, h3⟩
  · exact Split0_pure (by omega) h2
  · refine Split_step _ (by omega) fun k hk hk' => ?_
    rw [h2] at hk'
    simp only [Option.some.injEq] at hk'
    subst hk'
    have h4 := (deep_at hj).2.1
    obtain ⟨_, _, a3, a4, _⟩ := h4
    generalize T[j].2.1 = a at *
    exact Split0'_pure a3 a4 h3
end Go.Proofs.Ytmhpjoadfgplgaa
