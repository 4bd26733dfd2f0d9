/-
Cut where a code begins, bytes are decoded in two parts as in one; the bytes of a scalar stand in no other one's, but as a whole: so the law answers true, whatever it is handed. Conditions: none.
-/
import Derived.Test.YtbnaepdeakcljaaUtf9
set_option linter.unusedSimpArgs false
set_option linter.unusedVariables false
set_option linter.unusedSectionVars false
namespace Go.Proofs.Ytbnaepdeakcljaa
open Go Go.Ab Go.ChangeShapes Go.WideShapes Go.ChangeAt Go.RowKit
def a3 : ACode :=
  (.seq (.reg [⟨(.some 8), (.mv (.k (.bool false))), .none⟩]) (.seq (.reg [⟨(.some 15), (.mv (.t 0)), .none⟩, ⟨(.some 16), (.mv (.t 0)), .none⟩, ⟨(.some 17), (.len (.t 16)), .none⟩, ⟨(.some 18), (.mn
  (.t 17) (.k (.int .i64 500))), .none⟩, ⟨(.some 19), (.slc 5 (.t 15) .none (.some (.t 18))), .none⟩, ⟨(.some 20), (.call (.f 14) [(.t 19)]), .none⟩, ⟨(.some 9), (.mv (.t 20)), .none⟩]) (.seq (.seq
  (.reg [⟨(.some 21), (.mv (.t 9)), .none⟩, ⟨(.some 22), (.len (.t 21)), .none⟩, ⟨(.some 23), (.bin .gtr (.t 22) (.k (.int .i64 0))), .none⟩]) (.cond (.t 23) (.seq (.reg [⟨(.some 24), (.mv (.t 9)),
  .none⟩, ⟨(.some 25), (.mv (.t 1)), .none⟩, ⟨(.some 26), (.cvI .i64 (.t 25)), .none⟩, ⟨(.some 27), (.mv (.t 9)), .none⟩, ⟨(.some 28), (.len (.t 27)), .none⟩, ⟨(.some 29), (.bin .rem (.t 26) (.t 28)),
  .none⟩, ⟨(.some 30), (.ia 27 (.t 24) (.t 29)), .none⟩, ⟨(.some 31), (.fa 1 (.t 30)), .none⟩, ⟨(.some 32), (.ld .none (.t 31)), .none⟩, ⟨(.some 10), (.mv (.t 32)), .none⟩]) (.seq (.seq (.reg [⟨(.some
  33), (.mv (.t 10)), .none⟩, ⟨(.some 34), (.bin .lss (.t 33) (.k (.int .i64 0))), .none⟩, ⟨(.some 35), (.mv (.t 34)), .none⟩, ⟨(.some 36), (.mv (.t 10)), (.some (35, false))⟩, ⟨(.some 37), (.mv (.t
  0)), (.some (35, false))⟩, ⟨(.some 38), (.len (.t 37)), (.some (35, false))⟩, ⟨(.some 39), (.bin .gtr (.t 36) (.t 38)), (.some (35, false))⟩, ⟨(.some 40), (.pick (.t 35) (.k (.bool true)) (.t 39)),
  .none⟩]) (.cond (.t 40) (.seq (.reg [⟨(.some 8), (.mv (.k (.bool false))), .none⟩]) .ret) .skip)) (.seq (.dreg [⟨(.some 41), (.bs 21 1 []), .none⟩, ⟨(.some 42), (.mv (.t 0)), .none⟩, ⟨(.some 43), (.mv
  (.t 10)), .none⟩, ⟨(.some 44), (.slc 5 (.t 42) .none (.some (.t 43))), .none⟩, ⟨(.some 45), (.call (.f 15) [(.t 44)]), .none⟩, ⟨(.some 46), (.app 21 4 (.t 41) (.t 45)), .none⟩, ⟨(.some 47), (.mv (.t
  0)), .none⟩, ⟨(.some 48), (.mv (.t 10)), .none⟩, ⟨(.some 49), (.mv (.t 0)), .none⟩, ⟨(.some 50), (.len (.t 49)), .none⟩, ⟨(.some 51), (.mn (.t 50) (.k (.int .i64 500))), .none⟩, ⟨(.some 52), (.slc 5
  (.t 47) (.some (.t 48)) (.some (.t 51))), .none⟩, ⟨(.some 53), (.call (.f 15) [(.t 52)]), .none⟩, ⟨(.some 54), (.app 21 4 (.t 46) (.t 53)), .none⟩, ⟨(.some 11), (.mv (.t 54)), .none⟩]) (.seq (.reg
  [⟨(.some 55), (.mv (.t 11)), .none⟩, ⟨(.some 56), (.mv (.t 0)), .none⟩, ⟨(.some 57), (.mv (.t 0)), .none⟩, ⟨(.some 58), (.len (.t 57)), .none⟩, ⟨(.some 59), (.mn (.t 58) (.k (.int .i64 500))), .none⟩,
  ⟨(.some 60), (.slc 5 (.t 56) .none (.some (.t 59))), .none⟩, ⟨(.some 61), (.call (.f 15) [(.t 60)]), .none⟩, ⟨(.some 62), (.call (.f 16) [(.t 55), (.t 61)]), .none⟩, ⟨(.some 63), (.not (.t 62)),
  .none⟩]) (.cond (.t 63) (.seq (.reg [⟨(.some 8), (.mv (.k (.bool false))), .none⟩]) .ret) .skip))))) .skip)) (.seq (.reg [⟨(.some 64), (.mv (.t 2)), .none⟩, ⟨(.some 65), (.bs 21 1 [(.t 64)]), .none⟩,
  ⟨(.some 66), (.call (.f 17) [(.t 65)]), .none⟩, ⟨(.some 67), (.mv (.t 3)), .none⟩, ⟨(.some 68), (.bs 21 1 [(.t 67)]), .none⟩, ⟨(.some 69), (.call (.f 17) [(.t 68)]), .none⟩, ⟨(.some 12), (.mv (.t
  66)), .none⟩, ⟨(.some 13), (.mv (.t 69)), .none⟩]) (.seq (.seq (.reg [⟨(.some 14), (.mv (.k (.int .i64 0))), .none⟩]) (.block 0 (.loop (.seq (.seq (.reg [⟨(.some 70), (.mv (.t 14)), .none⟩, ⟨(.some
  71), (.mv (.t 13)), .none⟩, ⟨(.some 72), (.len (.t 71)), .none⟩, ⟨(.some 73), (.bin .add (.t 70) (.t 72)), .none⟩, ⟨(.some 74), (.mv (.t 12)), .none⟩, ⟨(.some 75), (.len (.t 74)), .none⟩, ⟨(.some 76),
  (.bin .leq (.t 73) (.t 75)), .none⟩]) (.cond (.t 76) .skip (.exit 0))) (.seq (.block 1 (.seq (.reg [⟨(.some 79), (.mv (.t 12)), .none⟩, ⟨(.some 80), (.mv (.t 14)), .none⟩, ⟨(.some 81), (.mv (.t 14)),
  .none⟩, ⟨(.some 82), (.mv (.t 13)), .none⟩, ⟨(.some 83), (.len (.t 82)), .none⟩, ⟨(.some 84), (.bin .add (.t 81) (.t 83)), .none⟩, ⟨(.some 85), (.slc 5 (.t 79) (.some (.t 80)) (.some (.t 84))),
  .none⟩, ⟨(.some 86), (.mv (.t 13)), .none⟩, ⟨(.some 87), (.call (.f 18) [(.t 85), (.t 86)]), .none⟩, ⟨(.some 88), (.mv (.t 87)), .none⟩, ⟨(.some 89), (.mv (.t 14)), (.some (88, true))⟩, ⟨(.some 90),
  (.bin .neq (.t 89) (.k (.int .i64 0))), (.some (88, true))⟩, ⟨(.some 91), (.mv (.t 90)), (.some (88, true))⟩, ⟨(.some 92), (.mv (.t 12)), (.some (91, false))⟩, ⟨(.some 93), (.len (.t 92)), (.some (91,
  false))⟩, ⟨(.some 94), (.mv (.t 13)), (.some (91, false))⟩, ⟨(.some 95), (.len (.t 94)), (.some (91, false))⟩, ⟨(.some 96), (.bin .neq (.t 93) (.t 95)), (.some (91, false))⟩, ⟨(.some 97), (.pick (.t
  91) (.k (.bool true)) (.t 96)), (.some (88, true))⟩, ⟨(.some 98), (.pick (.t 88) (.t 97) (.k (.bool false))), .none⟩]) (.cond (.t 98) (.seq (.reg [⟨(.some 8), (.mv (.k (.bool false))), .none⟩]) .ret)
  .skip))) (.reg [⟨(.some 77), (.mv (.t 14)), .none⟩, ⟨(.some 78), (.bin .add (.t 77) (.k (.int .i64 1))), .none⟩, ⟨(.some 14), (.mv (.t 78)), .none⟩])))))) (.seq (.reg [⟨(.some 99), (.mv (.t 12)),
  .none⟩, ⟨(.some 100), (.len (.t 99)), .none⟩, ⟨(.some 101), (.bin .geq (.t 100) (.k (.int .i64 1))), .none⟩, ⟨(.some 102), (.mv (.t 101)), .none⟩, ⟨(.some 103), (.mv (.t 12)), (.some (102, true))⟩,
  ⟨(.some 104), (.len (.t 103)), (.some (102, true))⟩, ⟨(.some 105), (.bin .leq (.t 104) (.k (.int .i64 4))), (.some (102, true))⟩, ⟨(.some 106), (.pick (.t 102) (.t 105) (.k (.bool false))), .none⟩,
  ⟨(.some 107), (.mv (.t 106)), .none⟩, ⟨(.some 108), (.call (.f 19) []), (.some (107, true))⟩, ⟨(.some 109), (.pick (.t 107) (.t 108) (.k (.bool false))), .none⟩, ⟨(.some 8), (.mv (.t 109)), .none⟩])
  .ret))))))
theorem c3 : Try.f3.body.bind (cCode Try.prog 110) = some a3 := by kernel_rfl
theorem r3 : Try.f3.results.toList = [(.tmp 8)] := by kernel_rfl
theorem n3 : Try.f3.ntmps = 110 := by kernel_rfl
theorem e3 : Enters Try.prog 3 := enters_of Try.func3 (by kernel_rfl) (by kernel_rfl)

theorem cut_parts : ∀ (j s : Nat) (B : List Nat) (h : j < (cut s B).length), ∃ i, ((cut s B)[j]).2.1 = s + i ∧ i < B.length ∧ cut s (B.take i) = (cut s B).take j ∧ cut (s + i) (B.drop i) = (cut s B).drop j
  | 0, s, [], h => by simp [cut_nil] at h
  | 0, s, c :: t, h => ⟨0, by simp only [cut_cons, List.getElem_cons_zero, Nat.add_zero], by simp, by simp [cut_nil], by simp⟩
  | j + 1, s, [], h => by simp [cut_nil] at h
  | j + 1, s, c :: t, h => by
    have hk := nx_len c t
    have e := cut_cons s c t
    have hlt : j < (cut (s + (nx (c :: t)).2.1) ((c :: t).drop (nx (c :: t)).2.1)).length := by rw [e] at h; simpa using h
    obtain ⟨i, h1, h2, h3, h4⟩ := cut_parts j _ _ hlt
    refine ⟨(nx (c :: t)).2.1 + i, ?_, ?_, ?_, ?_⟩
    · have : (cut s (c :: t))[j + 1] = (cut (s + (nx (c :: t)).2.1) ((c :: t).drop (nx (c :: t)).2.1))[j] := by
        simp only [e, List.getElem_cons_succ]
      rw [this, h1]; omega
    · simp only [List.length_drop] at h2; omega
    · have ht := nx_take (b := c :: t) (m := (nx (c :: t)).2.1 + i) (by omega)
      have hd : ((c :: t).take ((nx (c :: t)).2.1 + i)).drop (nx (c :: t)).2.1 = ((c :: t).drop (nx (c :: t)).2.1).take i := by
        rw [List.drop_take]; congr 1; omega
      obtain ⟨m, hm⟩ : ∃ m, (nx (c :: t)).2.1 + i = m + 1 := ⟨(nx (c :: t)).2.1 + i - 1, by omega⟩
      rw [e, List.take_succ_cons, ← h3, ← hd]
      rw [hm, List.take_succ_cons] at ht ⊢
      rw [cut_cons, ht]
    · rw [e, List.drop_succ_cons, ← h4, ← List.drop_drop]
      congr 1
      omega

theorem nums_shift : ∀ (n a a' : Nat) (t : List Nat), t.length ≤ n → numsOf (cut a t) = numsOf (cut a' t)
  | 0, a, a', t, h => by
    have : t = [] := List.eq_nil_of_length_eq_zero (by omega)
    subst this; rfl
  | n + 1, a, a', [], h => rfl
  | n + 1, a, a', c :: t, h => by
    have hk := nx_len c t
    rw [cut_cons, cut_cons]
    have := nums_shift n (a + (nx (c :: t)).2.1) (a' + (nx (c :: t)).2.1) ((c :: t).drop (nx (c :: t)).2.1) (by simp only [List.length_drop]; simp only [List.length_cons] at h hk ⊢; omega)
    simp only [numsOf, List.map_cons] at this ⊢
    rw [this]

theorem dec_split {B : List Nat} {j : Nat} (h : j < (cut 0 B).length) : ∃ i, ((cut 0 B)[j]).2.1 = i ∧ i < B.length ∧ decL (B.take i) ++ decL (B.drop i) = decL B := by
  obtain ⟨i, h1, h2, h3, h4⟩ := cut_parts j 0 B h
  refine ⟨i, by omega, h2, ?_⟩
  have h5 : decL (B.drop i) = numsOf (cut (0 + i) (B.drop i)) := nums_shift _ 0 (0 + i) _ (Nat.le_refl _)
  rw [h5, h4]
  show numsOf (cut 0 (B.take i)) ++ _ = numsOf (cut 0 B)
  rw [h3]
  simp only [numsOf, ← List.map_append, List.take_append_drop]

theorem enc_head {r : Nat} (h : Scalar r) : ∃ c u, encN r = c :: u ∧ (c ≤ 127 ∨ 194 ≤ c) ∧ ∀ n ∈ u, 128 ≤ n ∧ n ≤ 191 := by
  unfold Scalar at h
  rcases enc_cases r with h1 | ⟨h1, h2⟩ | ⟨h1, h2⟩ | h1
  · exact ⟨_, _, enc1 h1, by omega, by simp⟩
  · exact ⟨_, _, enc2 h1 h2, by omega, by simp; omega⟩
  · exact ⟨_, _, enc3 h1 h2, by omega, by simp; omega⟩
  · exact ⟨_, _, enc4 h1, by omega, by simp; omega⟩

/-- A scalar's bytes stand in no other one's. -/
theorem enc_inside {r s : Nat} (hr : Scalar r) (hs : Scalar s) (i : Nat) (hi : i + (encN s).length ≤ (encN r).length) (h : ((encN r).drop i).take (encN s).length = encN s) : i = 0 ∧ (encN r).length = (encN s).length := by
  have hl := encN_len s
  cases i with
  | zero =>
    refine ⟨rfl, ?_⟩
    rw [List.drop_zero] at h
    have e : encN r = encN s ++ (encN r).drop (encN s).length := by
      have := List.take_append_drop (encN s).length (encN r)
      rw [h] at this
      exact this.symm
    have h1 := nx_enc hr []
    have h2 := nx_enc hs ((encN r).drop (encN s).length)
    rw [List.append_nil] at h1
    rw [← e, h1] at h2
    simp only [Prod.mk.injEq, and_true] at h2
    exact h2.2
  | succ i =>
    obtain ⟨c, u, e1, _, hu⟩ := enc_head hr
    obtain ⟨d, v, e2, hd, _⟩ := enc_head hs
    rw [e1, e2] at h hi
    rw [List.drop_succ_cons] at h
    simp only [List.length_cons] at h hi
    have hlt : i < u.length := by omega
    rw [List.drop_eq_getElem_cons hlt, List.take_succ_cons, List.cons.injEq] at h
    have := hu u[i] (List.getElem_mem hlt)
    omega

theorem tmod_nat (a n : Nat) : ((a : Int).tmod (n : Int)) = ((a % n : Nat) : Int) := by
  rw [Int.tmod_eq_emod_of_nonneg (by omega)]; omega

set_option maxRecDepth 10000 in
theorem utfParts_pure (b : List Nat) (hb : Octs b) (w : Int) (hw : 0 ≤ w ∧ w ≤ 65535) (r : Int) (_ : -2147483648 ≤ r ∧ r ≤ 2147483647) (s : Int) (_ : -2147483648 ≤ s ∧ s ≤ 2147483647) : Pure Try.prog 3 [.sl 5 (octs b) none, .lit (.int .u16 w), .lit (.int .i32 r), .lit (.int .i32 s)] [] (.lit (.bool true)) := by
  obtain ⟨q, rfl⟩ : ∃ q : Nat, w = q := ⟨w.toNat, by omega⟩
  refine pure0 Try.func3 c3 n3 e3 r3 (by simp) rfl ?_
  simp only [a3, astart, argSlots, go_sem, Nat.reduceAdd, Nat.reduceEqDiff, Nat.reduceLT, reduceIte, reduceCtorEq, Nat.reduceBEq, Int.reduceLT, Int.reduceToNat, Int.reducePow, Nat.reduceLeDiff, Int.reduceLE, Nat.reduceMul, Nat.reduceSub]
  obtain ⟨M, hM1, hM2, hM3⟩ : ∃ M : Nat, (if (500 : Int) < (b.length : Int) then 500 else (b.length : Int)) = (M : Int) ∧ M ≤ b.length ∧ M ≤ 500 := by
    by_cases h : 500 < b.length
    · exact ⟨500, by rw [if_pos (by omega)]; rfl, by omega, by omega⟩
    · exact ⟨b.length, by rw [if_neg (by omega)], by omega, by omega⟩
  have hs0 : (if 0 ≤ M ∧ M ≤ b.length then some (0, M) else none : Option (Nat × Nat)) = some (0, M) := if_pos ⟨Nat.zero_le _, hM2⟩
  have hB : ((octs b).take M).drop 0 = octs (b.take M) := by rw [List.drop_zero, octs_take]
  simp only [hM1, go_sem, Nat.reduceAdd, Nat.reduceEqDiff, Nat.reduceLT, reduceIte, reduceCtorEq, Nat.reduceBEq, Int.reduceLT, Int.reduceToNat, Int.reducePow, Nat.reduceLeDiff, Int.reduceLE, Nat.reduceMul, Nat.reduceSub, hs0, hB, octs_take]
  have hoB : ∀ n ∈ b.take M, n ≤ 255 := fun n hn => hb.2 n (List.mem_of_mem_take hn)
  have hlB : (b.take M).length = M := by rw [List.length_take]; omega
  refine callGo_pure (codes_pure (b.take M) hoB (by omega)) (by rfl) ?_
  have hcl := cut_length 0 (b.take M)
  simp only [go_sem, Nat.reduceAdd, Nat.reduceEqDiff, Nat.reduceLT, reduceIte, reduceCtorEq, Nat.reduceBEq, Int.reduceLT, Int.reduceToNat, Int.reducePow, Nat.reduceLeDiff, Int.reduceLE, Nat.reduceMul, Nat.reduceSub, codesC_length]
  by_cases hn : 0 < (cut 0 (b.take M)).length
  · have d0 : decide (((cut 0 (b.take M)).length : Int) > 0) = true := by simp only [decide_eq_true_eq]; omega
    have hq := Nat.mod_lt q hn
    obtain ⟨i, h1, h2, h3⟩ := dec_split hq
    have hg := codesC_get _ _ hq
    rw [h1] at hg
    have hw64 : IntKind.i64.wrap (q : Int) = q := wrap_i64 _ (by omega) (by omega)
    have hne : (((cut 0 (b.take M)).length : Int) = 0) = False := by simp only [eq_iff_iff, iff_false]; omega
    have d1 : decide ((i : Int) < 0) = false := by simp only [decide_eq_false_iff_not]; omega
    have d2 : decide ((i : Int) > (b.length : Int)) = false := by simp only [decide_eq_false_iff_not]; omega
    have hs1 : (if 0 ≤ i ∧ i ≤ b.length then some (0, i) else none : Option (Nat × Nat)) = some (0, i) := if_pos ⟨Nat.zero_le _, by omega⟩
    have hs2 : (if i ≤ M ∧ M ≤ b.length then some (i, M) else none : Option (Nat × Nat)) = some (i, M) := if_pos ⟨by omega, hM2⟩
    have e1 : b.take i = (b.take M).take i := by rw [List.take_take]; congr 1; omega
    have e2 : octs (b.take i) = octs ((b.take M).take i) := by rw [e1]
    have e3 : (octs (b.take M)).drop i = octs ((b.take M).drop i) := octs_drop _ _
    simp only [d0, hw64, codesC_length, hne, tmod_nat, hg, d1, d2, hM1, hs1, hs2, octs_take, e2, e3, go_sem, Nat.reduceAdd, Nat.reduceEqDiff, Nat.reduceLT, reduceIte, reduceCtorEq, Nat.reduceBEq, Int.reduceLT, Int.reduceToNat, Int.reducePow, Nat.reduceLeDiff, Int.reduceLE, Nat.reduceMul, Nat.reduceSub]
    have hl1 := decL_length ((b.take M).take i)
    have hl2 := decL_length ((b.take M).drop i)
    have hl3 := decL_length (b.take M)
    simp only [List.length_take, List.length_drop] at hl1 hl2 hl3
    refine dcallGo_pure (decode_pure ((b.take M).take i) (fun n hn => hoB n (List.mem_of_mem_take hn)) (by simp only [List.length_take]; omega)) (by rfl) rfl ?_
    simp only [go_sem, Nat.reduceAdd, Nat.reduceEqDiff, Nat.reduceLT, reduceIte, reduceCtorEq, Nat.reduceBEq, Int.reduceLT, Int.reduceToNat, Int.reducePow, Nat.reduceLeDiff, Int.reduceLE, Nat.reduceMul, Nat.reduceSub, beq_self_eq_true]
    refine ⟨by omega, ?_⟩
    simp only [hM1, hs2, octs_take, e3, go_sem, Nat.reduceAdd, Nat.reduceEqDiff, Nat.reduceLT, reduceIte, reduceCtorEq, Nat.reduceBEq, Int.reduceLT, Int.reduceToNat, Int.reducePow, Nat.reduceLeDiff, Int.reduceLE, Nat.reduceMul, Nat.reduceSub]
    refine dcallGo_pure (decode_pure ((b.take M).drop i) (fun n hn => hoB n (List.mem_of_mem_drop hn)) (by simp only [List.length_take, List.length_drop]; omega)) (by rfl) rfl ?_
    simp only [go_sem, Nat.reduceAdd, Nat.reduceEqDiff, Nat.reduceLT, reduceIte, reduceCtorEq, Nat.reduceBEq, Int.reduceLT, Int.reduceToNat, Int.reducePow, Nat.reduceLeDiff, Int.reduceLE, Nat.reduceMul, Nat.reduceSub, beq_self_eq_true, ← runes_append, h3]
    refine ⟨by omega, ?_⟩
    simp only [hM1, hs0, hB, octs_take, go_sem, Nat.reduceAdd, Nat.reduceEqDiff, Nat.reduceLT, reduceIte, reduceCtorEq, Nat.reduceBEq, Int.reduceLT, Int.reduceToNat, Int.reducePow, Nat.reduceLeDiff, Int.reduceLE, Nat.reduceMul, Nat.reduceSub]
    refine callGo_pure (decode_pure (b.take M) hoB (by omega)) (by rfl) ?_
    simp only [go_sem, Nat.reduceAdd, Nat.reduceEqDiff, Nat.reduceLT, reduceIte, reduceCtorEq, Nat.reduceBEq, Int.reduceLT, Int.reduceToNat, Int.reducePow, Nat.reduceLeDiff, Int.reduceLE, Nat.reduceMul, Nat.reduceSub]
    refine callGo_pure (runesSame_pure (decL (b.take M)) (decL (b.take M)) (by omega)) (by rfl) ?_
    simp only [go_sem, Nat.reduceAdd, Nat.reduceEqDiff, Nat.reduceLT, reduceIte, reduceCtorEq, Nat.reduceBEq, Int.reduceLT, Int.reduceToNat, Int.reducePow, Nat.reduceLeDiff, Int.reduceLE, Nat.reduceMul, Nat.reduceSub, beq_self_eq_true]
    refine callGo_pure (encode_pure [r] (by simp)) (by rfl) ?_
    simp only [go_sem, Nat.reduceAdd, Nat.reduceEqDiff, Nat.reduceLT, reduceIte, reduceCtorEq, Nat.reduceBEq, Int.reduceLT, Int.reduceToNat, Int.reducePow, Nat.reduceLeDiff, Int.reduceLE, Nat.reduceMul, Nat.reduceSub]
    refine callGo_pure (encode_pure [s] (by simp)) (by rfl) ?_
    rw [encL_one, encL_one]
    have hx := encN_len (fixN r)
    have hy := encN_len (fixN s)
    have hin := enc_inside (fixN_scalar r) (fixN_scalar s)
    have hox := encN_octs (fixN_le r)
    have hoy := encN_octs (fixN_le s)
    generalize encN (fixN r) = x at hx hin hox ⊢
    generalize encN (fixN s) = y at hy hin hoy ⊢
    simp only [go_sem, Nat.reduceAdd, Nat.reduceEqDiff, Nat.reduceLT, reduceIte, reduceCtorEq, Nat.reduceBEq, Int.reduceLT, Int.reduceToNat, Int.reducePow, Nat.reduceLeDiff, Int.reduceLE, Nat.reduceMul, Nat.reduceSub]
    refine loop_to (x.length + 1 - y.length) (fun i => ⟨[(12, some (.sl 5 (octs x) none)), (13, some (.sl 5 (octs y) none)), (14, some (.lit (.int .i64 (i : Int))))], [], [], 0⟩)
      (fun _ => True) (((weak_untip 12 (by simp only [go_sem, Nat.reduceAdd, Nat.reduceEqDiff, Nat.reduceLT, reduceIte, reduceCtorEq, Nat.reduceBEq, Int.reduceLT, Int.reduceToNat, Int.reducePow, Nat.reduceLeDiff, Int.reduceLE, Nat.reduceMul, Nat.reduceSub]; rfl)).trans (weak_untip 13 (by simp only [go_sem, Nat.reduceAdd, Nat.reduceEqDiff, Nat.reduceLT, reduceIte, reduceCtorEq, Nat.reduceBEq, Int.reduceLT, Int.reduceToNat, Int.reducePow, Nat.reduceLeDiff, Int.reduceLE, Nat.reduceMul, Nat.reduceSub]; rfl))).trans (weak_by [] List.nodup_nil rfl ?_ trivial trivial (by simp))) trivial ?_ ?_
    · simp only [go_sem, Nat.reduceAdd, Nat.reduceEqDiff, Nat.reduceLT, reduceIte, reduceCtorEq, Nat.reduceBEq, Int.reduceLT, Int.reduceToNat, Int.reducePow, Nat.reduceLeDiff, Int.reduceLE, Nat.reduceMul, Nat.reduceSub, slotsBy, boxesBy, tipsBy, rawAt, nm, AV.ren, AV.renL, AV.under, AV.underL, List.all_nil, List.all_cons, bne_self_eq_false, List.getD_cons_zero, List.getD_cons_succ, List.length_nil, List.length_cons, and_true, true_and, Int.natCast_zero]
    · intro i hi _
      have hle : i + y.length ≤ x.length := by omega
      have hw : IntKind.i64.wrap ((i : Int) + (y.length : Int)) = ((i + y.length : Nat) : Int) := by rw [wrap_i64 _ (by omega) (by omega)]; omega
      have d1 : decide (((i + y.length : Nat) : Int) ≤ (x.length : Int)) = true := by simp only [decide_eq_true_eq]; omega
      have hsl : (if i ≤ i + y.length ∧ i + y.length ≤ x.length then some (i, i + y.length) else none : Option (Nat × Nat)) = some (i, i + y.length) := if_pos ⟨by omega, hle⟩
      have htk : ((octs x).take (i + y.length)).drop i = octs ((x.drop i).take y.length) := by
        rw [octs_take, octs_drop, List.drop_take]
        congr 1
        simp
      simp only [hw, d1, hsl, htk, go_sem, Nat.reduceAdd, Nat.reduceEqDiff, Nat.reduceLT, reduceIte, reduceCtorEq, Nat.reduceBEq, Int.reduceLT, Int.reduceToNat, Int.reducePow, Nat.reduceLeDiff, Int.reduceLE, Nat.reduceMul, Nat.reduceSub]
      refine callGo_pure (same_pure _ _ (fun n hn => hox n (List.mem_of_mem_drop (List.mem_of_mem_take hn))) hoy) (by rfl) ?_
      by_cases hq : (x.drop i).take y.length = y
      · obtain ⟨h1, h2⟩ := hin i hle hq
        have b0 : ((i : Int) != 0) = false := by rw [h1]; rfl
        have b1 : ((x.length : Int) != (y.length : Int)) = false := by rw [h2]; simp
        have b2 : ((x.drop i).take y.length == y) = true := by rw [hq]; simp
        have hw1 : IntKind.i64.wrap ((i : Int) + 1) = ((i + 1 : Nat) : Int) := by rw [wrap_i64 _ (by omega) (by omega)]; omega
        simp only [b2, b0, b1, hw1, go_sem, Nat.reduceAdd, Nat.reduceEqDiff, Nat.reduceLT, reduceIte, reduceCtorEq, Nat.reduceBEq, Int.reduceLT, Int.reduceToNat, Int.reducePow, Nat.reduceLeDiff, Int.reduceLE, Nat.reduceMul, Nat.reduceSub]
        refine weak_by [] List.nodup_nil rfl ?_ trivial trivial (by simp)
        simp only [go_sem, Nat.reduceAdd, Nat.reduceEqDiff, Nat.reduceLT, reduceIte, reduceCtorEq, Nat.reduceBEq, Int.reduceLT, Int.reduceToNat, Int.reducePow, Nat.reduceLeDiff, Int.reduceLE, Nat.reduceMul, Nat.reduceSub, slotsBy, boxesBy, tipsBy, rawAt, nm, AV.ren, AV.renL, AV.under, AV.underL, List.all_nil, List.all_cons, bne_self_eq_false, List.getD_cons_zero, List.getD_cons_succ, List.length_nil, List.length_cons, and_true, true_and]
      · have b2 : ((x.drop i).take y.length == y) = false := by simpa using hq
        simp only [b2, go_sem, Nat.reduceAdd, Nat.reduceEqDiff, Nat.reduceLT, reduceIte, reduceCtorEq, Nat.reduceBEq, Int.reduceLT, Int.reduceToNat, Int.reducePow, Nat.reduceLeDiff, Int.reduceLE, Nat.reduceMul, Nat.reduceSub]
        simp (disch := omega) only [wrap_i64]
        refine weak_by [] List.nodup_nil rfl ?_ trivial trivial (by simp)
        simp only [go_sem, Nat.reduceAdd, Nat.reduceEqDiff, Nat.reduceLT, reduceIte, reduceCtorEq, Nat.reduceBEq, Int.reduceLT, Int.reduceToNat, Int.reducePow, Nat.reduceLeDiff, Int.reduceLE, Nat.reduceMul, Nat.reduceSub, slotsBy, boxesBy, tipsBy, rawAt, nm, AV.ren, AV.renL, AV.under, AV.underL, List.all_nil, List.all_cons, bne_self_eq_false, List.getD_cons_zero, List.getD_cons_succ, List.length_nil, List.length_cons, and_true, true_and, Int.natCast_add, Int.natCast_one]
    · intro _
      have hw : IntKind.i64.wrap (((x.length + 1 - y.length : Nat) : Int) + (y.length : Int)) = ((x.length + 1 - y.length + y.length : Nat) : Int) := by rw [wrap_i64 _ (by omega) (by omega)]; omega
      have d1 : decide (((x.length + 1 - y.length + y.length : Nat) : Int) ≤ (x.length : Int)) = false := by simp only [decide_eq_false_iff_not]; omega
      have d2 : decide ((x.length : Int) ≥ 1) = true := by simp only [decide_eq_true_eq]; omega
      have d3 : decide ((x.length : Int) ≤ 4) = true := by simp only [decide_eq_true_eq]; omega
      simp only [hw, d1, d2, d3, go_sem, Nat.reduceAdd, Nat.reduceEqDiff, Nat.reduceLT, reduceIte, reduceCtorEq, Nat.reduceBEq, Int.reduceLT, Int.reduceToNat, Int.reducePow, Nat.reduceLeDiff, Int.reduceLE, Nat.reduceMul, Nat.reduceSub]
      refine callGo_pure awake01_pure (by rfl) ?_
      simp only [go_sem, Nat.reduceAdd, Nat.reduceEqDiff, Nat.reduceLT, reduceIte, reduceCtorEq, Nat.reduceBEq, Int.reduceLT, Int.reduceToNat, Int.reducePow, Nat.reduceLeDiff, Int.reduceLE, Nat.reduceMul, Nat.reduceSub]
      simp only [Done, resAV, resL, resOne, look_nil, look_cons, Nat.reduceEqDiff, if_true, if_false, reduceIte, ite_true, ite_false, Nat.zero_ne_one, Nat.one_ne_zero, reduceCtorEq, true_or, or_true, true_and, Option.some.injEq, AV.lit.injEq, Value.int.injEq, Value.bool.injEq]
  · have d0 : decide (((cut 0 (b.take M)).length : Int) > 0) = false := by simp only [decide_eq_false_iff_not]; omega
    simp only [d0, go_sem, Nat.reduceAdd, Nat.reduceEqDiff, Nat.reduceLT, reduceIte, reduceCtorEq, Nat.reduceBEq, Int.reduceLT, Int.reduceToNat, Int.reducePow, Nat.reduceLeDiff, Int.reduceLE, Nat.reduceMul, Nat.reduceSub]
    refine callGo_pure (encode_pure [r] (by simp)) (by rfl) ?_
    simp only [go_sem, Nat.reduceAdd, Nat.reduceEqDiff, Nat.reduceLT, reduceIte, reduceCtorEq, Nat.reduceBEq, Int.reduceLT, Int.reduceToNat, Int.reducePow, Nat.reduceLeDiff, Int.reduceLE, Nat.reduceMul, Nat.reduceSub]
    refine callGo_pure (encode_pure [s] (by simp)) (by rfl) ?_
    rw [encL_one, encL_one]
    have hx := encN_len (fixN r)
    have hy := encN_len (fixN s)
    have hin := enc_inside (fixN_scalar r) (fixN_scalar s)
    have hox := encN_octs (fixN_le r)
    have hoy := encN_octs (fixN_le s)
    generalize encN (fixN r) = x at hx hin hox ⊢
    generalize encN (fixN s) = y at hy hin hoy ⊢
    simp only [go_sem, Nat.reduceAdd, Nat.reduceEqDiff, Nat.reduceLT, reduceIte, reduceCtorEq, Nat.reduceBEq, Int.reduceLT, Int.reduceToNat, Int.reducePow, Nat.reduceLeDiff, Int.reduceLE, Nat.reduceMul, Nat.reduceSub]
    refine loop_to (x.length + 1 - y.length) (fun i => ⟨[(12, some (.sl 5 (octs x) none)), (13, some (.sl 5 (octs y) none)), (14, some (.lit (.int .i64 (i : Int))))], [], [], 0⟩)
      (fun _ => True) (((weak_untip 12 (by simp only [go_sem, Nat.reduceAdd, Nat.reduceEqDiff, Nat.reduceLT, reduceIte, reduceCtorEq, Nat.reduceBEq, Int.reduceLT, Int.reduceToNat, Int.reducePow, Nat.reduceLeDiff, Int.reduceLE, Nat.reduceMul, Nat.reduceSub]; rfl)).trans (weak_untip 13 (by simp only [go_sem, Nat.reduceAdd, Nat.reduceEqDiff, Nat.reduceLT, reduceIte, reduceCtorEq, Nat.reduceBEq, Int.reduceLT, Int.reduceToNat, Int.reducePow, Nat.reduceLeDiff, Int.reduceLE, Nat.reduceMul, Nat.reduceSub]; rfl))).trans (weak_by [] List.nodup_nil rfl ?_ trivial trivial (by simp))) trivial ?_ ?_
    · simp only [go_sem, Nat.reduceAdd, Nat.reduceEqDiff, Nat.reduceLT, reduceIte, reduceCtorEq, Nat.reduceBEq, Int.reduceLT, Int.reduceToNat, Int.reducePow, Nat.reduceLeDiff, Int.reduceLE, Nat.reduceMul, Nat.reduceSub, slotsBy, boxesBy, tipsBy, rawAt, nm, AV.ren, AV.renL, AV.under, AV.underL, List.all_nil, List.all_cons, bne_self_eq_false, List.getD_cons_zero, List.getD_cons_succ, List.length_nil, List.length_cons, and_true, true_and, Int.natCast_zero]
    · intro i hi _
      have hle : i + y.length ≤ x.length := by omega
      have hw : IntKind.i64.wrap ((i : Int) + (y.length : Int)) = ((i + y.length : Nat) : Int) := by rw [wrap_i64 _ (by omega) (by omega)]; omega
      have d1 : decide (((i + y.length : Nat) : Int) ≤ (x.length : Int)) = true := by simp only [decide_eq_true_eq]; omega
      have hsl : (if i ≤ i + y.length ∧ i + y.length ≤ x.length then some (i, i + y.length) else none : Option (Nat × Nat)) = some (i, i + y.length) := if_pos ⟨by omega, hle⟩
      have htk : ((octs x).take (i + y.length)).drop i = octs ((x.drop i).take y.length) := by
        rw [octs_take, octs_drop, List.drop_take]
        congr 1
        simp
      simp only [hw, d1, hsl, htk, go_sem, Nat.reduceAdd, Nat.reduceEqDiff, Nat.reduceLT, reduceIte, reduceCtorEq, Nat.reduceBEq, Int.reduceLT, Int.reduceToNat, Int.reducePow, Nat.reduceLeDiff, Int.reduceLE, Nat.reduceMul, Nat.reduceSub]
      refine callGo_pure (same_pure _ _ (fun n hn => hox n (List.mem_of_mem_drop (List.mem_of_mem_take hn))) hoy) (by rfl) ?_
      by_cases hq : (x.drop i).take y.length = y
      · obtain ⟨h1, h2⟩ := hin i hle hq
        have b0 : ((i : Int) != 0) = false := by rw [h1]; rfl
        have b1 : ((x.length : Int) != (y.length : Int)) = false := by rw [h2]; simp
        have b2 : ((x.drop i).take y.length == y) = true := by rw [hq]; simp
        have hw1 : IntKind.i64.wrap ((i : Int) + 1) = ((i + 1 : Nat) : Int) := by rw [wrap_i64 _ (by omega) (by omega)]; omega
        simp only [b2, b0, b1, hw1, go_sem, Nat.reduceAdd, Nat.reduceEqDiff, Nat.reduceLT, reduceIte, reduceCtorEq, Nat.reduceBEq, Int.reduceLT, Int.reduceToNat, Int.reducePow, Nat.reduceLeDiff, Int.reduceLE, Nat.reduceMul, Nat.reduceSub]
        refine weak_by [] List.nodup_nil rfl ?_ trivial trivial (by simp)
        simp only [go_sem, Nat.reduceAdd, Nat.reduceEqDiff, Nat.reduceLT, reduceIte, reduceCtorEq, Nat.reduceBEq, Int.reduceLT, Int.reduceToNat, Int.reducePow, Nat.reduceLeDiff, Int.reduceLE, Nat.reduceMul, Nat.reduceSub, slotsBy, boxesBy, tipsBy, rawAt, nm, AV.ren, AV.renL, AV.under, AV.underL, List.all_nil, List.all_cons, bne_self_eq_false, List.getD_cons_zero, List.getD_cons_succ, List.length_nil, List.length_cons, and_true, true_and]
      · have b2 : ((x.drop i).take y.length == y) = false := by simpa using hq
        simp only [b2, go_sem, Nat.reduceAdd, Nat.reduceEqDiff, Nat.reduceLT, reduceIte, reduceCtorEq, Nat.reduceBEq, Int.reduceLT, Int.reduceToNat, Int.reducePow, Nat.reduceLeDiff, Int.reduceLE, Nat.reduceMul, Nat.reduceSub]
        simp (disch := omega) only [wrap_i64]
        refine weak_by [] List.nodup_nil rfl ?_ trivial trivial (by simp)
        simp only [go_sem, Nat.reduceAdd, Nat.reduceEqDiff, Nat.reduceLT, reduceIte, reduceCtorEq, Nat.reduceBEq, Int.reduceLT, Int.reduceToNat, Int.reducePow, Nat.reduceLeDiff, Int.reduceLE, Nat.reduceMul, Nat.reduceSub, slotsBy, boxesBy, tipsBy, rawAt, nm, AV.ren, AV.renL, AV.under, AV.underL, List.all_nil, List.all_cons, bne_self_eq_false, List.getD_cons_zero, List.getD_cons_succ, List.length_nil, List.length_cons, and_true, true_and, Int.natCast_add, Int.natCast_one]
    · intro _
      have hw : IntKind.i64.wrap (((x.length + 1 - y.length : Nat) : Int) + (y.length : Int)) = ((x.length + 1 - y.length + y.length : Nat) : Int) := by rw [wrap_i64 _ (by omega) (by omega)]; omega
      have d1 : decide (((x.length + 1 - y.length + y.length : Nat) : Int) ≤ (x.length : Int)) = false := by simp only [decide_eq_false_iff_not]; omega
      have d2 : decide ((x.length : Int) ≥ 1) = true := by simp only [decide_eq_true_eq]; omega
      have d3 : decide ((x.length : Int) ≤ 4) = true := by simp only [decide_eq_true_eq]; omega
      simp only [hw, d1, d2, d3, go_sem, Nat.reduceAdd, Nat.reduceEqDiff, Nat.reduceLT, reduceIte, reduceCtorEq, Nat.reduceBEq, Int.reduceLT, Int.reduceToNat, Int.reducePow, Nat.reduceLeDiff, Int.reduceLE, Nat.reduceMul, Nat.reduceSub]
      refine callGo_pure awake01_pure (by rfl) ?_
      simp only [go_sem, Nat.reduceAdd, Nat.reduceEqDiff, Nat.reduceLT, reduceIte, reduceCtorEq, Nat.reduceBEq, Int.reduceLT, Int.reduceToNat, Int.reducePow, Nat.reduceLeDiff, Int.reduceLE, Nat.reduceMul, Nat.reduceSub]
      simp only [Done, resAV, resL, resOne, look_nil, look_cons, Nat.reduceEqDiff, if_true, if_false, reduceIte, ite_true, ite_false, Nat.zero_ne_one, Nat.one_ne_zero, reduceCtorEq, true_or, or_true, true_and, Option.some.injEq, AV.lit.injEq, Value.int.injEq, Value.bool.injEq]

theorem utfParts_any (avs : List AV) (h : Args Try.prog Try.f3.params.toList avs) : Pure Try.prog 3 avs [] (.lit (.bool true)) := by
  have hp : Try.f3.params.toList = [22, 23, 21, 21] := by kernel_rfl
  rw [hp] at h
  obtain ⟨av0, rest0, rfl, a0, h0⟩ := h
  obtain ⟨av1, rest1, rfl, a1, h1⟩ := h0
  obtain ⟨av2, rest2, rfl, a2, h2⟩ := h1
  obtain ⟨av3, rest3, rfl, a3, rfl⟩ := h2
  obtain ⟨z0, rfl, w0, s0⟩ := arg_ints (e := 5) (k := .u8) (by kernel_rfl) (by kernel_rfl) a0
  rw [show Try.prog.bytesOf 5 = 1 from by kernel_rfl] at s0
  obtain ⟨y0, e0, v0, k0⟩ := octs_of z0 (fun n hn => by simpa [Lit.wf, IntKind.min, IntKind.max, IntKind.signed, IntKind.bits] using w0 n hn)
  rw [e0]
  obtain ⟨z1, rfl, w1⟩ := arg_int (k := .u16) (by kernel_rfl) a1
  obtain ⟨z2, rfl, w2⟩ := arg_int (k := .i32) (by kernel_rfl) a2
  obtain ⟨z3, rfl, w3⟩ := arg_int (k := .i32) (by kernel_rfl) a3
  exact utfParts_pure y0 ⟨by omega, v0⟩ z1 (by simpa [Lit.wf, IntKind.min, IntKind.max, IntKind.signed, IntKind.bits] using w1) z2 (by simpa [Lit.wf, IntKind.min, IntKind.max, IntKind.signed, IntKind.bits] using w2) z3 (by simpa [Lit.wf, IntKind.min, IntKind.max, IntKind.signed, IntKind.bits] using w3)

set_option maxRecDepth 100000 in
theorem utfParts_lifted (os : Os) (started : os.Started) (H : Type) (enc : TypeId × Value → H) :
    ReturnsInHanded {} Try.checked os 3 .any (Rows.utfPartsSpec.pre6 enc Try.prog Try.f3 Rows.utfPartsRow.domain false) (Rows.utfPartsSpec.post enc Try.prog Try.f3 false true false false) := by
  refine law_returns (C := Try.checked) (tb := 4) (by kernel_rfl) started (by kernel_rfl) Try.func3
    (ChangeSpec.witness6 (enc := enc) (C := Try.checked) false ⟨#[], #[.slice none 0 0, .int .u16 0, .int .i32 0, .int .i32 0], []⟩ 8 (by kernel_rfl) (by kernel_rfl) (by kernel_rfl) (by kernel_rfl))
    (by kernel_rfl) (by kernel_rfl) rfl rfl (by kernel_rfl) (by kernel_rfl) ?_ utfParts_any
  intro ds hds
  have hp : Try.f3.params.toList = [22, 23, 21, 21] := by kernel_rfl
  rw [hp] at hds
  match ds, hds with
  | [d0, d1, d2, d3], _ => exact ⟨rfl, rfl, rfl⟩

theorem utfParts_holds : Rows.UtfPartsSaid :=
  OpenClaim.holds_of_wide 3 Try.f3 rfl rfl rfl rfl rfl rfl rfl ⟨rfl, rfl, rfl, rfl, rfl⟩ rfl rfl rfl rfl rfl (by kernel_rfl) Try.func3 (by kernel_rfl)
    (of_decide_eq_true (by kernel_rfl)) (by unfold Func.isWrapper; first | (rw [if_pos (by decide +kernel)]; kernel_rfl) | (rw [if_neg (by decide +kernel)]; exact ⟨rfl, rfl⟩))
    (fun os started H enc _ => utfParts_lifted os started H enc)
end Go.Proofs.Ytbnaepdeakcljaa
