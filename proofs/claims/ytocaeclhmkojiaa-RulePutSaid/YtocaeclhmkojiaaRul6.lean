/-
A letter of the other direction, of its own, a hyphen, put into a label that fails nothing: the statement RulePut. Conditions: none.
-/
import Derived.Test.YtocaeclhmkojiaaRul4
set_option linter.unusedSimpArgs false
set_option linter.unusedVariables false
set_option linter.unusedSectionVars false
namespace Go.Proofs.Ytocaeclhmkojiaa
open Go Go.Ab Go.ChangeShapes Go.WideShapes Go.ChangeAt Go.RowKit
def a23 : ACode :=
  (.seq (.reg [⟨(.some 5), (.mv (.k (.int .u8 0))), .none⟩]) (.seq (.dreg [⟨(.some 6), (.bs 21 1 []), .none⟩, ⟨(.some 7), (.ld .none (.t 2)), .none⟩, ⟨(.some 8), (.mv (.t 1)), .none⟩, ⟨(.some 9), (.slc
  21 (.t 7) .none (.some (.t 8))), .none⟩, ⟨(.some 10), (.app 21 4 (.t 6) (.t 9)), .none⟩, ⟨(.some 11), (.mv (.t 0)), .none⟩, ⟨(.some 12), (.bs0 21 1 [(.t 11)]), .none⟩, ⟨(.some 13), (.app 21 4 (.t 10)
  (.t 12)), .none⟩, ⟨(.some 14), (.ld .none (.t 2)), .none⟩, ⟨(.some 15), (.mv (.t 1)), .none⟩, ⟨(.some 16), (.slc 21 (.t 14) (.some (.t 15)) .none), .none⟩, ⟨(.some 17), (.app 21 4 (.t 13) (.t 16)),
  .none⟩, ⟨(.some 18), (.call (.f 19) [(.t 17)]), .none⟩, ⟨(.some 5), (.mv (.t 18)), .none⟩]) .ret))
theorem c23 : Try.f23.body.bind (cCode Try.prog 19) = some a23 := by kernel_rfl
theorem r23 : Try.f23.results.toList = [(.tmp 5)] := by kernel_rfl
theorem n23 : Try.f23.ntmps = 19 := by kernel_rfl
theorem e23 : Enters Try.prog 23 := enters_of Try.func23 (by kernel_rfl) (by kernel_rfl)
def a6 : ACode :=
  (.seq (.reg [⟨(.some 2), (.box 22 (.t 0)), .none⟩, ⟨(.some 4), (.mv (.k (.bool false))), .none⟩]) (.seq (.seq (.reg [⟨(.some 9), (.ld .none (.t 2)), .none⟩, ⟨(.some 10), (.len (.t 9)), .none⟩, ⟨(.some
  11), (.bin .gtr (.t 10) (.k (.int .i64 100))), .none⟩, ⟨(.some 12), (.mv (.t 11)), .none⟩, ⟨(.some 13), (.ld .none (.t 2)), (.some (12, false))⟩, ⟨(.some 14), (.len (.t 13)), (.some (12, false))⟩,
  ⟨(.some 15), (.bin .eql (.t 14) (.k (.int .i64 0))), (.some (12, false))⟩, ⟨(.some 16), (.pick (.t 12) (.k (.bool true)) (.t 15)), .none⟩, ⟨(.some 17), (.mv (.t 16)), .none⟩, ⟨(.some 18), (.ld .none
  (.t 2)), (.some (17, false))⟩, ⟨(.some 19), (.call (.f 19) [(.t 18)]), (.some (17, false))⟩, ⟨(.some 20), (.bin .neq (.t 19) (.k (.int .u8 0))), (.some (17, false))⟩, ⟨(.some 21), (.pick (.t 17) (.k
  (.bool true)) (.t 20)), .none⟩]) (.cond (.t 21) (.seq (.reg [⟨(.some 22), (.call (.f 21) []), .none⟩, ⟨(.some 4), (.mv (.t 22)), .none⟩]) .ret) .skip)) (.seq (.reg [⟨(.some 5), (.mv (.k (.int .i32
  97))), .none⟩, ⟨(.some 6), (.mv (.k (.int .i32 1488))), .none⟩]) (.seq (.seq (.reg [⟨(.some 23), (.ld .none (.t 2)), .none⟩, ⟨(.some 24), (.ia 21 (.t 23) (.k (.int .i64 0))), .none⟩, ⟨(.some 25), (.ld
  .none (.t 24)), .none⟩, ⟨(.some 26), (.call (.f 22) [(.t 25)]), .none⟩, ⟨(.some 27), (.fld 1 .none (.t 26)), .none⟩, ⟨(.some 28), (.bin .neq (.t 27) (.k (.int .u8 0))), .none⟩]) (.cond (.t 28) (.reg
  [⟨(.some 29), (.mv (.t 6)), .none⟩, ⟨(.some 30), (.mv (.t 5)), .none⟩, ⟨(.some 5), (.mv (.t 29)), .none⟩, ⟨(.some 6), (.mv (.t 30)), .none⟩]) .skip)) (.seq (.reg [⟨(.some 31), (.mv (.t 1)), .none⟩,
  ⟨(.some 32), (.cvI .i64 (.t 31)), .none⟩, ⟨(.some 33), (.ld .none (.t 2)), .none⟩, ⟨(.some 34), (.len (.t 33)), .none⟩, ⟨(.some 35), (.bin .rem (.t 32) (.t 34)), .none⟩, ⟨(.some 36), (.bin .add (.k
  (.int .i64 1)) (.t 35)), .none⟩, ⟨(.some 7), (.mv (.t 36)), .none⟩]) (.seq (.reg [⟨(.some 37), (.mkf (.func 23) [] [(.t 2)]), .none⟩, ⟨(.some 8), (.mv (.t 37)), .none⟩]) (.seq (.reg [⟨(.some 38), (.mv
  (.t 8)), .none⟩, ⟨(.some 39), (.mv (.t 6)), .none⟩, ⟨(.some 40), (.mv (.t 7)), .none⟩, ⟨(.some 41), (.call (.t 38) [(.t 39), (.t 40)]), .none⟩, ⟨(.some 42), (.bin .eql (.t 41) (.k (.int .u8 10))),
  .none⟩, ⟨(.some 43), (.mv (.t 42)), .none⟩, ⟨(.some 44), (.mv (.t 8)), (.some (43, true))⟩, ⟨(.some 45), (.mv (.t 5)), (.some (43, true))⟩, ⟨(.some 46), (.ld .none (.t 2)), (.some (43, true))⟩,
  ⟨(.some 47), (.len (.t 46)), (.some (43, true))⟩, ⟨(.some 48), (.call (.t 44) [(.t 45), (.t 47)]), (.some (43, true))⟩, ⟨(.some 49), (.bin .eql (.t 48) (.k (.int .u8 0))), (.some (43, true))⟩, ⟨(.some
  50), (.pick (.t 43) (.t 49) (.k (.bool false))), .none⟩, ⟨(.some 51), (.mv (.t 50)), .none⟩, ⟨(.some 52), (.mv (.t 8)), (.some (51, true))⟩, ⟨(.some 53), (.mv (.t 5)), (.some (51, true))⟩, ⟨(.some
  54), (.call (.t 52) [(.t 53), (.k (.int .i64 0))]), (.some (51, true))⟩, ⟨(.some 55), (.bin .eql (.t 54) (.k (.int .u8 0))), (.some (51, true))⟩, ⟨(.some 56), (.pick (.t 51) (.t 55) (.k (.bool
  false))), .none⟩, ⟨(.some 57), (.mv (.t 56)), .none⟩, ⟨(.some 58), (.mv (.t 8)), (.some (57, true))⟩, ⟨(.some 59), (.ld .none (.t 2)), (.some (57, true))⟩, ⟨(.some 60), (.len (.t 59)), (.some (57,
  true))⟩, ⟨(.some 61), (.call (.t 58) [(.k (.int .i32 45)), (.t 60)]), (.some (57, true))⟩, ⟨(.some 62), (.bin .eql (.t 61) (.k (.int .u8 11))), (.some (57, true))⟩, ⟨(.some 63), (.pick (.t 57) (.t 62)
  (.k (.bool false))), .none⟩, ⟨(.some 64), (.mv (.t 63)), .none⟩, ⟨(.some 65), (.mv (.t 8)), (.some (64, true))⟩, ⟨(.some 66), (.call (.t 65) [(.k (.int .i32 45)), (.k (.int .i64 0))]), (.some (64,
  true))⟩, ⟨(.some 67), (.bin .eql (.t 66) (.k (.int .u8 9))), (.some (64, true))⟩, ⟨(.some 68), (.pick (.t 64) (.t 67) (.k (.bool false))), .none⟩, ⟨(.some 69), (.mv (.t 68)), .none⟩, ⟨(.some 70),
  (.call (.f 21) []), (.some (69, true))⟩, ⟨(.some 71), (.pick (.t 69) (.t 70) (.k (.bool false))), .none⟩, ⟨(.some 4), (.mv (.t 71)), .none⟩]) .ret)))))))
theorem c6 : Try.f6.body.bind (cCode Try.prog 72) = some a6 := by kernel_rfl
theorem r6 : Try.f6.results.toList = [(.tmp 4)] := by kernel_rfl
theorem n6 : Try.f6.ntmps = 72 := by kernel_rfl
theorem e6 : Enters Try.prog 6 := enters_of Try.func6 (by kernel_rfl) (by kernel_rfl)

def put9 (l : List Int) (k : Nat) (r : Int) : List Int := l.take k ++ [r] ++ l.drop k
theorem put9_end (l : List Int) (r : Int) : put9 l l.length r = l ++ [r] := by simp [put9]
theorem put9_zero (l : List Int) (r : Int) : put9 l 0 r = r :: l := by simp [put9]
theorem put9_len (l : List Int) (k : Nat) (r : Int) (h : k ≤ l.length) : (put9 l k r).length = l.length + 1 := by simp [put9]; omega

theorem cls_up (r : Int) : ∃ n : Nat, n < 23 ∧ cls r = n := ⟨(cls r).toNat, by have := cls_in r; omega, by have := cls_in r; omega⟩
theorem cls97 : cls 97 = 0 := by decide +kernel
theorem cls1488 : cls 1488 = 1 := by decide +kernel
theorem cls45 : cls 45 = 4 := by decide +kernel

theorem within_all {wi en : Int} {l : List Int} (h : failsOf wi en l = 0) : ∀ r ∈ l, hasB wi (cls r) = true := by
  unfold failsOf at h
  split at h
  · omega
  · rename_i hn
    intro r hr
    rw [Bool.not_eq_true, List.any_eq_false] at hn
    have := hn r hr
    simpa using this
theorem lacks_none {wi : Int} {l : List Int} (h : ∀ r ∈ l, hasB wi (cls r) = true) : l.any (fun r => !hasB wi (cls r)) = false := by
  rw [List.any_eq_false]
  intro r hr
  simp [h r hr]
theorem fails_snoc {wi en : Int} {l : List Int} {r : Int} (ha : ∀ x ∈ l, hasB wi (cls x) = true) (hr : hasB wi (cls r) = true) (hm : hasB 256 (cls r) = false) : failsOf wi en (l ++ [r]) = if hasB en (cls r) = true then 0 else 11 := by
  have hl : lastOf (l ++ [r]) = some r := by simp [lastOf, hm]
  unfold failsOf
  rw [hl, lacks_none (l := l ++ [r])]
  · simp
  · intro x hx
    rcases List.mem_append.1 hx with hx | hx
    · exact ha x hx
    · simp only [List.mem_cons, List.not_mem_nil, or_false] at hx
      rw [hx]; exact hr
theorem fails_cons {wi en : Int} {l : List Int} {r : Int} (h : failsOf wi en l = 0) (hr : hasB wi (cls r) = true) : failsOf wi en (r :: l) = 0 := by
  have ha := within_all h
  have hn := lacks_none ha
  have hn2 : (r :: l).any (fun r => !hasB wi (cls r)) = false := by simp only [List.any_cons, hn, hr, Bool.not_true, Bool.or_false]
  unfold failsOf at h ⊢
  rw [hn] at h
  rw [hn2]
  simp only [Bool.false_eq_true, if_false] at h ⊢
  cases hl : lastOf l with
  | none => rw [hl] at h; simp at h
  | some x =>
    have hl2 : lastOf (r :: l) = some x := by
      unfold lastOf at hl ⊢
      rw [List.reverse_cons, List.find?_append, hl]; rfl
    rw [hl] at h
    rw [hl2]
    exact h
theorem fails_lack {wi en : Int} {l : List Int} {r : Int} (hr : r ∈ l) (h : hasB wi (cls r) = false) : failsOf wi en l = 10 := by
  unfold failsOf
  rw [if_pos (List.any_eq_true.2 ⟨r, hr, by rw [h]; rfl⟩)]
theorem mem_put (l : List Int) (k : Nat) (r : Int) : r ∈ put9 l k r := by simp [put9]

theorem has7 : ∀ n < 23, hasB 7 ((n : Nat) : Int) = decide (n ≤ 2) := by decide +kernel
theorem has1 : ∀ n < 23, hasB 1 ((n : Nat) : Int) = decide (n = 0) := by decide +kernel
theorem rule_L {x : Int} {q : List Int} (h : cls x = 0) : ruleOf (x :: q) = failsOf 9145 9 (x :: q) := by
  simp only [ruleOf]
  rw [if_neg (by rw [h]; decide +kernel), if_pos (by rw [h]; decide +kernel)]
theorem rule_R {x : Int} {q : List Int} (h : cls x = 1 ∨ cls x = 2) : ruleOf (x :: q) = if failsOf 9214 78 (x :: q) ≠ 0 then failsOf 9214 78 (x :: q) else if ((x :: q).any (fun r => hasB 8 (cls r)) && (x :: q).any (fun r => hasB 64 (cls r))) = true then 12 else 0 := by
  simp only [ruleOf]
  rw [if_neg (by rcases h with h | h <;> rw [h] <;> decide +kernel), if_neg (by rcases h with h | h <;> rw [h] <;> decide +kernel)]
theorem rule_9 {x : Int} {q : List Int} (h : hasB 7 (cls x) = false) : ruleOf (x :: q) = 9 := by
  simp only [ruleOf]
  rw [if_pos h]
theorem rule_zero {x : Int} {q : List Int} (h : ruleOf (x :: q) = 0) : (cls x = 0 ∧ failsOf 9145 9 (x :: q) = 0) ∨ ((cls x = 1 ∨ cls x = 2) ∧ failsOf 9214 78 (x :: q) = 0 ∧ ((x :: q).any (fun r => hasB 8 (cls r)) && (x :: q).any (fun r => hasB 64 (cls r))) = false) := by
  obtain ⟨n, hn, hc⟩ := cls_up x
  have g7 := has7 n hn
  rw [← hc] at g7
  by_cases h7 : hasB 7 (cls x) = false
  · rw [rule_9 h7] at h; omega
  · rw [Bool.not_eq_false] at h7
    rw [h7] at g7
    have g7 := of_decide_eq_true g7.symm
    by_cases h0 : cls x = 0
    · rw [rule_L h0] at h; exact .inl ⟨h0, h⟩
    · have h12 : cls x = 1 ∨ cls x = 2 := by omega
      rw [rule_R h12] at h
      split at h
      · rename_i hh; exact absurd h hh
      · rename_i hh
        split at h
        · omega
        · rename_i hx
          exact .inr ⟨h12, by simpa using hh, by simpa using hx⟩

/-- What a letter put into a label makes of it. -/
theorem put_all {l : List Int} (hl : 0 < l.length) (h : ruleOf l = 0) : ∃ own other : Int, (own = if cls l[0] = 0 then 97 else 1488) ∧ (other = if cls l[0] = 0 then 1488 else 97) ∧
    (∀ k, 0 < k → ruleOf (put9 l k other) = 10) ∧ ruleOf (put9 l l.length own) = 0 ∧ ruleOf (put9 l 0 own) = 0 ∧ ruleOf (put9 l l.length 45) = 11 ∧ ruleOf (put9 l 0 45) = 9 := by
  match l, hl, h with
  | x :: q, hl, h =>
    have hput : ∀ k r, 0 < k → ∃ q', put9 (x :: q) k r = x :: q' := by
      intro k r hk
      obtain ⟨k, rfl⟩ : ∃ k', k = k' + 1 := ⟨k - 1, by omega⟩
      exact ⟨q.take k ++ r :: q.drop k, by simp [put9]⟩
    have h9 : ruleOf (put9 (x :: q) 0 45) = 9 := by rw [put9_zero]; exact rule_9 (by rw [cls45]; decide +kernel)
    simp only [List.getElem_cons_zero]
    rcases rule_zero h with ⟨h0, hf⟩ | ⟨h0, hf, hx⟩
    · refine ⟨97, 1488, by rw [if_pos h0], by rw [if_pos h0], fun k hk => ?_, ?_, ?_, ?_, h9⟩
      · obtain ⟨q', hq⟩ := hput k 1488 hk
        have hm := mem_put (x :: q) k 1488
        rw [hq] at hm ⊢
        rw [rule_L h0]
        exact fails_lack hm (by rw [cls1488]; decide +kernel)
      · rw [put9_end, List.cons_append, rule_L h0, ← List.cons_append, fails_snoc (within_all hf) (by rw [cls97]; decide +kernel) (by rw [cls97]; decide +kernel), if_pos (by rw [cls97]; decide +kernel)]
      · rw [put9_zero, rule_L cls97, fails_cons hf (by rw [cls97]; decide +kernel)]
      · rw [put9_end, List.cons_append, rule_L h0, ← List.cons_append, fails_snoc (within_all hf) (by rw [cls45]; decide +kernel) (by rw [cls45]; decide +kernel), if_neg (by rw [cls45]; decide +kernel)]
    · have hne : ¬ cls x = 0 := by omega
      have hany : ∀ r, hasB 8 (cls r) = false → hasB 64 (cls r) = false → ((x :: q ++ [r]).any (fun r => hasB 8 (cls r)) && (x :: q ++ [r]).any (fun r => hasB 64 (cls r))) = false ∧ ((r :: x :: q).any (fun r => hasB 8 (cls r)) && (r :: x :: q).any (fun r => hasB 64 (cls r))) = false := by
        intro r h1 h2
        rw [List.any_append, List.any_append]
        simp only [List.any_cons, List.any_nil, h1, h2, Bool.or_false, Bool.false_or] at hx ⊢
        exact ⟨hx, hx⟩
      have h1488 := hany 1488 (by rw [cls1488]; decide +kernel) (by rw [cls1488]; decide +kernel)
      refine ⟨1488, 97, by rw [if_neg hne], by rw [if_neg hne], fun k hk => ?_, ?_, ?_, ?_, h9⟩
      · obtain ⟨q', hq⟩ := hput k 97 hk
        have hm := mem_put (x :: q) k 97
        rw [hq] at hm ⊢
        have hf10 : failsOf 9214 78 (x :: q') = 10 := fails_lack hm (by rw [cls97]; decide +kernel)
        rw [rule_R h0, hf10]; rfl
      · have hf0 : failsOf 9214 78 (x :: q ++ [1488]) = 0 := by rw [fails_snoc (within_all hf) (by rw [cls1488]; decide +kernel) (by rw [cls1488]; decide +kernel), if_pos (by rw [cls1488]; decide +kernel)]
        rw [put9_end, List.cons_append, rule_R h0, ← List.cons_append, hf0, h1488.1]; rfl
      · rw [put9_zero, rule_R (.inl cls1488), fails_cons hf (by rw [cls1488]; decide +kernel), h1488.2]; rfl
      · have hf11 : failsOf 9214 78 (x :: q ++ [45]) = 11 := by rw [fails_snoc (within_all hf) (by rw [cls45]; decide +kernel) (by rw [cls45]; decide +kernel), if_neg (by rw [cls45]; decide +kernel)]
        rw [put9_end, List.cons_append, rule_R h0, ← List.cons_append, hf11]; rfl

set_option maxRecDepth 10000 in
theorem put1_pure (l : List Int) (hl : l.length ≤ 1000) (r : Int) (k : Nat) (hk : k ≤ l.length) : Pure Try.prog 23 [.lit (.int .i32 r), .lit (.int .i64 k), .ep [.sl 21 (runes l) none]] [] (.lit (.int .u8 (ruleOf (put9 l k r)))) := by
  have hpl := put9_len l k r hk
  have hb1 : (if 0 ≤ k ∧ k ≤ l.length then some (0, k) else none : Option (Nat × Nat)) = some (0, k) := if_pos ⟨Nat.zero_le _, hk⟩
  have hb2 : (if k ≤ l.length ∧ l.length ≤ l.length then some (k, l.length) else none : Option (Nat × Nat)) = some (k, l.length) := if_pos ⟨hk, Nat.le_refl _⟩
  refine pure0 Try.func23 c23 n23 e23 r23 (by simp) rfl ?_
  simp only [a23, astart, argSlots, go_sem, Nat.reduceAdd, Nat.reduceEqDiff, Nat.reduceLT, reduceIte, reduceCtorEq, Nat.reduceBEq, Int.reduceLT, Int.reduceToNat, Int.reducePow, Nat.reduceLeDiff, Int.reduceLE, Nat.reduceMul, Nat.reduceSub, runes_length, hb1, hb2, runes_take, runes_drop, List.drop_zero, List.take_length]
  have h1 : (l.take k).length ≤ l.length := by simp; omega
  refine ⟨by omega, by omega, by simp only [List.length_append, List.length_drop, List.length_cons, List.length_nil]; omega, ?_⟩
  refine dcallGo_pure (rule_pure (put9 l k r) (by omega)) (by rfl) rfl ?_
  simp only [go_sem, Nat.reduceAdd, Nat.reduceEqDiff, Nat.reduceLT, reduceIte, reduceCtorEq, Nat.reduceBEq, Int.reduceLT, Int.reduceToNat, Int.reducePow, Nat.reduceLeDiff, Int.reduceLE, Nat.reduceMul, Nat.reduceSub]
  simp only [Done, resAV, resL, resOne, look_nil, look_cons, Nat.reduceEqDiff, if_true, if_false, reduceIte, ite_true, ite_false, Nat.zero_ne_one, Nat.one_ne_zero, reduceCtorEq, true_or, or_true, true_and, Option.some.injEq, AV.lit.injEq, Value.int.injEq, Value.bool.injEq]

set_option maxRecDepth 10000 in
theorem rulePut_pure (l : List Int) (h : Runes l) (a : Int) (ha : 0 ≤ a ∧ a ≤ 255) : Pure Try.prog 6 [.sl 21 (runes l) none, .lit (.int .u8 a)] [] (.lit (.bool true)) := by
  have hl : l.length ≤ 4611686018427387904 := by have := h.1; omega
  refine pure0 Try.func6 c6 n6 e6 r6 (by simp) rfl ?_
  simp only [a6, astart, argSlots, go_sem, Nat.reduceAdd, Nat.reduceEqDiff, Nat.reduceLT, reduceIte, reduceCtorEq, Nat.reduceBEq, Int.reduceLT, Int.reduceToNat, Int.reducePow, Nat.reduceLeDiff, Int.reduceLE, Nat.reduceMul, Nat.reduceSub, runes_length, allOne, AV.one]
  by_cases h100 : 100 < l.length
  · have e1 : decide ((l.length : Int) > 100) = true := by simp only [decide_eq_true_eq]; omega
    simp only [e1, go_sem, Nat.reduceAdd, Nat.reduceEqDiff, Nat.reduceLT, reduceIte, reduceCtorEq, Nat.reduceBEq, Int.reduceLT, Int.reduceToNat, Int.reducePow, Nat.reduceLeDiff, Int.reduceLE, Nat.reduceMul, Nat.reduceSub]
    refine callGo_pure awake09_pure (by rfl) ?_
    simp only [go_sem, Nat.reduceAdd, Nat.reduceEqDiff, Nat.reduceLT, reduceIte, reduceCtorEq, Nat.reduceBEq, Int.reduceLT, Int.reduceToNat, Int.reducePow, Nat.reduceLeDiff, Int.reduceLE, Nat.reduceMul, Nat.reduceSub]
    simp only [Done, resAV, resL, resOne, look_nil, look_cons, Nat.reduceEqDiff, if_true, if_false, reduceIte, ite_true, ite_false, Nat.zero_ne_one, Nat.one_ne_zero, reduceCtorEq, true_or, or_true, true_and, Option.some.injEq, AV.lit.injEq, Value.int.injEq, Value.bool.injEq]
  have e1 : decide ((l.length : Int) > 100) = false := by simp only [decide_eq_false_iff_not]; omega
  by_cases h0 : l.length = 0
  · have e2 : ((l.length : Int) == 0) = true := by simp [h0]
    simp only [e1, e2, go_sem, Nat.reduceAdd, Nat.reduceEqDiff, Nat.reduceLT, reduceIte, reduceCtorEq, Nat.reduceBEq, Int.reduceLT, Int.reduceToNat, Int.reducePow, Nat.reduceLeDiff, Int.reduceLE, Nat.reduceMul, Nat.reduceSub]
    refine callGo_pure awake09_pure (by rfl) ?_
    simp only [go_sem, Nat.reduceAdd, Nat.reduceEqDiff, Nat.reduceLT, reduceIte, reduceCtorEq, Nat.reduceBEq, Int.reduceLT, Int.reduceToNat, Int.reducePow, Nat.reduceLeDiff, Int.reduceLE, Nat.reduceMul, Nat.reduceSub]
    simp only [Done, resAV, resL, resOne, look_nil, look_cons, Nat.reduceEqDiff, if_true, if_false, reduceIte, ite_true, ite_false, Nat.zero_ne_one, Nat.one_ne_zero, reduceCtorEq, true_or, or_true, true_and, Option.some.injEq, AV.lit.injEq, Value.int.injEq, Value.bool.injEq]
  have hpos : 0 < l.length := by omega
  have e2 : ((l.length : Int) == 0) = false := by simp; intro he; simp [he] at hpos
  simp only [e1, e2, go_sem, Nat.reduceAdd, Nat.reduceEqDiff, Nat.reduceLT, reduceIte, reduceCtorEq, Nat.reduceBEq, Int.reduceLT, Int.reduceToNat, Int.reducePow, Nat.reduceLeDiff, Int.reduceLE, Nat.reduceMul, Nat.reduceSub]
  refine callGo_pure (rule_pure l (by omega)) (by rfl) ?_
  by_cases hz : ruleOf l = 0
  · have e3 : (ruleOf l != 0) = false := by simp [hz]
    simp only [e3, go_sem, Nat.reduceAdd, Nat.reduceEqDiff, Nat.reduceLT, reduceIte, reduceCtorEq, Nat.reduceBEq, Int.reduceLT, Int.reduceToNat, Int.reducePow, Nat.reduceLeDiff, Int.reduceLE, Nat.reduceMul, Nat.reduceSub]
    obtain ⟨own, other, ho, hx, p1, p2, p3, p4, p5⟩ := put_all hpos hz
    have hcl : (rowAt l[0]).bidi = cls l[0] := rfl
    have hg := runes_get l 0 hpos
    generalize l[0] = c at hg ho hx hcl
    obtain ⟨an, rfl⟩ : ∃ n : Nat, a = n := ⟨a.toNat, by omega⟩
    have hw : IntKind.i64.wrap (an : Int) = an := wrap_i64 _ (by omega) (by omega)
    have hmod : (an % l.length) < l.length := Nat.mod_lt _ hpos
    have hk : IntKind.i64.wrap (1 + ((an % l.length : Nat) : Int)) = ((1 + an % l.length : Nat) : Int) := by rw [wrap_i64 _ (by omega) (by omega)]; omega
    have ht : Int.tmod (an : Int) (l.length : Int) = ((an % l.length : Nat) : Int) := by rw [Int.tmod_eq_emod_of_nonneg (by omega)]; rfl
    have e5 : ((l.length : Int) = 0) = False := by simp; intro he; simp [he] at hpos
    have hK : 1 + an % l.length ≤ l.length := by omega
    have hpK : 0 < 1 + an % l.length := by omega
    have q10 : ((10 : Int) == 10) = true := rfl
    have q0 : ((0 : Int) == 0) = true := rfl
    have q11 : ((11 : Int) == 11) = true := rfl
    have q9 : ((9 : Int) == 9) = true := rfl
    simp only [hg, go_sem, Nat.reduceAdd, Nat.reduceEqDiff, Nat.reduceLT, reduceIte, reduceCtorEq, Nat.reduceBEq, Int.reduceLT, Int.reduceToNat, Int.reducePow, Nat.reduceLeDiff, Int.reduceLE, Nat.reduceMul, Nat.reduceSub]
    refine callGo_pure (of_pure c) (by rfl) ?_
    simp only [Row.prop, hcl, go_sem, Nat.reduceAdd, Nat.reduceEqDiff, Nat.reduceLT, reduceIte, reduceCtorEq, Nat.reduceBEq, Int.reduceLT, Int.reduceToNat, Int.reducePow, Nat.reduceLeDiff, Int.reduceLE, Nat.reduceMul, Nat.reduceSub]
    by_cases hc0 : cls c = 0
    · rw [if_pos hc0] at ho hx
      subst ho; subst hx
      have e4 : (cls c != 0) = false := by simp [hc0]
      simp only [e4, hw, ht, hk, e5, go_sem, Nat.reduceAdd, Nat.reduceEqDiff, Nat.reduceLT, reduceIte, reduceCtorEq, Nat.reduceBEq, Int.reduceLT, Int.reduceToNat, Int.reducePow, Nat.reduceLeDiff, Int.reduceLE, Nat.reduceMul, Nat.reduceSub]
      generalize 1 + an % l.length = K at hK hpK ⊢
      have p1 := p1 K hpK
      refine callGo_see (put1_pure l (by omega) 1488 (K) hK) (by simp only [go_sem, Nat.reduceAdd, Nat.reduceEqDiff, Nat.reduceLT, reduceIte, reduceCtorEq, Nat.reduceBEq, Int.reduceLT, Int.reduceToNat, Int.reducePow, Nat.reduceLeDiff, Int.reduceLE, Nat.reduceMul, Nat.reduceSub, AV.seeL, AV.see]; rfl) rfl ?_
      simp only [p1, q10, runes_length, go_sem, Nat.reduceAdd, Nat.reduceEqDiff, Nat.reduceLT, reduceIte, reduceCtorEq, Nat.reduceBEq, Int.reduceLT, Int.reduceToNat, Int.reducePow, Nat.reduceLeDiff, Int.reduceLE, Nat.reduceMul, Nat.reduceSub]
      refine callGo_see (put1_pure l (by omega) 97 (l.length) (Nat.le_refl _)) (by simp only [go_sem, Nat.reduceAdd, Nat.reduceEqDiff, Nat.reduceLT, reduceIte, reduceCtorEq, Nat.reduceBEq, Int.reduceLT, Int.reduceToNat, Int.reducePow, Nat.reduceLeDiff, Int.reduceLE, Nat.reduceMul, Nat.reduceSub, AV.seeL, AV.see]; rfl) rfl ?_
      simp only [p2, q0, runes_length, go_sem, Nat.reduceAdd, Nat.reduceEqDiff, Nat.reduceLT, reduceIte, reduceCtorEq, Nat.reduceBEq, Int.reduceLT, Int.reduceToNat, Int.reducePow, Nat.reduceLeDiff, Int.reduceLE, Nat.reduceMul, Nat.reduceSub]
      refine callGo_see (put1_pure l (by omega) 97 (0) (Nat.zero_le _)) (by simp only [go_sem, Nat.reduceAdd, Nat.reduceEqDiff, Nat.reduceLT, reduceIte, reduceCtorEq, Nat.reduceBEq, Int.reduceLT, Int.reduceToNat, Int.reducePow, Nat.reduceLeDiff, Int.reduceLE, Nat.reduceMul, Nat.reduceSub, AV.seeL, AV.see]; rfl) rfl ?_
      simp only [p3, q0, runes_length, go_sem, Nat.reduceAdd, Nat.reduceEqDiff, Nat.reduceLT, reduceIte, reduceCtorEq, Nat.reduceBEq, Int.reduceLT, Int.reduceToNat, Int.reducePow, Nat.reduceLeDiff, Int.reduceLE, Nat.reduceMul, Nat.reduceSub]
      refine callGo_see (put1_pure l (by omega) 45 (l.length) (Nat.le_refl _)) (by simp only [go_sem, Nat.reduceAdd, Nat.reduceEqDiff, Nat.reduceLT, reduceIte, reduceCtorEq, Nat.reduceBEq, Int.reduceLT, Int.reduceToNat, Int.reducePow, Nat.reduceLeDiff, Int.reduceLE, Nat.reduceMul, Nat.reduceSub, AV.seeL, AV.see]; rfl) rfl ?_
      simp only [p4, q11, runes_length, go_sem, Nat.reduceAdd, Nat.reduceEqDiff, Nat.reduceLT, reduceIte, reduceCtorEq, Nat.reduceBEq, Int.reduceLT, Int.reduceToNat, Int.reducePow, Nat.reduceLeDiff, Int.reduceLE, Nat.reduceMul, Nat.reduceSub]
      refine callGo_see (put1_pure l (by omega) 45 (0) (Nat.zero_le _)) (by simp only [go_sem, Nat.reduceAdd, Nat.reduceEqDiff, Nat.reduceLT, reduceIte, reduceCtorEq, Nat.reduceBEq, Int.reduceLT, Int.reduceToNat, Int.reducePow, Nat.reduceLeDiff, Int.reduceLE, Nat.reduceMul, Nat.reduceSub, AV.seeL, AV.see]; rfl) rfl ?_
      simp only [p5, q9, runes_length, go_sem, Nat.reduceAdd, Nat.reduceEqDiff, Nat.reduceLT, reduceIte, reduceCtorEq, Nat.reduceBEq, Int.reduceLT, Int.reduceToNat, Int.reducePow, Nat.reduceLeDiff, Int.reduceLE, Nat.reduceMul, Nat.reduceSub]
      refine callGo_pure awake09_pure (by rfl) ?_
      simp only [go_sem, Nat.reduceAdd, Nat.reduceEqDiff, Nat.reduceLT, reduceIte, reduceCtorEq, Nat.reduceBEq, Int.reduceLT, Int.reduceToNat, Int.reducePow, Nat.reduceLeDiff, Int.reduceLE, Nat.reduceMul, Nat.reduceSub]
      simp only [Done, resAV, resL, resOne, look_nil, look_cons, Nat.reduceEqDiff, if_true, if_false, reduceIte, ite_true, ite_false, Nat.zero_ne_one, Nat.one_ne_zero, reduceCtorEq, true_or, or_true, true_and, Option.some.injEq, AV.lit.injEq, Value.int.injEq, Value.bool.injEq]
    · rw [if_neg hc0] at ho hx
      subst ho; subst hx
      have e4 : (cls c != 0) = true := by simp [hc0]
      simp only [e4, hw, ht, hk, e5, go_sem, Nat.reduceAdd, Nat.reduceEqDiff, Nat.reduceLT, reduceIte, reduceCtorEq, Nat.reduceBEq, Int.reduceLT, Int.reduceToNat, Int.reducePow, Nat.reduceLeDiff, Int.reduceLE, Nat.reduceMul, Nat.reduceSub]
      generalize 1 + an % l.length = K at hK hpK ⊢
      have p1 := p1 K hpK
      refine callGo_see (put1_pure l (by omega) 97 (K) hK) (by simp only [go_sem, Nat.reduceAdd, Nat.reduceEqDiff, Nat.reduceLT, reduceIte, reduceCtorEq, Nat.reduceBEq, Int.reduceLT, Int.reduceToNat, Int.reducePow, Nat.reduceLeDiff, Int.reduceLE, Nat.reduceMul, Nat.reduceSub, AV.seeL, AV.see]; rfl) rfl ?_
      simp only [p1, q10, runes_length, go_sem, Nat.reduceAdd, Nat.reduceEqDiff, Nat.reduceLT, reduceIte, reduceCtorEq, Nat.reduceBEq, Int.reduceLT, Int.reduceToNat, Int.reducePow, Nat.reduceLeDiff, Int.reduceLE, Nat.reduceMul, Nat.reduceSub]
      refine callGo_see (put1_pure l (by omega) 1488 (l.length) (Nat.le_refl _)) (by simp only [go_sem, Nat.reduceAdd, Nat.reduceEqDiff, Nat.reduceLT, reduceIte, reduceCtorEq, Nat.reduceBEq, Int.reduceLT, Int.reduceToNat, Int.reducePow, Nat.reduceLeDiff, Int.reduceLE, Nat.reduceMul, Nat.reduceSub, AV.seeL, AV.see]; rfl) rfl ?_
      simp only [p2, q0, runes_length, go_sem, Nat.reduceAdd, Nat.reduceEqDiff, Nat.reduceLT, reduceIte, reduceCtorEq, Nat.reduceBEq, Int.reduceLT, Int.reduceToNat, Int.reducePow, Nat.reduceLeDiff, Int.reduceLE, Nat.reduceMul, Nat.reduceSub]
      refine callGo_see (put1_pure l (by omega) 1488 (0) (Nat.zero_le _)) (by simp only [go_sem, Nat.reduceAdd, Nat.reduceEqDiff, Nat.reduceLT, reduceIte, reduceCtorEq, Nat.reduceBEq, Int.reduceLT, Int.reduceToNat, Int.reducePow, Nat.reduceLeDiff, Int.reduceLE, Nat.reduceMul, Nat.reduceSub, AV.seeL, AV.see]; rfl) rfl ?_
      simp only [p3, q0, runes_length, go_sem, Nat.reduceAdd, Nat.reduceEqDiff, Nat.reduceLT, reduceIte, reduceCtorEq, Nat.reduceBEq, Int.reduceLT, Int.reduceToNat, Int.reducePow, Nat.reduceLeDiff, Int.reduceLE, Nat.reduceMul, Nat.reduceSub]
      refine callGo_see (put1_pure l (by omega) 45 (l.length) (Nat.le_refl _)) (by simp only [go_sem, Nat.reduceAdd, Nat.reduceEqDiff, Nat.reduceLT, reduceIte, reduceCtorEq, Nat.reduceBEq, Int.reduceLT, Int.reduceToNat, Int.reducePow, Nat.reduceLeDiff, Int.reduceLE, Nat.reduceMul, Nat.reduceSub, AV.seeL, AV.see]; rfl) rfl ?_
      simp only [p4, q11, runes_length, go_sem, Nat.reduceAdd, Nat.reduceEqDiff, Nat.reduceLT, reduceIte, reduceCtorEq, Nat.reduceBEq, Int.reduceLT, Int.reduceToNat, Int.reducePow, Nat.reduceLeDiff, Int.reduceLE, Nat.reduceMul, Nat.reduceSub]
      refine callGo_see (put1_pure l (by omega) 45 (0) (Nat.zero_le _)) (by simp only [go_sem, Nat.reduceAdd, Nat.reduceEqDiff, Nat.reduceLT, reduceIte, reduceCtorEq, Nat.reduceBEq, Int.reduceLT, Int.reduceToNat, Int.reducePow, Nat.reduceLeDiff, Int.reduceLE, Nat.reduceMul, Nat.reduceSub, AV.seeL, AV.see]; rfl) rfl ?_
      simp only [p5, q9, runes_length, go_sem, Nat.reduceAdd, Nat.reduceEqDiff, Nat.reduceLT, reduceIte, reduceCtorEq, Nat.reduceBEq, Int.reduceLT, Int.reduceToNat, Int.reducePow, Nat.reduceLeDiff, Int.reduceLE, Nat.reduceMul, Nat.reduceSub]
      refine callGo_pure awake09_pure (by rfl) ?_
      simp only [go_sem, Nat.reduceAdd, Nat.reduceEqDiff, Nat.reduceLT, reduceIte, reduceCtorEq, Nat.reduceBEq, Int.reduceLT, Int.reduceToNat, Int.reducePow, Nat.reduceLeDiff, Int.reduceLE, Nat.reduceMul, Nat.reduceSub]
      simp only [Done, resAV, resL, resOne, look_nil, look_cons, Nat.reduceEqDiff, if_true, if_false, reduceIte, ite_true, ite_false, Nat.zero_ne_one, Nat.one_ne_zero, reduceCtorEq, true_or, or_true, true_and, Option.some.injEq, AV.lit.injEq, Value.int.injEq, Value.bool.injEq]
  · have e3 : (ruleOf l != 0) = true := by simp [hz]
    simp only [e3, go_sem, Nat.reduceAdd, Nat.reduceEqDiff, Nat.reduceLT, reduceIte, reduceCtorEq, Nat.reduceBEq, Int.reduceLT, Int.reduceToNat, Int.reducePow, Nat.reduceLeDiff, Int.reduceLE, Nat.reduceMul, Nat.reduceSub]
    refine callGo_pure awake09_pure (by rfl) ?_
    simp only [go_sem, Nat.reduceAdd, Nat.reduceEqDiff, Nat.reduceLT, reduceIte, reduceCtorEq, Nat.reduceBEq, Int.reduceLT, Int.reduceToNat, Int.reducePow, Nat.reduceLeDiff, Int.reduceLE, Nat.reduceMul, Nat.reduceSub]
    simp only [Done, resAV, resL, resOne, look_nil, look_cons, Nat.reduceEqDiff, if_true, if_false, reduceIte, ite_true, ite_false, Nat.zero_ne_one, Nat.one_ne_zero, reduceCtorEq, true_or, or_true, true_and, Option.some.injEq, AV.lit.injEq, Value.int.injEq, Value.bool.injEq]

theorem rulePut_any (avs : List AV) (h : Args Try.prog Try.f6.params.toList avs) : Pure Try.prog 6 avs [] (.lit (.bool true)) := by
  have hp : Try.f6.params.toList = [22, 5] := by kernel_rfl
  rw [hp] at h
  obtain ⟨av0, rest0, rfl, a0, h0⟩ := h
  obtain ⟨av1, rest1, rfl, a1, rfl⟩ := h0
  obtain ⟨z0, rfl, w0, s0⟩ := arg_ints (e := 21) (k := .i32) (by kernel_rfl) (by kernel_rfl) a0
  rw [show Try.prog.bytesOf 21 = 4 from by kernel_rfl] at s0
  obtain ⟨z1, rfl, w1⟩ := arg_int (k := .u8) (by kernel_rfl) a1
  exact rulePut_pure z0 ⟨by omega, fun n hn => by simpa [Lit.wf, IntKind.min, IntKind.max, IntKind.signed, IntKind.bits] using w0 n hn⟩ z1 (by simpa [Lit.wf, IntKind.min, IntKind.max, IntKind.signed, IntKind.bits] using w1)

set_option maxRecDepth 100000 in
theorem rulePut_lifted (os : Os) (started : os.Started) (H : Type) (enc : TypeId × Value → H) :
    ReturnsInHanded {} Try.checked os 6 .any (Rows.rulePutSpec.pre6 enc Try.prog Try.f6 Rows.rulePutRow.domain false) (Rows.rulePutSpec.post enc Try.prog Try.f6 false true false false) := by
  refine law_returns (C := Try.checked) (tb := 4) (by kernel_rfl) started (by kernel_rfl) Try.func6
    (ChangeSpec.witness6 (enc := enc) (C := Try.checked) false ⟨#[], #[.slice none 0 0, .int .u8 0], []⟩ 8 (by kernel_rfl) (by kernel_rfl) (by kernel_rfl) (by kernel_rfl))
    (by kernel_rfl) (by kernel_rfl) rfl rfl (by kernel_rfl) (by kernel_rfl) ?_ rulePut_any
  intro ds hds
  have hp : Try.f6.params.toList = [22, 5] := by kernel_rfl
  rw [hp] at hds
  match ds, hds with
  | [d0, d1], _ => exact ⟨rfl, rfl, rfl⟩

theorem rulePut_holds : Rows.RulePutSaid :=
  OpenClaim.holds_of_wide 6 Try.f6 rfl rfl rfl rfl rfl rfl rfl ⟨rfl, rfl, rfl, rfl, rfl⟩ rfl rfl rfl rfl rfl (by kernel_rfl) Try.func6 (by kernel_rfl)
    (of_decide_eq_true (by kernel_rfl)) (by unfold Func.isWrapper; first | (rw [if_pos (by decide +kernel)]; kernel_rfl) | (rw [if_neg (by decide +kernel)]; exact ⟨rfl, rfl⟩))
    (fun os started H enc _ => rulePut_lifted os started H enc)
end Go.Proofs.Ytocaeclhmkojiaa
