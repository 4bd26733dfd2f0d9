/-
THE STATEMENT NormPairs. What two make is taken apart as the first one taken apart, and the second one, and put together just so; plain ASCII stays. Conditions: none.
-/
import Derived.Test.YtmhpjoadfgplgaaNrmO
set_option linter.unusedSimpArgs false
set_option linter.unusedVariables false
set_option linter.unusedSectionVars false
namespace Go.Proofs.Ytmhpjoadfgplgaa
open Go Go.Ab
def a13_3 : ACode :=
  (.seq (.reg [⟨(.some 10), (.mv (.k (.slice .none 0 0))), .none⟩]) (.seq (.seq (.reg [⟨(.some 48), (.mv (.t 2)), .none⟩, ⟨(.some 49), (.len (.t 48)), .none⟩, ⟨(.some 50), (.mv (.k (.int .i64 0))),
  .none⟩]) (.block 0 (.loop (.seq (.reg [⟨(.some 51), (.bin .lss (.t 50) (.t 49)), .none⟩]) (.seq (.cond (.t 51) .skip (.exit 0)) (.seq (.block 1 (.seq (.reg [⟨(.some 52), (.ia 5 (.t 48) (.t 50)),
  .none⟩, ⟨(.some 53), (.ld .none (.t 52)), .none⟩, ⟨(.some 12), (.mv (.t 53)), .none⟩]) (.reg [⟨(.some 54), (.mv (.t 10)), .none⟩, ⟨(.some 55), (.mv (.t 12)), .none⟩, ⟨(.some 56), (.bin .rem (.t 55)
  (.k (.int .u8 128))), .none⟩, ⟨(.some 57), (.cvI .i32 (.t 56)), .none⟩, ⟨(.some 58), (.bs 21 1 [(.t 57)]), .none⟩, ⟨(.some 59), (.app 21 4 (.t 54) (.t 58)), .none⟩, ⟨(.some 10), (.mv (.t 59)),
  .none⟩]))) (.reg [⟨(.some 60), (.bin .add (.t 50) (.k (.int .i64 1))), .none⟩, ⟨(.some 50), (.mv (.t 60)), .none⟩]))))))) (.seq (.reg [⟨(.some 61), (.mv (.t 10)), .none⟩, ⟨(.some 62), (.call (.f 34)
  [(.t 61)]), .none⟩, ⟨(.some 63), (.mv (.t 62)), .none⟩, ⟨(.some 64), (.mv (.t 10)), (.some (63, true))⟩, ⟨(.some 65), (.call (.f 25) [(.t 64)]), (.some (63, true))⟩, ⟨(.some 66), (.mv (.t 10)), (.some
  (63, true))⟩, ⟨(.some 67), (.call (.f 19) [(.t 65), (.t 66)]), (.some (63, true))⟩, ⟨(.some 68), (.pick (.t 63) (.t 67) (.k (.bool false))), .none⟩, ⟨(.some 69), (.mv (.t 68)), .none⟩, ⟨(.some 70),
  (.call (.f 24) []), (.some (69, true))⟩, ⟨(.some 71), (.pick (.t 69) (.t 70) (.k (.bool false))), .none⟩, ⟨(.some 6), (.mv (.t 71)), .none⟩]) .ret)))
def a13 : ACode :=
  (.seq (.reg [⟨(.some 6), (.mv (.k (.bool false))), .none⟩]) (.seq (.seq (.reg [⟨(.some 13), (.mv (.t 2)), .none⟩, ⟨(.some 14), (.len (.t 13)), .none⟩, ⟨(.some 15), (.bin .gtr (.t 14) (.k (.int .i64
  100))), .none⟩]) (.cond (.t 15) (.seq (.reg [⟨(.some 16), (.call (.f 24) []), .none⟩, ⟨(.some 6), (.mv (.t 16)), .none⟩]) .ret) .skip)) (.seq (.seq (.reg [⟨(.some 18), (.mv (.t 0)), .none⟩, ⟨(.some
  19), (.mv (.t 1)), .none⟩, ⟨(.some 20), (.call (.f 29) [(.t 18), (.t 19)]), .none⟩, ⟨(.some 17), (.mv (.t 20)), .none⟩, ⟨(.some 21), (.ext (.t 17) 0), .none⟩, ⟨(.some 22), (.ext (.t 17) 1), .none⟩,
  ⟨(.some 7), (.mv (.t 21)), .none⟩, ⟨(.some 8), (.mv (.t 22)), .none⟩]) (.seq (.reg [⟨(.some 23), (.mv (.t 8)), .none⟩]) (.cond (.t 23) (.seq (.reg [⟨(.some 24), (.mv (.t 7)), .none⟩, ⟨(.some 25),
  (.call (.f 26) [(.t 24)]), .none⟩, ⟨(.some 9), (.mv (.t 25)), .none⟩]) (.seq (.reg [⟨(.some 26), (.mv (.t 9)), .none⟩, ⟨(.some 27), (.bs 21 1 []), .none⟩, ⟨(.some 28), (.mv (.t 0)), .none⟩, ⟨(.some
  29), (.call (.f 26) [(.t 28)]), .none⟩, ⟨(.some 30), (.app 21 4 (.t 27) (.t 29)), .none⟩, ⟨(.some 31), (.mv (.t 1)), .none⟩, ⟨(.some 32), (.bs 21 1 [(.t 31)]), .none⟩, ⟨(.some 33), (.app 21 4 (.t 30)
  (.t 32)), .none⟩, ⟨(.some 34), (.call (.f 19) [(.t 26), (.t 33)]), .none⟩, ⟨(.some 35), (.not (.t 34)), .none⟩, ⟨(.some 36), (.mv (.t 35)), .none⟩, ⟨(.some 37), (.mv (.t 0)), (.some (36, false))⟩,
  ⟨(.some 38), (.mv (.t 1)), (.some (36, false))⟩, ⟨(.some 39), (.bs 21 1 [(.t 37), (.t 38)]), (.some (36, false))⟩, ⟨(.some 40), (.call (.f 28) [(.t 39)]), (.some (36, false))⟩, ⟨(.some 41), (.mv (.t
  7)), (.some (36, false))⟩, ⟨(.some 42), (.bs 21 1 [(.t 41)]), (.some (36, false))⟩, ⟨(.some 43), (.call (.f 19) [(.t 40), (.t 42)]), (.some (36, false))⟩, ⟨(.some 44), (.not (.t 43)), (.some (36,
  false))⟩, ⟨(.some 45), (.pick (.t 36) (.k (.bool true)) (.t 44)), .none⟩]) (.cond (.t 45) (.seq (.reg [⟨(.some 6), (.mv (.k (.bool false))), .none⟩]) .ret) .skip))) (.seq (.reg [⟨(.some 46), (.mv (.t
  7)), .none⟩, ⟨(.some 47), (.bin .neq (.t 46) (.k (.int .i32 0))), .none⟩]) (.cond (.t 47) (.seq (.reg [⟨(.some 6), (.mv (.k (.bool false))), .none⟩]) .ret) .skip))))) a13_3)))
theorem c13 : Try.f13.body.bind (cCode Try.prog 72) = some a13 := by kernel_rfl
theorem r13 : Try.f13.results.toList = [(.tmp 6)] := by kernel_rfl
theorem n13 : Try.f13.ntmps = 72 := by kernel_rfl
theorem e13 : Enters Try.prog 13 := enters_of Try.func13 (by kernel_rfl) (by kernel_rfl)

/-- Bytes made plain. -/
def plainL (s : List Nat) : List Int := s.map fun b => ((b % 128 : Nat) : Int)
theorem plainL_lt (s : List Nat) : ∀ x ∈ plainL s, x < 128 := fun x hx => by
  obtain ⟨b, _, rfl⟩ := List.mem_map.1 hx
  omega
theorem plainL_i32 (s : List Nat) : I32 (plainL s) := fun x hx => by
  obtain ⟨b, _, rfl⟩ := List.mem_map.1 hx
  omega
theorem plainL_take {s : List Nat} {i : Nat} (h : i < s.length) : plainL (s.take (i + 1)) = plainL (s.take i) ++ [((s[i] % 128 : Nat) : Int)] := by
  unfold plainL
  rw [List.take_succ_eq_append_getElem h, List.map_append]; rfl

set_option maxRecDepth 10000 in
set_option maxHeartbeats 1000000 in
theorem pairs_tail (s : List Nat) (hs : Octs s) (h100 : s.length ≤ 100) {sl : List (Nat × Option AV)} {tp : List (Nat × TypeId)} {nx : Nat} (h2 : Ab.look sl 2 = some (.sl 5 (octs s) none)) :
    awp Try.prog 0 a13_3 (Done Try.prog [.tmp 6] (.lit (.bool true))) ⟨sl, [], tp, nx⟩ := by
  simp only [a13_3, h2, octs_length, go_sem, Nat.reduceAdd, Nat.reduceEqDiff, Nat.reduceLT, reduceIte, reduceCtorEq, Nat.reduceBEq, Int.reduceLT, Int.reduceToNat, Int.reducePow, Nat.reduceLeDiff, Int.reduceLE, Nat.reduceMul, Nat.reduceSub]
  refine loop_by (α := Nat × Nat × Nat) (fun x => ⟨[(48, some (.sl 5 (octs s) none)), (49, some (.lit (.int .i64 (s.length : Int)))), (50, some (.lit (.int .i64 ((x.1 : Nat) : Int)))), (10, some (rS (plainL (s.take x.1)) (some x.2.1)))], [], [(x.2.1, 21)], x.2.2⟩)
    (fun x => x.1 ≤ s.length ∧ x.2.1 < x.2.2) (fun x => s.length - x.1) (fun x y h => by
      have := congrArg (cnt 50) h
      simp [cnt, Ab.look] at this
      rw [this]) (0, nx, nx + 1) ((weak_nil 10 21 (by simp only [go_sem, Nat.reduceAdd, Nat.reduceEqDiff, Nat.reduceLT, reduceIte, reduceCtorEq, Nat.reduceBEq, Int.reduceLT, Int.reduceToNat, Int.reducePow, Nat.reduceLeDiff, Int.reduceLE, Nat.reduceMul, Nat.reduceSub])).trans (weak_forget ?_ (List.Sublist.refl _) (.cons_cons _ (List.nil_sublist _)))) ⟨Nat.zero_le _, by simp only; omega⟩ ?_
  · simp only [go_sem, Nat.reduceAdd, Nat.reduceEqDiff, Nat.reduceLT, reduceIte, reduceCtorEq, Nat.reduceBEq, Int.reduceLT, Int.reduceToNat, Int.reducePow, Nat.reduceLeDiff, Int.reduceLE, Nat.reduceMul, Nat.reduceSub, slotsSub, Int.natCast_zero]
    rfl
  rintro ⟨i, t, nx⟩ ⟨hi, ht⟩
  simp only at hi ht
  simp only [go_sem, Nat.reduceAdd, Nat.reduceEqDiff, Nat.reduceLT, reduceIte, reduceCtorEq, Nat.reduceBEq, Int.reduceLT, Int.reduceToNat, Int.reducePow, Nat.reduceLeDiff, Int.reduceLE, Nat.reduceMul, Nat.reduceSub]
  rcases Nat.lt_or_eq_of_le hi with hlt | heq
  · have hb := hs.2 s[i] (List.getElem_mem hlt)
    have hg : (octs s)[i]? = some [.int .u8 (s[i] : Int)] := octs_get s i hlt
    have c1 : ((128 : Int) = 0) = False := by simp
    have d1 : (s[i] : Int).tmod 128 = ((s[i] % 128 : Nat) : Int) := by rw [fmod_nn _ _ (by omega)]; omega
    have w1 : IntKind.u8.wrap ((s[i] % 128 : Nat) : Int) = ((s[i] % 128 : Nat) : Int) := wrap_u8 _ (by omega) (by omega)
    have w2 : IntKind.i32.wrap ((s[i] % 128 : Nat) : Int) = ((s[i] % 128 : Nat) : Int) := wrap_i32 _ (by omega) (by omega)
    have w3 : IntKind.i64.wrap ((i : Int) + 1) = ((i + 1 : Nat) : Int) := by rw [wrap_i64 _ (by omega) (by omega)]; omega
    have e1 : (nx = t) = False := eq_false (by omega)
    have hsn : runes (plainL (s.take i)) ++ [[.int .i32 ((s[i] % 128 : Nat) : Int)]] = runes (plainL (s.take (i + 1))) := by rw [plainL_take hlt, runes_append]; rfl
    have hll : (plainL (s.take i)).length ≤ 100 := by simp [plainL]; omega
    simp only [dec_lt hlt, hlt, octs_length, hg, c1, d1, w1, w2, e1, runes_length, beq_self_eq_true, hsn, w3, go_sem, Nat.reduceAdd, Nat.reduceEqDiff, Nat.reduceLT, reduceIte, reduceCtorEq, Nat.reduceBEq, Int.reduceLT, Int.reduceToNat, Int.reducePow, Nat.reduceLeDiff, Int.reduceLE, Nat.reduceMul, Nat.reduceSub]
    refine ⟨by omega, (i + 1, nx + 1, nx + 2), weak_forget ?_ (List.Sublist.refl _) (.cons_cons _ (List.nil_sublist _)), ⟨by simp only; omega, by simp only; omega⟩, by simp only; omega⟩
    simp only [go_sem, Nat.reduceAdd, Nat.reduceEqDiff, Nat.reduceLT, reduceIte, reduceCtorEq, Nat.reduceBEq, Int.reduceLT, Int.reduceToNat, Int.reducePow, Nat.reduceLeDiff, Int.reduceLE, Nat.reduceMul, Nat.reduceSub, slotsSub]
  · subst heq
    have ha := ascii_nfd nf (plainL_lt s)
    have hll : (plainL s).length ≤ 100 := by simp [plainL]; omega
    have q1 := Is_pure (plainL s) (by omega) (plainL_i32 s)
    rw [ha.2, beq_self_eq_true] at q1
    have q2 := NFD_pure (plainL s) (by omega) (plainL_i32 s)
    rw [ha.1] at q2
    rw [List.take_length]
    simp only [dec_irr, go_sem, Nat.reduceAdd, Nat.reduceEqDiff, Nat.reduceLT, reduceIte, reduceCtorEq, Nat.reduceBEq, Int.reduceLT, Int.reduceToNat, Int.reducePow, Nat.reduceLeDiff, Int.reduceLE, Nat.reduceMul, Nat.reduceSub]
    refine callGo_pure q1 (by rfl) ?_
    simp only [go_sem, Nat.reduceAdd, Nat.reduceEqDiff, Nat.reduceLT, reduceIte, reduceCtorEq, Nat.reduceBEq, Int.reduceLT, Int.reduceToNat, Int.reducePow, Nat.reduceLeDiff, Int.reduceLE, Nat.reduceMul, Nat.reduceSub]
    refine callGo_pure q2 (by rfl) ?_
    simp only [go_sem, Nat.reduceAdd, Nat.reduceEqDiff, Nat.reduceLT, reduceIte, reduceCtorEq, Nat.reduceBEq, Int.reduceLT, Int.reduceToNat, Int.reducePow, Nat.reduceLeDiff, Int.reduceLE, Nat.reduceMul, Nat.reduceSub]
    refine callGo_pure (Same_pure (plainL s) (plainL s) (by omega)) (by rfl) ?_
    simp only [beq_self_eq_true, go_sem, Nat.reduceAdd, Nat.reduceEqDiff, Nat.reduceLT, reduceIte, reduceCtorEq, Nat.reduceBEq, Int.reduceLT, Int.reduceToNat, Int.reducePow, Nat.reduceLeDiff, Int.reduceLE, Nat.reduceMul, Nat.reduceSub]
    refine callGo_pure awake_pure (by rfl) ?_
    simp only [go_sem, Nat.reduceAdd, Nat.reduceEqDiff, Nat.reduceLT, reduceIte, reduceCtorEq, Nat.reduceBEq, Int.reduceLT, Int.reduceToNat, Int.reducePow, Nat.reduceLeDiff, Int.reduceLE, Nat.reduceMul, Nat.reduceSub]
    simp only [Done, resAV, resL, resOne, look_nil, look_cons, Nat.reduceEqDiff, if_true, if_false, reduceIte, ite_true, ite_false, Nat.zero_ne_one, Nat.one_ne_zero, reduceCtorEq, true_or, or_true, true_and, Option.some.injEq, AV.lit.injEq, Value.int.injEq, Value.bool.injEq]

set_option maxRecDepth 10000 in
set_option maxHeartbeats 1000000 in
theorem normPairs_pure (a : Int) (ha : -2147483648 ≤ a ∧ a ≤ 2147483647) (b : Int) (hb : -2147483648 ≤ b ∧ b ≤ 2147483647) (s : List Nat) (hs : Octs s) :
    Pure Try.prog 13 [.lit (.int .i32 a), .lit (.int .i32 b), .sl 5 (octs s) none] [] (.lit (.bool true)) := by
  refine pure0 Try.func13 c13 n13 e13 r13 (by simp) rfl ?_
  simp only [a13, astart, argSlots, octs_length, go_sem, Nat.reduceAdd, Nat.reduceEqDiff, Nat.reduceLT, reduceIte, reduceCtorEq, Nat.reduceBEq, Int.reduceLT, Int.reduceToNat, Int.reducePow, Nat.reduceLeDiff, Int.reduceLE, Nat.reduceMul, Nat.reduceSub]
  refine cGo_split (fun h => ?_) (fun h => ?_)
  · simp only [go_sem, Nat.reduceAdd, Nat.reduceEqDiff, Nat.reduceLT, reduceIte, reduceCtorEq, Nat.reduceBEq, Int.reduceLT, Int.reduceToNat, Int.reducePow, Nat.reduceLeDiff, Int.reduceLE, Nat.reduceMul, Nat.reduceSub]
    refine callGo_pure awake_pure (by rfl) ?_
    simp only [go_sem, Nat.reduceAdd, Nat.reduceEqDiff, Nat.reduceLT, reduceIte, reduceCtorEq, Nat.reduceBEq, Int.reduceLT, Int.reduceToNat, Int.reducePow, Nat.reduceLeDiff, Int.reduceLE, Nat.reduceMul, Nat.reduceSub]
    simp only [Done, resAV, resL, resOne, look_nil, look_cons, Nat.reduceEqDiff, if_true, if_false, reduceIte, ite_true, ite_false, Nat.zero_ne_one, Nat.one_ne_zero, reduceCtorEq, true_or, or_true, true_and, Option.some.injEq, AV.lit.injEq, Value.int.injEq, Value.bool.injEq]
  simp only [decide_eq_false_iff_not] at h
  have h100 : s.length ≤ 100 := by omega
  have j1 := Join_pure ha hb
  cases hj : joinP T a b with
  | none =>
    rw [hj] at j1
    have e1 : ((0 : Int) != 0) = false := rfl
    simp only [go_sem, Nat.reduceAdd, Nat.reduceEqDiff, Nat.reduceLT, reduceIte, reduceCtorEq, Nat.reduceBEq, Int.reduceLT, Int.reduceToNat, Int.reducePow, Nat.reduceLeDiff, Int.reduceLE, Nat.reduceMul, Nat.reduceSub]
    refine callGo_pure j1 (by rfl) ?_
    simp only [joinE, e1, go_sem, Nat.reduceAdd, Nat.reduceEqDiff, Nat.reduceLT, reduceIte, reduceCtorEq, Nat.reduceBEq, Int.reduceLT, Int.reduceToNat, Int.reducePow, Nat.reduceLeDiff, Int.reduceLE, Nat.reduceMul, Nat.reduceSub]
    exact pairs_tail s hs h100 (by simp only [go_sem, Nat.reduceAdd, Nat.reduceEqDiff, Nat.reduceLT, reduceIte, reduceCtorEq, Nat.reduceBEq, Int.reduceLT, Int.reduceToNat, Int.reducePow, Nat.reduceLeDiff, Int.reduceLE, Nat.reduceMul, Nat.reduceSub])
  | some m =>
    rw [hj] at j1
    have hm32 := joined_i32 ha hb hj
    have hsp := (join_spec nf hj).2
    have s1 := splitP_len a
    have s2 := splitP_len m
    have q1 := NFC_pure [a, b] (by simp) (i32_cons ha (i32_cons hb (by intro x hx; simp at hx)))
    rw [join_nfc nf nf_two hj] at q1
    simp only [go_sem, Nat.reduceAdd, Nat.reduceEqDiff, Nat.reduceLT, reduceIte, reduceCtorEq, Nat.reduceBEq, Int.reduceLT, Int.reduceToNat, Int.reducePow, Nat.reduceLeDiff, Int.reduceLE, Nat.reduceMul, Nat.reduceSub]
    refine callGo_pure j1 (by rfl) ?_
    simp only [joinE, go_sem, Nat.reduceAdd, Nat.reduceEqDiff, Nat.reduceLT, reduceIte, reduceCtorEq, Nat.reduceBEq, Int.reduceLT, Int.reduceToNat, Int.reducePow, Nat.reduceLeDiff, Int.reduceLE, Nat.reduceMul, Nat.reduceSub]
    refine callGo_pure (Split_pure m hm32) (by rfl) ?_
    simp only [go_sem, Nat.reduceAdd, Nat.reduceEqDiff, Nat.reduceLT, reduceIte, reduceCtorEq, Nat.reduceBEq, Int.reduceLT, Int.reduceToNat, Int.reducePow, Nat.reduceLeDiff, Int.reduceLE, Nat.reduceMul, Nat.reduceSub]
    refine empty_sl ?_
    simp only [go_sem, Nat.reduceAdd, Nat.reduceEqDiff, Nat.reduceLT, reduceIte, reduceCtorEq, Nat.reduceBEq, Int.reduceLT, Int.reduceToNat, Int.reducePow, Nat.reduceLeDiff, Int.reduceLE, Nat.reduceMul, Nat.reduceSub]
    refine callGo_pure (Split_pure a ha) (by rfl) ?_
    simp only [runes_length, beq_self_eq_true, go_sem, Nat.reduceAdd, Nat.reduceEqDiff, Nat.reduceLT, reduceIte, reduceCtorEq, Nat.reduceBEq, Int.reduceLT, Int.reduceToNat, Int.reducePow, Nat.reduceLeDiff, Int.reduceLE, Nat.reduceMul, Nat.reduceSub]
    refine ⟨by omega, ?_⟩
    refine ⟨by omega, ?_⟩
    rw [show runes (splitP T a) ++ [[Value.int .i32 b]] = runes (splitP T m) by rw [hsp, runes_append]; rfl]
    refine callGo_pure (Same_pure (splitP T m) (splitP T m) (by omega)) (by rfl) ?_
    simp only [beq_self_eq_true, Bool.not_true, go_sem, Nat.reduceAdd, Nat.reduceEqDiff, Nat.reduceLT, reduceIte, reduceCtorEq, Nat.reduceBEq, Int.reduceLT, Int.reduceToNat, Int.reducePow, Nat.reduceLeDiff, Int.reduceLE, Nat.reduceMul, Nat.reduceSub]
    refine callGo_pure q1 (by rfl) ?_
    simp only [go_sem, Nat.reduceAdd, Nat.reduceEqDiff, Nat.reduceLT, reduceIte, reduceCtorEq, Nat.reduceBEq, Int.reduceLT, Int.reduceToNat, Int.reducePow, Nat.reduceLeDiff, Int.reduceLE, Nat.reduceMul, Nat.reduceSub]
    refine callGo_pure (Same_pure [m] [m] (by simp)) (by rfl) ?_
    simp only [beq_self_eq_true, Bool.not_true, go_sem, Nat.reduceAdd, Nat.reduceEqDiff, Nat.reduceLT, reduceIte, reduceCtorEq, Nat.reduceBEq, Int.reduceLT, Int.reduceToNat, Int.reducePow, Nat.reduceLeDiff, Int.reduceLE, Nat.reduceMul, Nat.reduceSub]
    exact pairs_tail s hs h100 (by simp only [go_sem, Nat.reduceAdd, Nat.reduceEqDiff, Nat.reduceLT, reduceIte, reduceCtorEq, Nat.reduceBEq, Int.reduceLT, Int.reduceToNat, Int.reducePow, Nat.reduceLeDiff, Int.reduceLE, Nat.reduceMul, Nat.reduceSub])

theorem normPairs_any (avs : List AV) (h : Args Try.prog Try.f13.params.toList avs) : Pure Try.prog 13 avs [] (.lit (.bool true)) := by
  have hp : Try.f13.params.toList = [21, 21, 35] := by kernel_rfl
  rw [hp] at h
  obtain ⟨av0, rest0, rfl, a0, h0⟩ := h
  obtain ⟨av1, rest1, rfl, a1, h1⟩ := h0
  obtain ⟨av2, rest2, rfl, a2, rfl⟩ := h1
  obtain ⟨z0, rfl, w0⟩ := arg_int (k := .i32) (by kernel_rfl) a0
  obtain ⟨z1, rfl, w1⟩ := arg_int (k := .i32) (by kernel_rfl) a1
  obtain ⟨z2, rfl, w2, s2⟩ := arg_ints (e := 5) (k := .u8) (by kernel_rfl) (by kernel_rfl) a2
  rw [show Try.prog.bytesOf 5 = 1 from by kernel_rfl] at s2
  obtain ⟨y2, e2, v2, k2⟩ := octs_of z2 (fun n hn => by simpa [Lit.wf, IntKind.min, IntKind.max, IntKind.signed, IntKind.bits] using w2 n hn)
  rw [e2]
  exact normPairs_pure z0 (by simpa [Lit.wf, IntKind.min, IntKind.max, IntKind.signed, IntKind.bits] using w0) z1 (by simpa [Lit.wf, IntKind.min, IntKind.max, IntKind.signed, IntKind.bits] using w1) y2 ⟨by omega, v2⟩

set_option maxRecDepth 100000 in
theorem normPairs_lifted (os : Os) (started : os.Started) (H : Type) (enc : TypeId × Value → H) :
    ReturnsInHanded {} Try.checked os 13 .any (Rows.normPairsSpec.pre6 enc Try.prog Try.f13 Rows.normPairsRow.domain false) (Rows.normPairsSpec.post enc Try.prog Try.f13 false true false false) := by
  refine law_returns (C := Try.checked) (tb := 4) (by kernel_rfl) started (by kernel_rfl) Try.func13
    (ChangeSpec.witness6 (enc := enc) (C := Try.checked) false ⟨#[], #[.int .i32 0, .int .i32 0, .slice none 0 0], []⟩ 8 (by kernel_rfl) (by kernel_rfl) (by kernel_rfl) (by kernel_rfl))
    (by kernel_rfl) (by kernel_rfl) rfl rfl (by kernel_rfl) (by kernel_rfl) ?_ normPairs_any
  intro ds hds
  have hp : Try.f13.params.toList = [21, 21, 35] := by kernel_rfl
  rw [hp] at hds
  match ds, hds with
  | [d0, d1, d2], _ => exact ⟨rfl, rfl, rfl⟩

theorem normPairs_holds : Rows.NormPairsSaid :=
  OpenClaim.holds_of_wide 13 Try.f13 rfl rfl rfl rfl rfl rfl rfl ⟨rfl, rfl, rfl, rfl, rfl⟩ rfl rfl rfl rfl rfl (by kernel_rfl) Try.func13 (by kernel_rfl)
    (of_decide_eq_true (by kernel_rfl)) (by unfold Func.isWrapper; first | (rw [if_pos (by decide +kernel)]; kernel_rfl) | (rw [if_neg (by decide +kernel)]; exact ⟨rfl, rfl⟩))
    (fun os started H enc _ => normPairs_lifted os started H enc)
end Go.Proofs.Ytmhpjoadfgplgaa
