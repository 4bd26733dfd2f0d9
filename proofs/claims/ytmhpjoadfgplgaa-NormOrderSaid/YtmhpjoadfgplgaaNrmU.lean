/-
Sorting a part of a row by insertion: sort.insertionSort. Conditions: none.
-/
import Derived.Test.YtmhpjoadfgplgaaNrmT
set_option linter.unusedSimpArgs false
set_option linter.unusedVariables false
set_option linter.unusedSectionVars false
namespace Go.Proofs.Ytmhpjoadfgplgaa
open Go Go.Ab
def a104 : ACode :=
  (.seq (.reg [⟨(.some 8), (.mv (.t 1)), .none⟩, ⟨(.some 9), (.bin .add (.t 8) (.k (.int .i64 1))), .none⟩, ⟨(.some 6), (.mv (.t 9)), .none⟩]) (.block 0 (.loop (.seq (.seq (.reg [⟨(.some 10), (.mv (.t
  6)), .none⟩, ⟨(.some 11), (.mv (.t 2)), .none⟩, ⟨(.some 12), (.bin .lss (.t 10) (.t 11)), .none⟩]) (.cond (.t 12) .skip (.exit 0))) (.seq (.block 1 (.seq (.reg [⟨(.some 15), (.mv (.t 6)), .none⟩,
  ⟨(.some 7), (.mv (.t 15)), .none⟩]) (.block 2 (.loop (.seq (.seq (.reg [⟨(.some 16), (.mv (.t 7)), .none⟩, ⟨(.some 17), (.mv (.t 1)), .none⟩, ⟨(.some 18), (.bin .gtr (.t 16) (.t 17)), .none⟩, ⟨(.some
  19), (.mv (.t 18)), .none⟩, ⟨(.some 20), (.mv (.t 0)), (.some (19, true))⟩, ⟨(.some 21), (.mv (.t 7)), (.some (19, true))⟩, ⟨(.some 22), (.mv (.t 7)), (.some (19, true))⟩, ⟨(.some 23), (.bin .sub (.t
  22) (.k (.int .i64 1))), (.some (19, true))⟩, ⟨(.some 24), (.call (.k (.func (.method "Less") #[] #[])) [(.t 20), (.t 21), (.t 23)]), (.some (19, true))⟩, ⟨(.some 25), (.pick (.t 19) (.t 24) (.k
  (.bool false))), .none⟩]) (.cond (.t 25) .skip (.exit 2))) (.seq (.block 3 (.reg [⟨(.some 28), (.mv (.t 0)), .none⟩, ⟨(.some 29), (.mv (.t 7)), .none⟩, ⟨(.some 30), (.mv (.t 7)), .none⟩, ⟨(.some 31),
  (.bin .sub (.t 30) (.k (.int .i64 1))), .none⟩, ⟨(.some 32), (.call (.k (.func (.method "Swap") #[] #[])) [(.t 28), (.t 29), (.t 31)]), .none⟩])) (.reg [⟨(.some 26), (.mv (.t 7)), .none⟩, ⟨(.some 27),
  (.bin .sub (.t 26) (.k (.int .i64 1))), .none⟩, ⟨(.some 7), (.mv (.t 27)), .none⟩]))))))) (.reg [⟨(.some 13), (.mv (.t 6)), .none⟩, ⟨(.some 14), (.bin .add (.t 13) (.k (.int .i64 1))), .none⟩, ⟨(.some
  6), (.mv (.t 14)), .none⟩]))))))
theorem c104 : Try.f104.body.bind (cCode Try.prog 33) = some a104 := by kernel_rfl
theorem r104 : Try.f104.results.toList = [] := by kernel_rfl
theorem n104 : Try.f104.ntmps = 33 := by kernel_rfl
theorem e104 : Enters Try.prog 104 := enters_of Try.func104 (by kernel_rfl) (by kernel_rfl)

theorem dec_gt {i j : Nat} (h : j < i) : decide ((i : Int) > (j : Int)) = true := by simp only [decide_eq_true_eq]; omega
theorem dec_ngt {i j : Nat} (h : ¬ j < i) : decide ((i : Int) > (j : Int)) = false := by simp only [decide_eq_false_iff_not]; omega
theorem dec_nlt {i j : Nat} (h : ¬ i < j) : decide ((i : Int) < (j : Int)) = false := by simp only [decide_eq_false_iff_not]; omega

/-- One more is put into its place. -/
theorem insert_law {C C1 C2 : List Int} {x : Int} (hC : C = C1 ++ C2) (hasc : Asc cls C) (hx : 0 < cls x) (h2 : ∀ y ∈ C2, cls x < cls y) (h1 : ∀ y ∈ C1, cls y ≤ cls x) :
    canon cls (C ++ [x]) = C1 ++ x :: C2 := by
  subst hC
  have ht := canon_turn cls C1 C2 [x] [] fun y hy z hz => by
    simp only [List.mem_cons, List.not_mem_nil, or_false] at hz
    subst hz
    exact ⟨hx, h2 y hy⟩
  simp only [List.append_nil] at ht
  rw [ht, List.append_assoc, List.cons_append, List.nil_append]
  refine canon_of_asc cls ?_
  rw [asc_append] at hasc ⊢
  refine ⟨hasc.1, ⟨fun y hy => Nat.le_of_lt (h2 y hy), hasc.2.1⟩, fun y hy z hz => ?_⟩
  rcases List.mem_cons.1 hz with rfl | hz
  · exact h1 y hy
  · exact hasc.2.2 y hy z hz

set_option maxRecDepth 10000 in
theorem insertionSort_ok (X Y P S Q : List Int) {n a b nx : Nat} (hL : (P ++ S ++ Q).length = n) (ha : P.length = a) (hb : a + S.length = b) (hp : ∀ x ∈ S, 0 < cls x) (hn : n ≤ 1099511627776) (hnx : 2 ≤ nx)
    {K : AV → List (Nat × List AV) → List (Nat × TypeId) → Nat → Prop} (hK : ∀ r nx', 2 ≤ nx' → K r (St X Y (P ++ canon cls S ++ Q)) [] nx') :
    CallOK Try.prog 104 [ifc X n, .lit (.int .i64 (a : Int)), .lit (.int .i64 (b : Int))] (St X Y (P ++ S ++ Q)) [] nx K := by
  refine callOK_walk Try.func104 c104 n104 e104 r104 (by simp) ?_
  simp only [List.length_append] at hL
  have w0 : IntKind.i64.wrap ((a : Int) + 1) = ((a + 1 : Nat) : Int) := by rw [wrap_i64 _ (by omega) (by omega)]; omega
  simp only [a104, astart, argSlots, w0, go_sem, Nat.reduceAdd, Nat.reduceEqDiff, Nat.reduceLT, reduceIte, reduceCtorEq, Nat.reduceBEq, Int.reduceLT, Int.reduceToNat, Int.reducePow, Nat.reduceLeDiff, Int.reduceLE, Nat.reduceMul, Nat.reduceSub]
  refine loop_by (α := Nat × Nat) (fun x => ⟨[(0, some (ifc X n)), (1, some (.lit (.int .i64 (a : Int)))), (2, some (.lit (.int .i64 (b : Int)))), (6, some (.lit (.int .i64 ((a + x.1 : Nat) : Int))))], St X Y (P ++ (canon cls (S.take x.1) ++ S.drop x.1) ++ Q), [], x.2⟩)
    (fun x => 1 ≤ x.1 ∧ x.1 ≤ S.length + 1 ∧ 2 ≤ x.2) (fun x => S.length + 1 - x.1) (fun x y h => by
      have := congrArg (cnt 6) h
      simp [cnt, Ab.look] at this
      rw [show x.1 = y.1 by omega]) (1, nx) ?_ ⟨Nat.le_refl _, by omega, hnx⟩ ?_
  · have h1 : canon cls (S.take 1) ++ S.drop 1 = S := by cases S <;> simp [canon, ins]
    simp only [h1]
    refine weak_forget ?_ (List.Sublist.refl _) (List.Sublist.refl _)
    simp only [go_sem, Nat.reduceAdd, Nat.reduceEqDiff, Nat.reduceLT, reduceIte, reduceCtorEq, Nat.reduceBEq, Int.reduceLT, Int.reduceToNat, Int.reducePow, Nat.reduceLeDiff, Int.reduceLE, Nat.reduceMul, Nat.reduceSub, slotsSub]
  · rintro ⟨k, nx1⟩ ⟨hk1, hk2, hx⟩
    simp only at hk1 hk2 hx
    simp only [go_sem, Nat.reduceAdd, Nat.reduceEqDiff, Nat.reduceLT, reduceIte, reduceCtorEq, Nat.reduceBEq, Int.reduceLT, Int.reduceToNat, Int.reducePow, Nat.reduceLeDiff, Int.reduceLE, Nat.reduceMul, Nat.reduceSub]
    by_cases hlt : k < S.length
    · have e1 : decide (((a + k : Nat) : Int) < (b : Int)) = true := by simp only [decide_eq_true_eq]; omega
      have hSk : S.drop k = S[k] :: S.drop (k + 1) := List.drop_eq_getElem_cons hlt
      have hpx := hp S[k] (List.getElem_mem hlt)
      have hasc : Asc cls (canon cls (S.take k)) := canon_asc cls fun x hx => hp x (List.mem_of_mem_take hx)
      have hlen : (canon cls (S.take k)).length = k := by rw [canon_length, List.length_take]; omega
      have hnext : canon cls (S.take (k + 1)) = canon cls (canon cls (S.take k) ++ [S[k]]) := by rw [canon_left, List.take_succ_eq_append_getElem hlt]
      have w1 : IntKind.i64.wrap (((a + k : Nat) : Int) + 1) = ((a + (k + 1) : Nat) : Int) := by rw [wrap_i64 _ (by omega) (by omega)]; omega
      rw [hSk]
      simp only [e1, go_sem, Nat.reduceAdd, Nat.reduceEqDiff, Nat.reduceLT, reduceIte, reduceCtorEq, Nat.reduceBEq, Int.reduceLT, Int.reduceToNat, Int.reducePow, Nat.reduceLeDiff, Int.reduceLE, Nat.reduceMul, Nat.reduceSub]
      generalize canon cls (S.take k) = C at hasc hlen hnext ⊢
      generalize S[k] = x at hpx hnext ⊢
      refine loop_by (α := Nat × List Int × Nat) (fun y => ⟨[(0, some (ifc X n)), (1, some (.lit (.int .i64 (a : Int)))), (2, some (.lit (.int .i64 (b : Int)))), (6, some (.lit (.int .i64 ((a + k : Nat) : Int)))), (7, some (.lit (.int .i64 ((a + y.1 : Nat) : Int))))], St X Y y.2.1, [], y.2.2⟩)
        (fun y => 2 ≤ y.2.2 ∧ ∃ C1 C2, C = C1 ++ C2 ∧ C1.length = y.1 ∧ (∀ z ∈ C2, cls x < cls z) ∧ y.2.1 = P ++ (C1 ++ x :: C2 ++ S.drop (k + 1)) ++ Q) (fun y => y.1) (fun y z h => by
          have := congrArg (cnt 7) h
          simp [cnt, Ab.look] at this
          omega) (k, P ++ (C ++ x :: S.drop (k + 1)) ++ Q, nx1) (weak_forget ?_ (List.Sublist.refl _) (List.Sublist.refl _)) ⟨hx, C, [], by simp, hlen, by simp, by simp⟩ ?_
      · simp only [go_sem, Nat.reduceAdd, Nat.reduceEqDiff, Nat.reduceLT, reduceIte, reduceCtorEq, Nat.reduceBEq, Int.reduceLT, Int.reduceToNat, Int.reducePow, Nat.reduceLeDiff, Int.reduceLE, Nat.reduceMul, Nat.reduceSub, slotsSub]
      · rintro ⟨j, L, nx2⟩ ⟨hx2, C1, C2, hC, rfl, hC2, rfl⟩
        simp only at hx2
        have hlen' : C1.length + C2.length = k := by rw [← hlen, hC, List.length_append]
        simp only [go_sem, Nat.reduceAdd, Nat.reduceEqDiff, Nat.reduceLT, reduceIte, reduceCtorEq, Nat.reduceBEq, Int.reduceLT, Int.reduceToNat, Int.reducePow, Nat.reduceLeDiff, Int.reduceLE, Nat.reduceMul, Nat.reduceSub]
        have fin : (∀ y ∈ C1, cls y ≤ cls x) → C1 ++ x :: C2 = canon cls (S.take (k + 1)) := fun hle => by rw [hnext, insert_law hC hasc hpx hC2 hle]
        rcases Nat.eq_zero_or_pos C1.length with h0 | hpos
        · have hC1 : C1 = [] := List.length_eq_zero_iff.1 h0
          have e2 : decide (((a + C1.length : Nat) : Int) > (a : Int)) = false := dec_ngt (by omega)
          rw [fin (by rw [hC1]; simp)]
          simp only [e2, w1, go_sem, Nat.reduceAdd, Nat.reduceEqDiff, Nat.reduceLT, reduceIte, reduceCtorEq, Nat.reduceBEq, Int.reduceLT, Int.reduceToNat, Int.reducePow, Nat.reduceLeDiff, Int.reduceLE, Nat.reduceMul, Nat.reduceSub]
          refine ⟨(k + 1, nx2), weak_forget ?_ (List.Sublist.refl _) (List.Sublist.refl _), ⟨by omega, by simp only; omega, hx2⟩, by simp only; omega⟩
          simp only [go_sem, Nat.reduceAdd, Nat.reduceEqDiff, Nat.reduceLT, reduceIte, reduceCtorEq, Nat.reduceBEq, Int.reduceLT, Int.reduceToNat, Int.reducePow, Nat.reduceLeDiff, Int.reduceLE, Nat.reduceMul, Nat.reduceSub, slotsSub]
        · obtain ⟨C0, y, rfl⟩ : ∃ C0 y, C1 = C0 ++ [y] := ⟨C1.dropLast, C1.getLast (by intro h; subst h; simp at hpos), (List.dropLast_concat_getLast _).symm⟩
          have hl1 : (C0 ++ [y]).length = C0.length + 1 := by simp
          rw [hl1] at hlen' ⊢
          have e2 : decide (((a + (C0.length + 1) : Nat) : Int) > (a : Int)) = true := dec_gt (by omega)
          have w2 : IntKind.i64.wrap (((a + (C0.length + 1) : Nat) : Int) - 1) = ((a + C0.length : Nat) : Int) := by rw [wrap_i64 _ (by omega) (by omega)]; omega
          have hform : P ++ (C0 ++ [y] ++ x :: C2 ++ S.drop (k + 1)) ++ Q = (P ++ C0) ++ y :: x :: (C2 ++ S.drop (k + 1) ++ Q) := by simp
          have hD : ((P ++ C0) ++ y :: x :: (C2 ++ S.drop (k + 1) ++ Q)).length = n := by simp; omega
          have hPC : (P ++ C0).length = a + C0.length := by simp; omega
          have hsw := swp_next (P ++ C0) (C2 ++ S.drop (k + 1) ++ Q) y x
          rw [← swp_comm _ (by rw [hD]; omega) (by rw [hD]; omega), hPC] at hsw
          have g1 : ((P ++ C0) ++ y :: x :: (C2 ++ S.drop (k + 1) ++ Q))[a + (C0.length + 1)]'(by rw [hD]; omega) = x := by
            rw [List.getElem_append_right (by omega)]
            simp only [hPC, show a + (C0.length + 1) - (a + C0.length) = 1 by omega, List.getElem_cons_succ, List.getElem_cons_zero]
          have g2 : ((P ++ C0) ++ y :: x :: (C2 ++ S.drop (k + 1) ++ Q))[a + C0.length]'(by rw [hD]; omega) = y := by
            rw [List.getElem_append_right (by omega)]
            simp only [hPC, Nat.sub_self, List.getElem_cons_zero]
          rw [hform]
          simp only [e2, w2, go_sem, Nat.reduceAdd, Nat.reduceEqDiff, Nat.reduceLT, reduceIte, reduceCtorEq, Nat.reduceBEq, Int.reduceLT, Int.reduceToNat, Int.reducePow, Nat.reduceLeDiff, Int.reduceLE, Nat.reduceMul, Nat.reduceSub]
          refine less_go _ _ hD (by omega) (by omega) hx2 fun nx3 hx3 => ?_
          rw [g1, g2]
          by_cases hless : cls x < cls y
          · simp only [hless, w2, go_sem, Nat.reduceAdd, Nat.reduceEqDiff, Nat.reduceLT, reduceIte, reduceCtorEq, Nat.reduceBEq, Int.reduceLT, Int.reduceToNat, Int.reducePow, Nat.reduceLeDiff, Int.reduceLE, Nat.reduceMul, Nat.reduceSub]
            refine swap_go _ _ hD (by omega) (by omega) hx3 fun r nx4 hx4 => ?_
            rw [show a + (C0.length + 1) = a + C0.length + 1 from rfl, hsw]
            simp only [show IntKind.i64.wrap (((a + C0.length + 1 : Nat) : Int) - 1) = ((a + C0.length : Nat) : Int) from w2, go_sem, Nat.reduceAdd, Nat.reduceEqDiff, Nat.reduceLT, reduceIte, reduceCtorEq, Nat.reduceBEq, Int.reduceLT, Int.reduceToNat, Int.reducePow, Nat.reduceLeDiff, Int.reduceLE, Nat.reduceMul, Nat.reduceSub]
            refine ⟨(C0.length, (P ++ C0) ++ x :: y :: (C2 ++ S.drop (k + 1) ++ Q), nx4), weak_forget ?_ (List.Sublist.refl _) (List.Sublist.refl _), ⟨hx4, C0, y :: C2, by rw [hC]; simp, rfl, ?_, by simp⟩, by simp only; omega⟩
            · simp only [go_sem, Nat.reduceAdd, Nat.reduceEqDiff, Nat.reduceLT, reduceIte, reduceCtorEq, Nat.reduceBEq, Int.reduceLT, Int.reduceToNat, Int.reducePow, Nat.reduceLeDiff, Int.reduceLE, Nat.reduceMul, Nat.reduceSub, slotsSub]
            · intro z hz
              rcases List.mem_cons.1 hz with rfl | hz
              · exact hless
              · exact hC2 z hz
          · rw [← hform, fin (fun z hz => by
              have hasc1 : Asc cls (C0 ++ [y]) := by rw [hC, asc_append] at hasc; exact hasc.1
              rw [asc_append] at hasc1
              rcases List.mem_append.1 hz with hz | hz
              · have := hasc1.2.2 z hz y (by simp)
                omega
              · simp only [List.mem_cons, List.not_mem_nil, or_false] at hz
                subst hz; omega)]
            simp only [hless, w1, go_sem, Nat.reduceAdd, Nat.reduceEqDiff, Nat.reduceLT, reduceIte, reduceCtorEq, Nat.reduceBEq, Int.reduceLT, Int.reduceToNat, Int.reducePow, Nat.reduceLeDiff, Int.reduceLE, Nat.reduceMul, Nat.reduceSub]
            refine ⟨(k + 1, nx3), weak_forget ?_ (List.Sublist.refl _) (List.Sublist.refl _), ⟨by omega, by simp only; omega, hx3⟩, by simp only; omega⟩
            simp only [go_sem, Nat.reduceAdd, Nat.reduceEqDiff, Nat.reduceLT, reduceIte, reduceCtorEq, Nat.reduceBEq, Int.reduceLT, Int.reduceToNat, Int.reducePow, Nat.reduceLeDiff, Int.reduceLE, Nat.reduceMul, Nat.reduceSub, slotsSub]
    · have e1 : decide (((a + k : Nat) : Int) < (b : Int)) = false := by simp only [decide_eq_false_iff_not]; omega
      have t1 : S.take k = S := List.take_of_length_le (by omega)
      have t2 : S.drop k = [] := List.drop_eq_nil_of_le (by omega)
      simp only [e1, t1, t2, List.append_nil, go_sem, Nat.reduceAdd, Nat.reduceEqDiff, Nat.reduceLT, reduceIte, reduceCtorEq, Nat.reduceBEq, Int.reduceLT, Int.reduceToNat, Int.reducePow, Nat.reduceLeDiff, Int.reduceLE, Nat.reduceMul, Nat.reduceSub]
      exact ⟨.inl trivial, _, rfl, hK _ _ hx⟩
end Go.Proofs.Ytmhpjoadfgplgaa
