/-
The scalars of a row. Conditions: none.
-/
import Derived.Test.YtmhpjoadfgplgaaPunE
set_option linter.unusedSimpArgs false
set_option linter.unusedVariables false
set_option linter.unusedSectionVars false
namespace Go.Proofs.Ytmhpjoadfgplgaa
open Go Go.Ab


set_option maxRecDepth 10000 in
theorem scalars_pure (l : List Int) (hl : l.length ≤ 1000000) : Pure Try.prog 20 [rS l none] [21] (rS (l.filter isSc) (some 0)) := by
  refine pure1 Try.func20 c20 n20 e20 r20 (by simp) ?_
  simp only [a20, astart, argSlots, runes_length, go_sem, Nat.reduceAdd, Nat.reduceEqDiff, Nat.reduceLT, reduceIte, reduceCtorEq, Nat.reduceBEq, Int.reduceLT, Int.reduceToNat, Int.reducePow, Nat.reduceLeDiff, Int.reduceLE, Nat.reduceMul, Nat.reduceSub]
  refine loop_by (α := Nat × Nat × Nat) (fun x => ⟨[(0, some (rS l none)), (6, some (rS l none)), (7, some (.lit (.int .i64 (l.length : Int)))), (3, some (rS ((l.take x.1).filter isSc) (some x.2.1))), (8, some (.lit (.int .i64 ((x.1 : Nat) : Int))))], [], [(x.2.1, 21)], x.2.2⟩)
    (fun x => x.1 ≤ l.length ∧ x.2.1 < x.2.2) (fun x => l.length - x.1) (fun x y h => by
      have := congrArg (cnt 8) h
      simp [cnt, Ab.look] at this
      rw [this]) (0, 0, 1) ((weak_nil 3 21 (by simp only [go_sem, Nat.reduceAdd, Nat.reduceEqDiff, Nat.reduceLT, reduceIte, reduceCtorEq, Nat.reduceBEq, Int.reduceLT, Int.reduceToNat, Int.reducePow, Nat.reduceLeDiff, Int.reduceLE, Nat.reduceMul, Nat.reduceSub])).trans (weak_forget ?_ (List.Sublist.refl _) (List.Sublist.refl _))) ⟨by simp, by simp⟩ ?_
  · simp only [go_sem, Nat.reduceAdd, Nat.reduceEqDiff, Nat.reduceLT, reduceIte, reduceCtorEq, Nat.reduceBEq, Int.reduceLT, Int.reduceToNat, Int.reducePow, Nat.reduceLeDiff, Int.reduceLE, Nat.reduceMul, Nat.reduceSub, slotsBy, boxesBy, tipsBy, rawAt, nm, AV.ren, AV.renL, AV.under, AV.underL, List.all_nil, List.all_cons, bne_self_eq_false, List.getD_cons_zero, List.getD_cons_succ, List.length_nil, List.length_cons, and_true, true_and, slotsSub, Int.natCast_zero]
    exact rfl
  · rintro ⟨i, t, nx⟩ ⟨hi, htx⟩
    simp only at hi htx
    simp only [go_sem, Nat.reduceAdd, Nat.reduceEqDiff, Nat.reduceLT, reduceIte, reduceCtorEq, Nat.reduceBEq, Int.reduceLT, Int.reduceToNat, Int.reducePow, Nat.reduceLeDiff, Int.reduceLE, Nat.reduceMul, Nat.reduceSub]
    rcases Nat.lt_or_eq_of_le hi with hlt | heq
    · have w : IntKind.i64.wrap ((i : Int) + 1) = ((i + 1 : Nat) : Int) := by rw [wrap_i64 _ (by omega) (by omega)]; omega
      have htk : (l.take (i + 1)).filter isSc = (l.take i).filter isSc ++ (if isSc l[i] = true then [l[i]] else []) := by
        rw [List.take_succ_eq_append_getElem hlt, List.filter_append]
        by_cases h : isSc l[i] = true <;> simp [h]
      have hfl : ((l.take i).filter isSc).length ≤ 1000000 := by
        have := List.length_filter_le isSc (l.take i)
        have := List.length_take_le i l
        omega
      have hne : ¬ nx = t := by omega
      have hapc : (((l.take i).filter isSc).length + 1) * 4 ≤ 140737488355328 ∧ ((l.take i).filter isSc).length + 1 ≤ 9223372036854775807 ∧ True := ⟨by omega, by omega, trivial⟩
      simp only [dec_lt hlt, hlt, runes_at hlt, go_sem, Nat.reduceAdd, Nat.reduceEqDiff, Nat.reduceLT, reduceIte, reduceCtorEq, Nat.reduceBEq, Int.reduceLT, Int.reduceToNat, Int.reducePow, Nat.reduceLeDiff, Int.reduceLE, Nat.reduceMul, Nat.reduceSub]
      generalize l[i] = r at *
      by_cases h1 : r ≥ 0
      · by_cases h2 : r ≤ 1114111
        · by_cases h3 : r < 55296
          · have e : isSc r = true := by simp [isSc]; omega
            simp only [h1, h2, h3, decide_true, decide_false, hne, if_false, if_true, runes_length, List.length_cons, List.length_nil, hapc, w, go_sem, Nat.reduceAdd, Nat.reduceEqDiff, Nat.reduceLT, reduceIte, reduceCtorEq, Nat.reduceBEq, Int.reduceLT, Int.reduceToNat, Int.reducePow, Nat.reduceLeDiff, Int.reduceLE, Nat.reduceMul, Nat.reduceSub]
            refine ⟨(i + 1, nx + 1, nx + 2), weak_forget ?_ (List.Sublist.refl _) (.cons_cons _ (List.nil_sublist _)), ⟨hlt, by simp only; omega⟩, by simp only; omega⟩
            simp only [htk, e, if_true, rS, runes_append, go_sem, Nat.reduceAdd, Nat.reduceEqDiff, Nat.reduceLT, reduceIte, reduceCtorEq, Nat.reduceBEq, Int.reduceLT, Int.reduceToNat, Int.reducePow, Nat.reduceLeDiff, Int.reduceLE, Nat.reduceMul, Nat.reduceSub, slotsBy, boxesBy, tipsBy, rawAt, nm, AV.ren, AV.renL, AV.under, AV.underL, List.all_nil, List.all_cons, bne_self_eq_false, List.getD_cons_zero, List.getD_cons_succ, List.length_nil, List.length_cons, and_true, true_and, slotsSub]
            exact rfl
          · by_cases h4 : r > 57343
            · have e : isSc r = true := by simp [isSc]; omega
              simp only [h1, h2, h3, h4, decide_true, decide_false, hne, if_false, if_true, runes_length, List.length_cons, List.length_nil, hapc, w, go_sem, Nat.reduceAdd, Nat.reduceEqDiff, Nat.reduceLT, reduceIte, reduceCtorEq, Nat.reduceBEq, Int.reduceLT, Int.reduceToNat, Int.reducePow, Nat.reduceLeDiff, Int.reduceLE, Nat.reduceMul, Nat.reduceSub]
              refine ⟨(i + 1, nx + 1, nx + 2), weak_forget ?_ (List.Sublist.refl _) (.cons_cons _ (List.nil_sublist _)), ⟨hlt, by simp only; omega⟩, by simp only; omega⟩
              simp only [htk, e, if_true, rS, runes_append, go_sem, Nat.reduceAdd, Nat.reduceEqDiff, Nat.reduceLT, reduceIte, reduceCtorEq, Nat.reduceBEq, Int.reduceLT, Int.reduceToNat, Int.reducePow, Nat.reduceLeDiff, Int.reduceLE, Nat.reduceMul, Nat.reduceSub, slotsBy, boxesBy, tipsBy, rawAt, nm, AV.ren, AV.renL, AV.under, AV.underL, List.all_nil, List.all_cons, bne_self_eq_false, List.getD_cons_zero, List.getD_cons_succ, List.length_nil, List.length_cons, and_true, true_and, slotsSub]
              exact rfl
            · have e : isSc r = false := by simp [isSc]; omega
              simp only [h1, h2, h3, h4, decide_true, decide_false, w, go_sem, Nat.reduceAdd, Nat.reduceEqDiff, Nat.reduceLT, reduceIte, reduceCtorEq, Nat.reduceBEq, Int.reduceLT, Int.reduceToNat, Int.reducePow, Nat.reduceLeDiff, Int.reduceLE, Nat.reduceMul, Nat.reduceSub]
              refine ⟨(i + 1, t, nx), weak_forget ?_ (List.Sublist.refl _) (List.Sublist.refl _), ⟨hlt, htx⟩, by simp only; omega⟩
              simp only [htk, e, Bool.false_eq_true, if_false, List.append_nil, go_sem, Nat.reduceAdd, Nat.reduceEqDiff, Nat.reduceLT, reduceIte, reduceCtorEq, Nat.reduceBEq, Int.reduceLT, Int.reduceToNat, Int.reducePow, Nat.reduceLeDiff, Int.reduceLE, Nat.reduceMul, Nat.reduceSub, slotsBy, boxesBy, tipsBy, rawAt, nm, AV.ren, AV.renL, AV.under, AV.underL, List.all_nil, List.all_cons, bne_self_eq_false, List.getD_cons_zero, List.getD_cons_succ, List.length_nil, List.length_cons, and_true, true_and, slotsSub]
        · have e : isSc r = false := by simp [isSc]; omega
          simp only [h1, h2, decide_true, decide_false, w, go_sem, Nat.reduceAdd, Nat.reduceEqDiff, Nat.reduceLT, reduceIte, reduceCtorEq, Nat.reduceBEq, Int.reduceLT, Int.reduceToNat, Int.reducePow, Nat.reduceLeDiff, Int.reduceLE, Nat.reduceMul, Nat.reduceSub]
          refine ⟨(i + 1, t, nx), weak_forget ?_ (List.Sublist.refl _) (List.Sublist.refl _), ⟨hlt, htx⟩, by simp only; omega⟩
          simp only [htk, e, Bool.false_eq_true, if_false, List.append_nil, go_sem, Nat.reduceAdd, Nat.reduceEqDiff, Nat.reduceLT, reduceIte, reduceCtorEq, Nat.reduceBEq, Int.reduceLT, Int.reduceToNat, Int.reducePow, Nat.reduceLeDiff, Int.reduceLE, Nat.reduceMul, Nat.reduceSub, slotsBy, boxesBy, tipsBy, rawAt, nm, AV.ren, AV.renL, AV.under, AV.underL, List.all_nil, List.all_cons, bne_self_eq_false, List.getD_cons_zero, List.getD_cons_succ, List.length_nil, List.length_cons, and_true, true_and, slotsSub]
      · have e : isSc r = false := by simp [isSc]; omega
        simp only [h1, decide_true, decide_false, w, go_sem, Nat.reduceAdd, Nat.reduceEqDiff, Nat.reduceLT, reduceIte, reduceCtorEq, Nat.reduceBEq, Int.reduceLT, Int.reduceToNat, Int.reducePow, Nat.reduceLeDiff, Int.reduceLE, Nat.reduceMul, Nat.reduceSub]
        refine ⟨(i + 1, t, nx), weak_forget ?_ (List.Sublist.refl _) (List.Sublist.refl _), ⟨hlt, htx⟩, by simp only; omega⟩
        simp only [htk, e, Bool.false_eq_true, if_false, List.append_nil, go_sem, Nat.reduceAdd, Nat.reduceEqDiff, Nat.reduceLT, reduceIte, reduceCtorEq, Nat.reduceBEq, Int.reduceLT, Int.reduceToNat, Int.reducePow, Nat.reduceLeDiff, Int.reduceLE, Nat.reduceMul, Nat.reduceSub, slotsBy, boxesBy, tipsBy, rawAt, nm, AV.ren, AV.renL, AV.under, AV.underL, List.all_nil, List.all_cons, bne_self_eq_false, List.getD_cons_zero, List.getD_cons_succ, List.length_nil, List.length_cons, and_true, true_and, slotsSub]
    · subst heq
      simp only [dec_irr, List.take_length, go_sem, Nat.reduceAdd, Nat.reduceEqDiff, Nat.reduceLT, reduceIte, reduceCtorEq, Nat.reduceBEq, Int.reduceLT, Int.reduceToNat, Int.reducePow, Nat.reduceLeDiff, Int.reduceLE, Nat.reduceMul, Nat.reduceSub]
      exact ⟨.inr rfl, t, by simp only [resAV, resL, resOne, go_sem, Nat.reduceAdd, Nat.reduceEqDiff, Nat.reduceLT, reduceIte, reduceCtorEq, Nat.reduceBEq, Int.reduceLT, Int.reduceToNat, Int.reducePow, Nat.reduceLeDiff, Int.reduceLE, Nat.reduceMul, Nat.reduceSub], by simp only [go_sem, Nat.reduceAdd, Nat.reduceEqDiff, Nat.reduceLT, reduceIte, reduceCtorEq, Nat.reduceBEq, Int.reduceLT, Int.reduceToNat, Int.reducePow, Nat.reduceLeDiff, Int.reduceLE, Nat.reduceMul, Nat.reduceSub, beq_self_eq_true]⟩
end Go.Proofs.Ytmhpjoadfgplgaa
