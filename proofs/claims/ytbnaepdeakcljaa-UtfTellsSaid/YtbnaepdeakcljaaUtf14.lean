/-
What goes on, by the document, is what the code takes for going on. Conditions: none.
-/
import Derived.Test.YtbnaepdeakcljaaUtf13
import Derived.Test.YtbnaepdeakcljaaUtf4
set_option linter.unusedSimpArgs false
set_option linter.unusedVariables false
set_option linter.unusedSectionVars false
namespace Go.Proofs.Ytbnaepdeakcljaa
open Go Go.Ab

theorem goesB_cons (c : Nat) (t : List Nat) : goesB (c :: t) = if longN c = 0 ∨ longN c < t.length + 1 ∨ t.all isTail = false then false else
    decide (clampLo (fromI (longN c)) (numI 0 (longN c - 1) (subN (longN c) c) t) ≤ clampHi (numI 63 (longN c - 1) (subN (longN c) c) t)) := rfl
theorem goes1_all : ((List.range 256).all fun c => goesB [c] == leadB c) = true := by kernel_rfl
theorem goes2_all : ((List.range 256).all fun c => !leadB c || (behindOf c == 0 || (List.range 256).all fun x => goesB [c, x] == (decide (lowOf c ≤ x) && decide (x ≤ topOf c)))) = true := by kernel_rfl
theorem long_all : ((List.range 256).all fun c => !leadB c || longN c == behindOf c + 1) = true := by kernel_rfl
theorem goes1 {c : Nat} (hc : c ≤ 255) : goesB [c] = leadB c := by
  have := List.all_eq_true.1 goes1_all c (List.mem_range.2 (by omega))
  simpa using this
theorem long_lead {c : Nat} (h : leadB c = true) : longN c = behindOf c + 1 := by
  have hc : c ≤ 255 := by
    simp only [leadB, Bool.or_eq_true, Bool.and_eq_true, decide_eq_true_eq] at h
    omega
  have := List.all_eq_true.1 long_all c (List.mem_range.2 (by omega))
  simpa [h] using this
theorem goes2 {c x : Nat} (h : leadB c = true) (h0 : 0 < behindOf c) (hx : x ≤ 255) : goesB [c, x] = (decide (lowOf c ≤ x) && decide (x ≤ topOf c)) := by
  have hc : c ≤ 255 := by
    simp only [leadB, Bool.or_eq_true, Bool.and_eq_true, decide_eq_true_eq] at h
    omega
  have h1 := List.all_eq_true.1 goes2_all c (List.mem_range.2 (by omega))
  have hb : (behindOf c == 0) = false := by simp only [beq_eq_false_iff_ne, ne_eq]; omega
  rw [h, hb, Bool.not_true, Bool.false_or, Bool.false_or] at h1
  have := List.all_eq_true.1 h1 x (List.mem_range.2 (by omega))
  simpa using this
theorem goes_long {c : Nat} {t : List Nat} (h : longN c < t.length + 1) : goesB (c :: t) = false := by
  rw [goesB_cons, if_pos (.inr (.inl h))]
theorem goes_tail {c : Nat} {t : List Nat} (h : t.all isTail = false) : goesB (c :: t) = false := by
  rw [goesB_cons, if_pos (.inr (.inr h))]
/-- Behind the second byte tails go on. -/
theorem goes3 {c x : Nat} {t : List Nat} (h : leadB c = true) (hx : lowOf c ≤ x ∧ x ≤ topOf c) (ht : t.all isTail = true) (hl : t.length + 1 ≤ behindOf c) : goesB (c :: x :: t) = true := by
  have hL := long_lead h
  have hx2 := first_facts h
  have hxt : isTail x = true := by simp only [isTail, Bool.and_eq_true, decide_eq_true_eq]; omega
  rw [goesB_cons, if_neg (by rintro (h1 | h1 | h1); omega; simp only [List.length_cons] at h1; omega; rw [List.all_cons, hxt, ht] at h1; cases h1), decide_eq_true_eq]
  rcases lead_cases h with h1 | ⟨h1, h2⟩ | ⟨h1, h2⟩ | ⟨h1, h2⟩
  · obtain ⟨e1, e2, e3, e4⟩ := f1 h1; omega
  · obtain ⟨e1, e2, e3, e4⟩ := f2 h1 h2
    have : t = [] := List.eq_nil_of_length_eq_zero (by omega)
    subst this
    rw [hL, e1]
    simp only [fromI, subN, numI, Nat.reduceAdd, Nat.reduceSub, if_true]
    unfold clampLo clampHi gapI
    rw [e3, e4] at hx
    (repeat' split) <;> omega
  · obtain ⟨e1, e2, e3, e4⟩ := f3 h1 h2
    rw [hL, e1]
    rw [e3, e4] at hx
    match t, ht, hl with
    | [], _, _ =>
      simp only [fromI, subN, numI, Nat.reduceAdd, Nat.reduceSub, Nat.reduceEqDiff, if_true, if_false]
      unfold clampLo clampHi gapI
      (repeat' split at hx) <;> (repeat' split) <;> omega
    | [y], ht, _ =>
      simp only [List.all_cons, List.all_nil, Bool.and_true, isTail, Bool.and_eq_true, decide_eq_true_eq] at ht
      simp only [fromI, subN, numI, Nat.reduceAdd, Nat.reduceSub, Nat.reduceEqDiff, if_true, if_false]
      unfold clampLo clampHi gapI
      (repeat' split at hx) <;> (repeat' split) <;> omega
    | y :: z :: t, _, hl => simp only [List.length_cons] at hl; omega
  · obtain ⟨e1, e2, e3, e4⟩ := f4 h1 h2
    rw [hL, e1]
    rw [e3, e4] at hx
    match t, ht, hl with
    | [], _, _ =>
      simp only [fromI, subN, numI, Nat.reduceAdd, Nat.reduceSub, Nat.reduceEqDiff, if_true, if_false]
      unfold clampLo clampHi gapI
      (repeat' split at hx) <;> (repeat' split) <;> omega
    | [y], ht, _ =>
      simp only [List.all_cons, List.all_nil, Bool.and_true, isTail, Bool.and_eq_true, decide_eq_true_eq] at ht
      simp only [fromI, subN, numI, Nat.reduceAdd, Nat.reduceSub, Nat.reduceEqDiff, if_true, if_false]
      unfold clampLo clampHi gapI
      (repeat' split at hx) <;> (repeat' split) <;> omega
    | [y, z], ht, _ =>
      simp only [List.all_cons, List.all_nil, Bool.and_true, isTail, Bool.and_eq_true, decide_eq_true_eq] at ht
      simp only [fromI, subN, numI, Nat.reduceAdd, Nat.reduceSub, Nat.reduceEqDiff, if_true, if_false]
      unfold clampLo clampHi gapI
      (repeat' split at hx) <;> (repeat' split) <;> omega
    | y :: z :: v :: t, _, hl => simp only [List.length_cons] at hl; omega
end Go.Proofs.Ytbnaepdeakcljaa
