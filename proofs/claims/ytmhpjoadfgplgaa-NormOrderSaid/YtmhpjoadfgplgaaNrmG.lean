/-
Rows put together, as the document says. Conditions: none.
-/
import Derived.Test.YtmhpjoadfgplgaaNrmF
set_option linter.unusedSimpArgs false
set_option linter.unusedVariables false
set_option linter.unusedSectionVars false
namespace Go.Proofs.Ytmhpjoadfgplgaa
open Go Go.Ab
def a33_L0 : ACode :=
  (.seq (.seq (.reg [⟨(.some 14), (.mv (.t 5)), .none⟩, ⟨(.some 15), (.mv (.t 4)), .none⟩, ⟨(.some 16), (.len (.t 15)), .none⟩, ⟨(.some 17), (.bin .lss (.t 14) (.t 16)), .none⟩]) (.cond (.t 17) .skip
  (.exit 0))) (.seq (.block 1 (.seq (.reg [⟨(.some 20), (.mv (.t 4)), .none⟩, ⟨(.some 21), (.mv (.t 5)), .none⟩, ⟨(.some 22), (.ia 21 (.t 20) (.t 21)), .none⟩, ⟨(.some 23), (.ld .none (.t 22)), .none⟩,
  ⟨(.some 6), (.mv (.t 23)), .none⟩]) (.seq (.reg [⟨(.some 24), (.mv (.t 3)), .none⟩, ⟨(.some 25), (.len (.t 24)), .none⟩, ⟨(.some 26), (.bin .sub (.t 25) (.k (.int .i64 1))), .none⟩, ⟨(.some 7), (.mv
  (.t 26)), .none⟩]) (.seq (.block 2 (.loop (.seq (.seq (.reg [⟨(.some 27), (.mv (.t 7)), .none⟩, ⟨(.some 28), (.bin .geq (.t 27) (.k (.int .i64 0))), .none⟩, ⟨(.some 29), (.mv (.t 28)), .none⟩, ⟨(.some
  30), (.mv (.t 3)), (.some (29, true))⟩, ⟨(.some 31), (.mv (.t 7)), (.some (29, true))⟩, ⟨(.some 32), (.ia 21 (.t 30) (.t 31)), (.some (29, true))⟩, ⟨(.some 33), (.ld .none (.t 32)), (.some (29,
  true))⟩, ⟨(.some 34), (.call (.f 70) [(.t 33)]), (.some (29, true))⟩, ⟨(.some 35), (.bin .gtr (.t 34) (.k (.int .i64 0))), (.some (29, true))⟩, ⟨(.some 36), (.pick (.t 29) (.t 35) (.k (.bool false))),
  .none⟩]) (.cond (.t 36) .skip (.exit 2))) (.block 3 (.reg [⟨(.some 37), (.mv (.t 7)), .none⟩, ⟨(.some 38), (.bin .sub (.t 37) (.k (.int .i64 1))), .none⟩, ⟨(.some 7), (.mv (.t 38)), .none⟩]))))) (.seq
  (.reg [⟨(.some 39), (.mv (.t 7)), .none⟩, ⟨(.some 40), (.bin .geq (.t 39) (.k (.int .i64 0))), .none⟩, ⟨(.some 8), (.mv (.t 40)), .none⟩]) (.seq (.seq (.reg [⟨(.some 41), (.mv (.t 7)), .none⟩, ⟨(.some
  42), (.bin .add (.t 41) (.k (.int .i64 1))), .none⟩, ⟨(.some 9), (.mv (.t 42)), .none⟩]) (.block 4 (.loop (.seq (.seq (.reg [⟨(.some 43), (.mv (.t 9)), .none⟩, ⟨(.some 44), (.mv (.t 3)), .none⟩,
  ⟨(.some 45), (.len (.t 44)), .none⟩, ⟨(.some 46), (.bin .lss (.t 43) (.t 45)), .none⟩, ⟨(.some 47), (.mv (.t 46)), .none⟩, ⟨(.some 48), (.mv (.t 8)), (.some (47, true))⟩, ⟨(.some 49), (.pick (.t 47)
  (.t 48) (.k (.bool false))), .none⟩]) (.cond (.t 49) .skip (.exit 4))) (.seq (.block 5 (.reg [⟨(.some 52), (.mv (.t 3)), .none⟩, ⟨(.some 53), (.mv (.t 9)), .none⟩, ⟨(.some 54), (.ia 21 (.t 52) (.t
  53)), .none⟩, ⟨(.some 55), (.ld .none (.t 54)), .none⟩, ⟨(.some 56), (.call (.f 70) [(.t 55)]), .none⟩, ⟨(.some 57), (.mv (.t 6)), .none⟩, ⟨(.some 58), (.call (.f 70) [(.t 57)]), .none⟩, ⟨(.some 59),
  (.bin .lss (.t 56) (.t 58)), .none⟩, ⟨(.some 8), (.mv (.t 59)), .none⟩])) (.reg [⟨(.some 50), (.mv (.t 9)), .none⟩, ⟨(.some 51), (.bin .add (.t 50) (.k (.int .i64 1))), .none⟩, ⟨(.some 9), (.mv (.t
  51)), .none⟩])))))) (.seq (.seq (.reg [⟨(.some 60), (.mv (.t 8)), .none⟩]) (.cond (.t 60) (.seq (.reg [⟨(.some 62), (.mv (.t 3)), .none⟩, ⟨(.some 63), (.mv (.t 7)), .none⟩, ⟨(.some 64), (.ia 21 (.t
  62) (.t 63)), .none⟩, ⟨(.some 65), (.ld .none (.t 64)), .none⟩, ⟨(.some 66), (.mv (.t 6)), .none⟩, ⟨(.some 67), (.call (.f 30) [(.t 65), (.t 66)]), .none⟩, ⟨(.some 61), (.mv (.t 67)), .none⟩, ⟨(.some
  68), (.ext (.t 61) 0), .none⟩, ⟨(.some 69), (.ext (.t 61) 1), .none⟩, ⟨(.some 10), (.mv (.t 68)), .none⟩, ⟨(.some 11), (.mv (.t 69)), .none⟩]) (.seq (.reg [⟨(.some 70), (.mv (.t 11)), .none⟩]) (.cond
  (.t 70) (.seq (.reg [⟨(.some 71), (.mv (.t 3)), .none⟩, ⟨(.some 72), (.mv (.t 7)), .none⟩, ⟨(.some 73), (.mv (.t 10)), .none⟩, ⟨(.some 74), (.ia 21 (.t 71) (.t 72)), .none⟩, ⟨.none, (.st 1 (.t 74) (.t
  73)), .none⟩]) (.exit 1)) .skip))) .skip)) (.reg [⟨(.some 75), (.mv (.t 3)), .none⟩, ⟨(.some 76), (.mv (.t 6)), .none⟩, ⟨(.some 77), (.bs 21 1 [(.t 76)]), .none⟩, ⟨(.some 78), (.app 21 4 (.t 75) (.t
  77)), .none⟩, ⟨(.some 3), (.mv (.t 78)), .none⟩])))))))) (.reg [⟨(.some 18), (.mv (.t 5)), .none⟩, ⟨(.some 19), (.bin .add (.t 18) (.k (.int .i64 1))), .none⟩, ⟨(.some 5), (.mv (.t 19)), .none⟩])))
def a33 : ACode :=
  (.seq (.reg [⟨(.some 2), (.mv (.k (.slice .none 0 0))), .none⟩]) (.seq (.reg [⟨(.some 3), (.mv (.k (.slice .none 0 0))), .none⟩]) (.seq (.reg [⟨(.some 12), (.mv (.t 0)), .none⟩, ⟨(.some 13), (.call
  (.f 32) [(.t 12)]), .none⟩, ⟨(.some 4), (.mv (.t 13)), .none⟩]) (.seq (.seq (.reg [⟨(.some 5), (.mv (.k (.int .i64 0))), .none⟩]) (.block 0 (.loop a33_L0))) (.seq (.reg [⟨(.some 79), (.mv (.t 3)),
  .none⟩, ⟨(.some 2), (.mv (.t 79)), .none⟩]) .ret)))))
theorem c33 : Try.f33.body.bind (cCode Try.prog 80) = some a33 := by kernel_rfl
theorem r33 : Try.f33.results.toList = [(.tmp 2)] := by kernel_rfl
theorem n33 : Try.f33.ntmps = 80 := by kernel_rfl
theorem e33 : Enters Try.prog 33 := enters_of Try.func33 (by kernel_rfl) (by kernel_rfl)

/-- How far a row is put together. -/
def Rst (D : List Int) (i : Nat) (out : List Int) : Prop :=
  ((∀ y ∈ out, 0 < cls y) ∧ comp0 T cls [] D = comp0 T cls out (D.drop i)) ∨
  ∃ a s t, out = a ++ s :: t ∧ cls s = 0 ∧ (∀ y ∈ t, 0 < cls y) ∧ comp0 T cls [] D = compS T cls a s t (D.drop i)
def rSt (D : List Int) (i : Nat) (out : List Int) (t nx : Nat) : State := ⟨[(3, some (outV out t)), (4, some (rS D none)), (5, some (.lit (.int .i64 (i : Int))))], rowV out t, [], nx⟩

set_option maxRecDepth 10000 in
set_option maxHeartbeats 4000000 in
theorem refNFC_pure (l : List Int) (hl : l.length ≤ 1000) (h32l : I32 l) : Pure Try.prog 33 [rS l none] [21] (rS (nfcP T cls l) (some 0)) := by
  refine pure1W Try.func33 c33 n33 e33 r33 (by simp) ?_
  simp only [a33, astart, argSlots, go_sem, Nat.reduceAdd, Nat.reduceEqDiff, Nat.reduceLT, reduceIte, reduceCtorEq, Nat.reduceBEq, Int.reduceLT, Int.reduceToNat, Int.reducePow, Nat.reduceLeDiff, Int.reduceLE, Nat.reduceMul, Nat.reduceSub]
  refine callGo_pure (refNFD_pure l hl h32l) (by rfl) ?_
  have hDl := nfd_len l
  have h32 := nfd_i32 h32l
  have hfin : nfcP T cls l = comp0 T cls [] (nfdP T cls l) := rfl
  rw [hfin]
  simp only [go_sem, Nat.reduceAdd, Nat.reduceEqDiff, Nat.reduceLT, reduceIte, reduceCtorEq, Nat.reduceBEq, Int.reduceLT, Int.reduceToNat, Int.reducePow, Nat.reduceLeDiff, Int.reduceLE, Nat.reduceMul, Nat.reduceSub]
  generalize nfdP T cls l = D at hDl h32 ⊢
  refine loop_by (α := Nat × List Int × Nat × Nat) (fun x => rSt D x.1 x.2.1 x.2.2.1 x.2.2.2)
    (fun x => x.1 ≤ D.length ∧ x.2.1.length ≤ x.1 ∧ (x.2.1 ≠ [] → x.2.2.1 < x.2.2.2) ∧ I32 x.2.1 ∧ Rst D x.1 x.2.1) (fun x => D.length - x.1) (fun x y h => by
      have := congrArg (cnt 5) h
      simp [cnt, rSt, Ab.look] at this
      rw [this]) (0, [], 0, 1) ((weak_untip 4 (by simp only [go_sem, Nat.reduceAdd, Nat.reduceEqDiff, Nat.reduceLT, reduceIte, reduceCtorEq, Nat.reduceBEq, Int.reduceLT, Int.reduceToNat, Int.reducePow, Nat.reduceLeDiff, Int.reduceLE, Nat.reduceMul, Nat.reduceSub]; rfl)).trans ((weak_wrap 3 (by simp only [go_sem, Nat.reduceAdd, Nat.reduceEqDiff, Nat.reduceLT, reduceIte, reduceCtorEq, Nat.reduceBEq, Int.reduceLT, Int.reduceToNat, Int.reducePow, Nat.reduceLeDiff, Int.reduceLE, Nat.reduceMul, Nat.reduceSub]) (.inl rfl)).trans (weak_forget ?_ (List.Sublist.refl _) (List.nil_sublist _)))) ⟨Nat.zero_le _, Nat.le_refl _, fun h => absurd rfl h, by intro x hx; simp at hx, .inl ⟨by simp, rfl⟩⟩ ?_
  · simp only [outV, Int.natCast_zero, go_sem, Nat.reduceAdd, Nat.reduceEqDiff, Nat.reduceLT, reduceIte, reduceCtorEq, Nat.reduceBEq, Int.reduceLT, Int.reduceToNat, Int.reducePow, Nat.reduceLeDiff, Int.reduceLE, Nat.reduceMul, Nat.reduceSub, slotsSub]
  rintro ⟨i, out, t, nx⟩ ⟨hi, hol, htn, ho32, hC⟩
  simp only at hi hol htn ho32 hC
  simp only [rSt, a33_L0, runes_length, go_sem, Nat.reduceAdd, Nat.reduceEqDiff, Nat.reduceLT, reduceIte, reduceCtorEq, Nat.reduceBEq, Int.reduceLT, Int.reduceToNat, Int.reducePow, Nat.reduceLeDiff, Int.reduceLE, Nat.reduceMul, Nat.reduceSub]
  rcases Nat.lt_or_eq_of_le hi with hlt | heq
  · have hw1 : IntKind.i64.wrap ((i : Int) + 1) = ((i + 1 : Nat) : Int) := by rw [wrap_i64 _ (by omega) (by omega)]; omega
    have hdr : D.drop i = D[i] :: D.drop (i + 1) := List.drop_eq_getElem_cons hlt
    have hc32 := h32 D[i] (List.getElem_mem hlt)
    have ho32' : I32 (out ++ [D[i]]) := by
      intro x hx
      rcases List.mem_append.1 hx with hx | hx
      · exact ho32 x hx
      · simp only [List.mem_cons, List.not_mem_nil, or_false] at hx
        subst hx; exact hc32
    have hol' : (out ++ [D[i]]).length ≤ i + 1 := by simp; omega
    unfold Rst at hC
    rw [hdr] at hC
    simp only [dec_lt hlt, hlt, runes_at hlt, runes_length, go_sem, Nat.reduceAdd, Nat.reduceEqDiff, Nat.reduceLT, reduceIte, reduceCtorEq, Nat.reduceBEq, Int.reduceLT, Int.reduceToNat, Int.reducePow, Nat.reduceLeDiff, Int.reduceLE, Nat.reduceMul, Nat.reduceSub]
    generalize D[i] = c at *
    by_cases hne : out = []
    · subst hne
      have hcomp : comp0 T cls [] D = comp0 T cls [] (c :: D.drop (i + 1)) := by
        rcases hC with ⟨_, h⟩ | ⟨a, s, tt, h, _⟩
        · exact h
        · simp at h
      rw [comp0_cons] at hcomp
      have w0 : IntKind.i64.wrap ((0 : Int) - 1) = -1 := rfl
      have w1 : IntKind.i64.wrap ((-1 : Int) + 1) = 0 := rfl
      have e0 : decide ((-1 : Int) ≥ 0) = false := rfl
      have e1 : decide ((0 : Int) < 0) = false := rfl
      simp only [outV, rowV, w0, go_sem, Nat.reduceAdd, Nat.reduceEqDiff, Nat.reduceLT, reduceIte, reduceCtorEq, Nat.reduceBEq, Int.reduceLT, Int.reduceToNat, Int.reducePow, Nat.reduceLeDiff, Int.reduceLE, Nat.reduceMul, Nat.reduceSub]
      refine loop_to 0 (fun _ => ⟨[(3, some (.vx .wrap [.lit (.slice none 0 0)])), (4, some (rS D none)), (5, some (.lit (.int .i64 (i : Int)))), (6, some (.lit (.int .i32 c))), (7, some (.lit (.int .i64 (-1))))], [], [], nx⟩) (fun _ => True) (weak_forget ?_ (List.Sublist.refl _) (List.Sublist.refl _)) trivial (fun i hi => by omega) ?_
      · simp only [go_sem, Nat.reduceAdd, Nat.reduceEqDiff, Nat.reduceLT, reduceIte, reduceCtorEq, Nat.reduceBEq, Int.reduceLT, Int.reduceToNat, Int.reducePow, Nat.reduceLeDiff, Int.reduceLE, Nat.reduceMul, Nat.reduceSub, slotsSub]
      intro _
      simp only [e0, w1, go_sem, Nat.reduceAdd, Nat.reduceEqDiff, Nat.reduceLT, reduceIte, reduceCtorEq, Nat.reduceBEq, Int.reduceLT, Int.reduceToNat, Int.reducePow, Nat.reduceLeDiff, Int.reduceLE, Nat.reduceMul, Nat.reduceSub]
      refine loop_to 0 (fun _ => ⟨[(3, some (.vx .wrap [.lit (.slice none 0 0)])), (4, some (rS D none)), (5, some (.lit (.int .i64 (i : Int)))), (6, some (.lit (.int .i32 c))), (8, some (.lit (.bool false))), (9, some (.lit (.int .i64 0)))], [], [], nx⟩) (fun _ => True) (weak_forget ?_ (List.Sublist.refl _) (List.Sublist.refl _)) trivial (fun i hi => by omega) ?_
      · simp only [go_sem, Nat.reduceAdd, Nat.reduceEqDiff, Nat.reduceLT, reduceIte, reduceCtorEq, Nat.reduceBEq, Int.reduceLT, Int.reduceToNat, Int.reducePow, Nat.reduceLeDiff, Int.reduceLE, Nat.reduceMul, Nat.reduceSub, slotsSub]
      intro _
      simp only [e1, app_wrap, hw1, go_sem, Nat.reduceAdd, Nat.reduceEqDiff, Nat.reduceLT, reduceIte, reduceCtorEq, Nat.reduceBEq, Int.reduceLT, Int.reduceToNat, Int.reducePow, Nat.reduceLeDiff, Int.reduceLE, Nat.reduceMul, Nat.reduceSub]
      refine ⟨(i + 1, [c], nx + 1, nx + 2), weak_forget ?_ (List.Sublist.refl _) (List.nil_sublist _), ⟨by simp only; omega, hol', fun _ => by simp only; omega, ho32', ?_⟩, by simp only; omega⟩
      · simp only [outV, go_sem, Nat.reduceAdd, Nat.reduceEqDiff, Nat.reduceLT, reduceIte, reduceCtorEq, Nat.reduceBEq, Int.reduceLT, Int.reduceToNat, Int.reducePow, Nat.reduceLeDiff, Int.reduceLE, Nat.reduceMul, Nat.reduceSub, slotsSub]
      · unfold Rst
        by_cases hz : cls c = 0
        · rw [if_pos hz] at hcomp
          exact .inr ⟨[], c, [], rfl, hz, by simp, hcomp⟩
        · rw [if_neg hz] at hcomp
          exact .inl ⟨by simp; omega, hcomp⟩
    · have htn' := htn hne
      have hopos : 0 < out.length := by
        cases out with
        | nil => exact absurd rfl hne
        | cons x l => simp
      -- behind the last starter
      obtain ⟨lo, hlo, hpos, hst⟩ : ∃ lo, lo ≤ out.length ∧ (∀ (m : Nat) (h : m < out.length), lo ≤ m → 0 < cls out[m]) ∧ ((lo = 0 ∧ (∀ y ∈ out, 0 < cls y) ∧ comp0 T cls [] D = comp0 T cls out (c :: D.drop (i + 1))) ∨ ∃ a s tt, out = a ++ s :: tt ∧ lo = a.length + 1 ∧ cls s = 0 ∧ (∀ y ∈ tt, 0 < cls y) ∧ comp0 T cls [] D = compS T cls a s tt (c :: D.drop (i + 1))) := by
        rcases hC with ⟨h1, h2⟩ | ⟨a, s, tt, rfl, h2, h3, h4⟩
        · exact ⟨0, Nat.zero_le _, fun m h _ => h1 _ (List.getElem_mem h), .inl ⟨rfl, h1, h2⟩⟩
        · refine ⟨a.length + 1, by simp, fun m h hm => ?_, .inr ⟨a, s, tt, rfl, rfl, h2, h3, h4⟩⟩
          refine h3 _ ?_
          rw [List.getElem_append_right (by omega), List.getElem_cons]
          rw [dif_neg (by omega)]
          exact List.getElem_mem _
      clear hC
      have hrowV := rowV_ne hne t
      have w0 : IntKind.i64.wrap (((out.length : Nat) : Int) - 1) = ((out.length : Nat) : Int) - 1 := wrap_i64 _ (by omega) (by omega)
      simp only [outV_ne hne, rowV_ne hne, w0, go_sem, Nat.reduceAdd, Nat.reduceEqDiff, Nat.reduceLT, reduceIte, reduceCtorEq, Nat.reduceBEq, Int.reduceLT, Int.reduceToNat, Int.reducePow, Nat.reduceLeDiff, Int.reduceLE, Nat.reduceMul, Nat.reduceSub]
      refine loop_by (α := Nat) (fun j => ⟨[(3, some (.rf (.row 21 1 0 out.length) t)), (4, some (rS D none)), (5, some (.lit (.int .i64 (i : Int)))), (6, some (.lit (.int .i32 c))), (7, some (.lit (.int .i64 ((j : Int) - 1))))], [(t, cX out)], [], nx⟩)
        (fun j => lo ≤ j ∧ j ≤ out.length) (fun j => j) (fun x y h => by
          simp only [State.mk.injEq, List.cons.injEq, Prod.mk.injEq, Option.some.injEq, AV.lit.injEq, Value.int.injEq, true_and, and_true] at h
          omega) out.length (weak_forget ?_ (List.Sublist.refl _) (List.Sublist.refl _)) ⟨hlo, Nat.le_refl _⟩ ?_
      · simp only [go_sem, Nat.reduceAdd, Nat.reduceEqDiff, Nat.reduceLT, reduceIte, reduceCtorEq, Nat.reduceBEq, Int.reduceLT, Int.reduceToNat, Int.reducePow, Nat.reduceLeDiff, Int.reduceLE, Nat.reduceMul, Nat.reduceSub, slotsSub]
      rintro j ⟨hj1, hj2⟩
      simp only [go_sem, Nat.reduceAdd, Nat.reduceEqDiff, Nat.reduceLT, reduceIte, reduceCtorEq, Nat.reduceBEq, Int.reduceLT, Int.reduceToNat, Int.reducePow, Nat.reduceLeDiff, Int.reduceLE, Nat.reduceMul, Nat.reduceSub]
      rcases Nat.lt_or_eq_of_le hj1 with hj3 | hj3
      · -- one that is no starter
        obtain ⟨j, rfl⟩ : ∃ j', j = j' + 1 := ⟨j - 1, by omega⟩
        have hk : ((j + 1 : Nat) : Int) - 1 = (j : Int) := by omega
        have hjl : j < out.length := by omega
        have e1 : decide ((j : Int) ≥ 0) = true := dec_nonneg _
        have g1 := cX_get (xs := out) hjl
        have r1 := ho32 out[j] (List.getElem_mem hjl)
        have hp := hpos j hjl (by omega)
        have e2 : decide (((cls out[j] : Nat) : Int) > 0) = true := by simp only [decide_eq_true_eq]; omega
        have w1 : IntKind.i64.wrap ((j : Int) - 1) = (j : Int) - 1 := wrap_i64 _ (by omega) (by omega)
        simp only [hk, e1, hjl, Nat.mul_one, unOb_cX, drop_get0, g1, go_sem, Nat.reduceAdd, Nat.reduceEqDiff, Nat.reduceLT, reduceIte, reduceCtorEq, Nat.reduceBEq, Int.reduceLT, Int.reduceToNat, Int.reducePow, Nat.reduceLeDiff, Int.reduceLE, Nat.reduceMul, Nat.reduceSub]
        refine callGo_pure (refClass_pure _ r1) (by rfl) ?_
        simp only [e2, w1, go_sem, Nat.reduceAdd, Nat.reduceEqDiff, Nat.reduceLT, reduceIte, reduceCtorEq, Nat.reduceBEq, Int.reduceLT, Int.reduceToNat, Int.reducePow, Nat.reduceLeDiff, Int.reduceLE, Nat.reduceMul, Nat.reduceSub]
        refine ⟨j, weak_forget ?_ (List.Sublist.refl _) (List.Sublist.refl _), ⟨by omega, by omega⟩, by omega⟩
        simp only [go_sem, Nat.reduceAdd, Nat.reduceEqDiff, Nat.reduceLT, reduceIte, reduceCtorEq, Nat.reduceBEq, Int.reduceLT, Int.reduceToNat, Int.reducePow, Nat.reduceLeDiff, Int.reduceLE, Nat.reduceMul, Nat.reduceSub, slotsSub]
      subst hj3
      rcases hst with ⟨rfl, hall, hcomp⟩ | ⟨a, s0, tt, hout, rfl, hs0, hp, hcomp⟩
      · -- no starter
        rw [comp0_cons] at hcomp
        have hk : ((0 : Nat) : Int) - 1 = -1 := rfl
        have e0 : decide ((-1 : Int) ≥ 0) = false := rfl
        have w1 : IntKind.i64.wrap ((-1 : Int) + 1) = 0 := rfl
        have e1 : decide ((0 : Int) < ((out.length : Nat) : Int)) = true := by simp only [decide_eq_true_eq]; omega
        simp only [hk, e0, w1, go_sem, Nat.reduceAdd, Nat.reduceEqDiff, Nat.reduceLT, reduceIte, reduceCtorEq, Nat.reduceBEq, Int.reduceLT, Int.reduceToNat, Int.reducePow, Nat.reduceLeDiff, Int.reduceLE, Nat.reduceMul, Nat.reduceSub]
        refine loop_to 0 (fun _ => ⟨[(3, some (.rf (.row 21 1 0 out.length) t)), (4, some (rS D none)), (5, some (.lit (.int .i64 (i : Int)))), (6, some (.lit (.int .i32 c))), (8, some (.lit (.bool false))), (9, some (.lit (.int .i64 0)))], [(t, cX out)], [], nx⟩) (fun _ => True) (weak_forget ?_ (List.Sublist.refl _) (List.Sublist.refl _)) trivial (fun i hi => by omega) ?_
        · simp only [go_sem, Nat.reduceAdd, Nat.reduceEqDiff, Nat.reduceLT, reduceIte, reduceCtorEq, Nat.reduceBEq, Int.reduceLT, Int.reduceToNat, Int.reducePow, Nat.reduceLeDiff, Int.reduceLE, Nat.reduceMul, Nat.reduceSub, slotsSub]
        intro _
        have r1 := fun tp tt => app_row (bx := [(t, cX out)]) (n := out.length) (id := t) tp 21 (.int .i32 c) tt (cells := cX out) (by simp only [unOb_cX, go_sem, Nat.reduceAdd, Nat.reduceEqDiff, Nat.reduceLT, reduceIte, reduceCtorEq, Nat.reduceBEq, Int.reduceLT, Int.reduceToNat, Int.reducePow, Nat.reduceLeDiff, Int.reduceLE, Nat.reduceMul, Nat.reduceSub]) (cX_length out)
        have hne1 : out ++ [c] ≠ [] := by simp
        simp only [e1, r1, cX_snoc, hw1, go_sem, Nat.reduceAdd, Nat.reduceEqDiff, Nat.reduceLT, reduceIte, reduceCtorEq, Nat.reduceBEq, Int.reduceLT, Int.reduceToNat, Int.reducePow, Nat.reduceLeDiff, Int.reduceLE, Nat.reduceMul, Nat.reduceSub]
        refine ⟨by omega, (i + 1, out ++ [c], nx + 1, nx + 2), ?_, ⟨by simp only; omega, hol', fun _ => by simp only; omega, ho32', ?_⟩, by simp only; omega⟩
        · simp only [outV_ne hne1, rowV_ne hne1, List.length_append, List.length_cons, List.length_nil, Nat.zero_add]
          refine weak_forget ?_ (List.Sublist.refl _) (List.nil_sublist _)
          simp only [go_sem, Nat.reduceAdd, Nat.reduceEqDiff, Nat.reduceLT, reduceIte, reduceCtorEq, Nat.reduceBEq, Int.reduceLT, Int.reduceToNat, Int.reducePow, Nat.reduceLeDiff, Int.reduceLE, Nat.reduceMul, Nat.reduceSub, slotsSub]
        · unfold Rst
          by_cases hz : cls c = 0
          · rw [if_pos hz] at hcomp
            exact .inr ⟨out, c, [], rfl, hz, by simp, hcomp⟩
          · rw [if_neg hz] at hcomp
            refine .inl ⟨fun y hy => ?_, hcomp⟩
            rcases List.mem_append.1 hy with hy | hy
            · exact hall y hy
            · simp only [List.mem_cons, List.not_mem_nil, or_false] at hy
              subst hy; omega
      · -- behind a starter
        have hol2 : out.length = a.length + 1 + tt.length := by rw [hout]; simp; omega
        have hk : ((a.length + 1 : Nat) : Int) - 1 = ((a.length : Nat) : Int) := by omega
        have hal : a.length < out.length := by omega
        have hga : out[a.length] = s0 := by
          have : out[a.length]? = some s0 := by rw [hout]; simp
          rw [List.getElem?_eq_getElem hal] at this
          exact Option.some.inj this
        have hs32 := ho32 out[a.length] (List.getElem_mem hal)
        rw [hga] at hs32
        have g1 := cX_get (xs := out) hal
        rw [hga] at g1
        have e0 : decide (((a.length : Nat) : Int) ≥ 0) = true := dec_nonneg _
        have e1 : decide (((cls s0 : Nat) : Int) > 0) = false := by rw [hs0]; rfl
        have w1 : IntKind.i64.wrap (((a.length : Nat) : Int) + 1) = ((a.length + 1 : Nat) : Int) := by rw [wrap_i64 _ (by omega) (by omega)]; omega
        simp only [hk, e0, hal, Nat.mul_one, unOb_cX, drop_get0, g1, go_sem, Nat.reduceAdd, Nat.reduceEqDiff, Nat.reduceLT, reduceIte, reduceCtorEq, Nat.reduceBEq, Int.reduceLT, Int.reduceToNat, Int.reducePow, Nat.reduceLeDiff, Int.reduceLE, Nat.reduceMul, Nat.reduceSub]
        refine callGo_pure (refClass_pure _ hs32) (by rfl) ?_
        simp only [e1, e0, w1, go_sem, Nat.reduceAdd, Nat.reduceEqDiff, Nat.reduceLT, reduceIte, reduceCtorEq, Nat.reduceBEq, Int.reduceLT, Int.reduceToNat, Int.reducePow, Nat.reduceLeDiff, Int.reduceLE, Nat.reduceMul, Nat.reduceSub]
        refine loop_by (α := Nat) (fun k => ⟨[(3, some (.rf (.row 21 1 0 out.length) t)), (4, some (rS D none)), (5, some (.lit (.int .i64 (i : Int)))), (6, some (.lit (.int .i32 c))), (7, some (.lit (.int .i64 ((a.length : Nat) : Int)))), (8, some (.lit (.bool ((tt.take k).all fun y => decide (cls y < cls c))))), (9, some (.lit (.int .i64 ((a.length + 1 + k : Nat) : Int))))], [(t, cX out)], [], nx⟩)
          (fun k => k ≤ tt.length) (fun k => tt.length - k) (fun x y h => by
            simp only [State.mk.injEq, List.cons.injEq, Prod.mk.injEq, Option.some.injEq, AV.lit.injEq, Value.int.injEq, true_and, and_true] at h
            omega) 0 (weak_forget ?_ (List.Sublist.refl _) (List.Sublist.refl _)) (Nat.zero_le _) ?_
        · simp only [go_sem, Nat.reduceAdd, Nat.reduceEqDiff, Nat.reduceLT, reduceIte, reduceCtorEq, Nat.reduceBEq, Int.reduceLT, Int.reduceToNat, Int.reducePow, Nat.reduceLeDiff, Int.reduceLE, Nat.reduceMul, Nat.reduceSub, slotsSub]
        intro k hkt
        simp only [go_sem, Nat.reduceAdd, Nat.reduceEqDiff, Nat.reduceLT, reduceIte, reduceCtorEq, Nat.reduceBEq, Int.reduceLT, Int.reduceToNat, Int.reducePow, Nat.reduceLeDiff, Int.reduceLE, Nat.reduceMul, Nat.reduceSub]
        -- what is put
        have hput : (tt.all fun y => decide (cls y < cls c)) = false ∨ ((tt.all fun y => decide (cls y < cls c)) = true ∧ joinP T s0 c = none) → comp0 T cls [] D = if cls c = 0 then compS T cls out c [] (D.drop (i + 1)) else compS T cls a s0 (tt ++ [c]) (D.drop (i + 1)) := fun h => by
          rw [hcomp, compS_put, ← hout]
          rcases h with h | ⟨h, h'⟩
          · rw [if_neg (by rw [h]; simp)]
          · rw [if_pos h, h']
        have hnone : ∀ hcomp : comp0 T cls [] D = (if cls c = 0 then compS T cls out c [] (D.drop (i + 1)) else compS T cls a s0 (tt ++ [c]) (D.drop (i + 1))), Rst D (i + 1) (out ++ [c]) := fun hcomp => by
          unfold Rst
          by_cases hz : cls c = 0
          · rw [if_pos hz] at hcomp
            exact .inr ⟨out, c, [], rfl, hz, by simp, hcomp⟩
          · rw [if_neg hz] at hcomp
            refine .inr ⟨a, s0, tt ++ [c], by rw [hout]; simp, hs0, fun y hy => ?_, hcomp⟩
            rcases List.mem_append.1 hy with hy | hy
            · exact hp y hy
            · simp only [List.mem_cons, List.not_mem_nil, or_false] at hy
              subst hy; omega
        have r1 := fun tp tt => app_row (bx := [(t, cX out)]) (n := out.length) (id := t) tp 21 (.int .i32 c) tt (cells := cX out) (by simp only [unOb_cX, go_sem, Nat.reduceAdd, Nat.reduceEqDiff, Nat.reduceLT, reduceIte, reduceCtorEq, Nat.reduceBEq, Int.reduceLT, Int.reduceToNat, Int.reducePow, Nat.reduceLeDiff, Int.reduceLE, Nat.reduceMul, Nat.reduceSub]) (cX_length out)
        have hne1 : out ++ [c] ≠ [] := by simp
        have fin : ∀ sl tp, slotsSub sl (rSt D (i + 1) (out ++ [c]) (nx + 1) (nx + 2)).slots → Weak Try.prog 0 ⟨sl, [(nx + 1, cX (out ++ [c]))], tp, nx + 2⟩ (rSt D (i + 1) (out ++ [c]) (nx + 1) (nx + 2)) := fun sl tp hs => by
          have : rSt D (i + 1) (out ++ [c]) (nx + 1) (nx + 2) = ⟨(rSt D (i + 1) (out ++ [c]) (nx + 1) (nx + 2)).slots, [(nx + 1, cX (out ++ [c]))], [], nx + 2⟩ := by simp only [rSt, rowV_ne hne1]
          rw [this]
          exact weak_forget hs (List.Sublist.refl _) (List.nil_sublist _)
        rcases Nat.lt_or_eq_of_le hkt with hlt2 | heq2
        · have e2 : decide (((a.length + 1 + k : Nat) : Int) < ((out.length : Nat) : Int)) = true := dec_lt (by omega)
          cases hb : (tt.take k).all fun y => decide (cls y < cls c) with
          | false =>
            have hall : (tt.all fun y => decide (cls y < cls c)) = false := by
              rw [Bool.eq_false_iff] at hb ⊢
              intro h
              exact hb (List.all_eq_true.2 fun y hy => List.all_eq_true.1 h y (List.mem_of_mem_take hy))
            simp only [e2, r1, cX_snoc, hw1, go_sem, Nat.reduceAdd, Nat.reduceEqDiff, Nat.reduceLT, reduceIte, reduceCtorEq, Nat.reduceBEq, Int.reduceLT, Int.reduceToNat, Int.reducePow, Nat.reduceLeDiff, Int.reduceLE, Nat.reduceMul, Nat.reduceSub]
            refine ⟨by omega, (i + 1, out ++ [c], nx + 1, nx + 2), fin _ _ ?_, ⟨by simp only; omega, hol', fun _ => by simp only; omega, ho32', hnone (hput (.inl hall))⟩, by simp only; omega⟩
            simp only [rSt, outV_ne hne1, List.length_append, List.length_cons, List.length_nil, Nat.zero_add, go_sem, Nat.reduceAdd, Nat.reduceEqDiff, Nat.reduceLT, reduceIte, reduceCtorEq, Nat.reduceBEq, Int.reduceLT, Int.reduceToNat, Int.reducePow, Nat.reduceLeDiff, Int.reduceLE, Nat.reduceMul, Nat.reduceSub, slotsSub]
          | true =>
            have hkl : a.length + 1 + k < out.length := by omega
            have hgk : out[a.length + 1 + k] = tt[k] := by
              have : out[a.length + 1 + k]? = some tt[k] := by
                rw [hout, List.getElem?_append_right (by omega), show a.length + 1 + k - a.length = k + 1 by omega, List.getElem?_cons_succ, List.getElem?_eq_getElem hlt2]
              rw [List.getElem?_eq_getElem hkl] at this
              exact Option.some.inj this
            have g2 := cX_get (xs := out) hkl
            have k32 := ho32 out[a.length + 1 + k] (List.getElem_mem hkl)
            rw [hgk] at g2 k32
            have w2 : IntKind.i64.wrap (((a.length + 1 + k : Nat) : Int) + 1) = ((a.length + 1 + (k + 1) : Nat) : Int) := by rw [wrap_i64 _ (by omega) (by omega)]; omega
            have hnx : ((tt.take (k + 1)).all fun y => decide (cls y < cls c)) = decide (cls tt[k] < cls c) := by
              rw [List.take_succ_eq_append_getElem hlt2, List.all_append, hb]
              simp
            simp only [e2, hkl, Nat.mul_one, unOb_cX, drop_get0, g2, go_sem, Nat.reduceAdd, Nat.reduceEqDiff, Nat.reduceLT, reduceIte, reduceCtorEq, Nat.reduceBEq, Int.reduceLT, Int.reduceToNat, Int.reducePow, Nat.reduceLeDiff, Int.reduceLE, Nat.reduceMul, Nat.reduceSub]
            refine callGo_pure (refClass_pure _ k32) (by rfl) ?_
            simp only [go_sem, Nat.reduceAdd, Nat.reduceEqDiff, Nat.reduceLT, reduceIte, reduceCtorEq, Nat.reduceBEq, Int.reduceLT, Int.reduceToNat, Int.reducePow, Nat.reduceLeDiff, Int.reduceLE, Nat.reduceMul, Nat.reduceSub]
            refine callGo_pure (refClass_pure _ hc32) (by rfl) ?_
            simp only [dec_cast, w2, go_sem, Nat.reduceAdd, Nat.reduceEqDiff, Nat.reduceLT, reduceIte, reduceCtorEq, Nat.reduceBEq, Int.reduceLT, Int.reduceToNat, Int.reducePow, Nat.reduceLeDiff, Int.reduceLE, Nat.reduceMul, Nat.reduceSub]
            refine ⟨k + 1, weak_forget ?_ (List.Sublist.refl _) (List.Sublist.refl _), by omega, by omega⟩
            simp only [hnx, go_sem, Nat.reduceAdd, Nat.reduceEqDiff, Nat.reduceLT, reduceIte, reduceCtorEq, Nat.reduceBEq, Int.reduceLT, Int.reduceToNat, Int.reducePow, Nat.reduceLeDiff, Int.reduceLE, Nat.reduceMul, Nat.reduceSub, slotsSub]
        · subst heq2
          have e2 : decide (((a.length + 1 + tt.length : Nat) : Int) < ((out.length : Nat) : Int)) = false := dec_nlt (by omega)
          rw [List.take_length]
          cases hb : tt.all fun y => decide (cls y < cls c) with
          | false =>
            simp only [e2, r1, cX_snoc, hw1, go_sem, Nat.reduceAdd, Nat.reduceEqDiff, Nat.reduceLT, reduceIte, reduceCtorEq, Nat.reduceBEq, Int.reduceLT, Int.reduceToNat, Int.reducePow, Nat.reduceLeDiff, Int.reduceLE, Nat.reduceMul, Nat.reduceSub]
            refine ⟨by omega, (i + 1, out ++ [c], nx + 1, nx + 2), fin _ _ ?_, ⟨by simp only; omega, hol', fun _ => by simp only; omega, ho32', hnone (hput (.inl hb))⟩, by simp only; omega⟩
            simp only [rSt, outV_ne hne1, List.length_append, List.length_cons, List.length_nil, Nat.zero_add, go_sem, Nat.reduceAdd, Nat.reduceEqDiff, Nat.reduceLT, reduceIte, reduceCtorEq, Nat.reduceBEq, Int.reduceLT, Int.reduceToNat, Int.reducePow, Nat.reduceLeDiff, Int.reduceLE, Nat.reduceMul, Nat.reduceSub, slotsSub]
          | true =>
            simp only [e2, hal, Nat.mul_one, unOb_cX, drop_get0, g1, go_sem, Nat.reduceAdd, Nat.reduceEqDiff, Nat.reduceLT, reduceIte, reduceCtorEq, Nat.reduceBEq, Int.reduceLT, Int.reduceToNat, Int.reducePow, Nat.reduceLeDiff, Int.reduceLE, Nat.reduceMul, Nat.reduceSub]
            refine callGo_pure (refJoin_pure hs32 hc32) (by rfl) ?_
            cases hj : joinP T s0 c with
            | none =>
              simp only [joinE, r1, cX_snoc, hw1, go_sem, Nat.reduceAdd, Nat.reduceEqDiff, Nat.reduceLT, reduceIte, reduceCtorEq, Nat.reduceBEq, Int.reduceLT, Int.reduceToNat, Int.reducePow, Nat.reduceLeDiff, Int.reduceLE, Nat.reduceMul, Nat.reduceSub]
              refine ⟨by omega, (i + 1, out ++ [c], nx + 1, nx + 2), fin _ _ ?_, ⟨by simp only; omega, hol', fun _ => by simp only; omega, ho32', hnone (hput (.inr ⟨hb, hj⟩))⟩, by simp only; omega⟩
              simp only [rSt, outV_ne hne1, List.length_append, List.length_cons, List.length_nil, Nat.zero_add, go_sem, Nat.reduceAdd, Nat.reduceEqDiff, Nat.reduceLT, reduceIte, reduceCtorEq, Nat.reduceBEq, Int.reduceLT, Int.reduceToNat, Int.reducePow, Nat.reduceLeDiff, Int.reduceLE, Nat.reduceMul, Nat.reduceSub, slotsSub]
            | some m =>
              have hputm := cX_put out a.length m hal
              have hset : out.set a.length m = a ++ m :: tt := by rw [hout]; simp
              rw [hset] at hputm
              have hal1 : a.length + 1 ≤ out.length := by omega
              have hm32 := joined_i32 hs32 hc32 hj
              have hne2 : a ++ m :: tt ≠ [] := by simp
              have hl2 : (a ++ m :: tt).length = out.length := by rw [hout]; simp
              simp only [joinE, hal, Nat.mul_one, unOb_cX, hputm, hal1, cX_length, hw1, go_sem, Nat.reduceAdd, Nat.reduceEqDiff, Nat.reduceLT, reduceIte, reduceCtorEq, Nat.reduceBEq, Int.reduceLT, Int.reduceToNat, Int.reducePow, Nat.reduceLeDiff, Int.reduceLE, Nat.reduceMul, Nat.reduceSub]
              refine ⟨(i + 1, a ++ m :: tt, t, nx), ?_, ⟨by simp only; omega, by simp only [hl2]; omega, fun _ => htn', ?_, ?_⟩, by simp only; omega⟩
              · simp only [outV_ne hne2, rowV_ne hne2, hl2]
                refine weak_forget ?_ (List.Sublist.refl _) (List.nil_sublist _)
                simp only [go_sem, Nat.reduceAdd, Nat.reduceEqDiff, Nat.reduceLT, reduceIte, reduceCtorEq, Nat.reduceBEq, Int.reduceLT, Int.reduceToNat, Int.reducePow, Nat.reduceLeDiff, Int.reduceLE, Nat.reduceMul, Nat.reduceSub, slotsSub]
              · intro x hx
                rw [hout] at ho32
                rcases List.mem_append.1 hx with hx | hx
                · exact ho32 x (by simp [hx])
                · rcases List.mem_cons.1 hx with rfl | hx
                  · exact hm32
                  · exact ho32 x (by simp [hx])
              · exact .inr ⟨a, m, tt, rfl, (join_spec nf hj).1, hp, by rw [hcomp, compS_join (by rw [if_pos hb]; exact hj)]⟩
  · subst heq
    have hcomp : out = comp0 T cls [] D := by
      rcases hC with ⟨_, h⟩ | ⟨a, s, tt, rfl, _, _, h⟩
      · rw [h, List.drop_length]; rfl
      · rw [h, List.drop_length]; rfl
    simp only [dec_irr, go_sem, Nat.reduceAdd, Nat.reduceEqDiff, Nat.reduceLT, reduceIte, reduceCtorEq, Nat.reduceBEq, Int.reduceLT, Int.reduceToNat, Int.reducePow, Nat.reduceLeDiff, Int.reduceLE, Nat.reduceMul, Nat.reduceSub]
    by_cases hne : out = []
    · rw [← hcomp, hne]
      simp only [outV, rowV]
      exact ⟨_, (weak_unwrap 2 (by simp only [go_sem, Nat.reduceAdd, Nat.reduceEqDiff, Nat.reduceLT, reduceIte, reduceCtorEq, Nat.reduceBEq, Int.reduceLT, Int.reduceToNat, Int.reducePow, Nat.reduceLeDiff, Int.reduceLE, Nat.reduceMul, Nat.reduceSub]; rfl)).trans (weak_nil 2 21 (by simp only [go_sem, Nat.reduceAdd, Nat.reduceEqDiff, Nat.reduceLT, reduceIte, reduceCtorEq, Nat.reduceBEq, Int.reduceLT, Int.reduceToNat, Int.reducePow, Nat.reduceLeDiff, Int.reduceLE, Nat.reduceMul, Nat.reduceSub])), .inr rfl, nx, by simp only [resAV, resL, resOne, go_sem, Nat.reduceAdd, Nat.reduceEqDiff, Nat.reduceLT, reduceIte, reduceCtorEq, Nat.reduceBEq, Int.reduceLT, Int.reduceToNat, Int.reducePow, Nat.reduceLeDiff, Int.reduceLE, Nat.reduceMul, Nat.reduceSub]; rfl, by simp only [go_sem, Nat.reduceAdd, Nat.reduceEqDiff, Nat.reduceLT, reduceIte, reduceCtorEq, Nat.reduceBEq, Int.reduceLT, Int.reduceToNat, Int.reducePow, Nat.reduceLeDiff, Int.reduceLE, Nat.reduceMul, Nat.reduceSub, beq_self_eq_true]⟩
    · rw [← hcomp]
      simp only [outV_ne hne, rowV_ne hne]
      exact ⟨_, weak_freeze 2 (els := runes out) (rest := []) (by simp only [go_sem, Nat.reduceAdd, Nat.reduceEqDiff, Nat.reduceLT, reduceIte, reduceCtorEq, Nat.reduceBEq, Int.reduceLT, Int.reduceToNat, Int.reducePow, Nat.reduceLeDiff, Int.reduceLE, Nat.reduceMul, Nat.reduceSub]; rfl) (by simp only [cX_flat, unOb_cX, go_sem, Nat.reduceAdd, Nat.reduceEqDiff, Nat.reduceLT, reduceIte, reduceCtorEq, Nat.reduceBEq, Int.reduceLT, Int.reduceToNat, Int.reducePow, Nat.reduceLeDiff, Int.reduceLE, Nat.reduceMul, Nat.reduceSub]) (runes_length _) (lenAll_runes _) (oneV_runes _), .inr rfl, nx, by simp only [resAV, resL, resOne, go_sem, Nat.reduceAdd, Nat.reduceEqDiff, Nat.reduceLT, reduceIte, reduceCtorEq, Nat.reduceBEq, Int.reduceLT, Int.reduceToNat, Int.reducePow, Nat.reduceLeDiff, Int.reduceLE, Nat.reduceMul, Nat.reduceSub], by simp only [go_sem, Nat.reduceAdd, Nat.reduceEqDiff, Nat.reduceLT, reduceIte, reduceCtorEq, Nat.reduceBEq, Int.reduceLT, Int.reduceToNat, Int.reducePow, Nat.reduceLeDiff, Int.reduceLE, Nat.reduceMul, Nat.reduceSub, beq_self_eq_true]⟩
end Go.Proofs.Ytmhpjoadfgplgaa
