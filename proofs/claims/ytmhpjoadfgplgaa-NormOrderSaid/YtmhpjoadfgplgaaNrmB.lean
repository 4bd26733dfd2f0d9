/-
Rows taken apart, and put together, by the program. Conditions: none.
-/
import Derived.Test.YtmhpjoadfgplgaaNrmA
set_option linter.unusedSimpArgs false
set_option linter.unusedVariables false
set_option linter.unusedSectionVars false
namespace Go.Proofs.Ytmhpjoadfgplgaa
open Go Go.Ab
def a25 : ACode :=
  (.seq (.reg [⟨(.some 2), (.mv (.k (.slice .none 0 0))), .none⟩]) (.seq (.reg [⟨(.some 6), (.mv (.t 0)), .none⟩, ⟨(.some 7), (.call (.f 58) [(.t 6)]), .none⟩, ⟨(.some 5), (.mv (.t 7)), .none⟩, ⟨(.some
  8), (.ext (.t 5) 0), .none⟩, ⟨(.some 9), (.ext (.t 5) 1), .none⟩, ⟨(.some 3), (.mv (.t 8)), .none⟩, ⟨(.some 4), (.mv (.t 9)), .none⟩]) (.seq (.reg [⟨(.some 10), (.mv (.t 3)), .none⟩, ⟨(.some 2), (.mv
  (.t 10)), .none⟩]) .ret)))
theorem c25 : Try.f25.body.bind (cCode Try.prog 11) = some a25 := by kernel_rfl
theorem r25 : Try.f25.results.toList = [(.tmp 2)] := by kernel_rfl
theorem n25 : Try.f25.ntmps = 11 := by kernel_rfl
theorem e25 : Enters Try.prog 25 := enters_of Try.func25 (by kernel_rfl) (by kernel_rfl)

set_option maxRecDepth 10000 in
theorem apart_nil {K : AV → List (Nat × List AV) → List (Nat × TypeId) → Nat → Prop} (hK : K (.tu [.lit (.slice none 0 0), .lit (.slice none 0 0)]) [] [] 0) : CallOK Try.prog 58 [rS [] none] [] [] 0 K := by
  refine callOK_walk Try.func58 c58 n58 e58 r58 (by simp) ?_
  simp only [a58, astart, argSlots, runes_length, go_sem, Nat.reduceAdd, Nat.reduceEqDiff, Nat.reduceLT, reduceIte, reduceCtorEq, Nat.reduceBEq, Int.reduceLT, Int.reduceToNat, Int.reducePow, Nat.reduceLeDiff, Int.reduceLE, Nat.reduceMul, Nat.reduceSub]
  have e1 : decide ((0 : Int) < ((0 : Nat) : Int)) = false := rfl
  refine loop_to 0 (fun i => ⟨[(14, some (.lit (.int .i64 0))), (15, some (.lit (.int .i64 0))), (4, some (.lit (.slice none 0 0))), (5, some (.lit (.slice none 0 0)))], [], [], 0⟩)
    (fun i => True) (weak_forget ?_ (List.Sublist.refl _) (List.Sublist.refl _)) trivial (fun i hi => by omega) ?_
  · simp only [go_sem, Nat.reduceAdd, Nat.reduceEqDiff, Nat.reduceLT, reduceIte, reduceCtorEq, Nat.reduceBEq, Int.reduceLT, Int.reduceToNat, Int.reducePow, Nat.reduceLeDiff, Int.reduceLE, Nat.reduceMul, Nat.reduceSub, slotsSub, Int.natCast_zero]
  · intro _
    simp only [e1, go_sem, Nat.reduceAdd, Nat.reduceEqDiff, Nat.reduceLT, reduceIte, reduceCtorEq, Nat.reduceBEq, Int.reduceLT, Int.reduceToNat, Int.reducePow, Nat.reduceLeDiff, Int.reduceLE, Nat.reduceMul, Nat.reduceSub]
    refine loop_to 0 (fun i => ⟨[(11, some (.lit (.int .i64 0))), (4, some (.lit (.slice none 0 0))), (5, some (.lit (.slice none 0 0)))], [], [], 0⟩)
      (fun i => True) (weak_forget ?_ (List.Sublist.refl _) (List.Sublist.refl _)) trivial (fun i hi => by omega) ?_
    · simp only [go_sem, Nat.reduceAdd, Nat.reduceEqDiff, Nat.reduceLT, reduceIte, reduceCtorEq, Nat.reduceBEq, Int.reduceLT, Int.reduceToNat, Int.reducePow, Nat.reduceLeDiff, Int.reduceLE, Nat.reduceMul, Nat.reduceSub, slotsSub]
    · intro _
      simp only [e1, go_sem, Nat.reduceAdd, Nat.reduceEqDiff, Nat.reduceLT, reduceIte, reduceCtorEq, Nat.reduceBEq, Int.reduceLT, Int.reduceToNat, Int.reducePow, Nat.reduceLeDiff, Int.reduceLE, Nat.reduceMul, Nat.reduceSub]
      exact ⟨.inr trivial, _, by simp only [resAV, resL, resOne, go_sem, Nat.reduceAdd, Nat.reduceEqDiff, Nat.reduceLT, reduceIte, reduceCtorEq, Nat.reduceBEq, Int.reduceLT, Int.reduceToNat, Int.reducePow, Nat.reduceLeDiff, Int.reduceLE, Nat.reduceMul, Nat.reduceSub], hK⟩

theorem cX_flat (xs : List Int) : (runes xs).flatten.map AV.lit = cX xs := by
  induction xs with
  | nil => rfl
  | cons x xs ih => simp only [runes, List.map_cons, List.flatten_cons, List.cons_append, List.nil_append, cX] at ih ⊢; rw [ih]
/-- Classes as cells. -/
def kS (xs : List Int) : List (List Value) := xs.map fun x => [.int .i64 (cls x : Int)]
theorem cK_flat (xs : List Int) : (kS xs).flatten.map AV.lit = cK xs := by
  induction xs with
  | nil => rfl
  | cons x xs ih => simp only [kS, List.map_cons, List.flatten_cons, List.cons_append, List.nil_append, cK] at ih ⊢; rw [ih]
theorem kS_length (xs : List Int) : (kS xs).length = xs.length := by simp [kS]
theorem kS_at {xs : List Int} {i : Nat} (h : i < xs.length) : (kS xs)[i]? = some [.int .i64 (cls xs[i] : Int)] := by simp [kS, h]
theorem lenAll_runes (xs : List Int) : lenAll 1 (runes xs) = true := by
  induction xs with
  | nil => rfl
  | cons x xs ih => simp only [runes, List.map_cons, lenAll] at ih ⊢; simp [ih]
theorem oneV_runes (xs : List Int) : oneV (runes xs) = true := by
  induction xs with
  | nil => rfl
  | cons x xs ih => simp only [runes, List.map_cons, oneV] at ih ⊢; simp [ih, Value.oneCell']
theorem lenAll_kS (xs : List Int) : lenAll 1 (kS xs) = true := by
  induction xs with
  | nil => rfl
  | cons x xs ih => simp only [kS, List.map_cons, lenAll] at ih ⊢; simp [ih]
theorem oneV_kS (xs : List Int) : oneV (kS xs) = true := by
  induction xs with
  | nil => rfl
  | cons x xs ih => simp only [kS, List.map_cons, oneV] at ih ⊢; simp [ih, Value.oneCell']

set_option maxRecDepth 10000 in
theorem NFD_pure (l : List Int) (hl : l.length ≤ 1000) (h32 : I32 l) : Pure Try.prog 25 [rS l none] [21] (rS (nfdP T cls l) (some 0)) := by
  refine pure1W Try.func25 c25 n25 e25 r25 (by simp) ?_
  simp only [a25, astart, argSlots, go_sem, Nat.reduceAdd, Nat.reduceEqDiff, Nat.reduceLT, reduceIte, reduceCtorEq, Nat.reduceBEq, Int.reduceLT, Int.reduceToNat, Int.reducePow, Nat.reduceLeDiff, Int.reduceLE, Nat.reduceMul, Nat.reduceSub]
  by_cases hne : l = []
  · subst hne
    refine callGo_ok (apart_nil ?_)
    simp only [go_sem, Nat.reduceAdd, Nat.reduceEqDiff, Nat.reduceLT, reduceIte, reduceCtorEq, Nat.reduceBEq, Int.reduceLT, Int.reduceToNat, Int.reducePow, Nat.reduceLeDiff, Int.reduceLE, Nat.reduceMul, Nat.reduceSub]
    refine ⟨_, weak_nil 2 21 (by simp only [go_sem, Nat.reduceAdd, Nat.reduceEqDiff, Nat.reduceLT, reduceIte, reduceCtorEq, Nat.reduceBEq, Int.reduceLT, Int.reduceToNat, Int.reducePow, Nat.reduceLeDiff, Int.reduceLE, Nat.reduceMul, Nat.reduceSub]), .inr rfl, 0, by simp only [resAV, resL, resOne, go_sem, Nat.reduceAdd, Nat.reduceEqDiff, Nat.reduceLT, reduceIte, reduceCtorEq, Nat.reduceBEq, Int.reduceLT, Int.reduceToNat, Int.reducePow, Nat.reduceLeDiff, Int.reduceLE, Nat.reduceMul, Nat.reduceSub]; rfl, by simp only [go_sem, Nat.reduceAdd, Nat.reduceEqDiff, Nat.reduceLT, reduceIte, reduceCtorEq, Nat.reduceBEq, Int.reduceLT, Int.reduceToNat, Int.reducePow, Nat.reduceLeDiff, Int.reduceLE, Nat.reduceMul, Nat.reduceSub, beq_self_eq_true]⟩
  · refine callGo_ok (apart_ok l hl h32 hne fun nx' hx => ?_)
    simp only [two2, go_sem, Nat.reduceAdd, Nat.reduceEqDiff, Nat.reduceLT, reduceIte, reduceCtorEq, Nat.reduceBEq, Int.reduceLT, Int.reduceToNat, Int.reducePow, Nat.reduceLeDiff, Int.reduceLE, Nat.reduceMul, Nat.reduceSub]
    have e0 : (nx' = 0) = False := eq_false (by omega)
    refine ⟨_, weak_freeze 2 (els := runes (nfdP T cls l)) (rest := []) (by simp only [go_sem, Nat.reduceAdd, Nat.reduceEqDiff, Nat.reduceLT, reduceIte, reduceCtorEq, Nat.reduceBEq, Int.reduceLT, Int.reduceToNat, Int.reducePow, Nat.reduceLeDiff, Int.reduceLE, Nat.reduceMul, Nat.reduceSub]; rfl) (by simp only [cX_flat, unOb_cX, go_sem, Nat.reduceAdd, Nat.reduceEqDiff, Nat.reduceLT, reduceIte, reduceCtorEq, Nat.reduceBEq, Int.reduceLT, Int.reduceToNat, Int.reducePow, Nat.reduceLeDiff, Int.reduceLE, Nat.reduceMul, Nat.reduceSub]) (runes_length _) (lenAll_runes _) (oneV_runes _), .inr rfl, nx', by simp only [resAV, resL, resOne, go_sem, Nat.reduceAdd, Nat.reduceEqDiff, Nat.reduceLT, reduceIte, reduceCtorEq, Nat.reduceBEq, Int.reduceLT, Int.reduceToNat, Int.reducePow, Nat.reduceLeDiff, Int.reduceLE, Nat.reduceMul, Nat.reduceSub], by simp only [go_sem, Nat.reduceAdd, Nat.reduceEqDiff, Nat.reduceLT, reduceIte, reduceCtorEq, Nat.reduceBEq, Int.reduceLT, Int.reduceToNat, Int.reducePow, Nat.reduceLeDiff, Int.reduceLE, Nat.reduceMul, Nat.reduceSub, beq_self_eq_true]⟩
end Go.Proofs.Ytmhpjoadfgplgaa
