/-
The table, and the document's. Conditions: none.
-/
import Derived.Test.YtocaeclhmkojiaaUcd5
set_option linter.unusedSimpArgs false
set_option linter.unusedVariables false
set_option linter.unusedSectionVars false
namespace Go.Proofs.Ytocaeclhmkojiaa
open Go Go.Ab
def a43 : ACode :=
  (.seq (.reg [⟨(.some 0), (.mv (.k (.slice .none 0 0))), .none⟩]) (.seq (.reg [⟨(.some 1), (.call (.f 76) []), .none⟩, ⟨(.some 2), (.call (.f 77) []), .none⟩, ⟨(.some 3), (.call (.f 78) []), .none⟩,
  ⟨(.some 4), (.call (.f 79) []), .none⟩, ⟨(.some 5), (.call (.f 80) []), .none⟩, ⟨(.some 6), (.xe (.bsn 46) [(.t 1), (.t 2), (.t 3), (.t 4), (.t 5)]), .none⟩, ⟨(.some 7), (.call (.f 75) [(.t 6)]),
  .none⟩, ⟨(.some 0), (.mv (.t 7)), .none⟩]) .ret))
theorem c43 : Try.f43.body.bind (cCode Try.prog 8) = some a43 := by kernel_rfl
theorem r43 : Try.f43.results.toList = [(.tmp 0)] := by kernel_rfl
theorem n43 : Try.f43.ntmps = 8 := by kernel_rfl
theorem e43 : Enters Try.prog 43 := enters_of Try.func43 (by kernel_rfl) (by kernel_rfl)

/-- All rows. -/
def tab : List Row := t1 ++ t2 ++ t3 ++ t4 ++ t5
theorem tab_len : tab.length = 166 := by kernel_rfl
theorem tab_ok : (rising tab && tab.all octets) = true := by kernel_rfl

theorem cells_nine (l : List Row) : lenAll 9 (l.map Row.cells) = true ∧ oneV (l.map Row.cells) = true := by
  induction l with
  | nil => exact ⟨rfl, rfl⟩
  | cons x l ih => simp only [List.map_cons, lenAll, oneV, ih.1, ih.2, Bool.and_true]; exact ⟨rfl, rfl⟩
theorem nums_nine (l : List Row) : lenAll 9 (l.map Row.nums) = true ∧ oneV (l.map Row.nums) = true := by
  induction l with
  | nil => exact ⟨rfl, rfl⟩
  | cons x l ih => simp only [List.map_cons, lenAll, oneV, ih.1, ih.2, Bool.and_true]; exact ⟨rfl, rfl⟩

def fivePs (k1 k2 k3 k4 k5 : Option Nat) : List (List (List Value) × Option Nat) := [(t1.map Row.cells, k1), (t2.map Row.cells, k2), (t3.map Row.cells, k3), (t4.map Row.cells, k4), (t5.map Row.cells, k5)]
theorem five_rows (k1 k2 k3 k4 k5 : Option Nat) : rowsTo (fivePs k1 k2 k3 k4 k5) 5 = tab.map Row.cells := by simp [rowsTo, fivePs, tab]
theorem five_nine (k1 k2 k3 k4 k5 : Option Nat) : ∀ p ∈ fivePs k1 k2 k3 k4 k5, lenAll 9 p.1 = true ∧ oneV p.1 = true := by
  intro p hp
  simp only [fivePs, List.mem_cons, List.not_mem_nil, or_false] at hp
  rcases hp with rfl | rfl | rfl | rfl | rfl <;> exact cells_nine _

set_option maxRecDepth 10000 in
theorem table_pure : Pure Try.prog 43 [] [49] (.sl 49 (tab.map Row.cells) (some 0)) := by
  refine pure1 Try.func43 c43 n43 e43 r43 (by simp) ?_
  simp only [a43, astart, argSlots, go_sem, Nat.reduceAdd, Nat.reduceEqDiff, Nat.reduceLT, reduceIte, reduceCtorEq, Nat.reduceBEq, Int.reduceLT, Int.reduceToNat, Int.reducePow, Nat.reduceLeDiff, Int.reduceLE, Nat.reduceMul, Nat.reduceSub]
  refine callGo_pure part1_pure rfl ?_
  simp only [go_sem, Nat.reduceAdd, Nat.reduceEqDiff, Nat.reduceLT, reduceIte, reduceCtorEq, Nat.reduceBEq, Int.reduceLT, Int.reduceToNat, Int.reducePow, Nat.reduceLeDiff, Int.reduceLE, Nat.reduceMul, Nat.reduceSub]
  refine callGo_pure part2_pure rfl ?_
  simp only [go_sem, Nat.reduceAdd, Nat.reduceEqDiff, Nat.reduceLT, reduceIte, reduceCtorEq, Nat.reduceBEq, Int.reduceLT, Int.reduceToNat, Int.reducePow, Nat.reduceLeDiff, Int.reduceLE, Nat.reduceMul, Nat.reduceSub]
  refine callGo_pure part3_pure rfl ?_
  simp only [go_sem, Nat.reduceAdd, Nat.reduceEqDiff, Nat.reduceLT, reduceIte, reduceCtorEq, Nat.reduceBEq, Int.reduceLT, Int.reduceToNat, Int.reducePow, Nat.reduceLeDiff, Int.reduceLE, Nat.reduceMul, Nat.reduceSub]
  refine callGo_pure part4_pure rfl ?_
  simp only [go_sem, Nat.reduceAdd, Nat.reduceEqDiff, Nat.reduceLT, reduceIte, reduceCtorEq, Nat.reduceBEq, Int.reduceLT, Int.reduceToNat, Int.reducePow, Nat.reduceLeDiff, Int.reduceLE, Nat.reduceMul, Nat.reduceSub]
  refine callGo_pure part5_pure rfl ?_
  simp only [go_sem, Nat.reduceAdd, Nat.reduceEqDiff, Nat.reduceLT, reduceIte, reduceCtorEq, Nat.reduceBEq, Int.reduceLT, Int.reduceToNat, Int.reducePow, Nat.reduceLeDiff, Int.reduceLE, Nat.reduceMul, Nat.reduceSub, AV.one, tb1_eq, tb2_eq, tb3_eq, tb4_eq, tb5_eq]
  have hc := concat_pure (fivePs none none none none none) (by decide) (by show 0 < (rowsTo _ 5).length; rw [five_rows, List.length_map, tab_len]; omega) (by show (rowsTo _ 5).length ≤ _; rw [five_rows, List.length_map, tab_len]; omega) (five_nine _ _ _ _ _)
  have e5 : (fivePs none none none none none).length = 5 := rfl
  rw [e5, five_rows] at hc
  refine callGo_pure hc (by rfl) ?_
  simp only [go_sem, Nat.reduceAdd, Nat.reduceEqDiff, Nat.reduceLT, reduceIte, reduceCtorEq, Nat.reduceBEq, Int.reduceLT, Int.reduceToNat, Int.reducePow, Nat.reduceLeDiff, Int.reduceLE, Nat.reduceMul, Nat.reduceSub]
  exact ⟨.inr rfl, 5, by simp only [resAV, resL, resOne, go_sem, Nat.reduceAdd, Nat.reduceEqDiff, Nat.reduceLT, reduceIte, reduceCtorEq, Nat.reduceBEq, Int.reduceLT, Int.reduceToNat, Int.reducePow, Nat.reduceLeDiff, Int.reduceLE, Nat.reduceMul, Nat.reduceSub], by simp [go_sem, Nat.reduceAdd, Nat.reduceEqDiff, Nat.reduceLT, reduceIte, reduceCtorEq, Nat.reduceBEq, Int.reduceLT, Int.reduceToNat, Int.reducePow, Nat.reduceLeDiff, Int.reduceLE, Nat.reduceMul, Nat.reduceSub]⟩

theorem tab_octets {x : Row} (h : x ∈ tab) : octets x = true := by
  have h0 := tab_ok
  simp only [Bool.and_eq_true] at h0
  exact List.all_eq_true.1 h0.2 x h
theorem tab_range {x : Row} (h : x ∈ tab) : (0 ≤ x.fr ∧ x.fr ≤ 1114111) ∧ 0 ≤ x.to ∧ x.to ≤ 1114111 := by
  have h0 : tab.all (fun x => (decide (0 ≤ x.fr) && decide (x.fr ≤ 1114111)) && (decide (0 ≤ x.to) && decide (x.to ≤ 1114111))) = true := by kernel_rfl
  have := List.all_eq_true.1 h0 x h
  simpa [and_assoc] using this
def rowsN : List (List Value) := tab.map Row.nums

end Go.Proofs.Ytocaeclhmkojiaa
