/-
The table, and the document's. Conditions: none.
-/
import Derived.Test.YtbnaepdeakcljaaUcd5
set_option linter.unusedSimpArgs false
set_option linter.unusedVariables false
set_option linter.unusedSectionVars false
namespace Go.Proofs.Ytbnaepdeakcljaa
open Go Go.Ab
def a28 : ACode :=
  (.seq (.reg [⟨(.some 0), (.mv (.k (.slice .none 0 0))), .none⟩]) (.seq (.reg [⟨(.some 1), (.call (.f 42) []), .none⟩, ⟨(.some 2), (.call (.f 43) []), .none⟩, ⟨(.some 3), (.call (.f 44) []), .none⟩,
  ⟨(.some 4), (.call (.f 45) []), .none⟩, ⟨(.some 5), (.call (.f 46) []), .none⟩, ⟨(.some 6), (.xe (.bsn 43) [(.t 1), (.t 2), (.t 3), (.t 4), (.t 5)]), .none⟩, ⟨(.some 7), (.call (.f 41) [(.t 6)]),
  .none⟩, ⟨(.some 0), (.mv (.t 7)), .none⟩]) .ret))
theorem c28 : Try.f28.body.bind (cCode Try.prog 8) = some a28 := by kernel_rfl
theorem r28 : Try.f28.results.toList = [(.tmp 0)] := by kernel_rfl
theorem n28 : Try.f28.ntmps = 8 := by kernel_rfl
theorem e28 : Enters Try.prog 28 := enters_of Try.func28 (by kernel_rfl) (by kernel_rfl)
def a29 : ACode :=
  (.seq (.reg [⟨(.some 0), (.mv (.k (.slice .none 0 0))), .none⟩]) (.seq (.reg [⟨(.some 1), (.mv (.k (.slice .none 0 0))), .none⟩]) (.seq (.reg [⟨(.some 4), (.mv (.t 1)), .none⟩, ⟨(.some 5), (.call (.f
  47) []), .none⟩, ⟨(.some 6), (.app 68 72 (.t 4) (.t 5)), .none⟩, ⟨(.some 1), (.mv (.t 6)), .none⟩]) (.seq (.reg [⟨(.some 7), (.mv (.t 1)), .none⟩, ⟨(.some 8), (.call (.f 48) []), .none⟩, ⟨(.some 9),
  (.app 68 72 (.t 7) (.t 8)), .none⟩, ⟨(.some 1), (.mv (.t 9)), .none⟩]) (.seq (.reg [⟨(.some 10), (.mv (.t 1)), .none⟩, ⟨(.some 11), (.call (.f 49) []), .none⟩, ⟨(.some 12), (.app 68 72 (.t 10) (.t
  11)), .none⟩, ⟨(.some 1), (.mv (.t 12)), .none⟩]) (.seq (.reg [⟨(.some 13), (.mv (.t 1)), .none⟩, ⟨(.some 14), (.call (.f 50) []), .none⟩, ⟨(.some 15), (.app 68 72 (.t 13) (.t 14)), .none⟩, ⟨(.some
  1), (.mv (.t 15)), .none⟩]) (.seq (.reg [⟨(.some 16), (.mv (.t 1)), .none⟩, ⟨(.some 17), (.call (.f 51) []), .none⟩, ⟨(.some 18), (.app 68 72 (.t 16) (.t 17)), .none⟩, ⟨(.some 1), (.mv (.t 18)),
  .none⟩]) (.seq (.reg [⟨(.some 2), (.mv (.k (.slice .none 0 0))), .none⟩]) (.seq (.seq (.reg [⟨(.some 3), (.mv (.k (.int .i64 0))), .none⟩]) (.block 0 (.loop (.seq (.seq (.reg [⟨(.some 19), (.mv (.t
  3)), .none⟩, ⟨(.some 20), (.mv (.t 1)), .none⟩, ⟨(.some 21), (.len (.t 20)), .none⟩, ⟨(.some 22), (.bin .lss (.t 19) (.t 21)), .none⟩]) (.cond (.t 22) .skip (.exit 0))) (.seq (.block 1 (.dreg [⟨(.some
  25), (.mv (.t 2)), .none⟩, ⟨(.some 26), (.mv (.t 1)), .none⟩, ⟨(.some 27), (.mv (.t 3)), .none⟩, ⟨(.some 28), (.ia 68 (.t 26) (.t 27)), .none⟩, ⟨(.some 29), (.iaA 9 1 (.t 28) (.k (.int .i64 0))),
  .none⟩, ⟨(.some 30), (.ld .none (.t 29)), .none⟩, ⟨(.some 31), (.cvI .i32 (.t 30)), .none⟩, ⟨(.some 32), (.mv (.t 1)), .none⟩, ⟨(.some 33), (.mv (.t 3)), .none⟩, ⟨(.some 34), (.ia 68 (.t 32) (.t 33)),
  .none⟩, ⟨(.some 35), (.iaA 9 1 (.t 34) (.k (.int .i64 1))), .none⟩, ⟨(.some 36), (.ld .none (.t 35)), .none⟩, ⟨(.some 37), (.cvI .i32 (.t 36)), .none⟩, ⟨(.some 38), (.mv (.t 1)), .none⟩, ⟨(.some 39),
  (.mv (.t 3)), .none⟩, ⟨(.some 40), (.ia 68 (.t 38) (.t 39)), .none⟩, ⟨(.some 41), (.ld (.some 9) (.t 40)), .none⟩, ⟨(.some 42), (.call (.f 52) [(.t 41)]), .none⟩, ⟨(.some 43), (.bd [(.int .i32 0),
  (.int .i32 0), (.int .u8 0), (.int .u8 0), (.int .u8 0), (.int .u8 0), (.int .u8 0), (.int .u8 0), (.int .u8 0)] [(0, (1, (.t 31))), (1, (1, (.t 37))), (2, (7, (.t 42)))]), .none⟩, ⟨(.some 44), (.bs0
  48 9 [(.t 43)]), .none⟩, ⟨(.some 45), (.app 48 16 (.t 25) (.t 44)), .none⟩, ⟨(.some 2), (.mv (.t 45)), .none⟩])) (.reg [⟨(.some 23), (.mv (.t 3)), .none⟩, ⟨(.some 24), (.bin .add (.t 23) (.k (.int
  .i64 1))), .none⟩, ⟨(.some 3), (.mv (.t 24)), .none⟩])))))) (.seq (.reg [⟨(.some 46), (.mv (.t 2)), .none⟩, ⟨(.some 0), (.mv (.t 46)), .none⟩]) .ret))))))))))
theorem c29 : Try.f29.body.bind (cCode Try.prog 47) = some a29 := by kernel_rfl
theorem r29 : Try.f29.results.toList = [(.tmp 0)] := by kernel_rfl
theorem n29 : Try.f29.ntmps = 47 := by kernel_rfl
theorem e29 : Enters Try.prog 29 := enters_of Try.func29 (by kernel_rfl) (by kernel_rfl)

/-- All rows. -/
def tab : List Row := t1 ++ t2 ++ t3 ++ t4 ++ t5
theorem tab_len : tab.length = 166 := by kernel_rfl
theorem tab_ok : (rising tab && tab.all octets) = true := by kernel_rfl

theorem cells_nine (l : List Row) : lenAll 9 (l.map Row.cells) = true ∧ oneV (l.map Row.cells) = true := by
  induction l with
  | nil => exact ⟨rfl, rfl⟩
  | cons x l ih => simp only [List.map_cons, lenAll, oneV, ih.1, ih.2, Bool.and_true]; exact ⟨rfl, rfl⟩
theorem nums_nine (l : List Row) : lenAll 9 (l.map Row.nums) = true ∧ oneV (l.map Row.nums) = true := by
  induction l with
  | nil => exact ⟨rfl, rfl⟩
  | cons x l ih => simp only [List.map_cons, lenAll, oneV, ih.1, ih.2, Bool.and_true]; exact ⟨rfl, rfl⟩

def fivePs (k1 k2 k3 k4 k5 : Option Nat) : List (List (List Value) × Option Nat) := [(t1.map Row.cells, k1), (t2.map Row.cells, k2), (t3.map Row.cells, k3), (t4.map Row.cells, k4), (t5.map Row.cells, k5)]
theorem five_rows (k1 k2 k3 k4 k5 : Option Nat) : rowsTo (fivePs k1 k2 k3 k4 k5) 5 = tab.map Row.cells := by simp [rowsTo, fivePs, tab]
theorem five_nine (k1 k2 k3 k4 k5 : Option Nat) : ∀ p ∈ fivePs k1 k2 k3 k4 k5, lenAll 9 p.1 = true ∧ oneV p.1 = true := by
  intro p hp
  simp only [fivePs, List.mem_cons, List.not_mem_nil, or_false] at hp
  rcases hp with rfl | rfl | rfl | rfl | rfl <;> exact cells_nine _

set_option maxRecDepth 10000 in
theorem table_pure : Pure Try.prog 28 [] [48] (.sl 48 (tab.map Row.cells) (some 0)) := by
  refine pure1 Try.func28 c28 n28 e28 r28 (by simp) ?_
  simp only [a28, astart, argSlots, go_sem, Nat.reduceAdd, Nat.reduceEqDiff, Nat.reduceLT, reduceIte, reduceCtorEq, Nat.reduceBEq, Int.reduceLT, Int.reduceToNat, Int.reducePow, Nat.reduceLeDiff, Int.reduceLE, Nat.reduceMul, Nat.reduceSub]
  refine callGo_pure part1_pure rfl ?_
  simp only [go_sem, Nat.reduceAdd, Nat.reduceEqDiff, Nat.reduceLT, reduceIte, reduceCtorEq, Nat.reduceBEq, Int.reduceLT, Int.reduceToNat, Int.reducePow, Nat.reduceLeDiff, Int.reduceLE, Nat.reduceMul, Nat.reduceSub]
  refine callGo_pure part2_pure rfl ?_
  simp only [go_sem, Nat.reduceAdd, Nat.reduceEqDiff, Nat.reduceLT, reduceIte, reduceCtorEq, Nat.reduceBEq, Int.reduceLT, Int.reduceToNat, Int.reducePow, Nat.reduceLeDiff, Int.reduceLE, Nat.reduceMul, Nat.reduceSub]
  refine callGo_pure part3_pure rfl ?_
  simp only [go_sem, Nat.reduceAdd, Nat.reduceEqDiff, Nat.reduceLT, reduceIte, reduceCtorEq, Nat.reduceBEq, Int.reduceLT, Int.reduceToNat, Int.reducePow, Nat.reduceLeDiff, Int.reduceLE, Nat.reduceMul, Nat.reduceSub]
  refine callGo_pure part4_pure rfl ?_
  simp only [go_sem, Nat.reduceAdd, Nat.reduceEqDiff, Nat.reduceLT, reduceIte, reduceCtorEq, Nat.reduceBEq, Int.reduceLT, Int.reduceToNat, Int.reducePow, Nat.reduceLeDiff, Int.reduceLE, Nat.reduceMul, Nat.reduceSub]
  refine callGo_pure part5_pure rfl ?_
  simp only [go_sem, Nat.reduceAdd, Nat.reduceEqDiff, Nat.reduceLT, reduceIte, reduceCtorEq, Nat.reduceBEq, Int.reduceLT, Int.reduceToNat, Int.reducePow, Nat.reduceLeDiff, Int.reduceLE, Nat.reduceMul, Nat.reduceSub, AV.one, tb1_eq, tb2_eq, tb3_eq, tb4_eq, tb5_eq]
  have hc := concat_pure (fivePs none none none none none) (by decide) (by show 0 < (rowsTo _ 5).length; rw [five_rows, List.length_map, tab_len]; omega) (by show (rowsTo _ 5).length ≤ _; rw [five_rows, List.length_map, tab_len]; omega) (five_nine _ _ _ _ _)
  have e5 : (fivePs none none none none none).length = 5 := rfl
  rw [e5, five_rows] at hc
  refine callGo_pure hc (by rfl) ?_
  simp only [go_sem, Nat.reduceAdd, Nat.reduceEqDiff, Nat.reduceLT, reduceIte, reduceCtorEq, Nat.reduceBEq, Int.reduceLT, Int.reduceToNat, Int.reducePow, Nat.reduceLeDiff, Int.reduceLE, Nat.reduceMul, Nat.reduceSub]
  exact ⟨.inr rfl, 5, by simp only [resAV, resL, resOne, go_sem, Nat.reduceAdd, Nat.reduceEqDiff, Nat.reduceLT, reduceIte, reduceCtorEq, Nat.reduceBEq, Int.reduceLT, Int.reduceToNat, Int.reducePow, Nat.reduceLeDiff, Int.reduceLE, Nat.reduceMul, Nat.reduceSub], by simp [go_sem, Nat.reduceAdd, Nat.reduceEqDiff, Nat.reduceLT, reduceIte, reduceCtorEq, Nat.reduceBEq, Int.reduceLT, Int.reduceToNat, Int.reducePow, Nat.reduceLeDiff, Int.reduceLE, Nat.reduceMul, Nat.reduceSub]⟩

theorem tab_octets {x : Row} (h : x ∈ tab) : octets x = true := by
  have h0 := tab_ok
  simp only [Bool.and_eq_true] at h0
  exact List.all_eq_true.1 h0.2 x h
theorem tab_range {x : Row} (h : x ∈ tab) : (0 ≤ x.fr ∧ x.fr ≤ 1114111) ∧ 0 ≤ x.to ∧ x.to ≤ 1114111 := by
  have h0 : tab.all (fun x => (decide (0 ≤ x.fr) && decide (x.fr ≤ 1114111)) && (decide (0 ≤ x.to) && decide (x.to ≤ 1114111))) = true := by kernel_rfl
  have := List.all_eq_true.1 h0 x h
  simpa [and_assoc] using this
def rowsN : List (List Value) := tab.map Row.nums

set_option maxRecDepth 10000 in
theorem refTable_pure : Pure Try.prog 29 [] [48] (.sl 48 (tab.map Row.cells) (some 0)) := by
  refine pure1 Try.func29 c29 n29 e29 r29 (by simp) ?_
  simp only [a29, astart, argSlots, go_sem, Nat.reduceAdd, Nat.reduceEqDiff, Nat.reduceLT, reduceIte, reduceCtorEq, Nat.reduceBEq, Int.reduceLT, Int.reduceToNat, Int.reducePow, Nat.reduceLeDiff, Int.reduceLE, Nat.reduceMul, Nat.reduceSub]
  refine callGo_pure rows1_pure rfl ?_
  simp only [go_sem, Nat.reduceAdd, Nat.reduceEqDiff, Nat.reduceLT, reduceIte, reduceCtorEq, Nat.reduceBEq, Int.reduceLT, Int.reduceToNat, Int.reducePow, Nat.reduceLeDiff, Int.reduceLE, Nat.reduceMul, Nat.reduceSub]
  refine ⟨by simp [rf1_eq, len1], callGo_pure rows2_pure rfl ?_⟩
  simp only [go_sem, Nat.reduceAdd, Nat.reduceEqDiff, Nat.reduceLT, reduceIte, reduceCtorEq, Nat.reduceBEq, Int.reduceLT, Int.reduceToNat, Int.reducePow, Nat.reduceLeDiff, Int.reduceLE, Nat.reduceMul, Nat.reduceSub]
  refine ⟨by simp [rf1_eq, rf2_eq, len1, len2], callGo_pure rows3_pure rfl ?_⟩
  simp only [go_sem, Nat.reduceAdd, Nat.reduceEqDiff, Nat.reduceLT, reduceIte, reduceCtorEq, Nat.reduceBEq, Int.reduceLT, Int.reduceToNat, Int.reducePow, Nat.reduceLeDiff, Int.reduceLE, Nat.reduceMul, Nat.reduceSub]
  refine ⟨by simp [rf1_eq, rf2_eq, rf3_eq, len1, len2, len3], callGo_pure rows4_pure rfl ?_⟩
  simp only [go_sem, Nat.reduceAdd, Nat.reduceEqDiff, Nat.reduceLT, reduceIte, reduceCtorEq, Nat.reduceBEq, Int.reduceLT, Int.reduceToNat, Int.reducePow, Nat.reduceLeDiff, Int.reduceLE, Nat.reduceMul, Nat.reduceSub]
  refine ⟨by simp [rf1_eq, rf2_eq, rf3_eq, rf4_eq, len1, len2, len3, len4], callGo_pure rows5_pure rfl ?_⟩
  simp only [go_sem, Nat.reduceAdd, Nat.reduceEqDiff, Nat.reduceLT, reduceIte, reduceCtorEq, Nat.reduceBEq, Int.reduceLT, Int.reduceToNat, Int.reducePow, Nat.reduceLeDiff, Int.reduceLE, Nat.reduceMul, Nat.reduceSub]
  have he : rf1 ++ rf2 ++ rf3 ++ rf4 ++ rf5 = rowsN := by simp [rf1_eq, rf2_eq, rf3_eq, rf4_eq, rf5_eq, rowsN, tab]
  have hl : rowsN.length = 166 := by simp [rowsN, tab_len]
  simp only [he]
  refine ⟨by have : (rf1 ++ rf2 ++ rf3 ++ rf4).length + rf5.length = 166 := by rw [← List.length_append, he, hl]
             omega, ?_⟩
  refine loop_to 166 (fun i => ⟨[(1, some (.sl 68 rowsN none)), (2, some (.sl 48 ((tab.take i).map Row.cells) (some 0))), (3, some (.lit (.int .i64 i)))], [], [(0, 48)], 1⟩) (fun i => i ≤ 166)
    ((weak_nil 2 48 (by simp only [go_sem, Nat.reduceAdd, Nat.reduceEqDiff, Nat.reduceLT, reduceIte, reduceCtorEq, Nat.reduceBEq, Int.reduceLT, Int.reduceToNat, Int.reducePow, Nat.reduceLeDiff, Int.reduceLE, Nat.reduceMul, Nat.reduceSub])).trans ((weak_untip 1 (by simp only [go_sem, Nat.reduceAdd, Nat.reduceEqDiff, Nat.reduceLT, reduceIte, reduceCtorEq, Nat.reduceBEq, Int.reduceLT, Int.reduceToNat, Int.reducePow, Nat.reduceLeDiff, Int.reduceLE, Nat.reduceMul, Nat.reduceSub]; rfl)).trans (weak_by [10] (by simp) rfl ?_ ?_ ?_ ?_))) (Nat.zero_le _) ?_ ?_
  · simp only [go_sem, Nat.reduceAdd, Nat.reduceEqDiff, Nat.reduceLT, reduceIte, reduceCtorEq, Nat.reduceBEq, Int.reduceLT, Int.reduceToNat, Int.reducePow, Nat.reduceLeDiff, Int.reduceLE, Nat.reduceMul, Nat.reduceSub, slotsBy, boxesBy, tipsBy, rawAt, nm, AV.ren, AV.renL, AV.under, AV.underL, List.all_nil, List.all_cons, bne_self_eq_false, List.getD_cons_zero, List.getD_cons_succ, List.length_nil, List.length_cons, and_true, true_and, Int.natCast_zero]
  · trivial
  · simp only [go_sem, Nat.reduceAdd, Nat.reduceEqDiff, Nat.reduceLT, reduceIte, reduceCtorEq, Nat.reduceBEq, Int.reduceLT, Int.reduceToNat, Int.reducePow, Nat.reduceLeDiff, Int.reduceLE, Nat.reduceMul, Nat.reduceSub, slotsBy, boxesBy, tipsBy, rawAt, nm, AV.ren, AV.renL, AV.under, AV.underL, List.all_nil, List.all_cons, bne_self_eq_false, List.getD_cons_zero, List.getD_cons_succ, List.length_nil, List.length_cons, and_true, true_and, beq_self_eq_true]
  · simp
  · intro i hi _
    have hlt : i < tab.length := by rw [tab_len]; exact hi
    have hx := List.getElem?_eq_getElem hlt
    have hm := List.getElem_mem hlt
    have hr := tab_range hm
    have ho := tab_octets hm
    have htk : tab.take (i + 1) = tab.take i ++ [tab[i]] := List.take_succ_eq_append_getElem hlt
    have hg : rowsN[i]? = some (tab[i]).nums := by simp [rowsN, hx]
    have hlen : ((tab.take i).map Row.cells).length = i := by simp [tab_len]; omega
    generalize tab[i] = x at hx hm hr ho htk hg
    have hd : decide ((i : Int) < ((166 : Nat) : Int)) = true := by simp; omega
    have hw2 : IntKind.i64.wrap ((i : Int) + 1) = ((i + 1 : Nat) : Int) := by rw [wrap_i64 _ (by omega) (by omega)]; omega
    simp only [hl, hd, go_sem, Nat.reduceAdd, Nat.reduceEqDiff, Nat.reduceLT, reduceIte, reduceCtorEq, Nat.reduceBEq, Int.reduceLT, Int.reduceToNat, Int.reducePow, Nat.reduceLeDiff, Int.reduceLE, Nat.reduceMul, Nat.reduceSub, Int.natCast_nonneg, Int.toNat_natCast, hg, Row.nums, wrap_i32 _ (show -2147483648 ≤ x.fr by omega) (show x.fr ≤ 2147483647 by omega), wrap_i32 _ (show -2147483648 ≤ x.to by omega) (show x.to ≤ 2147483647 by omega)]
    refine dcallGo_pure (prop_pure ho) (by rfl) rfl ?_
    simp only [go_sem, Nat.reduceAdd, Nat.reduceEqDiff, Nat.reduceLT, reduceIte, reduceCtorEq, Nat.reduceBEq, Int.reduceLT, Int.reduceToNat, Int.reducePow, Nat.reduceLeDiff, Int.reduceLE, Nat.reduceMul, Nat.reduceSub, Row.prop, hlen, hw2, Value.oneCell']
    refine ⟨by omega, weak_by [1] (by simp) rfl ?_ ?_ ?_ ?_, by omega⟩
    · simp only [go_sem, Nat.reduceAdd, Nat.reduceEqDiff, Nat.reduceLT, reduceIte, reduceCtorEq, Nat.reduceBEq, Int.reduceLT, Int.reduceToNat, Int.reducePow, Nat.reduceLeDiff, Int.reduceLE, Nat.reduceMul, Nat.reduceSub, slotsBy, boxesBy, tipsBy, rawAt, nm, AV.ren, AV.renL, AV.under, AV.underL, List.all_nil, List.all_cons, bne_self_eq_false, List.getD_cons_zero, List.getD_cons_succ, List.length_nil, List.length_cons, and_true, true_and, htk, List.map_append, Row.cells, Row.prop]
    · trivial
    · simp only [go_sem, Nat.reduceAdd, Nat.reduceEqDiff, Nat.reduceLT, reduceIte, reduceCtorEq, Nat.reduceBEq, Int.reduceLT, Int.reduceToNat, Int.reducePow, Nat.reduceLeDiff, Int.reduceLE, Nat.reduceMul, Nat.reduceSub, slotsBy, boxesBy, tipsBy, rawAt, nm, AV.ren, AV.renL, AV.under, AV.underL, List.all_nil, List.all_cons, bne_self_eq_false, List.getD_cons_zero, List.getD_cons_succ, List.length_nil, List.length_cons, and_true, true_and, beq_self_eq_true]
    · simp
  · intro _
    simp only [hl, Int.lt_irrefl, go_sem, Nat.reduceAdd, Nat.reduceEqDiff, Nat.reduceLT, reduceIte, reduceCtorEq, Nat.reduceBEq, Int.reduceLT, Int.reduceToNat, Int.reducePow, Nat.reduceLeDiff, Int.reduceLE, Nat.reduceMul, Nat.reduceSub]
    refine ⟨.inr rfl, 0, ?_, by simp [go_sem, Nat.reduceAdd, Nat.reduceEqDiff, Nat.reduceLT, reduceIte, reduceCtorEq, Nat.reduceBEq, Int.reduceLT, Int.reduceToNat, Int.reducePow, Nat.reduceLeDiff, Int.reduceLE, Nat.reduceMul, Nat.reduceSub]⟩
    rw [List.take_of_length_le (by rw [tab_len]; omega)]
    simp only [resAV, resL, resOne, go_sem, Nat.reduceAdd, Nat.reduceEqDiff, Nat.reduceLT, reduceIte, reduceCtorEq, Nat.reduceBEq, Int.reduceLT, Int.reduceToNat, Int.reducePow, Nat.reduceLeDiff, Int.reduceLE, Nat.reduceMul, Nat.reduceSub]
end Go.Proofs.Ytbnaepdeakcljaa
