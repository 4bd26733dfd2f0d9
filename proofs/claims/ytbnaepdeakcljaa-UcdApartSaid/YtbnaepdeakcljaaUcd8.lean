/-
The statement UcdTells. Conditions: none.
-/
import Derived.Test.YtbnaepdeakcljaaUcd7
import Derived.Test.YtbnaepdeakcljaaRows
set_option linter.unusedSimpArgs false
set_option linter.unusedVariables false
set_option linter.unusedSectionVars false
namespace Go.Proofs.Ytbnaepdeakcljaa
open Go Go.Ab Go.ChangeShapes Go.WideShapes Go.ChangeAt Go.RowKit
def a9 : ACode :=
  (.seq (.reg [⟨(.some 4), (.mv (.k (.bool false))), .none⟩]) (.seq (.reg [⟨(.some 16), (.call (.f 28) []), .none⟩, ⟨(.some 17), (.call (.f 29) []), .none⟩, ⟨(.some 5), (.mv (.t 16)), .none⟩, ⟨(.some
  6), (.mv (.t 17)), .none⟩]) (.seq (.seq (.reg [⟨(.some 18), (.mv (.t 5)), .none⟩, ⟨(.some 19), (.len (.t 18)), .none⟩, ⟨(.some 20), (.mv (.t 6)), .none⟩, ⟨(.some 21), (.len (.t 20)), .none⟩, ⟨(.some
  22), (.bin .neq (.t 19) (.t 21)), .none⟩]) (.cond (.t 22) (.seq (.reg [⟨(.some 4), (.mv (.k (.bool false))), .none⟩]) .ret) .skip)) (.seq (.seq (.reg [⟨(.some 23), (.mv (.t 5)), .none⟩, ⟨(.some 24),
  (.len (.t 23)), .none⟩, ⟨(.some 25), (.mv (.k (.int .i64 0))), .none⟩]) (.block 0 (.loop (.seq (.reg [⟨(.some 26), (.bin .lss (.t 25) (.t 24)), .none⟩]) (.seq (.cond (.t 26) .skip (.exit 0)) (.seq
  (.block 1 (.seq (.reg [⟨(.some 27), (.mv (.t 25)), .none⟩, ⟨(.some 7), (.mv (.t 27)), .none⟩]) (.seq (.dreg [⟨(.some 28), (.mv (.t 5)), .none⟩, ⟨(.some 29), (.mv (.t 7)), .none⟩, ⟨(.some 30), (.ia 48
  (.t 28) (.t 29)), .none⟩, ⟨(.some 31), (.ld (.some 9) (.t 30)), .none⟩, ⟨(.some 32), (.mv (.t 6)), .none⟩, ⟨(.some 33), (.mv (.t 7)), .none⟩, ⟨(.some 34), (.ia 48 (.t 32) (.t 33)), .none⟩, ⟨(.some
  35), (.ld (.some 9) (.t 34)), .none⟩, ⟨(.some 36), (.eqg true [.int, .int, .int, .int, .int, .int, .int, .int, .int] (.t 31) (.t 35)), .none⟩]) (.cond (.t 36) (.seq (.reg [⟨(.some 4), (.mv (.k (.bool
  false))), .none⟩]) .ret) .skip)))) (.reg [⟨(.some 37), (.bin .add (.t 25) (.k (.int .i64 1))), .none⟩, ⟨(.some 25), (.mv (.t 37)), .none⟩]))))))) (.seq (.reg [⟨(.some 38), (.mv (.t 6)), .none⟩,
  ⟨(.some 39), (.mv (.t 1)), .none⟩, ⟨(.some 40), (.cvI .i64 (.t 39)), .none⟩, ⟨(.some 41), (.mv (.t 6)), .none⟩, ⟨(.some 42), (.len (.t 41)), .none⟩, ⟨(.some 43), (.bin .rem (.t 40) (.t 42)), .none⟩,
  ⟨(.some 44), (.ia 48 (.t 38) (.t 43)), .none⟩, ⟨(.some 45), (.ld (.some 9) (.t 44)), .none⟩, ⟨(.some 8), (.alc 48 [(.int .i32 0), (.int .i32 0), (.int .u8 0), (.int .u8 0), (.int .u8 0), (.int .u8 0),
  (.int .u8 0), (.int .u8 0), (.int .u8 0)]), .none⟩, ⟨.none, (.st 9 (.t 8) (.t 45)), .none⟩]) (.seq (.seq (.reg [⟨(.some 46), (.mv (.t 0)), .none⟩, ⟨(.some 47), (.fa 0 (.t 8)), .none⟩, ⟨(.some 48),
  (.ld .none (.t 47)), .none⟩, ⟨(.some 49), (.bin .sub (.t 48) (.k (.int .i32 1))), .none⟩, ⟨(.some 50), (.fa 0 (.t 8)), .none⟩, ⟨(.some 51), (.ld .none (.t 50)), .none⟩, ⟨(.some 52), (.fa 1 (.t 8)),
  .none⟩, ⟨(.some 53), (.ld .none (.t 52)), .none⟩, ⟨(.some 54), (.fa 1 (.t 8)), .none⟩, ⟨(.some 55), (.ld .none (.t 54)), .none⟩, ⟨(.some 56), (.bin .add (.t 55) (.k (.int .i32 1))), .none⟩, ⟨(.some
  57), (.bs 21 1 [(.t 46), (.t 49), (.t 51), (.t 53), (.t 56)]), .none⟩, ⟨(.some 58), (.len (.t 57)), .none⟩, ⟨(.some 59), (.mv (.k (.int .i64 0))), .none⟩]) (.block 2 (.loop (.seq (.reg [⟨(.some 60),
  (.bin .lss (.t 59) (.t 58)), .none⟩]) (.seq (.cond (.t 60) .skip (.exit 2)) (.seq (.block 3 (.seq (.reg [⟨(.some 61), (.ia 21 (.t 57) (.t 59)), .none⟩, ⟨(.some 62), (.ld .none (.t 61)), .none⟩,
  ⟨(.some 10), (.mv (.t 62)), .none⟩]) (.seq (.reg [⟨(.some 63), (.mv (.t 10)), .none⟩, ⟨(.some 64), (.call (.f 30) [(.t 63)]), .none⟩, ⟨(.some 65), (.mv (.t 10)), .none⟩, ⟨(.some 66), (.call (.f 31)
  [(.t 65)]), .none⟩, ⟨(.some 67), (.eqg true [.int, .int, .int, .int, .int, .int, .int] (.t 64) (.t 66)), .none⟩]) (.cond (.t 67) (.seq (.reg [⟨(.some 4), (.mv (.k (.bool false))), .none⟩]) .ret)
  .skip)))) (.reg [⟨(.some 68), (.bin .add (.t 59) (.k (.int .i64 1))), .none⟩, ⟨(.some 59), (.mv (.t 68)), .none⟩]))))))) (.seq (.reg [⟨(.some 70), (.mv (.t 0)), .none⟩, ⟨(.some 71), (.call (.f 32)
  [(.t 70)]), .none⟩, ⟨(.some 69), (.mv (.t 71)), .none⟩, ⟨(.some 72), (.ext (.t 69) 0), .none⟩, ⟨(.some 73), (.ext (.t 69) 1), .none⟩, ⟨(.some 74), (.ext (.t 69) 2), .none⟩, ⟨(.some 11), (.mv (.t 72)),
  .none⟩, ⟨(.some 12), (.mv (.t 73)), .none⟩, ⟨(.some 13), (.mv (.t 74)), .none⟩]) (.seq (.reg [⟨(.some 76), (.mv (.t 0)), .none⟩, ⟨(.some 77), (.call (.f 33) [(.t 76)]), .none⟩, ⟨(.some 75), (.mv (.t
  77)), .none⟩, ⟨(.some 78), (.ext (.t 75) 0), .none⟩, ⟨(.some 79), (.ext (.t 75) 1), .none⟩, ⟨(.some 14), (.mv (.t 78)), .none⟩, ⟨(.some 15), (.mv (.t 79)), .none⟩]) (.seq (.reg [⟨(.some 80), (.mv (.t
  11)), .none⟩, ⟨(.some 81), (.mv (.t 14)), .none⟩, ⟨(.some 82), (.bin .eql (.t 80) (.t 81)), .none⟩, ⟨(.some 83), (.mv (.t 82)), .none⟩, ⟨(.some 84), (.mv (.t 12)), (.some (83, true))⟩, ⟨(.some 85),
  (.mv (.t 15)), (.some (83, true))⟩, ⟨(.some 86), (.eqB false (.t 84) (.t 85)), (.some (83, true))⟩, ⟨(.some 87), (.pick (.t 83) (.t 86) (.k (.bool false))), .none⟩, ⟨(.some 88), (.mv (.t 87)), .none⟩,
  ⟨(.some 89), (.mv (.t 13)), (.some (88, true))⟩, ⟨(.some 90), (.mv (.t 14)), (.some (88, true))⟩, ⟨(.some 91), (.bin .neq (.t 90) (.k (.int .i32 0))), (.some (88, true))⟩, ⟨(.some 92), (.eqB false (.t
  89) (.t 91)), (.some (88, true))⟩, ⟨(.some 93), (.pick (.t 88) (.t 92) (.k (.bool false))), .none⟩, ⟨(.some 94), (.mv (.t 93)), .none⟩, ⟨(.some 95), (.call (.f 34) []), (.some (94, true))⟩, ⟨(.some
  96), (.pick (.t 94) (.t 95) (.k (.bool false))), .none⟩, ⟨(.some 4), (.mv (.t 96)), .none⟩]) .ret)))))))))
theorem c9 : Try.f9.body.bind (cCode Try.prog 97) = some a9 := by kernel_rfl
theorem r9 : Try.f9.results.toList = [(.tmp 4)] := by kernel_rfl
theorem n9 : Try.f9.ntmps = 97 := by kernel_rfl
theorem e9 : Enters Try.prog 9 := enters_of Try.func9 (by kernel_rfl) (by kernel_rfl)

theorem tmod_166 {n : Int} (h : 0 ≤ n) : ∃ k : Nat, k < 166 ∧ n.tmod 166 = (k : Int) := ⟨(n.tmod 166).toNat, by rw [Int.tmod_eq_emod_of_nonneg h]; omega, by rw [Int.tmod_eq_emod_of_nonneg h]; omega⟩
theorem tab_get {k : Nat} (h : k < 166) : ∃ x : Row, tab[k]? = some x ∧ x ∈ tab ∧ (tab.map Row.cells)[k]? = some x.cells := by
  have hlt : k < tab.length := by rw [tab_len]; exact h
  exact ⟨tab[k], List.getElem?_eq_getElem hlt, List.getElem_mem hlt, by rw [List.getElem?_map, List.getElem?_eq_getElem hlt]; rfl⟩
theorem e166 : ((166 : Nat) : Int) = 166 := rfl
theorem ne166 : ((166 : Int) = 0) = False := by simp
theorem tabC_len : (tab.map Row.cells).length = 166 := by rw [List.length_map, tab_len]

theorem brkF_is (r : Int) : ∀ l : List (Int × Int), (∀ p ∈ l, p.1 ≠ 0 ∧ p.2 ≠ 0) → (brkF l r).2.2 = ((brkF l r).1 != 0)
  | [], _ => rfl
  | (a, b) :: l, h => by
    have h1 := h (a, b) (List.mem_cons_self ..)
    simp only [brkF]
    split
    · simp [h1.2]
    · split
      · simp [h1.1]
      · exact brkF_is r l fun p hp => h p (List.mem_cons_of_mem _ hp)
theorem brk_is (r : Int) : (brk r).2.2 = ((brk r).1 != 0) := brkF_is r pairsL (by decide)

set_option maxRecDepth 10000 in
theorem ucdTells_pure (r : Int) (hr : -2147483648 ≤ r ∧ r ≤ 2147483647) (n : Int) (hn : 0 ≤ n ∧ n ≤ 255) : Pure Try.prog 9 [.lit (.int .i32 r), .lit (.int .u8 n)] [] (.lit (.bool true)) := by
  refine pure0 Try.func9 c9 n9 e9 r9 (by simp) rfl ?_
  simp only [a9, astart, argSlots, go_sem, Nat.reduceAdd, Nat.reduceEqDiff, Nat.reduceLT, reduceIte, reduceCtorEq, Nat.reduceBEq, Int.reduceLT, Int.reduceToNat, Int.reducePow, Nat.reduceLeDiff, Int.reduceLE, Nat.reduceMul, Nat.reduceSub]
  refine callGo_pure table_pure rfl ?_
  simp only [go_sem, Nat.reduceAdd, Nat.reduceEqDiff, Nat.reduceLT, reduceIte, reduceCtorEq, Nat.reduceBEq, Int.reduceLT, Int.reduceToNat, Int.reducePow, Nat.reduceLeDiff, Int.reduceLE, Nat.reduceMul, Nat.reduceSub]
  refine callGo_pure refTable_pure rfl ?_
  have b0 : (((166 : Nat) : Int) != ((166 : Nat) : Int)) = false := rfl
  simp only [go_sem, Nat.reduceAdd, Nat.reduceEqDiff, Nat.reduceLT, reduceIte, reduceCtorEq, Nat.reduceBEq, Int.reduceLT, Int.reduceToNat, Int.reducePow, Nat.reduceLeDiff, Int.reduceLE, Nat.reduceMul, Nat.reduceSub, tabC_len, b0]
  refine loop_to 166 (fun i => ⟨[(0, some (.lit (.int .i32 r))), (1, some (.lit (.int .u8 n))), (5, some (.sl 48 (tab.map Row.cells) none)), (6, some (.sl 48 (tab.map Row.cells) none)), (24, some (.lit (.int .i64 166))), (25, some (.lit (.int .i64 i)))], [], [], 0⟩) (fun i => i ≤ 166)
    ((weak_untip 5 (by simp only [go_sem, Nat.reduceAdd, Nat.reduceEqDiff, Nat.reduceLT, reduceIte, reduceCtorEq, Nat.reduceBEq, Int.reduceLT, Int.reduceToNat, Int.reducePow, Nat.reduceLeDiff, Int.reduceLE, Nat.reduceMul, Nat.reduceSub]; rfl)).trans ((weak_untip 6 (by simp only [go_sem, Nat.reduceAdd, Nat.reduceEqDiff, Nat.reduceLT, reduceIte, reduceCtorEq, Nat.reduceBEq, Int.reduceLT, Int.reduceToNat, Int.reducePow, Nat.reduceLeDiff, Int.reduceLE, Nat.reduceMul, Nat.reduceSub]; rfl)).trans (weak_by [] (by simp) rfl ?_ ?_ ?_ ?_))) (Nat.zero_le _) ?_ ?_
  · simp only [go_sem, Nat.reduceAdd, Nat.reduceEqDiff, Nat.reduceLT, reduceIte, reduceCtorEq, Nat.reduceBEq, Int.reduceLT, Int.reduceToNat, Int.reducePow, Nat.reduceLeDiff, Int.reduceLE, Nat.reduceMul, Nat.reduceSub, slotsBy, boxesBy, tipsBy, rawAt, nm, AV.ren, AV.renL, AV.under, AV.underL, List.all_nil, List.all_cons, bne_self_eq_false, List.getD_cons_zero, List.getD_cons_succ, List.length_nil, List.length_cons, and_true, true_and, Int.natCast_zero]; rfl
  · trivial
  · trivial
  · simp
  · intro i hi _
    obtain ⟨x, hx, hm, hg⟩ := tab_get hi
    have hd : decide ((i : Int) < 166) = true := by simp; omega
    have hw2 : IntKind.i64.wrap ((i : Int) + 1) = ((i + 1 : Nat) : Int) := by rw [wrap_i64 _ (by omega) (by omega)]; omega
    simp only [hd, go_sem, Nat.reduceAdd, Nat.reduceEqDiff, Nat.reduceLT, reduceIte, reduceCtorEq, Nat.reduceBEq, Int.reduceLT, Int.reduceToNat, Int.reducePow, Nat.reduceLeDiff, Int.reduceLE, Nat.reduceMul, Nat.reduceSub, Int.natCast_nonneg, Int.toNat_natCast, hg, Row.cells, beq_self_eq_true]
    simp only [hw2]
    refine ⟨weak_by [] (by simp) rfl ?_ ?_ ?_ ?_, by omega⟩
    · simp only [go_sem, Nat.reduceAdd, Nat.reduceEqDiff, Nat.reduceLT, reduceIte, reduceCtorEq, Nat.reduceBEq, Int.reduceLT, Int.reduceToNat, Int.reducePow, Nat.reduceLeDiff, Int.reduceLE, Nat.reduceMul, Nat.reduceSub, slotsBy, boxesBy, tipsBy, rawAt, nm, AV.ren, AV.renL, AV.under, AV.underL, List.all_nil, List.all_cons, bne_self_eq_false, List.getD_cons_zero, List.getD_cons_succ, List.length_nil, List.length_cons, and_true, true_and]
    · trivial
    · trivial
    · simp
  · intro _
    obtain ⟨k, hk, hkt⟩ := tmod_166 hn.1
    obtain ⟨x, hx, hm, hg⟩ := tab_get hk
    have hxr := tab_range hm
    have hwn : IntKind.i64.wrap n = n := wrap_i64 _ (by omega) (by omega)
    have h1 : IntKind.i32.wrap (x.fr - 1) = x.fr - 1 := wrap_i32 _ (by omega) (by omega)
    have h2 : IntKind.i32.wrap (x.to + 1) = x.to + 1 := wrap_i32 _ (by omega) (by omega)
    simp only [e166, Int.lt_irrefl, tabC_len, hwn, ne166, hkt, hg, Row.cells, h1, h2, Int.natCast_nonneg, Int.toNat_natCast, go_sem, Nat.reduceAdd, Nat.reduceEqDiff, Nat.reduceLT, reduceIte, reduceCtorEq, Nat.reduceBEq, Int.reduceLT, Int.reduceToNat, Int.reducePow, Nat.reduceLeDiff, Int.reduceLE, Nat.reduceMul, Nat.reduceSub]
    have hcs : ∀ c ∈ [r, x.fr - 1, x.fr, x.to, x.to + 1], -2147483648 ≤ c ∧ c ≤ 2147483647 := by
      intro c hc
      simp only [List.mem_cons, List.not_mem_nil, or_false] at hc
      rcases hc with rfl | rfl | rfl | rfl | rfl <;> omega
    have hrn : [[Value.int .i32 r], [Value.int .i32 (x.fr - 1)], [Value.int .i32 x.fr], [Value.int .i32 x.to], [Value.int .i32 (x.to + 1)]] = runes [r, x.fr - 1, x.fr, x.to, x.to + 1] := rfl
    have hln : [r, x.fr - 1, x.fr, x.to, x.to + 1].length = 5 := rfl
    rw [hrn]
    generalize [r, x.fr - 1, x.fr, x.to, x.to + 1] = cs at hcs hln
    refine loop_to 5 (fun i => ⟨[(0, some (.lit (.int .i32 r))), (57, some (.sl 21 (runes cs) none)), (58, some (.lit (.int .i64 5))), (59, some (.lit (.int .i64 i)))], [], [], 0⟩) (fun i => i ≤ 5)
      ((weak_untip 57 (by simp only [go_sem, Nat.reduceAdd, Nat.reduceEqDiff, Nat.reduceLT, reduceIte, reduceCtorEq, Nat.reduceBEq, Int.reduceLT, Int.reduceToNat, Int.reducePow, Nat.reduceLeDiff, Int.reduceLE, Nat.reduceMul, Nat.reduceSub]; rfl)).trans (weak_by [] (by simp) rfl ?_ ?_ ?_ ?_)) (Nat.zero_le _) ?_ ?_
    · simp only [go_sem, Nat.reduceAdd, Nat.reduceEqDiff, Nat.reduceLT, reduceIte, reduceCtorEq, Nat.reduceBEq, Int.reduceLT, Int.reduceToNat, Int.reducePow, Nat.reduceLeDiff, Int.reduceLE, Nat.reduceMul, Nat.reduceSub, slotsBy, boxesBy, tipsBy, rawAt, nm, AV.ren, AV.renL, AV.under, AV.underL, List.all_nil, List.all_cons, bne_self_eq_false, List.getD_cons_zero, List.getD_cons_succ, List.length_nil, List.length_cons, and_true, true_and, Int.natCast_zero]; rfl
    · trivial
    · trivial
    · simp
    · intro i hi _
      have hlt : i < cs.length := by rw [hln]; exact hi
      have hg := runes_get cs i hlt
      have hc := hcs _ (List.getElem_mem hlt)
      generalize cs[i] = c at hg hc
      have hd : decide ((i : Int) < 5) = true := by simp; omega
      have hw2 : IntKind.i64.wrap ((i : Int) + 1) = ((i + 1 : Nat) : Int) := by rw [wrap_i64 _ (by omega) (by omega)]; omega
      simp only [hd, go_sem, Nat.reduceAdd, Nat.reduceEqDiff, Nat.reduceLT, reduceIte, reduceCtorEq, Nat.reduceBEq, Int.reduceLT, Int.reduceToNat, Int.reducePow, Nat.reduceLeDiff, Int.reduceLE, Nat.reduceMul, Nat.reduceSub, Int.natCast_nonneg, Int.toNat_natCast, hg]
      refine callGo_pure (of_pure c) (by rfl) ?_
      simp only [go_sem, Nat.reduceAdd, Nat.reduceEqDiff, Nat.reduceLT, reduceIte, reduceCtorEq, Nat.reduceBEq, Int.reduceLT, Int.reduceToNat, Int.reducePow, Nat.reduceLeDiff, Int.reduceLE, Nat.reduceMul, Nat.reduceSub]
      refine callGo_pure (refOf_pure c hc) (by rfl) ?_
      simp only [go_sem, Nat.reduceAdd, Nat.reduceEqDiff, Nat.reduceLT, reduceIte, reduceCtorEq, Nat.reduceBEq, Int.reduceLT, Int.reduceToNat, Int.reducePow, Nat.reduceLeDiff, Int.reduceLE, Nat.reduceMul, Nat.reduceSub, Row.prop, beq_self_eq_true, hw2]
      refine ⟨weak_by [] (by simp) rfl ?_ ?_ ?_ ?_, by omega⟩
      · simp only [go_sem, Nat.reduceAdd, Nat.reduceEqDiff, Nat.reduceLT, reduceIte, reduceCtorEq, Nat.reduceBEq, Int.reduceLT, Int.reduceToNat, Int.reducePow, Nat.reduceLeDiff, Int.reduceLE, Nat.reduceMul, Nat.reduceSub, slotsBy, boxesBy, tipsBy, rawAt, nm, AV.ren, AV.renL, AV.under, AV.underL, List.all_nil, List.all_cons, bne_self_eq_false, List.getD_cons_zero, List.getD_cons_succ, List.length_nil, List.length_cons, and_true, true_and]
      · trivial
      · trivial
      · simp
    · intro _
      have hd : decide (((5 : Nat) : Int) < 5) = false := rfl
      simp only [hd, go_sem, Nat.reduceAdd, Nat.reduceEqDiff, Nat.reduceLT, reduceIte, reduceCtorEq, Nat.reduceBEq, Int.reduceLT, Int.reduceToNat, Int.reducePow, Nat.reduceLeDiff, Int.reduceLE, Nat.reduceMul, Nat.reduceSub]
      refine callGo_pure (bracket_pure r) (by rfl) ?_
      simp only [go_sem, Nat.reduceAdd, Nat.reduceEqDiff, Nat.reduceLT, reduceIte, reduceCtorEq, Nat.reduceBEq, Int.reduceLT, Int.reduceToNat, Int.reducePow, Nat.reduceLeDiff, Int.reduceLE, Nat.reduceMul, Nat.reduceSub]
      refine callGo_pure (refBracket_pure r) (by rfl) ?_
      simp only [go_sem, Nat.reduceAdd, Nat.reduceEqDiff, Nat.reduceLT, reduceIte, reduceCtorEq, Nat.reduceBEq, Int.reduceLT, Int.reduceToNat, Int.reducePow, Nat.reduceLeDiff, Int.reduceLE, Nat.reduceMul, Nat.reduceSub, beq_self_eq_true, brk_is]
      refine callGo_pure awake02_pure (by rfl) ?_
      simp only [go_sem, Nat.reduceAdd, Nat.reduceEqDiff, Nat.reduceLT, reduceIte, reduceCtorEq, Nat.reduceBEq, Int.reduceLT, Int.reduceToNat, Int.reducePow, Nat.reduceLeDiff, Int.reduceLE, Nat.reduceMul, Nat.reduceSub]
      simp only [Done, resAV, resL, resOne, look_nil, look_cons, Nat.reduceEqDiff, if_true, if_false, reduceIte, ite_true, ite_false, Nat.zero_ne_one, Nat.one_ne_zero, reduceCtorEq, true_or, or_true, true_and, Option.some.injEq, AV.lit.injEq, Value.int.injEq, Value.bool.injEq]

theorem ucdTells_any (avs : List AV) (h : Args Try.prog Try.f9.params.toList avs) : Pure Try.prog 9 avs [] (.lit (.bool true)) := by
  have hp : Try.f9.params.toList = [21, 5] := by kernel_rfl
  rw [hp] at h
  obtain ⟨av0, rest0, rfl, a0, h0⟩ := h
  obtain ⟨av1, rest1, rfl, a1, rfl⟩ := h0
  obtain ⟨z0, rfl, w0⟩ := arg_int (k := .i32) (by kernel_rfl) a0
  obtain ⟨z1, rfl, w1⟩ := arg_int (k := .u8) (by kernel_rfl) a1
  exact ucdTells_pure z0 (by simpa [Lit.wf, IntKind.min, IntKind.max, IntKind.signed, IntKind.bits] using w0) z1 (by simpa [Lit.wf, IntKind.min, IntKind.max, IntKind.signed, IntKind.bits] using w1)

set_option maxRecDepth 100000 in
theorem ucdTells_lifted (os : Os) (started : os.Started) (H : Type) (enc : TypeId × Value → H) :
    ReturnsInHanded {} Try.checked os 9 .any (Rows.ucdTellsSpec.pre6 enc Try.prog Try.f9 Rows.ucdTellsRow.domain false) (Rows.ucdTellsSpec.post enc Try.prog Try.f9 false true false false) := by
  refine law_returns (C := Try.checked) (tb := 4) (by kernel_rfl) started (by kernel_rfl) Try.func9
    (ChangeSpec.witness6 (enc := enc) (C := Try.checked) false ⟨#[], #[.int .i32 0, .int .u8 0], []⟩ 8 (by kernel_rfl) (by kernel_rfl) (by kernel_rfl) (by kernel_rfl))
    (by kernel_rfl) (by kernel_rfl) rfl rfl (by kernel_rfl) (by kernel_rfl) ?_ ucdTells_any
  intro ds hds
  have hp : Try.f9.params.toList = [21, 5] := by kernel_rfl
  rw [hp] at hds
  match ds, hds with
  | [d0, d1], _ => exact ⟨rfl, rfl, rfl⟩

theorem ucdTells_holds : Rows.UcdTellsSaid :=
  OpenClaim.holds_of_wide 9 Try.f9 rfl rfl rfl rfl rfl rfl rfl ⟨rfl, rfl, rfl, rfl, rfl⟩ rfl rfl rfl rfl rfl (by kernel_rfl) Try.func9 (by kernel_rfl)
    (of_decide_eq_true (by kernel_rfl)) (by unfold Func.isWrapper; first | (rw [if_pos (by decide +kernel)]; kernel_rfl) | (rw [if_neg (by decide +kernel)]; exact ⟨rfl, rfl⟩))
    (fun os started H enc _ => ucdTells_lifted os started H enc)
end Go.Proofs.Ytbnaepdeakcljaa
