/-
The table that is told is nobody else's: the statement UcdApart. Conditions: none.
-/
import Derived.Test.YtbnaepdeakcljaaUcd9
set_option linter.unusedSimpArgs false
set_option linter.unusedVariables false
set_option linter.unusedSectionVars false
namespace Go.Proofs.Ytbnaepdeakcljaa
open Go Go.Ab Go.ChangeShapes Go.WideShapes Go.ChangeAt Go.RowKit
def a13 : ACode :=
  (.seq (.reg [⟨(.some 4), (.mv (.k (.bool false))), .none⟩]) (.seq (.reg [⟨(.some 11), (.call (.f 28) []), .none⟩, ⟨(.some 12), (.mv (.t 1)), .none⟩, ⟨(.some 13), (.call (.f 30) [(.t 12)]), .none⟩,
  ⟨(.some 6), (.alc 46 [(.int .u8 0), (.int .u8 0), (.int .u8 0), (.int .u8 0), (.int .u8 0), (.int .u8 0), (.int .u8 0)]), .none⟩, ⟨(.some 5), (.mv (.t 11)), .none⟩, ⟨.none, (.st 7 (.t 6) (.t 13)),
  .none⟩]) (.seq (.seq (.reg [⟨(.some 14), (.mv (.t 5)), .none⟩, ⟨(.some 15), (.len (.t 14)), .none⟩, ⟨(.some 16), (.bin .eql (.t 15) (.k (.int .i64 0))), .none⟩]) (.cond (.t 16) (.seq (.reg [⟨(.some
  4), (.mv (.k (.bool false))), .none⟩]) .ret) .skip)) (.seq (.reg [⟨(.some 17), (.mv (.t 0)), .none⟩, ⟨(.some 18), (.cvI .i64 (.t 17)), .none⟩, ⟨(.some 19), (.mv (.t 5)), .none⟩, ⟨(.some 20), (.len (.t
  19)), .none⟩, ⟨(.some 21), (.bin .rem (.t 18) (.t 20)), .none⟩, ⟨(.some 7), (.mv (.t 21)), .none⟩]) (.seq (.reg [⟨(.some 22), (.mv (.t 5)), .none⟩, ⟨(.some 23), (.mv (.t 7)), .none⟩, ⟨(.some 24), (.ia
  48 (.t 22) (.t 23)), .none⟩, ⟨(.some 25), (.ld (.some 9) (.t 24)), .none⟩, ⟨(.some 8), (.alc 48 [(.int .i32 0), (.int .i32 0), (.int .u8 0), (.int .u8 0), (.int .u8 0), (.int .u8 0), (.int .u8 0),
  (.int .u8 0), (.int .u8 0)]), .none⟩, ⟨.none, (.st 9 (.t 8) (.t 25)), .none⟩]) (.seq (.seq (.reg [⟨(.some 26), (.mv (.t 5)), .none⟩, ⟨(.some 27), (.len (.t 26)), .none⟩, ⟨(.some 28), (.mv (.k (.int
  .i64 0))), .none⟩]) (.block 0 (.loop (.seq (.reg [⟨(.some 29), (.bin .lss (.t 28) (.t 27)), .none⟩]) (.seq (.cond (.t 29) .skip (.exit 0)) (.seq (.block 1 (.seq (.reg [⟨(.some 30), (.mv (.t 28)),
  .none⟩, ⟨(.some 9), (.mv (.t 30)), .none⟩]) (.reg [⟨(.some 31), (.mv (.t 5)), .none⟩, ⟨(.some 32), (.mv (.t 9)), .none⟩, ⟨(.some 33), (.mv (.t 1)), .none⟩, ⟨(.some 34), (.mv (.t 1)), .none⟩, ⟨(.some
  35), (.bd [(.int .i32 0), (.int .i32 0), (.int .u8 0), (.int .u8 0), (.int .u8 0), (.int .u8 0), (.int .u8 0), (.int .u8 0), (.int .u8 0)] [(0, (1, (.t 33))), (1, (1, (.t 34)))]), .none⟩, ⟨(.some 36),
  (.ia 48 (.t 31) (.t 32)), .none⟩, ⟨.none, (.st 9 (.t 36) (.t 35)), .none⟩]))) (.reg [⟨(.some 37), (.bin .add (.t 28) (.k (.int .i64 1))), .none⟩, ⟨(.some 28), (.mv (.t 37)), .none⟩]))))))) (.seq (.reg
  [⟨(.some 38), (.call (.f 28) []), .none⟩, ⟨(.some 10), (.mv (.t 38)), .none⟩]) (.seq (.dreg [⟨(.some 39), (.mv (.t 10)), .none⟩, ⟨(.some 40), (.len (.t 39)), .none⟩, ⟨(.some 41), (.mv (.t 5)), .none⟩,
  ⟨(.some 42), (.len (.t 41)), .none⟩, ⟨(.some 43), (.bin .eql (.t 40) (.t 42)), .none⟩, ⟨(.some 44), (.mv (.t 43)), .none⟩, ⟨(.some 45), (.mv (.t 10)), (.some (44, true))⟩, ⟨(.some 46), (.mv (.t 7)),
  (.some (44, true))⟩, ⟨(.some 47), (.ia 48 (.t 45) (.t 46)), (.some (44, true))⟩, ⟨(.some 48), (.ld (.some 9) (.t 47)), (.some (44, true))⟩, ⟨(.some 49), (.ld (.some 9) (.t 8)), (.some (44, true))⟩,
  ⟨(.some 50), (.eqg false [.int, .int, .int, .int, .int, .int, .int, .int, .int] (.t 48) (.t 49)), (.some (44, true))⟩, ⟨(.some 51), (.pick (.t 44) (.t 50) (.k (.bool false))), .none⟩, ⟨(.some 52),
  (.mv (.t 51)), .none⟩, ⟨(.some 53), (.fa 0 (.t 8)), (.some (52, true))⟩, ⟨(.some 54), (.ld .none (.t 53)), (.some (52, true))⟩, ⟨(.some 55), (.call (.f 30) [(.t 54)]), (.some (52, true))⟩, ⟨(.some
  56), (.fa 2 (.t 8)), (.some (52, true))⟩, ⟨(.some 57), (.ld (.some 7) (.t 56)), (.some (52, true))⟩, ⟨(.some 58), (.eqg false [.int, .int, .int, .int, .int, .int, .int] (.t 55) (.t 57)), (.some (52,
  true))⟩, ⟨(.some 59), (.pick (.t 52) (.t 58) (.k (.bool false))), .none⟩, ⟨(.some 60), (.mv (.t 59)), .none⟩, ⟨(.some 61), (.mv (.t 1)), (.some (60, true))⟩, ⟨(.some 62), (.call (.f 30) [(.t 61)]),
  (.some (60, true))⟩, ⟨(.some 63), (.ld (.some 7) (.t 6)), (.some (60, true))⟩, ⟨(.some 64), (.eqg false [.int, .int, .int, .int, .int, .int, .int] (.t 62) (.t 63)), (.some (60, true))⟩, ⟨(.some 65),
  (.pick (.t 60) (.t 64) (.k (.bool false))), .none⟩, ⟨(.some 66), (.mv (.t 65)), .none⟩, ⟨(.some 67), (.call (.f 34) []), (.some (66, true))⟩, ⟨(.some 68), (.pick (.t 66) (.t 67) (.k (.bool false))),
  .none⟩, ⟨(.some 4), (.mv (.t 68)), .none⟩]) .ret))))))))
theorem c13 : Try.f13.body.bind (cCode Try.prog 69) = some a13 := by kernel_rfl
theorem r13 : Try.f13.results.toList = [(.tmp 4)] := by kernel_rfl
theorem n13 : Try.f13.ntmps = 69 := by kernel_rfl
theorem e13 : Enters Try.prog 13 := enters_of Try.func13 (by kernel_rfl) (by kernel_rfl)

theorem flat_drop : ∀ (l : List Row) (k : Nat) {x : Row}, l[k]? = some x → ∃ rest, (l.map Row.cells).flatten.drop (k * 9) = x.cells ++ rest
  | [], k, x, h => by simp at h
  | y :: l, 0, x, h => by
    simp only [List.getElem?_cons_zero, Option.some.injEq] at h
    subst h
    exact ⟨(l.map Row.cells).flatten, by rw [Nat.zero_mul, List.drop_zero, List.map_cons, List.flatten_cons]⟩
  | y :: l, k + 1, x, h => by
    obtain ⟨rest, hr⟩ := flat_drop l k (x := x) (by simpa using h)
    have hl : y.cells.length = 9 := rfl
    refine ⟨rest, ?_⟩
    rw [List.map_cons, List.flatten_cons, show (k + 1) * 9 = y.cells.length + k * 9 from by rw [hl]; omega, ← List.drop_drop, List.drop_left]
    exact hr
theorem renL_lits (f : Nat → Nat) : ∀ l : List Value, AV.renL f (l.map .lit) = l.map .lit
  | [] => rfl
  | v :: l => by simp only [List.map_cons, AV.renL, AV.ren, renL_lits f l]
theorem underL_lits (n : Nat) : ∀ l : List Value, AV.underL n (l.map .lit) = true
  | [] => rfl
  | v :: l => by simp only [List.map_cons, AV.underL, AV.under, underL_lits n l, Bool.and_self]

theorem concat_tab {k1 k2 k3 k4 k5 : Option Nat} {tp : List (Nat × TypeId)} {nx : Nat} {Q : Exit → State → Prop}
    (hQ : ∀ (slots : List (Nat × Option AV)) (id nx' : Nat) (rest : List Value), nx ≤ id → id < nx' → Go.Ab.look slots 2 = some (.rf (.row 48 9 0 166) id) → Q .ret ⟨slots, [(id, ((tab.map Row.cells).flatten ++ rest).map .lit)], tp, nx'⟩) :
    awp Try.prog nx a41 Q ⟨[(0, some (.sn 43 (avsOf (fivePs k1 k2 k3 k4 k5))))], [], tp, nx⟩ := by
  have e5 : rowsTo (fivePs k1 k2 k3 k4 k5) (fivePs k1 k2 k3 k4 k5).length = tab.map Row.cells := five_rows k1 k2 k3 k4 k5
  refine concat_go (fivePs k1 k2 k3 k4 k5) (by show 5 ≤ 1000; omega) (by rw [e5, tabC_len]; omega) (by rw [e5, tabC_len]; omega) (five_nine _ _ _ _ _) ?_
  rw [e5, tabC_len]
  exact hQ

set_option maxRecDepth 10000 in
theorem ucdApart_pure (n : Int) (hn : 0 ≤ n ∧ n ≤ 255) (r : Int) (hr : -2147483648 ≤ r ∧ r ≤ 2147483647) : Pure Try.prog 13 [.lit (.int .u8 n), .lit (.int .i32 r)] [] (.lit (.bool true)) := by
  refine pure0 Try.func13 c13 n13 e13 r13 (by simp) rfl ?_
  simp only [a13, astart, argSlots, go_sem, Nat.reduceAdd, Nat.reduceEqDiff, Nat.reduceLT, reduceIte, reduceCtorEq, Nat.reduceBEq, Int.reduceLT, Int.reduceToNat, Int.reducePow, Nat.reduceLeDiff, Int.reduceLE, Nat.reduceMul, Nat.reduceSub]
  refine callGo_walk Try.func28 c28 n28 e28 r28 (by simp) ?_
  simp only [a28, astart, argSlots, go_sem, Nat.reduceAdd, Nat.reduceEqDiff, Nat.reduceLT, reduceIte, reduceCtorEq, Nat.reduceBEq, Int.reduceLT, Int.reduceToNat, Int.reducePow, Nat.reduceLeDiff, Int.reduceLE, Nat.reduceMul, Nat.reduceSub]
  refine callGo_pure part1_pure rfl ?_
  simp only [go_sem, Nat.reduceAdd, Nat.reduceEqDiff, Nat.reduceLT, reduceIte, reduceCtorEq, Nat.reduceBEq, Int.reduceLT, Int.reduceToNat, Int.reducePow, Nat.reduceLeDiff, Int.reduceLE, Nat.reduceMul, Nat.reduceSub]
  refine callGo_pure part2_pure rfl ?_
  simp only [go_sem, Nat.reduceAdd, Nat.reduceEqDiff, Nat.reduceLT, reduceIte, reduceCtorEq, Nat.reduceBEq, Int.reduceLT, Int.reduceToNat, Int.reducePow, Nat.reduceLeDiff, Int.reduceLE, Nat.reduceMul, Nat.reduceSub]
  refine callGo_pure part3_pure rfl ?_
  simp only [go_sem, Nat.reduceAdd, Nat.reduceEqDiff, Nat.reduceLT, reduceIte, reduceCtorEq, Nat.reduceBEq, Int.reduceLT, Int.reduceToNat, Int.reducePow, Nat.reduceLeDiff, Int.reduceLE, Nat.reduceMul, Nat.reduceSub]
  refine callGo_pure part4_pure rfl ?_
  simp only [go_sem, Nat.reduceAdd, Nat.reduceEqDiff, Nat.reduceLT, reduceIte, reduceCtorEq, Nat.reduceBEq, Int.reduceLT, Int.reduceToNat, Int.reducePow, Nat.reduceLeDiff, Int.reduceLE, Nat.reduceMul, Nat.reduceSub]
  refine callGo_pure part5_pure rfl ?_
  simp only [go_sem, Nat.reduceAdd, Nat.reduceEqDiff, Nat.reduceLT, reduceIte, reduceCtorEq, Nat.reduceBEq, Int.reduceLT, Int.reduceToNat, Int.reducePow, Nat.reduceLeDiff, Int.reduceLE, Nat.reduceMul, Nat.reduceSub, AV.one, tb1_eq, tb2_eq, tb3_eq, tb4_eq, tb5_eq]
  refine callGo_walk Try.func41 c41 n41 e41 r41 (by simp) ?_
  refine concat_tab (k1 := some 0) (k2 := some 1) (k3 := some 2) (k4 := some 3) (k5 := some 4) ?_
  intro slots id nx' rest h1 h2 hs
  refine ⟨.inr rfl, .rf (.row 48 9 0 166) id, by simp only [resAV, resL, resOne, hs, go_sem, Nat.reduceAdd, Nat.reduceEqDiff, Nat.reduceLT, reduceIte, reduceCtorEq, Nat.reduceBEq, Int.reduceLT, Int.reduceToNat, Int.reducePow, Nat.reduceLeDiff, Int.reduceLE, Nat.reduceMul, Nat.reduceSub], ?_⟩
  obtain ⟨k, hk, hkt⟩ := tmod_166 hn.1
  obtain ⟨x, hx, hm, hg⟩ := tab_get hk
  obtain ⟨rest2, hfl⟩ := flat_drop tab k hx
  have hwn : IntKind.i64.wrap n = n := wrap_i64 _ (by omega) (by omega)
  have b0 : ((166 : Int) == 0) = false := rfl
  have e1 : (id = nx') = False := by simp only [eq_iff_iff, iff_false]; omega
  have e2 : (nx' = id) = False := by simp only [eq_iff_iff, iff_false]; omega
  have e3 : (id = nx' + 1) = False := by simp only [eq_iff_iff, iff_false]; omega
  have e4 : (nx' + 1 = id) = False := by simp only [eq_iff_iff, iff_false]; omega
  have e5 : (nx' = nx' + 1) = False := by simp only [eq_iff_iff, iff_false]; omega
  have e6 : (nx' + 1 = nx') = False := by simp only [eq_iff_iff, iff_false]; omega
  simp only [go_sem, Nat.reduceAdd, Nat.reduceEqDiff, Nat.reduceLT, reduceIte, reduceCtorEq, Nat.reduceBEq, Int.reduceLT, Int.reduceToNat, Int.reducePow, Nat.reduceLeDiff, Int.reduceLE, Nat.reduceMul, Nat.reduceSub]
  refine ⟨by simp, _, rfl, ?_⟩
  refine callGo_pure (of_pure r) (by rfl) ?_
  have hdr : (((tab.map Row.cells).flatten ++ rest).map AV.lit).drop (k * 9) = [.lit (.int .i32 x.fr), .lit (.int .i32 x.to), .lit (.int .u8 x.cat), .lit (.int .u8 x.bidi), .lit (.int .u8 x.join), .lit (.int .u8 x.ccc), .lit (.int .u8 x.script), .lit (.int .u8 x.digits), .lit (.int .u8 x.width)] ++ (rest2 ++ rest).map AV.lit := by
    have hf9 : (tab.map Row.cells).flatten.length = 166 * 9 := by rw [lenAll_flat 9 _ (cells_nine tab).1, tabC_len]
    rw [← List.map_drop, List.drop_append_of_le_length (by omega), hfl, List.append_assoc, List.map_append]
    rfl
  have hk2 : (k < 166) = True := by simp [hk]
  simp only [Row.prop, go_sem, Nat.reduceAdd, Nat.reduceEqDiff, Nat.reduceLT, reduceIte, reduceCtorEq, Nat.reduceBEq, Int.reduceLT, Int.reduceToNat, Int.reducePow, Nat.reduceLeDiff, Int.reduceLE, Nat.reduceMul, Nat.reduceSub, e1, e2, e3, e4, e5, e6, e166, b0, hwn, ne166, hkt, hk2, Int.natCast_nonneg, Int.toNat_natCast, unOb_lits, hdr, List.length_append, List.length_map]
  have hf9 : (tab.map Row.cells).flatten.length = 166 * 9 := by rw [lenAll_flat 9 _ (cells_nine tab).1, tabC_len]
  refine ⟨fun s => ∃ (i : Nat) (vs : List Value), i ≤ 166 ∧ 1494 ≤ vs.length ∧ s = ⟨[(1, some (.lit (.int .i32 r))), (5, some (.rf (.row 48 9 0 166) 0)), (6, some (.bp 1 0)), (7, some (.lit (.int .i64 k))), (8, some (.bp 2 0)), (27, some (.lit (.int .i64 166))), (28, some (.lit (.int .i64 i)))],
      [(0, vs.map .lit), (1, [.lit (.int .u8 (rowAt r).cat), .lit (.int .u8 (rowAt r).bidi), .lit (.int .u8 (rowAt r).join), .lit (.int .u8 (rowAt r).ccc), .lit (.int .u8 (rowAt r).script), .lit (.int .u8 (rowAt r).digits), .lit (.int .u8 (rowAt r).width)]), (2, [.lit (.int .i32 x.fr), .lit (.int .i32 x.to), .lit (.int .u8 x.cat), .lit (.int .u8 x.bidi), .lit (.int .u8 x.join), .lit (.int .u8 x.ccc), .lit (.int .u8 x.script), .lit (.int .u8 x.digits), .lit (.int .u8 x.width)])], [], 3⟩, fun s => 166 - cnt 28 s, ⟨_, weak_by [id, nx', nx' + 1] (by simp [e1, e3, e5]) rfl ?_ ?_ ?_ ?_, 0, (tab.map Row.cells).flatten ++ rest, Nat.zero_le _, by rw [List.length_append, hf9]; omega, rfl⟩, ?_⟩
  · simp only [go_sem, Nat.reduceAdd, Nat.reduceEqDiff, Nat.reduceLT, reduceIte, reduceCtorEq, Nat.reduceBEq, Int.reduceLT, Int.reduceToNat, Int.reducePow, Nat.reduceLeDiff, Int.reduceLE, Nat.reduceMul, Nat.reduceSub, slotsBy, boxesBy, tipsBy, rawAt, nm, AV.ren, AV.renL, AV.under, AV.underL, List.all_nil, List.all_cons, bne_self_eq_false, List.getD_cons_zero, List.getD_cons_succ, List.length_nil, List.length_cons, and_true, true_and, Int.natCast_zero]
  · simp only [go_sem, Nat.reduceAdd, Nat.reduceEqDiff, Nat.reduceLT, reduceIte, reduceCtorEq, Nat.reduceBEq, Int.reduceLT, Int.reduceToNat, Int.reducePow, Nat.reduceLeDiff, Int.reduceLE, Nat.reduceMul, Nat.reduceSub, slotsBy, boxesBy, tipsBy, rawAt, nm, AV.ren, AV.renL, AV.under, AV.underL, List.all_nil, List.all_cons, bne_self_eq_false, List.getD_cons_zero, List.getD_cons_succ, List.length_nil, List.length_cons, and_true, true_and, renL_lits, underL_lits, e1, e2, e3, e4, e5, e6]
    simp
  · trivial
  · simp
  · rintro _ ⟨i, vs, hi, hvs, rfl⟩
    simp only [go_sem, Nat.reduceAdd, Nat.reduceEqDiff, Nat.reduceLT, reduceIte, reduceCtorEq, Nat.reduceBEq, Int.reduceLT, Int.reduceToNat, Int.reducePow, Nat.reduceLeDiff, Int.reduceLE, Nat.reduceMul, Nat.reduceSub]
    rcases Nat.lt_or_eq_of_le hi with hlt | heq
    · have hd : decide ((i : Int) < 166) = true := by simp; omega
      have hw2 : IntKind.i64.wrap ((i : Int) + 1) = ((i + 1 : Nat) : Int) := by rw [wrap_i64 _ (by omega) (by omega)]; omega
      have hlt2 : (i < 166) = True := by simp [hlt]
      simp only [hd, hw2, hlt2, go_sem, Nat.reduceAdd, Nat.reduceEqDiff, Nat.reduceLT, reduceIte, reduceCtorEq, Nat.reduceBEq, Int.reduceLT, Int.reduceToNat, Int.reducePow, Nat.reduceLeDiff, Int.reduceLE, Nat.reduceMul, Nat.reduceSub, Int.natCast_nonneg, Int.toNat_natCast, unOb_lits, List.length_map]
      refine ⟨by omega, ?_⟩
      have hL : (vs.map AV.lit).take (i * 9) ++ ([.lit (.int .i32 r), .lit (.int .i32 r), .lit (.int .u8 0), .lit (.int .u8 0), .lit (.int .u8 0), .lit (.int .u8 0), .lit (.int .u8 0), .lit (.int .u8 0), .lit (.int .u8 0)] : List AV) ++ (vs.map AV.lit).drop (i * 9 + 9) = (vs.take (i * 9) ++ ([.int .i32 r, .int .i32 r, .int .u8 0, .int .u8 0, .int .u8 0, .int .u8 0, .int .u8 0, .int .u8 0, .int .u8 0] : List Value) ++ vs.drop (i * 9 + 9)).map AV.lit := by
        simp only [List.map_append, List.map_take, List.map_drop]; rfl
      have hLl : 1494 ≤ (vs.take (i * 9) ++ ([.int .i32 r, .int .i32 r, .int .u8 0, .int .u8 0, .int .u8 0, .int .u8 0, .int .u8 0, .int .u8 0, .int .u8 0] : List Value) ++ vs.drop (i * 9 + 9)).length := by
        simp only [List.length_append, List.length_take, List.length_drop, List.length_cons, List.length_nil]; omega
      rw [hL]
      generalize vs.take (i * 9) ++ ([.int .i32 r, .int .i32 r, .int .u8 0, .int .u8 0, .int .u8 0, .int .u8 0, .int .u8 0, .int .u8 0, .int .u8 0] : List Value) ++ vs.drop (i * 9 + 9) = vs2 at hLl
      refine ⟨_, weak_by [0, 1, 2] (by simp) rfl ?_ ?_ ?_ ?_, ⟨i + 1, vs2, by omega, hLl, rfl⟩, ?_⟩
      · simp only [go_sem, Nat.reduceAdd, Nat.reduceEqDiff, Nat.reduceLT, reduceIte, reduceCtorEq, Nat.reduceBEq, Int.reduceLT, Int.reduceToNat, Int.reducePow, Nat.reduceLeDiff, Int.reduceLE, Nat.reduceMul, Nat.reduceSub, slotsBy, boxesBy, tipsBy, rawAt, nm, AV.ren, AV.renL, AV.under, AV.underL, List.all_nil, List.all_cons, bne_self_eq_false, List.getD_cons_zero, List.getD_cons_succ, List.length_nil, List.length_cons, and_true, true_and]
      · simp only [go_sem, Nat.reduceAdd, Nat.reduceEqDiff, Nat.reduceLT, reduceIte, reduceCtorEq, Nat.reduceBEq, Int.reduceLT, Int.reduceToNat, Int.reducePow, Nat.reduceLeDiff, Int.reduceLE, Nat.reduceMul, Nat.reduceSub, slotsBy, boxesBy, tipsBy, rawAt, nm, AV.ren, AV.renL, AV.under, AV.underL, List.all_nil, List.all_cons, bne_self_eq_false, List.getD_cons_zero, List.getD_cons_succ, List.length_nil, List.length_cons, and_true, true_and, renL_lits, underL_lits]
        exact ⟨rfl, rfl⟩
      · trivial
      · simp
      · simp only [cnt, go_sem, Nat.reduceAdd, Nat.reduceEqDiff, Nat.reduceLT, reduceIte, reduceCtorEq, Nat.reduceBEq, Int.reduceLT, Int.reduceToNat, Int.reducePow, Nat.reduceLeDiff, Int.reduceLE, Nat.reduceMul, Nat.reduceSub, Int.toNat_natCast]; omega
    · subst heq
      have hd : decide (((166 : Nat) : Int) < 166) = false := rfl
      simp only [hd, go_sem, Nat.reduceAdd, Nat.reduceEqDiff, Nat.reduceLT, reduceIte, reduceCtorEq, Nat.reduceBEq, Int.reduceLT, Int.reduceToNat, Int.reducePow, Nat.reduceLeDiff, Int.reduceLE, Nat.reduceMul, Nat.reduceSub]
      refine callGo_pure table_pure rfl ?_
      have hkl : (k < 166) = True := by simp [hk]
      simp only [go_sem, Nat.reduceAdd, Nat.reduceEqDiff, Nat.reduceLT, reduceIte, reduceCtorEq, Nat.reduceBEq, Int.reduceLT, Int.reduceToNat, Int.reducePow, Nat.reduceLeDiff, Int.reduceLE, Nat.reduceMul, Nat.reduceSub, tabC_len, e166, beq_self_eq_true, Int.natCast_nonneg, Int.toNat_natCast, hg, Row.cells]
      have hrow : rowAt x.fr = x := rowAt_tab hm (Int.le_refl _) (tab_le hm)
      refine dcallGo_pure (of_pure x.fr) (by rfl) rfl ?_
      simp only [hrow, Row.prop, beq_self_eq_true, go_sem, Nat.reduceAdd, Nat.reduceEqDiff, Nat.reduceLT, reduceIte, reduceCtorEq, Nat.reduceBEq, Int.reduceLT, Int.reduceToNat, Int.reducePow, Nat.reduceLeDiff, Int.reduceLE, Nat.reduceMul, Nat.reduceSub]
      refine dcallGo_pure (of_pure r) (by rfl) rfl ?_
      simp only [Row.prop, beq_self_eq_true, go_sem, Nat.reduceAdd, Nat.reduceEqDiff, Nat.reduceLT, reduceIte, reduceCtorEq, Nat.reduceBEq, Int.reduceLT, Int.reduceToNat, Int.reducePow, Nat.reduceLeDiff, Int.reduceLE, Nat.reduceMul, Nat.reduceSub]
      refine dcallGo_pure awake02_pure (by rfl) rfl ?_
      simp only [go_sem, Nat.reduceAdd, Nat.reduceEqDiff, Nat.reduceLT, reduceIte, reduceCtorEq, Nat.reduceBEq, Int.reduceLT, Int.reduceToNat, Int.reducePow, Nat.reduceLeDiff, Int.reduceLE, Nat.reduceMul, Nat.reduceSub]
      simp only [Done, resAV, resL, resOne, look_nil, look_cons, Nat.reduceEqDiff, if_true, if_false, reduceIte, ite_true, ite_false, Nat.zero_ne_one, Nat.one_ne_zero, reduceCtorEq, true_or, or_true, true_and, Option.some.injEq, AV.lit.injEq, Value.int.injEq, Value.bool.injEq]

theorem ucdApart_any (avs : List AV) (h : Args Try.prog Try.f13.params.toList avs) : Pure Try.prog 13 avs [] (.lit (.bool true)) := by
  have hp : Try.f13.params.toList = [5, 21] := by kernel_rfl
  rw [hp] at h
  obtain ⟨av0, rest0, rfl, a0, h0⟩ := h
  obtain ⟨av1, rest1, rfl, a1, rfl⟩ := h0
  obtain ⟨z0, rfl, w0⟩ := arg_int (k := .u8) (by kernel_rfl) a0
  obtain ⟨z1, rfl, w1⟩ := arg_int (k := .i32) (by kernel_rfl) a1
  exact ucdApart_pure z0 (by simpa [Lit.wf, IntKind.min, IntKind.max, IntKind.signed, IntKind.bits] using w0) z1 (by simpa [Lit.wf, IntKind.min, IntKind.max, IntKind.signed, IntKind.bits] using w1)

set_option maxRecDepth 100000 in
theorem ucdApart_lifted (os : Os) (started : os.Started) (H : Type) (enc : TypeId × Value → H) :
    ReturnsInHanded {} Try.checked os 13 .any (Rows.ucdApartSpec.pre6 enc Try.prog Try.f13 Rows.ucdApartRow.domain false) (Rows.ucdApartSpec.post enc Try.prog Try.f13 false true false false) := by
  refine law_returns (C := Try.checked) (tb := 4) (by kernel_rfl) started (by kernel_rfl) Try.func13
    (ChangeSpec.witness6 (enc := enc) (C := Try.checked) false ⟨#[], #[.int .u8 0, .int .i32 0], []⟩ 8 (by kernel_rfl) (by kernel_rfl) (by kernel_rfl) (by kernel_rfl))
    (by kernel_rfl) (by kernel_rfl) rfl rfl (by kernel_rfl) (by kernel_rfl) ?_ ucdApart_any
  intro ds hds
  have hp : Try.f13.params.toList = [5, 21] := by kernel_rfl
  rw [hp] at hds
  match ds, hds with
  | [d0, d1], _ => exact ⟨rfl, rfl, rfl⟩

theorem ucdApart_holds : Rows.UcdApartSaid :=
  OpenClaim.holds_of_wide 13 Try.f13 rfl rfl rfl rfl rfl rfl rfl ⟨rfl, rfl, rfl, rfl, rfl⟩ rfl rfl rfl rfl rfl (by kernel_rfl) Try.func13 (by kernel_rfl)
    (of_decide_eq_true (by kernel_rfl)) (by unfold Func.isWrapper; first | (rw [if_pos (by decide +kernel)]; kernel_rfl) | (rw [if_neg (by decide +kernel)]; exact ⟨rfl, rfl⟩))
    (fun os started H enc _ => ucdApart_lifted os started H enc)
end Go.Proofs.Ytbnaepdeakcljaa
