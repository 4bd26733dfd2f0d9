/-
Brackets go in pairs: the statement UcdBrackets. Conditions: none.
-/
import Derived.Test.YtbnaepdeakcljaaUcd9
set_option linter.unusedSimpArgs false
set_option linter.unusedVariables false
set_option linter.unusedSectionVars false
namespace Go.Proofs.Ytbnaepdeakcljaa
open Go Go.Ab Go.ChangeShapes Go.WideShapes Go.ChangeAt Go.RowKit
def a12 : ACode :=
  (.seq (.reg [⟨(.some 4), (.mv (.k (.bool false))), .none⟩]) (.seq (.reg [⟨(.some 14), (.call (.f 28) []), .none⟩, ⟨(.some 5), (.mv (.t 14)), .none⟩]) (.seq (.seq (.reg [⟨(.some 15), (.mv (.t 5)),
  .none⟩, ⟨(.some 16), (.len (.t 15)), .none⟩, ⟨(.some 17), (.bin .eql (.t 16) (.k (.int .i64 0))), .none⟩]) (.cond (.t 17) (.seq (.reg [⟨(.some 4), (.mv (.k (.bool false))), .none⟩]) .ret) .skip))
  (.seq (.seq (.dreg [⟨(.some 18), (.mv (.t 0)), .none⟩, ⟨(.some 19), (.mv (.t 5)), .none⟩, ⟨(.some 20), (.mv (.t 1)), .none⟩, ⟨(.some 21), (.cvI .i64 (.t 20)), .none⟩, ⟨(.some 22), (.mv (.t 5)),
  .none⟩, ⟨(.some 23), (.len (.t 22)), .none⟩, ⟨(.some 24), (.bin .rem (.t 21) (.t 23)), .none⟩, ⟨(.some 25), (.ia 48 (.t 19) (.t 24)), .none⟩, ⟨(.some 26), (.fa 0 (.t 25)), .none⟩, ⟨(.some 27), (.ld
  .none (.t 26)), .none⟩, ⟨(.some 28), (.mv (.t 5)), .none⟩, ⟨(.some 29), (.mv (.t 1)), .none⟩, ⟨(.some 30), (.cvI .i64 (.t 29)), .none⟩, ⟨(.some 31), (.mv (.t 5)), .none⟩, ⟨(.some 32), (.len (.t 31)),
  .none⟩, ⟨(.some 33), (.bin .rem (.t 30) (.t 32)), .none⟩, ⟨(.some 34), (.ia 48 (.t 28) (.t 33)), .none⟩, ⟨(.some 35), (.fa 1 (.t 34)), .none⟩, ⟨(.some 36), (.ld .none (.t 35)), .none⟩, ⟨(.some 37),
  (.bs 21 1 [(.t 18), (.t 27), (.t 36)]), .none⟩, ⟨(.some 38), (.len (.t 37)), .none⟩, ⟨(.some 39), (.mv (.k (.int .i64 0))), .none⟩]) (.block 0 (.loop (.seq (.reg [⟨(.some 40), (.bin .lss (.t 39) (.t
  38)), .none⟩]) (.seq (.cond (.t 40) .skip (.exit 0)) (.seq (.block 1 (.seq (.reg [⟨(.some 41), (.ia 21 (.t 37) (.t 39)), .none⟩, ⟨(.some 42), (.ld .none (.t 41)), .none⟩, ⟨(.some 7), (.mv (.t 42)),
  .none⟩]) (.seq (.reg [⟨(.some 44), (.mv (.t 7)), .none⟩, ⟨(.some 45), (.call (.f 32) [(.t 44)]), .none⟩, ⟨(.some 43), (.mv (.t 45)), .none⟩, ⟨(.some 46), (.ext (.t 43) 0), .none⟩, ⟨(.some 47), (.ext
  (.t 43) 1), .none⟩, ⟨(.some 48), (.ext (.t 43) 2), .none⟩, ⟨(.some 8), (.mv (.t 46)), .none⟩, ⟨(.some 9), (.mv (.t 47)), .none⟩, ⟨(.some 10), (.mv (.t 48)), .none⟩]) (.seq (.seq (.reg [⟨(.some 49),
  (.mv (.t 10)), .none⟩, ⟨(.some 50), (.not (.t 49)), .none⟩]) (.cond (.t 50) (.seq (.seq (.reg [⟨(.some 51), (.mv (.t 8)), .none⟩, ⟨(.some 52), (.bin .neq (.t 51) (.k (.int .i32 0))), .none⟩, ⟨(.some
  53), (.mv (.t 52)), .none⟩, ⟨(.some 54), (.mv (.t 9)), (.some (53, false))⟩, ⟨(.some 55), (.pick (.t 53) (.k (.bool true)) (.t 54)), .none⟩]) (.cond (.t 55) (.seq (.reg [⟨(.some 4), (.mv (.k (.bool
  false))), .none⟩]) .ret) .skip)) (.exit 1)) .skip)) (.seq (.reg [⟨(.some 57), (.mv (.t 8)), .none⟩, ⟨(.some 58), (.call (.f 32) [(.t 57)]), .none⟩, ⟨(.some 56), (.mv (.t 58)), .none⟩, ⟨(.some 59),
  (.ext (.t 56) 0), .none⟩, ⟨(.some 60), (.ext (.t 56) 1), .none⟩, ⟨(.some 61), (.ext (.t 56) 2), .none⟩, ⟨(.some 11), (.mv (.t 59)), .none⟩, ⟨(.some 12), (.mv (.t 60)), .none⟩, ⟨(.some 13), (.mv (.t
  61)), .none⟩]) (.seq (.reg [⟨(.some 62), (.mv (.t 13)), .none⟩, ⟨(.some 63), (.not (.t 62)), .none⟩, ⟨(.some 64), (.mv (.t 63)), .none⟩, ⟨(.some 65), (.mv (.t 11)), (.some (64, false))⟩, ⟨(.some 66),
  (.mv (.t 7)), (.some (64, false))⟩, ⟨(.some 67), (.bin .neq (.t 65) (.t 66)), (.some (64, false))⟩, ⟨(.some 68), (.pick (.t 64) (.k (.bool true)) (.t 67)), .none⟩, ⟨(.some 69), (.mv (.t 68)), .none⟩,
  ⟨(.some 70), (.mv (.t 12)), (.some (69, false))⟩, ⟨(.some 71), (.mv (.t 9)), (.some (69, false))⟩, ⟨(.some 72), (.eqB false (.t 70) (.t 71)), (.some (69, false))⟩, ⟨(.some 73), (.pick (.t 69) (.k
  (.bool true)) (.t 72)), .none⟩, ⟨(.some 74), (.mv (.t 73)), .none⟩, ⟨(.some 75), (.mv (.t 7)), (.some (74, false))⟩, ⟨(.some 76), (.call (.f 30) [(.t 75)]), (.some (74, false))⟩, ⟨(.some 77), (.mv (.t
  8)), (.some (74, false))⟩, ⟨(.some 78), (.call (.f 30) [(.t 77)]), (.some (74, false))⟩, ⟨(.some 79), (.eqg true [.int, .int, .int, .int, .int, .int, .int] (.t 76) (.t 78)), (.some (74, false))⟩,
  ⟨(.some 80), (.pick (.t 74) (.k (.bool true)) (.t 79)), .none⟩, ⟨(.some 81), (.mv (.t 80)), .none⟩, ⟨(.some 82), (.mv (.t 7)), (.some (81, false))⟩, ⟨(.some 83), (.call (.f 30) [(.t 82)]), (.some (81,
  false))⟩, ⟨(.some 84), (.fld 1 .none (.t 83)), (.some (81, false))⟩, ⟨(.some 85), (.bin .neq (.t 84) (.k (.int .u8 13))), (.some (81, false))⟩, ⟨(.some 86), (.pick (.t 81) (.k (.bool true)) (.t 85)),
  .none⟩, ⟨(.some 87), (.mv (.t 86)), .none⟩, ⟨(.some 88), (.mv (.t 7)), (.some (87, false))⟩, ⟨(.some 89), (.call (.f 30) [(.t 88)]), (.some (87, false))⟩, ⟨(.some 90), (.fld 0 .none (.t 89)), (.some
  (87, false))⟩, ⟨(.some 91), (.bin .neq (.t 90) (.k (.int .u8 6))), (.some (87, false))⟩, ⟨(.some 92), (.pick (.t 87) (.k (.bool true)) (.t 91)), .none⟩]) (.cond (.t 92) (.seq (.reg [⟨(.some 4), (.mv
  (.k (.bool false))), .none⟩]) .ret) .skip))))))) (.reg [⟨(.some 93), (.bin .add (.t 39) (.k (.int .i64 1))), .none⟩, ⟨(.some 39), (.mv (.t 93)), .none⟩]))))))) (.seq (.reg [⟨(.some 94), (.call (.f 34)
  []), .none⟩, ⟨(.some 4), (.mv (.t 94)), .none⟩]) .ret)))))
theorem c12 : Try.f12.body.bind (cCode Try.prog 95) = some a12 := by kernel_rfl
theorem r12 : Try.f12.results.toList = [(.tmp 4)] := by kernel_rfl
theorem n12 : Try.f12.ntmps = 95 := by kernel_rfl
theorem e12 : Enters Try.prog 12 := enters_of Try.func12 (by kernel_rfl) (by kernel_rfl)

theorem brkF_cases (c : Int) : ∀ l : List (Int × Int), brkF l c = (0, false, false) ∨ ∃ p ∈ l, (c = p.1 ∧ brkF l c = (p.2, true, true)) ∨ (c = p.2 ∧ brkF l c = (p.1, false, true))
  | [] => .inl rfl
  | (a, b) :: l => by
    simp only [brkF]
    split
    · rename_i h; exact .inr ⟨(a, b), List.mem_cons_self .., .inl ⟨h, rfl⟩⟩
    · split
      · rename_i h; exact .inr ⟨(a, b), List.mem_cons_self .., .inr ⟨h, rfl⟩⟩
      · rcases brkF_cases c l with h | ⟨p, hp, h⟩
        · exact .inl h
        · exact .inr ⟨p, List.mem_cons_of_mem _ hp, h⟩
def pairOK (c o : Int) : Bool := decide ((rowAt c).cat = 6) && (decide ((rowAt c).bidi = 13) && (decide ((rowAt o).cat = 6) && (decide ((rowAt o).bidi = 13) && (decide ((rowAt c).join = (rowAt o).join) && (decide ((rowAt c).ccc = (rowAt o).ccc) && (decide ((rowAt c).script = (rowAt o).script) && (decide ((rowAt c).digits = (rowAt o).digits) && decide ((rowAt c).width = (rowAt o).width))))))))
theorem pairs_ok : pairsL.all (fun p => decide (brk p.1 = (p.2, true, true)) && (decide (brk p.2 = (p.1, false, true)) && (pairOK p.1 p.2 && pairOK p.2 p.1))) = true := by kernel_rfl
theorem brk_cases (c : Int) : brk c = (0, false, false) ∨ ∃ (o : Int) (b : Bool), brk c = (o, b, true) ∧ brk o = (c, !b, true) ∧ pairOK c o = true := by
  rcases brkF_cases c pairsL with h | ⟨p, hp, h⟩
  · exact .inl h
  · have hk := List.all_eq_true.1 pairs_ok p hp
    simp only [Bool.and_eq_true, decide_eq_true_eq] at hk
    obtain ⟨k1, k2, k3, k4⟩ := hk
    rcases h with ⟨rfl, h⟩ | ⟨rfl, h⟩
    · exact .inr ⟨p.2, true, h, k2, k3⟩
    · exact .inr ⟨p.1, false, h, k1, k4⟩

set_option maxRecDepth 10000 in
theorem ucdBrackets_pure (r : Int) (hr : -2147483648 ≤ r ∧ r ≤ 2147483647) (n : Int) (hn : 0 ≤ n ∧ n ≤ 255) : Pure Try.prog 12 [.lit (.int .i32 r), .lit (.int .u8 n)] [] (.lit (.bool true)) := by
  refine pure0 Try.func12 c12 n12 e12 r12 (by simp) rfl ?_
  simp only [a12, astart, argSlots, go_sem, Nat.reduceAdd, Nat.reduceEqDiff, Nat.reduceLT, reduceIte, reduceCtorEq, Nat.reduceBEq, Int.reduceLT, Int.reduceToNat, Int.reducePow, Nat.reduceLeDiff, Int.reduceLE, Nat.reduceMul, Nat.reduceSub]
  refine callGo_pure table_pure rfl ?_
  have b0 : ((166 : Int) == 0) = false := rfl
  obtain ⟨k, hk, hkt⟩ := tmod_166 hn.1
  obtain ⟨x, hx, hm, hg⟩ := tab_get hk
  have hwn : IntKind.i64.wrap n = n := wrap_i64 _ (by omega) (by omega)
  simp only [go_sem, Nat.reduceAdd, Nat.reduceEqDiff, Nat.reduceLT, reduceIte, reduceCtorEq, Nat.reduceBEq, Int.reduceLT, Int.reduceToNat, Int.reducePow, Nat.reduceLeDiff, Int.reduceLE, Nat.reduceMul, Nat.reduceSub, tabC_len, e166, b0, hwn, ne166, hkt, hg, Row.cells, Int.natCast_nonneg, Int.toNat_natCast]
  have hrn : [[Value.int .i32 r], [Value.int .i32 x.fr], [Value.int .i32 x.to]] = runes [r, x.fr, x.to] := rfl
  have hln : [r, x.fr, x.to].length = 3 := rfl
  rw [hrn]
  generalize [r, x.fr, x.to] = cs at hln
  refine loop_to 3 (fun i => ⟨[(37, some (.sl 21 (runes cs) none)), (38, some (.lit (.int .i64 3))), (39, some (.lit (.int .i64 i)))], [], [], 0⟩) (fun i => i ≤ 3)
    ((weak_untip 37 (by simp only [go_sem, Nat.reduceAdd, Nat.reduceEqDiff, Nat.reduceLT, reduceIte, reduceCtorEq, Nat.reduceBEq, Int.reduceLT, Int.reduceToNat, Int.reducePow, Nat.reduceLeDiff, Int.reduceLE, Nat.reduceMul, Nat.reduceSub]; rfl)).trans (weak_by [] (by simp) rfl ?_ ?_ ?_ ?_)) (Nat.zero_le _) ?_ ?_
  · simp only [go_sem, Nat.reduceAdd, Nat.reduceEqDiff, Nat.reduceLT, reduceIte, reduceCtorEq, Nat.reduceBEq, Int.reduceLT, Int.reduceToNat, Int.reducePow, Nat.reduceLeDiff, Int.reduceLE, Nat.reduceMul, Nat.reduceSub, slotsBy, boxesBy, tipsBy, rawAt, nm, AV.ren, AV.renL, AV.under, AV.underL, List.all_nil, List.all_cons, bne_self_eq_false, List.getD_cons_zero, List.getD_cons_succ, List.length_nil, List.length_cons, and_true, true_and, Int.natCast_zero]; rfl
  · trivial
  · trivial
  · simp
  · intro i hi _
    have hlt : i < cs.length := by rw [hln]; exact hi
    have hgc := runes_get cs i hlt
    generalize cs[i] = c at hgc
    have hd : decide ((i : Int) < 3) = true := by simp; omega
    have hw2 : IntKind.i64.wrap ((i : Int) + 1) = ((i + 1 : Nat) : Int) := by rw [wrap_i64 _ (by omega) (by omega)]; omega
    simp only [hd, go_sem, Nat.reduceAdd, Nat.reduceEqDiff, Nat.reduceLT, reduceIte, reduceCtorEq, Nat.reduceBEq, Int.reduceLT, Int.reduceToNat, Int.reducePow, Nat.reduceLeDiff, Int.reduceLE, Nat.reduceMul, Nat.reduceSub, Int.natCast_nonneg, Int.toNat_natCast, hgc]
    refine callGo_pure (bracket_pure c) (by rfl) ?_
    rcases brk_cases c with hb | ⟨o, b, hb, hbo, hok⟩
    · have n0 : ((0 : Int) != 0) = false := rfl
      simp only [hb, n0, hw2, go_sem, Nat.reduceAdd, Nat.reduceEqDiff, Nat.reduceLT, reduceIte, reduceCtorEq, Nat.reduceBEq, Int.reduceLT, Int.reduceToNat, Int.reducePow, Nat.reduceLeDiff, Int.reduceLE, Nat.reduceMul, Nat.reduceSub]
      refine ⟨weak_by [] (by simp) rfl ?_ ?_ ?_ ?_, by omega⟩
      · simp only [go_sem, Nat.reduceAdd, Nat.reduceEqDiff, Nat.reduceLT, reduceIte, reduceCtorEq, Nat.reduceBEq, Int.reduceLT, Int.reduceToNat, Int.reducePow, Nat.reduceLeDiff, Int.reduceLE, Nat.reduceMul, Nat.reduceSub, slotsBy, boxesBy, tipsBy, rawAt, nm, AV.ren, AV.renL, AV.under, AV.underL, List.all_nil, List.all_cons, bne_self_eq_false, List.getD_cons_zero, List.getD_cons_succ, List.length_nil, List.length_cons, and_true, true_and]
      · trivial
      · trivial
      · simp
    · simp only [hb, go_sem, Nat.reduceAdd, Nat.reduceEqDiff, Nat.reduceLT, reduceIte, reduceCtorEq, Nat.reduceBEq, Int.reduceLT, Int.reduceToNat, Int.reducePow, Nat.reduceLeDiff, Int.reduceLE, Nat.reduceMul, Nat.reduceSub]
      refine callGo_pure (bracket_pure o) (by rfl) ?_
      have hnb : ((!b) == b) = false := by cases b <;> rfl
      have hcc : (c != c) = false := by simp
      simp only [pairOK, Bool.and_eq_true, decide_eq_true_eq] at hok
      obtain ⟨k1, k2, k3, k4, k5, k6, k7, k8, k9⟩ := hok
      simp only [hbo, hcc, hnb, go_sem, Nat.reduceAdd, Nat.reduceEqDiff, Nat.reduceLT, reduceIte, reduceCtorEq, Nat.reduceBEq, Int.reduceLT, Int.reduceToNat, Int.reducePow, Nat.reduceLeDiff, Int.reduceLE, Nat.reduceMul, Nat.reduceSub]
      refine callGo_pure (of_pure c) (by rfl) ?_
      simp only [go_sem, Nat.reduceAdd, Nat.reduceEqDiff, Nat.reduceLT, reduceIte, reduceCtorEq, Nat.reduceBEq, Int.reduceLT, Int.reduceToNat, Int.reducePow, Nat.reduceLeDiff, Int.reduceLE, Nat.reduceMul, Nat.reduceSub]
      refine callGo_pure (of_pure o) (by rfl) ?_
      have n13 : ((13 : Int) != 13) = false := rfl
      have n6 : ((6 : Int) != 6) = false := rfl
      simp only [Row.prop, k1, k2, k3, k4, k5, k6, k7, k8, k9, beq_self_eq_true, go_sem, Nat.reduceAdd, Nat.reduceEqDiff, Nat.reduceLT, reduceIte, reduceCtorEq, Nat.reduceBEq, Int.reduceLT, Int.reduceToNat, Int.reducePow, Nat.reduceLeDiff, Int.reduceLE, Nat.reduceMul, Nat.reduceSub]
      refine callGo_pure (of_pure c) (by rfl) ?_
      simp only [Row.prop, k1, k2, n13, go_sem, Nat.reduceAdd, Nat.reduceEqDiff, Nat.reduceLT, reduceIte, reduceCtorEq, Nat.reduceBEq, Int.reduceLT, Int.reduceToNat, Int.reducePow, Nat.reduceLeDiff, Int.reduceLE, Nat.reduceMul, Nat.reduceSub]
      refine callGo_pure (of_pure c) (by rfl) ?_
      simp only [Row.prop, k1, k2, n6, hw2, go_sem, Nat.reduceAdd, Nat.reduceEqDiff, Nat.reduceLT, reduceIte, reduceCtorEq, Nat.reduceBEq, Int.reduceLT, Int.reduceToNat, Int.reducePow, Nat.reduceLeDiff, Int.reduceLE, Nat.reduceMul, Nat.reduceSub]
      refine ⟨weak_by [] (by simp) rfl ?_ ?_ ?_ ?_, by omega⟩
      · simp only [go_sem, Nat.reduceAdd, Nat.reduceEqDiff, Nat.reduceLT, reduceIte, reduceCtorEq, Nat.reduceBEq, Int.reduceLT, Int.reduceToNat, Int.reducePow, Nat.reduceLeDiff, Int.reduceLE, Nat.reduceMul, Nat.reduceSub, slotsBy, boxesBy, tipsBy, rawAt, nm, AV.ren, AV.renL, AV.under, AV.underL, List.all_nil, List.all_cons, bne_self_eq_false, List.getD_cons_zero, List.getD_cons_succ, List.length_nil, List.length_cons, and_true, true_and]
      · trivial
      · trivial
      · simp
  · intro _
    have hd : decide (((3 : Nat) : Int) < 3) = false := rfl
    simp only [hd, go_sem, Nat.reduceAdd, Nat.reduceEqDiff, Nat.reduceLT, reduceIte, reduceCtorEq, Nat.reduceBEq, Int.reduceLT, Int.reduceToNat, Int.reducePow, Nat.reduceLeDiff, Int.reduceLE, Nat.reduceMul, Nat.reduceSub]
    refine callGo_pure awake02_pure (by rfl) ?_
    simp only [go_sem, Nat.reduceAdd, Nat.reduceEqDiff, Nat.reduceLT, reduceIte, reduceCtorEq, Nat.reduceBEq, Int.reduceLT, Int.reduceToNat, Int.reducePow, Nat.reduceLeDiff, Int.reduceLE, Nat.reduceMul, Nat.reduceSub]
    simp only [Done, resAV, resL, resOne, look_nil, look_cons, Nat.reduceEqDiff, if_true, if_false, reduceIte, ite_true, ite_false, Nat.zero_ne_one, Nat.one_ne_zero, reduceCtorEq, true_or, or_true, true_and, Option.some.injEq, AV.lit.injEq, Value.int.injEq, Value.bool.injEq]

theorem ucdBrackets_any (avs : List AV) (h : Args Try.prog Try.f12.params.toList avs) : Pure Try.prog 12 avs [] (.lit (.bool true)) := by
  have hp : Try.f12.params.toList = [21, 5] := by kernel_rfl
  rw [hp] at h
  obtain ⟨av0, rest0, rfl, a0, h0⟩ := h
  obtain ⟨av1, rest1, rfl, a1, rfl⟩ := h0
  obtain ⟨z0, rfl, w0⟩ := arg_int (k := .i32) (by kernel_rfl) a0
  obtain ⟨z1, rfl, w1⟩ := arg_int (k := .u8) (by kernel_rfl) a1
  exact ucdBrackets_pure z0 (by simpa [Lit.wf, IntKind.min, IntKind.max, IntKind.signed, IntKind.bits] using w0) z1 (by simpa [Lit.wf, IntKind.min, IntKind.max, IntKind.signed, IntKind.bits] using w1)

set_option maxRecDepth 100000 in
theorem ucdBrackets_lifted (os : Os) (started : os.Started) (H : Type) (enc : TypeId × Value → H) :
    ReturnsInHanded {} Try.checked os 12 .any (Rows.ucdBracketsSpec.pre6 enc Try.prog Try.f12 Rows.ucdBracketsRow.domain false) (Rows.ucdBracketsSpec.post enc Try.prog Try.f12 false true false false) := by
  refine law_returns (C := Try.checked) (tb := 4) (by kernel_rfl) started (by kernel_rfl) Try.func12
    (ChangeSpec.witness6 (enc := enc) (C := Try.checked) false ⟨#[], #[.int .i32 0, .int .u8 0], []⟩ 8 (by kernel_rfl) (by kernel_rfl) (by kernel_rfl) (by kernel_rfl))
    (by kernel_rfl) (by kernel_rfl) rfl rfl (by kernel_rfl) (by kernel_rfl) ?_ ucdBrackets_any
  intro ds hds
  have hp : Try.f12.params.toList = [21, 5] := by kernel_rfl
  rw [hp] at hds
  match ds, hds with
  | [d0, d1], _ => exact ⟨rfl, rfl, rfl⟩

theorem ucdBrackets_holds : Rows.UcdBracketsSaid :=
  OpenClaim.holds_of_wide 12 Try.f12 rfl rfl rfl rfl rfl rfl rfl ⟨rfl, rfl, rfl, rfl, rfl⟩ rfl rfl rfl rfl rfl (by kernel_rfl) Try.func12 (by kernel_rfl)
    (of_decide_eq_true (by kernel_rfl)) (by unfold Func.isWrapper; first | (rw [if_pos (by decide +kernel)]; kernel_rfl) | (rw [if_neg (by decide +kernel)]; exact ⟨rfl, rfl⟩))
    (fun os started H enc _ => ucdBrackets_lifted os started H enc)
end Go.Proofs.Ytbnaepdeakcljaa
